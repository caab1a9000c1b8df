/- Texts that a proof of this claim uses, joined: Dv.Drawn, Dv.KeysA, Dv.SortH, Dv.KeysH. -/
import Derived.Test.YthcmaiplkbbioaaGreatDoorDva
import Derived.Test.YthcmaiplkbbioaaGreatDoorDvd
import Derived.RangeFuncGives
import Derived.Sort.MapsRangeIn
import Derived.Shelf.SlSortCmp.NoneTotal
import Derived.Maps.AppendAt
import Derived.Shelf.Abstract
import Derived.WalkKit
import Derived.OwnWalkIn
import Derived.TacticsInMore
import Derived.RegionIn
import Derived.LoopNIn
import Derived.LoopIn
import Derived.KernelRfl
set_option linter.all false
open Array renaming eq_empty_of_size_eq_zero->fQ,getElem?_append_left->du,getElem?_eq_getElem->bX,getElem?_mapIdx->kF,getElem?_modify->cC,size_modify->l4
open Go renaming Addr->cF,Calls->fU,CallsIn->dO,Obj->eI,callsIn_wide->eP,execOp->bO,resolve->dN,wpListIn->gq,wpListIn_plain->jp
open Go.Addr renaming add->fS
open Go.Builtin renaming append->vn
open Go.ChangeMaps renaming setBlock->ib
open Go.Fence renaming wide->ct
open Go.MapKept renaming heap_alloc->kE,heap_set->ut
open Go.Proofs.AnyQ renaming slices_SortFunc_total->lL
open Go.Proofs.SlLaysF0 renaming n6->kD
open Go.Result renaming andThen->g7
open Go.Sort renaming ahead->ig
open List renaming eq_nil_of_length_eq_zero->aK,filter_cons->ir,flatMap_cons->bm,getD_cons_succ->cb,getD_cons_zero->bI,getD_eq_getElem?_getD->af,getElem?_eq_getElem->ac,getElem?_eq_none->aU,getElem?_eq_some_iff->ae,getElem?_set_self->aR,getElem_toArray->fx,length_append->ao,length_cons->ar,map_cons->al,map_nil->aO,mem_map->aL,mergeSort_perm->iQ,pairwise_mergeSort->gV,set_eq_of_length_le->fI,size_toArray->bQ
open List.cons renaming injEq->bZ
open Nat renaming le_add_right->ij,le_of_eq->dG,le_refl->aj,le_succ->fa,le_trans->aM,lt_of_lt_of_le->aW,lt_or_ge->cn,mul_le_mul_right->bE,sub_zero->f8,zero_add->bM,zero_le->dJ
open Option renaming bind_eq_some_iff->aQ,map_some->aq
open Option.some renaming inj->cr,injEq->aa
open Prod renaming ext->jA
open Prod.mk renaming injEq->aw
namespace Dv
open Go (Value Program World Sem Result)
theorem zfi{ε α β : Type}{x:Except ε α}{f : α -> Except ε β}{r : β}(h:(x >>= f)=.ok r):∃ y,x=.ok y/\f y=.ok r:=by
 cases x with
 |error e=>cases h
 |ok y=>exact⟨y,rfl,h⟩
theorem zac{P:Program}{w:World}{at_:cF}{u:Nat}{a:cF}{v:Value}{b:Bool}{r:World × List cF}(h:World.viewStore P w at_ u a v b=.ok r):r.1.drawn=w.drawn:=by
 unfold World.viewStore at h;simp only[]at h;split at h
 ·obtain⟨_,h0,_⟩:=zfi h;cases h0
 obtain⟨y2,_,h⟩:=zfi h;obtain⟨c,e,frozen,first,like,cells⟩:=y2;simp only at h;split at h
 case h_2=>cases h
 split at h
 ·obtain⟨_,h0,_⟩:=zfi h;cases h0
 obtain⟨y3,_,h⟩:=zfi h;cases h
 rfl
theorem zce{P:Program}{w w':World}{a:cF}{v:Value}{b:Bool}{t:List cF}(h:w.farStore P a v b=.ok (w',t)):w'.drawn=w.drawn:=by
 unfold World.farStore at h;split at h
 ·split at h
  ·rename_i r hr;cases h;exact zac hr
  ·cases h
 ·cases h
theorem zuo{α : Type}:∀(q:Go.Ask α) (w:World),w.drawn<=(w.ask q).2.drawn:=by
 intro q
 induction q with
 |done a=>intro w;exact aj _
 |ask what range k ih=>
  intro w;unfold World.ask;simp only[];split
  ·exact ih _ w
  ·exact aM (fa _) (ih _ { w with drawn:=w.drawn+1 })
theorem zq3(w:World)(c:Go.Sys):w.drawn<=(w.sys c).2.drawn:=by
 unfold World.sys;have h:=zuo (Go.Kernel.perform c w.os) w;split
 ·exact aj _
 ·rename_i r os w1 heq;rw[heq]at h;exact h
theorem zgi{P:Program}{α : Type}:∀(s:Sem α) (w w':World) (v : α),s.run P w=.ok v w'->w.drawn<=w'.drawn:=by
 intro s
 induction s with
 |pure a=>intro w w' v h;simp only[Sem.run,Result.ok.injEq]at h;rw[h.2];exact aj _
 |load m a k ih=>
  intro w w' v h;simp only[Sem.run]at h;split at h
  ·exact ih _ _ _ _ h
  ·split at h
   ·exact ih _ _ _ _ h
   ·cases h
 |store m a x k ih=>
  intro w w' v h;have key:∀(h:(match w.cell? a with
    |some _=>if w.frozen? a=true then Result.halt (.unsupported (.unsafePointer "a write to bytes that a string shares")) w else k.run P (w.setCell a x)
    |none=>match w.farStore P a x (m == Go.Mode.atomic)with
     |.ok (w,_)=>k.run P w
     |.error h=>.halt h w)=.ok v w'),w.drawn<=w'.drawn:=by
   intro h;split at h
   ·split at h
    ·cases h
    ·exact ih (w.setCell a x) _ _ h
   ·split at h
    ·rename_i w1 t hf;have:=ih _ _ _ h;rw[zce hf]at this;exact this
    ·cases h
  cases x <;> first | exact key h | (simp only[Sem.run]at h;cases h;done)
 |new o k ih=>intro w w' v h;exact ih _ { w with heap:=w.heap.push o } _ _ h
 |shape r k ih=>intro w w' v h;exact ih _ _ _ _ h
 |freeze a n k ih=>
  intro w w' v h;have h2:(w.freeze a n).drawn=w.drawn:=by unfold World.freeze;split <;> rfl
  rw[<- h2];exact ih _ _ _ h
 |frozen a k ih=>intro w w' v h;exact ih _ _ _ _ h
 |getObj r k ih=>
  intro w w' v h;simp only[Sem.run]at h;split at h
  ·cases h
  ·exact ih _ _ _ _ h
  ·cases h
 |setObj r o k ih=>
  intro w w' v h;simp only[Sem.run]at h;split at h
  ·cases h
  ·exact ih { w with heap:=w.heap.setIfInBounds r o } _ _ h
  ·cases h
 |choose q k ih=>
  intro w w' v h;simp only[Sem.run]at h;split at h
  ·exact ih _ _ _ _ h
  ·exact aM (fa _) (ih _ { w with drawn:=w.drawn+1 } _ _ h)
 |sys c k ih=>intro w w' v h;exact aM (zq3 w c) (ih _ _ _ _ h)
 |program k ih=>intro w w' v h;exact ih _ _ _ _ h
 |mark m k ih=>intro w w' v h;exact ih _ _ _ h
 |halt x=>intro w w' v h;cases h
end Dv
namespace Dv
open Go (Value Program World Act Oper Operand Code Ending Exit MapEntry)
abbrev y84(p:Int × Int):Value:=.agg #[.int .i64 p.1,.int .i64 p.2]
def decA:Value->Int × Int
 |.agg vs=>(match vs.toList with
  |[.int _ a,.int _ b]=>(a,b)
  |_=>(0,0))
 |_=>(0,0)
theorem zxr(p:Int × Int):decA (y84 p)=p:=rfl
theorem zvw{a b:List (Int × Int)}(h:(a.map y84).Perm (b.map y84)):a.Perm b:=by have h2:=h.map decA;simpa[List.map_map,Function.comp_def,zxr]using h2
def y4l(l:List MapEntry)(seen:Array Nat):List MapEntry:=l.filter fun e=>!seen.contains e.born
theorem z57(es:Array MapEntry)(seen:Array Nat):(Go.leftOf es seen).toList=y4l es.toList seen:=by unfold Go.leftOf y4l;simp
theorem znr{l:List MapEntry}{seen:Array Nat}{b:Nat}:y4l l (seen.push b)=(y4l l seen).filter fun x=>!(x.born == b):=by
 unfold y4l;rw[List.filter_filter];refine List.filter_congr fun x _=>?_
 by_cases h:x.born=b
 ·simp[h]
 ·simp[h]
theorem zay:∀{l:List MapEntry} {e:MapEntry},(l.map (·.born)).Nodup->e ∈ l->l.Perm (e::l.filter fun x=>!(x.born == e.born))
 |[],_,_,h=>by simp at h
 |x::l,e,hn,h=>by
  rw[al]at hn;obtain⟨h1,h2⟩:=List.nodup_cons.1 hn;rcases List.mem_cons.1 h with rfl | h
  ·rw[ir,if_neg (by simp),List.filter_eq_self.2 fun y hy=>by
    have:y.born ≠ e.born:=fun e2=>h1 (aL.2 ⟨y,hy,e2⟩)
    simpa using this]
  ·have hx:x.born ≠ e.born:=fun e2=>h1 (aL.2 ⟨e,h,e2.symm⟩)
   rw[ir,if_pos (by simpa using hx)]
   exact((zay h2 h).cons x).trans (List.Perm.swap _ _ _)
theorem znq{l:List MapEntry}{seen:Array Nat}(h:(l.map (·.born)).Nodup):((y4l l seen).map (·.born)).Nodup:=h.sublist ((List.filter_sublist).map _)
theorem zro{l:List MapEntry}{seen:Array Nat}{e:MapEntry}(h:(l.map (·.born)).Nodup)(he:e ∈ y4l l seen):(y4l l seen).Perm (e::y4l l (seen.push e.born)):=by rw[znr];exact zay (znq h) he
section
variable{F:Go.Fence}{n:Nat}{P:Program}(w:World){ops:Array Oper}{rest:List Oper}{o:Oper}{a:Act}{Q:Exit->Act->World->Prop}
theorem ycv(hg:o.guard=none)(m:Operand)(t k e:Nat)(hop:o.op=Go.Op.range t m)(ht:P.underlying t=some (.map k e))(b:Nat)(es:Array MapEntry)(clock:Nat)
  (hm:a.eval m=.map (some b)) (hb:w.heap[b]? = some (.map es clock))
  (hK:∀ w',w'.heap[b]? = some (.map es clock)->w'.heap[w.heap.size]? = some (.mapIter (some b) clock #[] clock)->w.grownBy w' none->w'.heap.size=w.heap.size+1->w.drawn<=w'.drawn->gq F n P ops Q rest (a.put o.dst (.pointer (some ⟨w.heap.size,0,none⟩))) w') :
  gq F n P ops Q (o::rest) a w:=by
 refine jp hg fun K' hK'=>?_
 have hrun:=Go.run_range_map (P:=P) w t k e b es clock ht hb;have hlt:b<w.heap.size:=z26 hb;unfold Oper.wpIn;refine⟨?_,?_⟩
 ·simp[Oper.about,hop]
 ·rw[Oper.semAt_plain F _ _ (by rw[hop];intro c hc';cases hc')]
  simp[bO,hop,hm,hrun,g7];exact hK' _ _ (hK _ (((kE w _).2 b hlt).trans hb) (kE w _).1 (Go.World.grownBy_alloc w _ none) (by simp) (aj _))
theorem yh0(hg:o.guard=none)(it:Operand)(hop:o.op=Go.Op.next it false)(b r clock:Nat)(es:Array MapEntry)(seen:Array Nat)(hst:y3s es clock)
  (hit:a.eval it=.pointer (some ⟨r,0,none⟩)) (hb:w.heap[b]? = some (.map es clock)) (hr:w.heap[r]? = some (.mapIter (some b) clock seen clock))
  (hDone:y4l es.toList seen=[]->gq F n P ops Q rest (a.put o.dst (.tuple #[.bool false])) w)
  (hMore:∀(e:MapEntry) (w':World),e ∈ y4l es.toList seen->w'.heap[b]? = some (.map es clock)->w'.heap[r]? = some (.mapIter (some b) clock (seen.push e.born) clock)->w.grownBy w' (some r)->w'.heap.size=w.heap.size->w.drawn<=w'.drawn ->
   (Go.Instr.entry (.pointer (some ⟨r,0,none⟩))).run P w'=.ok (.tuple #[e.key,e.val]) w'->gq F n P ops Q rest (a.put o.dst (.tuple #[.bool true,e.key,e.val])) w') :
  gq F n P ops Q (o::rest) a w:=by
 refine jp hg fun K' hK'=>?_
 unfold Oper.wpIn;refine⟨by simp[Oper.about,hop],?_⟩
 rw[Oper.semAt_plain F _ _ (by rw[hop];intro c hc';cases hc')]
 have hne:r ≠ b:=fun e=>by rw[e,hb]at hr;cases hr
 rcases Go.run_next_at (P:=P) w o.type r b clock clock seen es clock hr hb hst.1 (aj _)with⟨h0,hrun⟩ | ⟨e,he,w1,hal,hrun⟩
 ·simp[bO,hop,hit,hrun,g7];refine hK' _ _ (hDone ?_);rw[<- z57];exact aK (by simpa using h0)
 ·rw[z57]at he;have hr1:w1.heap[r]? = some (.mapIter (some b) clock seen clock):=by rcases hal with rfl | rfl <;> exact hr
  have hb1:w1.heap[b]? = some (.map es clock):=by rcases hal with rfl | rfl <;> exact hb
  have hset:=ut (o':=.mapIter (some b) clock (seen.push e.born) clock) hr1;have hb':(ib w1 r (.mapIter (some b) clock (seen.push e.born) clock)).heap[b]? = some (.map es clock):=(hset.2 b (fun e1=>hne e1.symm)).trans hb1
  have hem:e ∈ es.toList:=(List.mem_filter.1 he).1;simp[bO,hop,hit,hrun,g7];have hs:(ib w1 r (.mapIter (some b) clock (seen.push e.born) clock)).heap.size=w1.heap.size:=by simp[ib]
  refine hK' _ _ (hMore e _ he hb' hset.1 ?_ ?_ (zgi _ _ _ _ hrun) (Go.run_entry_at _ r b clock seen es clock e hset.1 hb' hem hst.2))
  ·rcases hal with rfl | rfl
   ·exact⟨rfl,rfl,rfl,dG hs.symm,fun k hk hkr=>hset.2 k (fun e1=>hkr (by rw[e1]))⟩
   ·exact⟨rfl,rfl,rfl,dG hs.symm,fun k hk hkr=>hset.2 k (fun e1=>hkr (by rw[e1]))⟩
  ·rcases hal with rfl | rfl <;> exact hs
theorem yh1{hg:o.guard=none}(s x:Operand)(t:Nat)(hop:o.op=Go.Op.call { callee:=Go.Callee.builtin vn,args:=#[s,x],argTypes:=#[t,t] })
  (base e:Nat) (i:Go.TypeInfo) (z:Value) (size bytes:Nat) (h1:P.underlying t=some (.slice e)) (h2:P.info? e=some i) (h3:i.zero=some z) (h4:i.size=size) (h5:i.bytes=bytes) (h6:z.cells.size=size) (h7:0<size)
  (v:Value) (k:Nat) (xs:List Value) (hs:a.eval s=v) (hown:w.ownsRow base e size v k xs) (ad:cF) (m c:Nat) (news:List Value) (hx:a.eval x=.slice (some ad) m c) (hn:news.length=m*size)
  (hc:∀ j u,news[j]? = some u->w.cell? (ad.add j)=some u) (h1c:∀ u ∈ news,u.oneCell'=true) (b1:k+m<=Go.maxLen) (b2:(k+m)*bytes<=140737488355328) (b3:base<=w.heap.size)
  (hK:∀ v' w',w'.ownsRow base e size v' (k+m) (xs++news)->w.grownBy w' v.ownBlock->w.drawn<=w'.drawn->gq F n P ops Q rest (a.put o.dst v') w') :
  gq F n P ops Q (o::rest) a w:=by
 refine jp hg fun K' hK'=>?_
 obtain⟨v',w',hrun,r1,r2,_⟩:=Go.run_append_own (P:=P) w base t o.type e i z size bytes h1 h2 h3 h4 h5 h6 h7 v k xs hown ad m c news hn hc h1c b1 b2 b3;unfold Oper.wpIn;refine⟨?_,?_⟩
 ·simp[Oper.about,hop,dN,Go.Target.leads,Go.Sem.run_pure]
 ·rw[Oper.semAt_plain F _ _ (by rw[hop];intro c hc';cases hc')]
  simp[bO,hop,dN,Go.invoke,Go.builtin,hs,hx,hrun,g7];exact hK' _ _ (hK v' w' r1 r2 (zgi _ _ _ _ hrun))
def y9f{β : Type}(B:Nat)(J : β -> World->Prop):Prop:=
 ∀ s W W' row,J s W->W.grownBy W' row->W.drawn<=W'.drawn->(∀ r,row=some r->B<=r /\ ∃ o:eI,W.heap[r]? = some o/\o.isWalk=true)->J s W'
def ymx(F:Go.Fence)(n:Nat)(P:Program)(g:Nat)(lb:Array Value)(S:List (Int × Int)->Prop)(N:Nat)(w:World):Prop:=
 ∀(l:Nat) (J:List (Int × Int)->World->Prop) (W:World),Go.RowKit.Below w.heap.size w W->y9f W.heap.size J ->
  (∀ pre x W1,J pre W1->pre.length<N->Go.YieldAt F (n - 1) P l #[y84 x] W1 fun e W'=>e=.returned (.bool true)/\J (pre++[x]) W'/\Go.KeepsWalks W1 W') ->
  J [] W->dO F n P g (#[.func (.yield l) #[] #[]]++lb) W fun e W'=>(∃ v,e=.returned v) /\ ∃ xs,S xs/\J xs W'
end
end Dv
namespace Dv
open Go (Value Program World Act Oper Operand Code Ending Exit)
def y3o(n:Nat):DFn:=⟨2,[],
 .seq (.region false [] [⟨some 2,.mark false (.c (.int .i64 0)),none⟩])
  (.ifp (.t 2) (.cond (.c .undef) .skip .skip)
   (.seq (.region false [] [⟨none,.prim n [.t 0,.t 1],none⟩]) .ret))⟩
theorem zvm{E:Env}{p n:Nat}{ds:List D}{d:D}{os os':List Obj}(h:y29 E (y3o p) (dC E n (y3o p).body (yp (y3o p) ds os))=some (d,os')) :
  d=.tup [] /\ ∃ x0 x1 d0,E.prim p [x0,x1] os=some (d0,os')/\(x1 ≠ .undef->ds=[x0,x1]):=by
 cases hrun:dC E n (y3o p).body (yp (y3o p) ds os)with
 |none=>rw[hrun]at h;simp[y29]at h
 |some x=>
 obtain⟨ex,st'⟩:=x;rw[hrun]at h;obtain⟨m1,st1,rfl,h1,h2⟩:=z73 (fun m s e h=>(zt h).1) hrun
 obtain⟨_,m2,rfl,g1⟩:=zt h1;have hst1:st1=⟨(yp (y3o p) ds os).sl.set 2 (.tup [.undef,.int .i64 0]),os⟩:=by have:some (⟨(yp (y3o p) ds os).sl.set 2 (.tup [.undef,.int .i64 0]),os⟩:St)=some st1:=g1;simpa using this.symm
 subst hst1;simp only[dC]at h2;have h2d:ds.length<=2:=by
  rcases cn 2 ds.length with hl | hl
  ·exfalso;have hm:yy (yq ((yp (y3o p) ds os).sl.set 2 (.tup [.undef,.int .i64 0])) (.t 2))=true:=by simp only[yq,af];rw[aR (by simp[yp];omega)];rfl
   rw[if_pos hm]at h2;exact z86 h2
  ·exact hl
 have hset:(yp (y3o p) ds os).sl.set 2 (.tup [.undef,.int .i64 0])=(yp (y3o p) ds os).sl:=by refine fI ?_;simp[yp,y3o];omega
 rw[hset]at h2;have hm:yy (yq (yp (y3o p) ds os).sl (.t 2))=false:=by simp only[yq,af];rw[aU (by simp[yp,y3o];omega)];rfl
 rw[if_neg (by rw[hm];simp)]at h2
 obtain⟨m3,st3,hm3,h3,h4⟩:=z73 (fun m s e h=>(zt h).1) h2
 obtain⟨_,m4,rfl,g3⟩:=zt h3;obtain⟨x0,x1,hsl,hds⟩:∃ x0 x1,(yp (y3o p) ds os).sl=[x0,x1]/\(x1 ≠ .undef->ds=[x0,x1]):=by
  match ds,h2d with
  |[],_=>exact⟨.undef,.undef,rfl,fun h=>absurd rfl h⟩
  |[x],_=>exact⟨x,.undef,rfl,fun h=>absurd rfl h⟩
  |[x,y],_=>exact⟨x,y,rfl,fun _=>rfl⟩
  |_::_::_::_,h=>simp at h
 rw[hsl]at g3;simp only[zj,aQ]at g3;obtain⟨s1,q1,q6⟩:=g3;simp only[yi,aa]at q6;subst q6;simp only[y1s,yn,if_true]at q1;split at q1
 case h_2=>simp at q1
 rename_i d1 hp1 e1;simp only[aa]at q1;subst q1;simp only[yf,DOp.fin,yo,al,aO,yq,bI,cb]at e1;have hm3':m2=m4+1+1:=hm3;have h6:Ex.ret=ex/\(⟨[x0,x1],hp1⟩:St)=st':=by simpa[dC,y2i]using h4
 obtain⟨rfl,rfl⟩:=h6;simp only[y29,y3o,y6c,aq,y2r,aa,aw]at h;obtain⟨rfl,rfl⟩:=h;exact⟨rfl,x0,x1,d1,e1,hds⟩
theorem z79{P:Program}{r:Option Nat}{f:Nat}{args:Array Value}{w:World}{R:Ending->World->Prop}(h:fU P f args w R):dO (Fw r) 0 P f args w R:=by have h2:dO ct 0 P f args w R:=eP.2 h;exact h2
open Go.Sort Go.Lib Go.Proofs
def y1m(p:Int × Int):List Value:=[.int .i64 p.1,.int .i64 p.2]
def cfP(x y:Int × Int):Int:=if x.1<y.1 then -1 else if y.1<x.1 then 1 else if x.2<y.2 then -1 else if y.2<x.2 then 1 else 0
theorem ltP(x y:Int × Int):ltOf cfP x y=y44 x y:=by
 unfold ltOf cfP y44
 by_cases h1:x.1<y.1
 ·simp[h1]
 ·by_cases h2:y.1<x.1
  ·have : ¬ x.1=y.1:=by omega
   simp[h1,h2,this]
  ·have:x.1=y.1:=by omega
   by_cases h3:x.2<y.2
   ·simp[this,h3]
   ·by_cases h4:y.2<x.2 <;> simp[this,h3,h4]
theorem swoP:SWO (ltOf cfP) where
 irrefl x:=by rw[ltP];unfold y44;simp
 trans x y z h1 h2:=by rw[ltP]at *;unfold y44 at *;simp at *;omega
 ntrans x y z h1 h2:=by rw[ltP]at *;unfold y44 at *;simp at *;omega
theorem totP(x y:Int × Int)(h1:ltOf cfP x y=false)(h2:ltOf cfP y x=false):x=y:=by
 rw[ltP]at *
 unfold y44 at *
 simp at *
 exact jA (by omega) (by omega)
theorem geP:(fun x y:Int × Int=>!ltOf cfP y x)=fun x y=>!y44 y x:=by funext x y;rw[ltP]
theorem z2y(p:Int × Int)(l:List (Int × Int)):yh (p::l)=.int .i64 p.1 :: .int .i64 p.2::yh l:=rfl
theorem z3j:∀(l:List (Int × Int)),(yh l).length=l.length*2
 |[]=>rfl
 |p::l=>by rw[z2y,ar,ar,z3j l,ar];omega
theorem z9b:∀{cs:List D} {ps:List (Int × Int)},y4t cs=some ps->cs=yh ps
 |[],ps,h=>by simp[y4t]at h;subst h;rfl
 |[x],ps,h=>by cases x <;> simp[y4t]at h
 |x::y::r,ps,h=>by
  unfold y4t at h;split at h
  case h_1=>simp_all
  case h_3=>simp at h
  rename_i a b r' e;simp only[bZ]at e;obtain⟨rfl,rfl,rfl⟩:=e;split at h
  case h_2=>simp at h
  rename_i l hl;simp only[aa]at h;subst h;rw[z2y,<- z9b hl]
theorem z4q:∀{l:List (Int × Int)} {j:Nat} {d:D},(yh l)[j]? = some d->∃ n,d=.int .i64 n/\(l.flatMap y1m)[j]? = some (.int .i64 n)
 |[],j,d,h=>by simp[yh]at h
 |p::l,0,d,h=>by rw[z2y]at h;simp at h;exact⟨p.1,h.symm,by simp[y1m]⟩
 |p::l,1,d,h=>by rw[z2y]at h;simp at h;exact⟨p.2,h.symm,by simp[y1m]⟩
 |p::l,j+2,d,h=>by rw[z2y]at h;simp only[List.getElem?_cons_succ]at h;obtain⟨n,h1,h2⟩:=z4q h;exact⟨n,h1,by simp[y1m]at h2 ⊢;exact h2⟩
theorem z20(l:List (Int × Int)):(l.flatMap y1m).length=l.length*2:=by
 induction l with
 |nil=>rfl
 |cons p l ih=>rw[bm,ao,ih,ar];simp[y1m];omega
theorem zhd:∀{l:List (Int × Int)} {t:Nat} (h:t<l.length*2),(l.flatMap y1m)[t]? = some ((y1m (l[t / 2]'(by omega)))[t % 2]!)
 |[],t,h=>by simp at h
 |p::l,0,h=>by simp[y1m]
 |p::l,1,h=>by simp[y1m]
 |p::l,t+2,h=>by
  have:=zhd (l:=l) (t:=t) (by simp at h;omega)
  have e1:(t+2) / 2=t / 2+1:=by omega
  have e2:(t+2) % 2=t % 2:=by omega
  simp only[e1,e2,List.getElem_cons_succ];rw[<- this];simp[y1m]
theorem z6i(l:List (Int × Int)):flatK y1m 2 l.toArray=(l.flatMap y1m).toArray:=by
 refine ext_get! (by rw[size_flatK,bQ,bQ,z20]) fun t ht=>?_
 have ht':t<l.length*2:=by simpa using ht
 rw[get_flatK _ _ _ _ (by simpa using ht')]
 have h1:=zhd ht';have h2:t<(l.flatMap y1m).toArray.size:=by rw[bQ,z20];exact ht'
 rw[getElem!_pos (l.flatMap y1m).toArray t h2,getElem!_pos l.toArray (t / 2) (by simp;omega)]
 have h3:(l.flatMap y1m)[t]'(by rw[z20];exact ht')=(y1m (l[t / 2]'(by omega)))[t % 2]!:=by
  rw[ac (by rw[z20];exact ht')]at h1
  exact cr h1
 simp only[fx];rw[h3]
section
variable{P:Program}{E:Env}{CL:y21}{F:Phi}{T:Phi}{B:Nat}{ρ : Rho}{H:HS}{os:List Obj}{w:World}{pt:Nat × Nat}
def GL(W:World):Prop:=∀ g cs,glTab.lookup g=some cs->∀(j:Nat) k n,cs[j]? = some (k,n)->cellOf W.heap g j=some (.int k n)
structure y9e(P:Program)(g:Nat):Prop where
 enter:∀ args w,(Go.callFunc g args).run P w=.ok (.enter g args) w
 run:∀(x y:Int × Int) (W:World),GL W->fU P g #[.agg (y1m x).toArray,.agg (y1m y).toArray] W fun e w'=>e=.returned (.int .i64 (cfP x y)) /\ ∃ q os',w'=grow (W.drewN q) os'
theorem zse{hp hp':y1x}(hs:hp.size<=hp'.size)(ho:∀ b,b<hp.size->hp'[b]? = hp[b]?):hp'=hp++hp'.extract hp.size hp'.size:=by
 refine Array.ext_getElem? fun i=>?_
 by_cases h:i<hp.size
 ·rw[du h,ho i h]
 ·rw[Array.getElem?_append_right (by omega),Array.getElem?_extract]
  split
  ·congr 1;omega
  ·rw[Array.getElem?_eq_none (by omega)]
theorem y9e.of_sim(t:Tie P E T F){g g':Nat}(hf:F g=some g')(hrun:∀ a b c d:Int,∃ n,yu E (dC E n) g' [.agg [.int .i64 a,.int .i64 b],.agg [.int .i64 c,.int .i64 d]]=some (.int .i64 (cfP (a,b) (c,d)))):y9e P g where
 enter args w:=z6a t.ok hf args
 run x y W hG:=by
  obtain⟨n,hn⟩:=hrun x.1 x.2 y.1 y.2;have hb:HB (fun b _=>b<W.heap.size) W.heap:=⟨fun b o h=>h,fun g cs hg j k n hj=>⟨z3w (hG g cs hg j k n hj),hG g cs hg j k n hj⟩⟩
  have two:∀ p:Int × Int,Rep F ρ0 (fun b _=>b<W.heap.size) W.heap (.agg (y1m p).toArray) (.agg [.int .i64 p.1,.int .i64 p.2]):=fun p=>yv.agg (vs:=y1m p) (.cons (.int _ _) (.cons (.int _ _) .nil))
  have h:=zd0 t n hf none (fun b _=>b<W.heap.size) W #[.agg (y1m x).toArray,.agg (y1m y).toArray] _ _ hn hb (.cons (two x) (.cons (two y) .nil))
  have h2:dO ct 0 P g #[.agg (y1m x).toArray,.agg (y1m y).toArray] W _:=h;refine(eP.1 h2).mono fun e w' he=>?_
  cases e with
  |panicked c=>exact he.elim
  |outgrown=>exact he.elim
  |returned v=>
   obtain⟨H',gr,⟨_,st⟩,hv⟩:=he;refine⟨by rw[hv.intv],w'.drawn - W.drawn,w'.heap.extract W.heap.size w'.heap.size,?_⟩
   have hh:=zse gr.size gr.old;obtain⟨e1,e2,e3,e4⟩:=st;have e5:w'.drawn=W.drawn+(w'.drawn - W.drawn):=by omega
   have key:w' = { W with heap:=w'.heap,drawn:=w'.drawn }:=by cases w';cases W;simp only at e1 e2 e3;simp[e1,e2,e3]
   show w' = { W with heap:=W.heap++w'.heap.extract W.heap.size w'.heap.size,drawn:=W.drawn+(w'.drawn - W.drawn) }
   rw[<- hh,<- e5];exact key
structure y6b(P:Program)(f g:Nat):Prop where
 run:∀(blk cap:Nat) (ps:List (Int × Int)) (w:World),HoldsK y1m 2 w blk 0 ps.toArray->blk<w.heap.size->ps.length<4611686018427387904->(∀ n (d:Array (Int × Int)) os,d.size=ps.length->GL (sortWorldK y1m 2 w blk 0 n d os)) ->
  fU P f #[.slice (some ⟨blk,0,none⟩) ps.length cap,.func (.func g) #[] #[]] w fun e w'=>e=.returned (.tuple #[]) /\ ∃ n os,w'=sortWorldK y1m 2 w blk 0 n (y1u ps).toArray os
theorem y6b.of{ρ : Go.Shelf.Ren}{f g:Nat}(L:kD P ρ)(hf : ρ.f 6=f)(aE:∀ w,(Go.isAgg (ρ.t 24)).run P w=.ok true w)(zE:∀ w,(Go.sizeOf (ρ.t 24)).run P w=.ok 2 w)(C:y9e P g):y6b P f g:=by
 subst hf;refine⟨fun blk cap ps w hH hb hn hG=>?_⟩
 have hl:Go.Proofs.CmpLays P g #[] y1m 2 cfP blk 0 ps.toArray.size w:=fun m os dk hs x y=>by
  have:=C.run x y (sortWorldK y1m 2 w blk 0 m dk os) (hG m dk os (by simpa using hs))
  simpa using this
 have h:=lL L 2 aE zE y1m (fun _=>rfl) (fun x v hv=>by simp[y1m]at hv;rcases hv with rfl | rfl <;> rfl) cfP swoP g #[] blk 0 cap ps.toArray w C.enter hl hH hb (by simpa using hn) totP
 rw[geP]at h;simpa[y1u]using h
theorem zat(l:List (Int × Int)):(y1u l).length=l.length:=List.length_mergeSort l
theorem z41{blk el:Nat}{arr:Array Value}{F':Array Value}{n:Nat}(hb:w.heap[blk]? = some (.cells arr el (0,0))) :
  yaa w (putRow id (ig w n) blk 0 F') blk (putCells id 0 F' arr) el:=by
 have hlt:blk<w.heap.size:=z26 hb;refine⟨?_,fun b' hne=>?_,?_,⟨rfl,rfl,rfl,ij _ _⟩⟩
 ·show(w.heap.modify blk _)[blk]? = _
  rw[cC,if_pos rfl,hb]
  rfl
 ·show(w.heap.modify blk _)[b']? = _
  rw[cC,if_neg (Ne.symm hne)]
 ·show(w.heap.modify blk _).size=_
  rw[l4]
theorem zsk{w1:World}(os1:Array eI):y8t H H w1.heap (grow w1 os1).heap:=by
 refine⟨?_,fun b hb=>?_,fun _ _ h=>h,fun _ _ h=>.inl h⟩
 ·show w1.heap.size<=(w1.heap++os1).size
  simp
 ·show(w1.heap++os1)[b]? = w1.heap[b]?
  rw[du hb]
theorem zmw{f f' p:Nat}{cmp:List Nat}{G:DFn}(hG:E.fn f'=some G)(he:G=y3o p)(hmp:E.mp f'=false)(hp:E.prim p=y7q cmp)
  (hC:∀ g k,F g=some k->cmp.contains k=true->y6b P f g) (hN:∀(p:Option cF) (cap:Nat) (fv:Value) (w:World),fU P f #[.slice p 0 cap,fv] w fun e w'=>e=.returned (.tuple #[])/\w'=w):y82 P E T F pt f f':=by
 intro n KC K r B ρ H os os' w vals ds d h S hr;subst he;simp only[y1j,hG,hmp,y2s]at h;obtain⟨rfl,x0,x1,d0,hprim,hds⟩:=zvm h;rw[hp]at hprim;have vals2:∀{x0 x1:D},ds=[x0,x1]->∃ v0 v1,vals = #[v0,v1]/\Rep F ρ H w.heap v0 x0/\Rep F ρ H w.heap v1 x1:=by
  rintro x0 x1 rfl;have hl:=hr.1;obtain⟨v0,v1,hvals⟩:∃ v0 v1,vals = #[v0,v1]:=by
   match hl':vals.toList with
   |[x,y]=>exact⟨x,y,by cases vals;simp at hl';rw[hl']⟩
   |[]=>rw[hl']at hl;simp at hl
   |[_]=>rw[hl']at hl;simp at hl
   |_::_::_::_=>rw[hl']at hl;simp at hl
  subst hvals;exact⟨v0,v1,rfl,hr.2 0 v0 x0 rfl rfl,hr.2 1 v1 x1 rfl rfl⟩
 have fin0:∀(p:Option cF) (cap:Nat) (fv:Value),vals = #[.slice p 0 cap,fv]->os'=os->dO (Fw r) 0 P f vals w (y6v (CLk T F true) F B ρ H os w (.tup []) os'):=by rintro p cap fv rfl rfl;refine z79 ((hN p cap fv w).mono ?_);rintro e w' ⟨rfl,rfl⟩;exact⟨aj _,ρ,H,y1a.refl S,.tup #[] [] rfl (fun j v d h=>by simp at h)⟩
 unfold y7q at hprim;split at hprim
 ·rename_i os _ _ k hxs;simp only[bZ,and_true]at hxs;obtain⟨rfl,rfl⟩:=hxs;have hds:=hds (by simp)
  obtain⟨v0,v1,hvals,h0,h1⟩:=vals2 hds;split at hprim
  case isFalse=>simp at hprim
  simp only[aa,aw]at hprim;obtain⟨a,cap,rfl,_⟩:=z5v h0;exact fin0 a cap v1 hvals hprim.2.symm
 ·rename_i os _ _ id len ag gr k hxs;simp only[bZ,and_true]at hxs;obtain⟨rfl,rfl⟩:=hxs;have hds:=hds (by simp)
  obtain⟨v0,v1,hvals,h0,h1⟩:=vals2 hds;split at hprim
  case isFalse=>simp at hprim
  rename_i hk;split at hprim
  case h_2=>simp at hprim
  rename_i cs hos;split at hprim
  case isFalse=>simp at hprim
  rename_i hlen;obtain⟨hlen,hbnd⟩:=hlen;split at hprim
  case h_2=>simp at hprim
  rename_i ps hps;simp only[aa,aw]at hprim;obtain⟨_,rfl⟩:=hprim;have hcs:=z9b hps;have hpl:ps.length=len:=by have:=congrArg List.length hcs;rw[z3j,hlen]at this;omega
  cases h0 with
  |sl _ _ _ _ _ _ b cc cap a hid hl ha hcc=>
  cases h1 with
  |fn gf _ cvs _ hF hs _=>
  obtain⟨arr,el,r1,r2,r3,r4,r5⟩:=S.row hid (by simp[y14,hos]:y14 os id=some cs)
  by_cases hz:len=0
  ·subst hz;have hp0:ps=[]:=aK hpl;subst hp0;refine fin0 a cap _ hvals ?_;have:yh (y1u [])=cs:=by rw[hcs];simp[y1u]
   rw[this];refine List.ext_getElem? fun i=>?_
   rw[List.getElem?_set];split
   ·rename_i e;subst e;rw[if_pos (ae.1 hos).1,hos]
   ·rfl
  ·have hcv:cvs = #[]:=by simp only[List.length_nil]at hs;exact fQ hs
   subst hcv;have ha:=ha hz;subst ha;have hblk:b<w.heap.size:=z26 r1;have hH:HoldsK y1m 2 w b 0 ps.toArray:=by
    unfold HoldsK;rw[z6i];intro j hj;rw[bQ,z20]at hj;rw[bM];have hjc:j<cs.length:=by rw[hcs,z3j];exact hj
    have hja:j<arr.size:=by omega
    obtain⟨n,hd1,hd2⟩:=z4q (l:=ps) (j:=j) (d:=cs[j]) (by rw[<- hcs];exact ac hjc)
    have hrep:=r4 j arr[j] cs[j] (bX hja) (ac hjc);rw[hd1]at hrep;have hv:arr[j]=.int .i64 n:=hrep.intv;have he2:((ps.flatMap y1m).toArray[j]!)=.int .i64 n:=by
     have hj2:j<(ps.flatMap y1m).toArray.size:=by rw[bQ,z20];exact hj
     rw[getElem!_pos _ j hj2];simp only[fx];rw[ac (by rw[z20];exact hj)]at hd2
     exact cr hd2
    constructor
    ·rw[cell?_eq];unfold cellOf;rw[r1];simp only[];rw[bX hja,hv,he2]
     rfl
    ·unfold World.frozen?;rw[r1];simp
   have hbig:ps.length<4611686018427387904:=by rw[hpl];omega
   have hGL:∀ n (d:Array (Int × Int)) os1,d.size=ps.length->GL (sortWorldK y1m 2 w b 0 n d os1):=by
    intro n d os1 _ g cs' hg j k n' hj;obtain⟨h1,h2⟩:=S.hb.gl g cs' hg j k n' hj;have hne:g ≠ b:=fun e=>S.mutH id cs b cc j hos hid (e ▸ h1)
    have hlt:=z3w h2;have hw:=z41 (w:=w) (F':=flatK y1m 2 d) (n:=n) r1;have e1:(sortWorldK y1m 2 w b 0 n d os1).heap[g]? = w.heap[g]?:=by
     show((putRow _root_.id (ig w n) b 0 (flatK y1m 2 d)).heap++os1)[g]? = w.heap[g]?
     rw[du (by rw[hw.size];exact hlt),hw.other g hne]
    unfold cellOf at h2 ⊢;rw[e1];exact h2
   have hcall:=(hC gf k hF hk).run b cap ps w hH hblk hbig hGL;rw[hpl]at hcall;subst hvals;refine z79 (hcall.mono ?_);rintro e w' ⟨rfl,m,os1,rfl⟩;have hplen:=zat ps;have hw:=z41 (w:=w) (F':=((y1u ps).flatMap y1m).toArray) (n:=m) r1;obtain⟨w1,hw1⟩:∃ w1,w1=putRow _root_.id (ig w m) b 0 ((y1u ps).flatMap y1m).toArray:=⟨_,rfl⟩;have hsw:sortWorldK y1m 2 w b 0 m (y1u ps).toArray os1=grow w1 os1:=by unfold sortWorldK putRowK;rw[z6i,hw1]
   rw[hsw];rw[<- hw1]at hw;have hcl:(yh (y1u ps)).length=cs.length:=by rw[z3j,hplen,hcs,z3j]
   have hpost:=S.write (cs':=yh (y1u ps)) hos hid hw (by simp[putCells,r2]) (by rw[hcl];simpa[putCells]using r3) (fun j v d hv hd=>by
    obtain⟨n,e1,e2⟩:=z4q hd;have hj:j<((y1u ps).flatMap y1m).length:=(ae.1 e2).1;subst e1;unfold putCells at hv;rw[kF]at hv;cases ha2:arr[j]? with
    |none=>rw[ha2]at hv;simp at hv
    |some x=>
     rw[ha2]at hv;simp only[aq,aa]at hv;rw[if_pos ⟨dJ _,by simpa using hj⟩]at hv
     rw[f8,getElem!_pos _ j (by simpa using hj)]at hv
     simp only[fx,_root_.id]at hv;rw[ac hj]at e2;rw[<- hv,cr e2];exact .int _ _) (fun d hd=>by
    obtain⟨j,hj⟩:=List.mem_iff_getElem?.1 hd;obtain⟨n,e1,_⟩:=z4q hj;rw[e1];rfl)
   have p1:y1a (CLk T F true) F B (fun i=>i<os.length) ρ H w ρ H w1 (os.set id (.cells (yh (y1u ps)))):=hpost.toT S (y25.set hos rfl) hw.still
   have p2:=p1.trans (y8t.postT (K:=fun i=>i<os.length) p1.sr (zsk (H:=H) (w1:=w1) os1) trivial ⟨rfl,rfl,rfl,aj _⟩)
   exact⟨by simp,ρ,H,p2,.tup #[] [] rfl (fun j v d h=>by simp at h)⟩
 ·simp at hprim
end
end Dv
namespace Dv
open Go.RowKit
open Go (Value Program World Act Oper Operand Code Ending Exit MapEntry Fence CallsIn KeepsWalks)
open Go.Sort Go.Lib Go.Proofs
def y63(ks:List (Int × Int))(l:List MapEntry)(seen:Array Nat)(pre:List (Int × Int)):Prop:=((pre.map y84)++(y4l l seen).map fun e=>e.key).Perm (ks.map y84)
theorem y63.step{ks pre:List (Int × Int)}{l:List MapEntry}{seen:Array Nat}{e:MapEntry}{x:Int × Int}(hn:(l.map fun e=>e.born).Nodup)(h:y63 ks l seen pre)(he:e ∈ y4l l seen)(hx:e.key=y84 x):y63 ks l (seen.push e.born) (pre++[x]):=by
 have h1:=(zro hn he).map fun e=>e.key
 unfold y63 at h ⊢;refine List.Perm.trans ?_ h;rw[List.map_append,List.append_assoc];refine List.Perm.append_left _ ?_;rw[al]at h1;rw[hx]at h1;exact h1.symm
theorem y63.len{ks pre:List (Int × Int)}{l:List MapEntry}{seen:Array Nat}(h:y63 ks l seen pre):pre.length+(y4l l seen).length=ks.length:=by have:=h.length_eq;simpa using this
theorem y63.key{ks pre:List (Int × Int)}{l:List MapEntry}{seen:Array Nat}{e:MapEntry}(h:y63 ks l seen pre)(he:e ∈ y4l l seen):∃ x,e.key=y84 x:=by have:e.key ∈ ks.map y84:=h.mem_iff.1 (List.mem_append_right _ (aL.2 ⟨e,he,rfl⟩));obtain⟨x,_,hx⟩:=aL.1 this;exact⟨x,hx.symm⟩
theorem y63.done{ks pre:List (Int × Int)}{l:List MapEntry}{seen:Array Nat}(h:y63 ks l seen pre)(he:y4l l seen=[]):pre.Perm ks:=by unfold y63 at h;rw[he]at h;exact zvw (by simpa using h)
abbrev y53(p:Int × Int):List Value:=[.int .i64 p.1,.int .i64 p.2]
theorem zxj(l:List (Int × Int)):(l.flatMap y53).length=l.length*2:=by
 induction l with
 |nil=>rfl
 |cons p l ih=>rw[bm,ao,ih,ar];simp;omega
theorem zn2{W W':World}{row:Option Nat}{base:Nat}{e:Nat}{size:Nat}{v:Value}{k:Nat}{xs:List Value}(h:W.ownsRow base e size v k xs)(hg:W.grownBy W' row)
  (hrow:∀ r,row=some r->∃ o:eI,W.heap[r]? = some o/\o.isWalk=true):W'.ownsRow base e size v k xs:=by
 refine h.kept hg ?_;rcases h.2 with⟨rfl,_⟩ | ⟨g,cap,cur,rfl,_,hgb,_⟩
 ·exact .inl rfl
 ·refine .inr fun e'=>?_
  obtain⟨o,ho,hw⟩:=hrow g (by simpa[Value.ownBlock]using e'.symm)
  rw[hgb]at ho;cases ho;cases hw
theorem y50(W:World)(l:Nat)(o:eI):W.grownBy (W.putObj l o) (some l):=
 ⟨rfl,rfl,rfl,by simp,fun k _ hk=>World.putObj_heap_other (fun e=>hk (by rw[e]))⟩
theorem ybq(W:World)(b:Nat)(v:Value):W.grownBy (W.setCell ⟨b,0,none⟩ v) (some b):=
 ⟨rfl,rfl,rfl,(KeepsWalks.setCell W _ v).size,fun k _ hk=>Below.heap_setCell _ _ _ k (fun e=>hk (by rw[e]))⟩
theorem zcx{W:World}{base:Nat}{e:Nat}{size:Nat}{v:Value}{k:Nat}{xs:List Value}(h:W.ownsRow base e size v k xs){j:Nat}{o:eI}(hj:W.heap[j]? = some o)(hno:∀ cur,o ≠ .cells cur e (0,0)) :
  v.ownBlock=none\/v.ownBlock ≠ some j:=by
 rcases h.2 with⟨rfl,_⟩ | ⟨g,cap,cur,rfl,_,hgb,_⟩
 ·exact .inl rfl
 ·refine .inr fun e'=>?_
  have:g=j:=by simpa[Value.ownBlock]using e'
  subst this;rw[hgb]at hj;cases hj;exact hno cur rfl
theorem zff{W:World}{B:Nat}{v:Value}{t:Nat}(h:W.heap[B]? = some (.cells #[v] t (0,0))):W.cell? ⟨B,0,none⟩=some v/\W.frozen? ⟨B,0,none⟩=false:=by constructor <;> simp[World.cell?,World.frozen?,h]
theorem yfs{W:World}{B:Nat}{v:Value}{t:Nat}(v':Value)(h:W.heap[B]? = some (.cells #[v] t (0,0))):(W.setCell ⟨B,0,none⟩ v').heap[B]? = some (.cells #[v'] t (0,0)):=by
 obtain⟨hlt,hk⟩:=Array.getElem?_eq_some_iff.1 h;show(W.heap.modify B _)[B]? = _
 rw[bX (by rw[l4];exact hlt),Array.getElem_modify_self,hk]
 rfl
theorem zgj{W:World}{base:Nat}{e:Nat}{size:Nat}{v:Value}{k:Nat}{xs:List Value}(h:W.ownsRow base e size v k xs):∀(j:Nat) (o:eI),v.ownBlock=some j->W.heap[j]? = some o->o.isWalk=false:=by
 intro j o hj ho;rcases h.2 with⟨rfl,_⟩ | ⟨g,cap,cur,rfl,_,hgb,_⟩
 ·simp[Value.ownBlock]at hj
 ·have:g=j:=by simpa[Value.ownBlock]using hj
  subst this;rw[hgb]at ho;cases ho;rfl
theorem zvy(w:World)(x:Int × Int)(t:Nat):∀(j:Nat) (u:Value),(y53 x)[j]? = some u->(w.alloc (.cells #[.int .i64 x.1,.int .i64 x.2] t)).cell? ((⟨w.heap.size,0,none⟩:cF).add j)=some u:=by
 intro j u h
 match j,h with
 | 0,h=>simp at h;subst h;simp[fS]
 | 1,h=>simp at h;subst h;simp[fS]
 |j+2,h=>simp at h
theorem zem{a b:List (Int × Int)}(h:a.Perm b):y1u a=y1u b:=by
 unfold y1u;have tr:∀ a b c:Int × Int,(!y44 b a)=true->(!y44 c b)=true->(!y44 c a)=true:=fun a b c h1 h2=>by unfold y44 at *;simp at *;omega
 have to:∀ a b:Int × Int,((!y44 b a) || !y44 a b)=true:=fun a b=>by unfold y44;simp;omega
 refine List.Perm.eq_of_pairwise (le:=fun a b=>(!y44 b a)=true) (fun a b _ _ h1 h2=>?_) (gV tr to a) (gV tr to b) (((iQ a _).trans h).trans (iQ b _).symm)
 unfold y44 at h1 h2;simp at h1 h2;exact jA (by omega) (by omega)
theorem row_holds{tk:Nat}{w:World}{base g cap:Nat}{ss:List (Int × Int)}(h:w.ownsRow base tk 2 (.slice (some ⟨g,0,none⟩) ss.length cap) ss.length (ss.flatMap y53)) :
  HoldsK y1m 2 w g 0 ss.toArray /\ ∃ arr,w.heap[g]? = some (.cells arr tk (0,0))/\ss.length*2<=arr.size/\base<=g/\ss.length<=cap/\cap<=Go.maxLen:=by
 rcases h.2 with⟨h1,_⟩ | ⟨g',cap',cur,hv,hb,hg,hle,hm,hs,ht⟩
 ·cases h1
 ·cases hv;refine⟨?_,cur,hg,by rw[hs];exact bE _ hle,hb,hle,hm⟩
  unfold HoldsK;rw[z6i];intro j hj;rw[bQ,z20]at hj;rw[bM];have hjs:j<cur.size:=by rw[hs];exact aW hj (bE _ hle)
  have hx:(ss.flatMap y1m)[j]? = some cur[j]:=by
   have h2:(cur.toList.take (ss.length*2))[j]? = some cur[j]:=by rw[List.getElem?_take,if_pos hj];simp[hjs]
   rw[ht]at h2;exact h2
  have he:(ss.flatMap y1m).toArray[j]! = cur[j]:=by
   have hj2:j<(ss.flatMap y1m).toArray.size:=by rw[bQ,z20];exact hj
   rw[getElem!_pos _ j hj2];simp only[fx];rw[ac (by rw[z20];exact hj)]at hx
   exact cr hx
  constructor
  ·rw[cell?_eq];unfold cellOf;rw[hg];simp only[];rw[bX hjs,he]
   rfl
  ·unfold World.frozen?;rw[hg];simp
theorem zge{tk:Nat}{P:Program}{f k:Nat}(C:y6b P f k){w w0:World}{g cap:Nat}{ss:List (Int × Int)}(hrow:w.ownsRow w0.heap.size tk 2 (.slice (some ⟨g,0,none⟩) ss.length cap) ss.length (ss.flatMap y53))(hbig:ss.length<4611686018427387904)
  (hG:GL w0) (hb:Below w0.heap.size w0 w) :
  fU P f #[.slice (some ⟨g,0,none⟩) ss.length cap,.func (.func k) #[] #[]] w fun e w'=>e=.returned (.tuple #[])/\Below w0.heap.size w w'/\w.drawn<=w'.drawn /\ ∀(j:Nat) u,((y1u ss).flatMap y53)[j]? = some u->w'.cell? ⟨g,j,none⟩=some u:=by
 obtain⟨hH,arr,hg,hsz,hbase,_⟩:=row_holds hrow;have hlt:g<w.heap.size:=z26 hg;have key:∀ n (d:Array (Int × Int)) os,(sortWorldK y1m 2 w g 0 n d os).heap=(putRow id (ig w n) g 0 (flatK y1m 2 d)).heap++os:=fun n d os=>rfl
 refine(C.run g cap ss w hH hlt hbig (fun n d os _ gb cs hgb j k' n' hj=>?_)).mono ?_
 ·have h1:=hG gb cs hgb j k' n' hj;have hl1:=z3w h1;have hw:=z41 (w:=w) (F':=flatK y1m 2 d) (n:=n) hg;unfold cellOf at h1 ⊢;rw[key,du (by rw[hw.size];exact aW hl1 hb.size),hw.other gb (by omega),hb.block gb hl1]
  exact h1
 ·rintro e w' ⟨rfl,n,os,rfl⟩;have hw:=z41 (w:=w) (F':=((y1u ss).flatMap y1m).toArray) (n:=n) hg;have hheap:(sortWorldK y1m 2 w g 0 n (y1u ss).toArray os).heap=(putRow id (ig w n) g 0 ((y1u ss).flatMap y1m).toArray).heap++os:=by rw[key,z6i]
  refine⟨rfl,⟨rfl,rfl,rfl,?_,fun b hbb=>?_⟩,ij _ _,fun j u hj=>?_⟩
  ·rw[hheap,Array.size_append,hw.size];omega
  ·rw[hheap,du (by rw[hw.size];exact aW hbb hb.size),hw.other b (by omega)]
  ·have hjl:j<((y1u ss).flatMap y1m).length:=(ae.1 hj).1;have hjs:j<arr.size:=by rw[z20,zat]at hjl;omega
   rw[cell?_eq];unfold cellOf;rw[hheap,du (by rw[hw.size];exact hlt),hw.at_]
   simp only[];unfold putCells;rw[kF,bX hjs];simp only[aq];rw[if_pos ⟨dJ _,by simpa using hjl⟩,f8,getElem!_pos _ j (by simpa using hjl)]
   simp only[fx,id];have hj':((y1u ss).flatMap y1m)[j]? = some u:=hj;rw[ac hjl]at hj';exact hj'
def y7o(w:World)(ks:List (Int × Int))(e:Ending)(w':World):Prop:=
 Below w.heap.size w w'/\w.drawn<=w'.drawn/\((ks=[]/\e=.returned (.slice none 0 0)) \/ ∃ blk cap,e=.returned (.slice (some ⟨blk,0,none⟩) ks.length cap)/\ks.length<=cap/\w.heap.size<=blk /\ ∀(j:Nat) u,((y1u ks).flatMap y53)[j]? = some u->w'.cell? ⟨blk,j,none⟩=some u)
def ycc(P:Program)(f gi k:Nat):Prop:=
 ∀(Bm off b clock:Nat) (es:Array MapEntry) (ks:List (Int × Int)) (w:World),y3s es clock->es.toList.map (fun e=>e.key)=ks.map y84->ks.length<=1000000->GL w->w.cell? ⟨Bm,off,none⟩=some (.map (some b))->w.heap[b]? = some (.map es clock) ->
  fU P f #[.func (.func gi) #[] #[.pointer (some ⟨Bm,off,none⟩)],.func (.func k) #[] #[]] w (y7o w ks)
def y2c(n:Nat):DFn:=⟨2,[.tmp 1],
 .seq (.region false [] [⟨some 2,.mark false (.c (.int .i64 0)),none⟩])
  (.ifp (.t 2) (.cond (.c .undef) .skip .skip)
   (.seq (.region false [] [⟨some 1,.prim n [.t 0,.t 1],none⟩]) .ret))⟩
theorem zmv{E:Env}{p n:Nat}{ds:List D}{d:D}{os os':List Obj}(h:y29 E (y2c p) (dC E n (y2c p).body (yp (y2c p) ds os))=some (d,os')) :
  ∃ x0 x1,E.prim p [x0,x1] os=some (d,os')/\(x1 ≠ .undef->ds=[x0,x1]):=by
 cases hrun:dC E n (y2c p).body (yp (y2c p) ds os)with
 |none=>rw[hrun]at h;simp[y29]at h
 |some x=>
 obtain⟨ex,st'⟩:=x;rw[hrun]at h;obtain⟨m1,st1,rfl,h1,h2⟩:=z73 (fun m s e h=>(zt h).1) hrun
 obtain⟨_,m2,rfl,g1⟩:=zt h1;have hst1:st1=⟨(yp (y2c p) ds os).sl.set 2 (.tup [.undef,.int .i64 0]),os⟩:=by have:some (⟨(yp (y2c p) ds os).sl.set 2 (.tup [.undef,.int .i64 0]),os⟩:St)=some st1:=g1;simpa using this.symm
 subst hst1;simp only[dC]at h2;have h2d:ds.length<=2:=by
  rcases cn 2 ds.length with hl | hl
  ·exfalso;have hm:yy (yq ((yp (y2c p) ds os).sl.set 2 (.tup [.undef,.int .i64 0])) (.t 2))=true:=by simp only[yq,af];rw[aR (by simp[yp];omega)];rfl
   rw[if_pos hm]at h2;exact z86 h2
  ·exact hl
 have hset:(yp (y2c p) ds os).sl.set 2 (.tup [.undef,.int .i64 0])=(yp (y2c p) ds os).sl:=by refine fI ?_;simp[yp,y2c];omega
 rw[hset]at h2;have hm:yy (yq (yp (y2c p) ds os).sl (.t 2))=false:=by simp only[yq,af];rw[aU (by simp[yp,y2c];omega)];rfl
 rw[if_neg (by rw[hm];simp)]at h2
 obtain⟨m3,st3,hm3,h3,h4⟩:=z73 (fun m s e h=>(zt h).1) h2
 obtain⟨_,m4,rfl,g3⟩:=zt h3;obtain⟨x0,x1,hsl,hds⟩:∃ x0 x1,(yp (y2c p) ds os).sl=[x0,x1]/\(x1 ≠ .undef->ds=[x0,x1]):=by
  match ds,h2d with
  |[],_=>exact⟨.undef,.undef,rfl,fun h=>absurd rfl h⟩
  |[x],_=>exact⟨x,.undef,rfl,fun h=>absurd rfl h⟩
  |[x,y],_=>exact⟨x,y,rfl,fun _=>rfl⟩
  |_::_::_::_,h=>simp at h
 rw[hsl]at g3;simp only[zj,aQ]at g3;obtain⟨s1,q1,q6⟩:=g3;simp only[yi,aa]at q6;subst q6;simp only[y1s,yn,if_true]at q1;split at q1
 case h_2=>simp at q1
 rename_i d1 hp1 e1;simp only[aa]at q1;subst q1;simp only[yf,DOp.fin,yo,al,aO,yq,bI,cb]at e1;have hm3':m2=m4+1+1:=hm3;have h6:Ex.ret=ex/\(⟨[x0,d1],hp1⟩:St)=st':=by simpa[dC,y2i]using h4
 obtain⟨rfl,rfl⟩:=h6;simp only[y29,y2c,y6c,aq,y2r,aa,aw,cb,bI]at h;obtain⟨rfl,rfl⟩:=h;exact⟨x0,x1,e1,hds⟩
theorem zde{F:Phi}{ρ : Rho}{H:HS}{hp:y1x}:∀{es:List (D × D)} {ks:List (Int × Int)} {me:List MapEntry},y6k es=some ks->y7e F ρ H hp me es->me.map (fun e=>e.key)=ks.map y84
 |[],ks,me,h,hm=>by simp[y6k]at h;subst h;have:=hm.1;simp at this;rw[this];rfl
 |e::es,ks,me,h,hm=>by
  unfold y6k at h;split at h
  case h_1=>simp_all
  case h_3=>simp at h
  rename_i a b x r e1;simp only[bZ]at e1;obtain⟨rfl,rfl⟩:=e1;split at h
  case h_2=>simp at h
  rename_i l hl;simp only[aa]at h;subst h
  match me,hm with
  |[],hm=>have:=hm.1;simp at this
  |m::me,hm=>
   obtain⟨⟨h1,_⟩,h3⟩:=hm.cons_inv;rw[al,al,zde hl h3];congr 1;have:Rep F ρ H hp m.key (.agg [.int .i64 a,.int .i64 b]):=h1;obtain⟨vs,hv,hr⟩:=this.aggL;obtain⟨hlen,hr⟩:=hr
   match vs,hlen with
   |[v0,v1],_=>have e0:=(hr 0 v0 _ rfl rfl).intv;have e1:=(hr 1 v1 _ rfl rfl).intv;rw[hv,e0,e1]
theorem zjl:∀(l:List (Int × Int)),yr (l.map fun p=>D.agg [.int .i64 p.1,.int .i64 p.2])=l.flatMap fun p=>[D.int .i64 p.1,.int .i64 p.2]
 |[]=>rfl
 |p::l=>by rw[al,z1m,zjl l];rfl
theorem ztf:∀{l:List (Int × Int)} {j:Nat} {d:D},(l.flatMap fun p=>[D.int .i64 p.1,.int .i64 p.2])[j]? = some d->∃ n,d=.int .i64 n/\(l.flatMap y53)[j]? = some (.int .i64 n)
 |[],j,d,h=>by simp at h
 |p::l,0,d,h=>by simp at h;exact⟨p.1,h.symm,by simp⟩
 |p::l,1,d,h=>by simp at h;exact⟨p.2,h.symm,by simp⟩
 |p::l,j+2,d,h=>by
  obtain⟨n,h1,h2⟩:=ztf (l:=l) (j:=j) (d:=d) (by simpa using h)
  exact⟨n,h1,by simpa using h2⟩
section
variable{P:Program}{E:Env}{CL:y21}{F:Phi}{T:Phi}{B:Nat}{ρ : Rho}{H:HS}{os:List Obj}{w:World}{pt:Nat × Nat}
theorem znv{f f' p:Nat}{it cmp:List Nat}{G:DFn}(hG:E.fn f'=some G)(he:G=y2c p)(hmp:E.mp f'=false)(hp:E.prim p=ya5 it cmp)
  (hC:∀ gi kk g k,F gi=some kk->F g=some k->it.contains kk=true->cmp.contains k=true->ycc P f gi g):y82 P E T F pt f f':=by
 intro n KC K r B ρ H os os' w vals ds d h S hr;subst he;simp only[y1j,hG,hmp,y2s]at h;obtain⟨x0,x1,hprim,hds⟩:=zmv h;rw[hp]at hprim;unfold ya5 at hprim;split at hprim
 case h_2=>simp at hprim
 rename_i os kk id k hxs;simp only[bZ,and_true]at hxs;obtain⟨rfl,rfl⟩:=hxs;have hds:=hds (by simp)
 subst hds;split at hprim
 case isFalse=>simp at hprim
 rename_i hit;split at hprim
 case h_2=>simp at hprim
 rename_i es hos;split at hprim
 case h_2=>simp at hprim
 rename_i ks hks;split at hprim
 case isFalse=>simp at hprim
 rename_i hlen;simp only[aa,aw]at hprim;obtain⟨rfl,rfl⟩:=hprim;obtain⟨v0,v1,hvals⟩:∃ v0 v1,vals = #[v0,v1]:=by
  have hl:=hr.1
  match hl':vals.toList with
  |[x,y]=>exact⟨x,y,by cases vals;simp at hl';rw[hl']⟩
  |[]=>rw[hl']at hl;simp at hl
  |[_]=>rw[hl']at hl;simp at hl
  |_::_::_::_=>rw[hl']at hl;simp at hl
 subst hvals;have h0:Rep F ρ H w.heap v0 _:=hr.2 0 v0 _ rfl rfl;have h1:Rep F ρ H w.heap v1 _:=hr.2 1 v1 _ rfl rfl;cases h0 with
 |fn gi _ cv0 _ hF0 hs0 hr0=>
 cases h1 with
 |fn g _ cv1 _ hF1 hs1 _=>
 have hc1:cv1 = #[]:=fQ (by simpa using hs1)
 subst hc1;obtain⟨c0,hc0⟩:∃ c0,cv0 = #[c0]:=by
  have:cv0.toList.length=1:=by simpa using hs0
  match hl:cv0.toList,this with
  |[x],_=>exact⟨x,by cases cv0;simp at hl;rw[hl]⟩
 subst hc0;have hcr:=hr0 0 c0 _ rfl rfl;cases hcr with
 |iptr Bm off _ vs hH hrv=>
 obtain⟨_,hcell⟩:=hH 0 (by simp)
 have hmr:=hrv 0 _ rfl;generalize hvm:vs 0=vm at hmr hcell;cases hmr with
 |map b c _ hid=>
 obtain⟨me,clock,hb,hm,hst⟩:=(S.mapAt hid hos).list;have hGL:GL w:=fun gb cs hg j k' n' hj=>(S.hb.gl gb cs hg j k' n' hj).2
 have hkk:=zde hks hm;simp only[Bool.and_eq_true]at hit;have hcall:=hC gi kk g k hF0 hF1 hit.1 hit.2 Bm off b clock me ks w hst hkk hlen hGL (by rw[cell?_eq];exact hcell) hb
 refine z79 (hcall.mono ?_);rintro e w' ⟨hB,hd,hres⟩;have still:y1v w w':=⟨hB.os,hB.tape,hB.output,hd⟩;have plen:=zat ks;rcases hres with⟨hk0,rfl⟩ | ⟨blk,cap,rfl,hcap,hblk,hcells⟩
 ·subst hk0;have g1:y8t H H w.heap w'.heap:=⟨hB.size,fun b' hb'=>hB.block b' hb',fun _ _ h=>h,fun _ _ h=>.inl h⟩
  refine⟨aj _,ρ,H,y8t.postT S g1 trivial still,?_⟩;have e0:y1u ([]:List (Int × Int))=[]:=by simp[y1u]
  rw[e0];exact .imm .none [] none 0 0 0 0 (fun _=>.nilFunc) (fun x hx=>by cases hx) (aj _) (fun h=>by cases h) (fun k h=>by cases h) (fun h=>absurd rfl h) (fun j hj=>by simp[yr]at hj) (fun j d hd=>by simp[yr]at hd)
 ·have hfl:(yr ((y1u ks).map fun p=>D.agg [.int .i64 p.1,.int .i64 p.2])).length=ks.length*2:=by
   rw[zjl];have:∀ l:List (Int × Int),(l.flatMap fun p=>[D.int .i64 p.1,.int .i64 p.2]).length=l.length*2:=by
    intro l
    induction l with
    |nil=>rfl
    |cons p l ih=>rw[bm,ao,ih,ar];simp;omega
   rw[this,plen]
  have hcl:∀ j,j<ks.length*2->∃ u,((y1u ks).flatMap y53)[j]? = some u/\cellOf w'.heap blk j=some u:=fun j hj=>by
   have:j<((y1u ks).flatMap y53).length:=by rw[zxj,plen];exact hj
   have h1:=ac this;exact⟨_,h1,by rw[<- cell?_eq];exact hcells j _ h1⟩
  have g1:y8t H (fun b o=>H b o\/(b=blk/\o<ks.length*2)) w.heap w'.heap:=⟨hB.size,fun b' hb'=>hB.block b' hb',fun _ _ h=>.inl h,fun b o h=>by
   rcases h with h | ⟨rfl,ho⟩
   ·exact .inl h
   ·obtain⟨u,_,hu⟩:=hcl o ho;exact .inr ⟨hblk,z3w hu⟩⟩
  refine⟨aj _,ρ,_,y8t.postT S g1 trivial still,?_⟩;have hel:((y1u ks).map fun p=>D.agg [.int .i64 p.1,.int .i64 p.2]).length=ks.length:=by rw[List.length_map,plen]
  have hrep:=Rep.imm (φ:=F) (ρ:=ρ) (H:=fun b o=>H b o\/(b=blk/\o<ks.length*2)) (hp:=w'.heap) .none ((y1u ks).map fun p=>D.agg [.int .i64 p.1,.int .i64 p.2]) (some ⟨blk,0,none⟩) cap blk 0 2 (fun j=>(cellOf w'.heap blk j).getD .nilFunc)
   (fun x hx=>by obtain⟨p,_,rfl⟩:=aL.1 hx;exact⟨rfl,rfl⟩) (by rw[hel];exact hcap) (fun h=>by cases h) (fun k h=>by cases h) (fun _=>rfl)
   (fun j hj=>by
    rw[hfl]at hj;obtain⟨u,_,hu⟩:=hcl j hj;refine⟨.inr ⟨rfl,by omega⟩,?_⟩
    rw[bM,hu];rfl)
   (fun j d hd=>by
    have hj:j<ks.length*2:=by rw[<- hfl];exact(ae.1 hd).1
    rw[zjl]at hd;obtain⟨n,e1,e2⟩:=ztf hd;obtain⟨u,h1,h2⟩:=hcl j hj;rw[e2]at h1;rw[h2,e1];simp only[aa]at h1;rw[<- h1];exact .int _ _)
  rw[hel]at hrep;exact hrep
end
end Dv
