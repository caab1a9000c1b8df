/- Texts that a proof of this claim uses, joined: Dv.Drawn, Dv.KeysA, Dv.SortH, Dv.KeysH. -/
import Derived.Test.YtfagnjchgplecaaDoorDva
import Derived.Test.YtfagnjchgplecaaDoorDvd
import Derived.RangeFuncGives
import Derived.Sort.MapsRangeIn
import Derived.Shelf.SlSortCmp.NoneTotal
import Derived.Maps.AppendAt
import Derived.Shelf.Abstract
import Derived.WalkKit
import Derived.OwnWalkIn
import Derived.TacticsInMore
import Derived.RegionIn
import Derived.LoopNIn
import Derived.LoopIn
import Derived.KernelRfl
set_option linter.all false
open Array renaming eq_empty_of_size_eq_zero->fd,getElem?_append_left->cG,getElem?_eq_getElem->bF,getElem?_mapIdx->jr,getElem?_modify->cp,size_modify->ko
open Go renaming Addr->cy,Calls->fA,CallsIn->cO,Obj->ep,callsIn_wide->fH,execOp->ba,resolve->cN,wpListIn->fB,wpListIn_plain->ii
open Go.Addr renaming add->fh
open Go.Builtin renaming append->rA
open Go.ChangeMaps renaming setBlock->gc
open Go.Fence renaming wide->b8
open Go.MapKept renaming heap_alloc->jq,heap_set->qv
open Go.Proofs.AnyQ renaming slices_SortFunc_total->j7
open Go.Proofs.SlLaysF0 renaming n6->jp
open Go.Result renaming andThen->fZ
open Go.Sort renaming ahead->gh
open List renaming eq_nil_of_length_eq_zero->cU,filter_cons->kL,flatMap_cons->bB,getD_cons_succ->fE,getD_cons_zero->dZ,getD_eq_getElem?_getD->ah,getElem?_eq_getElem->ae,getElem?_eq_none->bm,getElem?_eq_some_iff->ac,getElem?_set_self->aQ,getElem_toArray->eN,length_append->ax,length_cons->aF,map_cons->av,map_nil->aO,mem_map->aV,mergeSort_perm->gO,pairwise_mergeSort->fW,set_eq_of_length_le->fQ,size_toArray->cq
open List.cons renaming injEq->bo
open Nat renaming le_add_right->gn,le_of_eq->dq,le_refl->ai,le_succ->ei,le_trans->aH,lt_of_lt_of_le->aI,lt_or_ge->bX,mul_le_mul_right->bh,sub_zero->fN,zero_add->bD,zero_le->ej
open Option renaming bind_eq_some_iff->aK,map_some->aj
open Option.some renaming inj->cj,injEq->aa
open Prod renaming ext->mX
open Prod.mk renaming injEq->aq
namespace Dv
open Go (Value Program World Sem Result)

theorem zcr{ε α β : Type}{x:Except ε α}{f : α -> Except ε β}{r : β}(h:(x >>= f)=.ok r):∃ y,x=.ok y/\f y=.ok r:=by
 cases x with
 |error e=>cases h
 |ok y=>exact⟨y,rfl,h⟩
theorem z8l{P:Program}{w:World}{at_:cy}{u:Nat}{a:cy}{v:Value}{b:Bool}{r:World × List cy}(h:World.viewStore P w at_ u a v b=.ok r):r.1.drawn=w.drawn:=by
 unfold World.viewStore at h
 simp only[] at h
 split at h
 ·obtain⟨_,h0,_⟩:=zcr h
  cases h0
 obtain⟨y2,_,h⟩:=zcr h
 obtain⟨c,e,frozen,first,like,cells⟩:=y2
 simp only at h
 split at h
 case h_2=>cases h
 split at h
 ·obtain⟨_,h0,_⟩:=zcr h
  cases h0
 obtain⟨y3,_,h⟩:=zcr h
 cases h
 rfl
theorem za9{P:Program}{w w':World}{a:cy}{v:Value}{b:Bool}{t:List cy}(h:w.farStore P a v b=.ok (w',t)):w'.drawn=w.drawn:=by
 unfold World.farStore at h
 split at h
 ·split at h
  ·rename_i r hr
   cases h
   exact z8l hr
  ·cases h
 ·cases h
theorem znh{α : Type}:∀(q:Go.Ask α) (w:World),w.drawn<=(w.ask q).2.drawn:=by
 intro q
 induction q with
 |done a=>intro w;exact ai _
 |ask what range k ih=>
  intro w
  unfold World.ask
  simp only[]
  split
  ·exact ih _ w
  ·exact aH (ei _) (ih _ { w with drawn:=w.drawn+1 })
theorem zke(w:World)(c:Go.Sys):w.drawn<=(w.sys c).2.drawn:=by
 unfold World.sys
 have h:=znh (Go.Kernel.perform c w.os) w
 split
 ·exact ai _
 ·rename_i r os w1 heq
  rw[heq] at h;exact h

theorem zdf{P:Program}{α : Type}:∀(s:Sem α) (w w':World) (v : α),s.run P w=.ok v w'->w.drawn<=w'.drawn:=by
 intro s
 induction s with
 |pure a=>intro w w' v h;simp only[Sem.run,Result.ok.injEq] at h;rw[h.2];exact ai _
 |load m a k ih=>
  intro w w' v h
  simp only[Sem.run] at h
  split at h
  ·exact ih _ _ _ _ h
  ·split at h
   ·exact ih _ _ _ _ h
   ·cases h
 |store m a x k ih=>
  intro w w' v h
  have key:∀(h:(match w.cell? a with
    |some _=>if w.frozen? a=true then Result.halt (.unsupported (.unsafePointer "a write to bytes that a string shares")) w else k.run P (w.setCell a x)
    |none=>match w.farStore P a x (m == Go.Mode.atomic) with
     |.ok (w,_)=>k.run P w
     |.error h=>.halt h w)=.ok v w'),w.drawn<=w'.drawn:=by
   intro h
   split at h
   ·split at h
    ·cases h
    ·exact ih (w.setCell a x) _ _ h
   ·split at h
    ·rename_i w1 t hf
     have:=ih _ _ _ h
     rw[za9 hf] at this
     exact this
    ·cases h
  cases x <;> first | exact key h | (simp only[Sem.run] at h;cases h;done)
 |new o k ih=>intro w w' v h;exact ih _ { w with heap:=w.heap.push o } _ _ h
 |shape r k ih=>intro w w' v h;exact ih _ _ _ _ h
 |freeze a n k ih=>
  intro w w' v h
  have h2:(w.freeze a n).drawn=w.drawn:=by unfold World.freeze;split <;> rfl
  rw[<- h2]
  exact ih _ _ _ h
 |frozen a k ih=>intro w w' v h;exact ih _ _ _ _ h
 |getObj r k ih=>
  intro w w' v h
  simp only[Sem.run] at h
  split at h
  ·cases h
  ·exact ih _ _ _ _ h
  ·cases h
 |setObj r o k ih=>
  intro w w' v h
  simp only[Sem.run] at h
  split at h
  ·cases h
  ·exact ih { w with heap:=w.heap.setIfInBounds r o } _ _ h
  ·cases h
 |choose q k ih=>
  intro w w' v h
  simp only[Sem.run] at h
  split at h
  ·exact ih _ _ _ _ h
  ·exact aH (ei _) (ih _ { w with drawn:=w.drawn+1 } _ _ h)
 |sys c k ih=>
  intro w w' v h
  exact aH (zke w c) (ih _ _ _ _ h)
 |program k ih=>intro w w' v h;exact ih _ _ _ _ h
 |mark m k ih=>intro w w' v h;exact ih _ _ _ h
 |halt x=>intro w w' v h;cases h
end Dv

namespace Dv
open Go (Value Program World Act Oper Operand Code Ending Exit MapEntry)

abbrev y8f(p:Int × Int):Value:=.agg #[.int .i64 p.1,.int .i64 p.2]
def decA:Value->Int × Int
 |.agg vs=>(match vs.toList with
  |[.int _ a,.int _ b]=>(a,b)
  |_=>(0,0))
 |_=>(0,0)
theorem zpv(p:Int × Int):decA (y8f p)=p:=rfl
theorem zoi{a b:List (Int × Int)}(h:(a.map y8f).Perm (b.map y8f)):a.Perm b:=by
 have h2:=h.map decA
 simpa[List.map_map,Function.comp_def,zpv] using h2

def y3r(l:List MapEntry)(seen:Array Nat):List MapEntry:=l.filter fun e=>!seen.contains e.born
theorem z9d(es:Array MapEntry)(seen:Array Nat):(Go.leftOf es seen).toList=y3r es.toList seen:=by
 unfold Go.leftOf y3r;simp
theorem zic{l:List MapEntry}{seen:Array Nat}{b:Nat}:y3r l (seen.push b)=(y3r l seen).filter fun x=>!(x.born == b):=by
 unfold y3r
 rw[List.filter_filter]
 refine List.filter_congr fun x _=>?_
 by_cases h:x.born=b
 ·simp[h]
 ·simp[h]
theorem z92:∀{l:List MapEntry} {e:MapEntry},(l.map (·.born)).Nodup->e ∈ l->l.Perm (e::l.filter fun x=>!(x.born == e.born))
 |[],_,_,h=>by simp at h
 |x::l,e,hn,h=>by
  rw[av] at hn
  obtain⟨h1,h2⟩:=List.nodup_cons.1 hn
  rcases List.mem_cons.1 h with rfl | h
  ·rw[kL,if_neg (by simp),List.filter_eq_self.2 fun y hy=>by
    have:y.born ≠ e.born:=fun e2=>h1 (aV.2 ⟨y,hy,e2⟩)
    simpa using this]
  ·have hx:x.born ≠ e.born:=fun e2=>h1 (aV.2 ⟨e,h,e2.symm⟩)
   rw[kL,if_pos (by simpa using hx)]
   exact((z92 h2 h).cons x).trans (List.Perm.swap _ _ _)
theorem zib{l:List MapEntry}{seen:Array Nat}(h:(l.map (·.born)).Nodup):((y3r l seen).map (·.born)).Nodup:=h.sublist ((List.filter_sublist).map _)
theorem zlg{l:List MapEntry}{seen:Array Nat}{e:MapEntry}(h:(l.map (·.born)).Nodup)(he:e ∈ y3r l seen):(y3r l seen).Perm (e::y3r l (seen.push e.born)):=by
 rw[zic];exact z92 (zib h) he

section
variable{F:Go.Fence}{n:Nat}{P:Program}(w:World){ops:Array Oper}{rest:List Oper}{o:Oper}{a:Act}{Q:Exit->Act->World->Prop}

theorem yc2(hg:o.guard=none)(m:Operand)(t k e:Nat)(hop:o.op=Go.Op.range t m)(ht:P.underlying t=some (.map k e))(b:Nat)(es:Array MapEntry)(clock:Nat)
  (hm:a.eval m=.map (some b)) (hb:w.heap[b]? = some (.map es clock))
  (hK:∀ w',w'.heap[b]? = some (.map es clock)->w'.heap[w.heap.size]? = some (.mapIter (some b) clock #[] clock)->w.grownBy w' none->w'.heap.size=w.heap.size+1->w.drawn<=w'.drawn->fB F n P ops Q rest (a.put o.dst (.pointer (some ⟨w.heap.size,0,none⟩))) w') :
  fB F n P ops Q (o::rest) a w:=by
 refine ii hg fun K' hK'=>?_
 have hrun:=Go.run_range_map (P:=P) w t k e b es clock ht hb
 have hlt:b<w.heap.size:=z1t hb
 unfold Oper.wpIn
 refine⟨?_,?_⟩
 ·simp[Oper.about,hop]
 ·rw[Oper.semAt_plain F _ _ (by rw[hop];intro c hc';cases hc')]
  simp[ba,hop,hm,hrun,fZ]
  exact hK' _ _ (hK _ (((jq w _).2 b hlt).trans hb) (jq w _).1 (Go.World.grownBy_alloc w _ none) (by simp) (ai _))

theorem wpNext(hg:o.guard=none)(it:Operand)(hop:o.op=Go.Op.next it false)(b r clock:Nat)(es:Array MapEntry)(seen:Array Nat)(hst:y38 es clock)
  (hit:a.eval it=.pointer (some ⟨r,0,none⟩)) (hb:w.heap[b]? = some (.map es clock)) (hr:w.heap[r]? = some (.mapIter (some b) clock seen clock))
  (hDone:y3r es.toList seen=[]->fB F n P ops Q rest (a.put o.dst (.tuple #[.bool false])) w)
  (hMore:∀(e:MapEntry) (w':World),e ∈ y3r es.toList seen->w'.heap[b]? = some (.map es clock)->w'.heap[r]? = some (.mapIter (some b) clock (seen.push e.born) clock)->w.grownBy w' (some r)->w'.heap.size=w.heap.size->w.drawn<=w'.drawn ->
   (Go.Instr.entry (.pointer (some ⟨r,0,none⟩))).run P w'=.ok (.tuple #[e.key,e.val]) w'->fB F n P ops Q rest (a.put o.dst (.tuple #[.bool true,e.key,e.val])) w') :
  fB F n P ops Q (o::rest) a w:=by
 refine ii hg fun K' hK'=>?_
 unfold Oper.wpIn
 refine⟨by simp[Oper.about,hop],?_⟩
 rw[Oper.semAt_plain F _ _ (by rw[hop];intro c hc';cases hc')]
 have hne:r ≠ b:=fun e=>by rw[e,hb] at hr;cases hr
 rcases Go.run_next_at (P:=P) w o.type r b clock clock seen es clock hr hb hst.1 (ai _) with⟨h0,hrun⟩ | ⟨e,he,w1,hal,hrun⟩
 ·simp[ba,hop,hit,hrun,fZ]
  refine hK' _ _ (hDone ?_)
  rw[<- z9d]
  exact cU (by simpa using h0)
 ·rw[z9d] at he
  have hr1:w1.heap[r]? = some (.mapIter (some b) clock seen clock):=by rcases hal with rfl | rfl <;> exact hr
  have hb1:w1.heap[b]? = some (.map es clock):=by rcases hal with rfl | rfl <;> exact hb
  have hset:=qv (o':=.mapIter (some b) clock (seen.push e.born) clock) hr1
  have hb':(gc w1 r (.mapIter (some b) clock (seen.push e.born) clock)).heap[b]? = some (.map es clock):=(hset.2 b (fun e1=>hne e1.symm)).trans hb1
  have hem:e ∈ es.toList:=(List.mem_filter.1 he).1
  simp[ba,hop,hit,hrun,fZ]
  have hs:(gc w1 r (.mapIter (some b) clock (seen.push e.born) clock)).heap.size=w1.heap.size:=by simp[gc]
  refine hK' _ _ (hMore e _ he hb' hset.1 ?_ ?_ (zdf _ _ _ _ hrun) (Go.run_entry_at _ r b clock seen es clock e hset.1 hb' hem hst.2))
  ·rcases hal with rfl | rfl
   ·exact⟨rfl,rfl,rfl,dq hs.symm,fun k hk hkr=>hset.2 k (fun e1=>hkr (by rw[e1]))⟩
   ·exact⟨rfl,rfl,rfl,dq hs.symm,fun k hk hkr=>hset.2 k (fun e1=>hkr (by rw[e1]))⟩
  ·rcases hal with rfl | rfl <;> exact hs

theorem wpAppD{hg:o.guard=none}(s x:Operand)(t:Nat)(hop:o.op=Go.Op.call { callee:=Go.Callee.builtin rA,args:=#[s,x],argTypes:=#[t,t] })
  (base e:Nat) (i:Go.TypeInfo) (z:Value) (size bytes:Nat) (h1:P.underlying t=some (.slice e)) (h2:P.info? e=some i) (h3:i.zero=some z) (h4:i.size=size) (h5:i.bytes=bytes) (h6:z.cells.size=size) (h7:0<size)
  (v:Value) (k:Nat) (xs:List Value) (hs:a.eval s=v) (hown:w.ownsRow base e size v k xs) (ad:cy) (m c:Nat) (news:List Value) (hx:a.eval x=.slice (some ad) m c) (hn:news.length=m*size)
  (hc:∀ j u,news[j]? = some u->w.cell? (ad.add j)=some u) (h1c:∀ u ∈ news,u.oneCell'=true) (b1:k+m<=Go.maxLen) (b2:(k+m)*bytes<=140737488355328) (b3:base<=w.heap.size)
  (hK:∀ v' w',w'.ownsRow base e size v' (k+m) (xs++news)->w.grownBy w' v.ownBlock->w.drawn<=w'.drawn->fB F n P ops Q rest (a.put o.dst v') w') :
  fB F n P ops Q (o::rest) a w:=by
 refine ii hg fun K' hK'=>?_
 obtain⟨v',w',hrun,r1,r2,_⟩:=Go.run_append_own (P:=P) w base t o.type e i z size bytes h1 h2 h3 h4 h5 h6 h7 v k xs hown ad m c news hn hc h1c b1 b2 b3
 unfold Oper.wpIn
 refine⟨?_,?_⟩
 ·simp[Oper.about,hop,cN,Go.Target.leads,Go.Sem.run_pure]
 ·rw[Oper.semAt_plain F _ _ (by rw[hop];intro c hc';cases hc')]
  simp[ba,hop,cN,Go.invoke,Go.builtin,hs,hx,hrun,fZ]
  exact hK' _ _ (hK v' w' r1 r2 (zdf _ _ _ _ hrun))

def yaj{β : Type}(B:Nat)(J : β -> World->Prop):Prop:=
 ∀ s W W' row,J s W->W.grownBy W' row->W.drawn<=W'.drawn->(∀ r,row=some r->B<=r /\ ∃ o:ep,W.heap[r]? = some o/\o.isWalk=true)->J s W'
def SeqD(F:Go.Fence)(n:Nat)(P:Program)(g:Nat)(lb:Array Value)(S:List (Int × Int)->Prop)(N:Nat)(w:World):Prop:=
 ∀(l:Nat) (J:List (Int × Int)->World->Prop) (W:World),Go.RowKit.Below w.heap.size w W->yaj W.heap.size J ->
  (∀ pre x W1,J pre W1->pre.length<N->Go.YieldAt F (n - 1) P l #[y8f x] W1 fun e W'=>e=.returned (.bool true)/\J (pre++[x]) W'/\Go.KeepsWalks W1 W') ->
  J [] W->cO F n P g (#[.func (.yield l) #[] #[]]++lb) W fun e W'=>(∃ v,e=.returned v) /\ ∃ xs,S xs/\J xs W'
end
end Dv

namespace Dv
open Go (Value Program World Act Oper Operand Code Ending Exit)

def y2t(n:Nat):DFn:=⟨2,[],
 .seq (.region false [] [⟨some 2,.mark false (.c (.int .i64 0)),none⟩])
  (.ifp (.t 2) (.cond (.c .undef) .skip .skip)
   (.seq (.region false [] [⟨none,.prim n [.t 0,.t 1],none⟩]) .ret))⟩

theorem zo8{E:Env}{p n:Nat}{ds:List D}{d:D}{os os':List Obj}(h:y1f E (y2t p) (dC E n (y2t p).body (yi (y2t p) ds os))=some (d,os')) :
  d=.tup [] /\ ∃ x0 x1 d0,E.prim p [x0,x1] os=some (d0,os')/\(x1 ≠ .undef->ds=[x0,x1]):=by
 cases hrun:dC E n (y2t p).body (yi (y2t p) ds os) with
 |none=>rw[hrun] at h;simp[y1f] at h
 |some x=>
 obtain⟨ex,st'⟩:=x
 rw[hrun] at h
 obtain⟨m1,st1,rfl,h1,h2⟩:=z3j (fun m s e h=>(za h).1) hrun
 obtain⟨_,m2,rfl,g1⟩:=za h1
 have hst1:st1=⟨(yi (y2t p) ds os).sl.set 2 (.tup [.undef,.int .i64 0]),os⟩:=by
  have:some (⟨(yi (y2t p) ds os).sl.set 2 (.tup [.undef,.int .i64 0]),os⟩:St)=some st1:=g1
  simpa using this.symm
 subst hst1
 simp only[dC] at h2
 have h2d:ds.length<=2:=by
  rcases bX 2 ds.length with hl | hl
  ·exfalso
   have hm:yp (ym ((yi (y2t p) ds os).sl.set 2 (.tup [.undef,.int .i64 0])) (.t 2))=true:=by
    simp only[ym,ah]
    rw[aQ (by simp[yi];omega)];rfl
   rw[if_pos hm] at h2
   exact z6q h2
  ·exact hl
 have hset:(yi (y2t p) ds os).sl.set 2 (.tup [.undef,.int .i64 0])=(yi (y2t p) ds os).sl:=by
  refine fQ ?_
  simp[yi,y2t];omega
 rw[hset] at h2
 have hm:yp (ym (yi (y2t p) ds os).sl (.t 2))=false:=by
  simp only[ym,ah]
  rw[bm (by simp[yi,y2t];omega)];rfl
 rw[if_neg (by rw[hm];simp)] at h2
 obtain⟨m3,st3,hm3,h3,h4⟩:=z3j (fun m s e h=>(za h).1) h2
 obtain⟨_,m4,rfl,g3⟩:=za h3
 obtain⟨x0,x1,hsl,hds⟩:∃ x0 x1,(yi (y2t p) ds os).sl=[x0,x1]/\(x1 ≠ .undef->ds=[x0,x1]):=by
  match ds,h2d with
  |[],_=>exact⟨.undef,.undef,rfl,fun h=>absurd rfl h⟩
  |[x],_=>exact⟨x,.undef,rfl,fun h=>absurd rfl h⟩
  |[x,y],_=>exact⟨x,y,rfl,fun _=>rfl⟩
  |_::_::_::_,h=>simp at h
 rw[hsl] at g3
 simp only[z8,aK] at g3
 obtain⟨s1,q1,q6⟩:=g3
 simp only[ye,aa] at q6
 subst q6
 simp only[y1c,yh,if_true] at q1
 split at q1
 case h_2=>simp at q1
 rename_i d1 hp1 e1
 simp only[aa] at q1
 subst q1
 simp only[yd,DOp.fin,yj,av,aO,ym,dZ,fE] at e1
 have hm3':m2=m4+1+1:=hm3
 have h6:Ex.ret=ex/\(⟨[x0,x1],hp1⟩:St)=st':=by simpa[dC,y1u] using h4
 obtain⟨rfl,rfl⟩:=h6
 simp only[y1f,y2t,y3y,aj,y25,aa,aq] at h
 obtain⟨rfl,rfl⟩:=h
 exact⟨rfl,x0,x1,d1,e1,hds⟩

theorem z5v{P:Program}{r:Option Nat}{f:Nat}{args:Array Value}{w:World}{R:Ending->World->Prop}(h:fA P f args w R):cO (Fw r) 0 P f args w R:=by
 have h2:cO b8 0 P f args w R:=fH.2 h
 exact h2

open Go.Sort Go.Lib Go.Proofs
def y19(p:Int × Int):List Value:=[.int .i64 p.1,.int .i64 p.2]
def cfP(x y:Int × Int):Int:=if x.1<y.1 then -1 else if y.1<x.1 then 1 else if x.2<y.2 then -1 else if y.2<x.2 then 1 else 0
theorem ltP(x y:Int × Int):ltOf cfP x y=y4p x y:=by
 unfold ltOf cfP y4p
 by_cases h1:x.1<y.1
 ·simp[h1]
 ·by_cases h2:y.1<x.1
  ·have : ¬ x.1=y.1:=by omega
   simp[h1,h2,this]
  ·have:x.1=y.1:=by omega
   by_cases h3:x.2<y.2
   ·simp[this,h3]
   ·by_cases h4:y.2<x.2 <;> simp[this,h3,h4]
theorem swoP:SWO (ltOf cfP) where
 irrefl x:=by rw[ltP];unfold y4p;simp
 trans x y z h1 h2:=by rw[ltP] at *;unfold y4p at *;simp at *;omega
 ntrans x y z h1 h2:=by rw[ltP] at *;unfold y4p at *;simp at *;omega
theorem totP(x y:Int × Int)(h1:ltOf cfP x y=false)(h2:ltOf cfP y x=false):x=y:=by
 rw[ltP] at *
 unfold y4p at *
 simp at *
 exact mX (by omega) (by omega)
theorem geP:(fun x y:Int × Int=>!ltOf cfP y x)=fun x y=>!y4p y x:=by
 funext x y
 rw[ltP]

theorem z2j(p:Int × Int)(l:List (Int × Int)):yf (p::l)=.int .i64 p.1 :: .int .i64 p.2::yf l:=rfl
theorem z2v:∀(l:List (Int × Int)),(yf l).length=l.length*2
 |[]=>rfl
 |p::l=>by rw[z2j,aF,aF,z2v l,aF];omega
theorem z7r:∀{cs:List D} {ps:List (Int × Int)},y3o cs=some ps->cs=yf ps
 |[],ps,h=>by simp[y3o] at h;subst h;rfl
 |[x],ps,h=>by cases x <;> simp[y3o] at h
 |x::y::r,ps,h=>by
  unfold y3o at h
  split at h
  case h_1=>simp_all
  case h_3=>simp at h
  rename_i a b r' e
  simp only[bo] at e
  obtain⟨rfl,rfl,rfl⟩:=e
  split at h
  case h_2=>simp at h
  rename_i l hl
  simp only[aa] at h
  subst h
  rw[z2j,<- z7r hl]
theorem z3s:∀{l:List (Int × Int)} {j:Nat} {d:D},(yf l)[j]? = some d->∃ n,d=.int .i64 n/\(l.flatMap y19)[j]? = some (.int .i64 n)
 |[],j,d,h=>by simp[yf] at h
 |p::l,0,d,h=>by rw[z2j] at h;simp at h;exact⟨p.1,h.symm,by simp[y19]⟩
 |p::l,1,d,h=>by rw[z2j] at h;simp at h;exact⟨p.2,h.symm,by simp[y19]⟩
 |p::l,j+2,d,h=>by
  rw[z2j] at h
  simp only[List.getElem?_cons_succ] at h
  obtain⟨n,h1,h2⟩:=z3s h
  exact⟨n,h1,by simp[y19] at h2 ⊢;exact h2⟩
theorem z1i(l:List (Int × Int)):(l.flatMap y19).length=l.length*2:=by
 induction l with
 |nil=>rfl
 |cons p l ih=>rw[bB,ax,ih,aF];simp[y19];omega
theorem ze4:∀{l:List (Int × Int)} {t:Nat} (h:t<l.length*2),(l.flatMap y19)[t]? = some ((y19 (l[t / 2]'(by omega)))[t % 2]!)
 |[],t,h=>by simp at h
 |p::l,0,h=>by simp[y19]
 |p::l,1,h=>by simp[y19]
 |p::l,t+2,h=>by
  have:=ze4 (l:=l) (t:=t) (by simp at h;omega)
  have e1:(t+2) / 2=t / 2+1:=by omega
  have e2:(t+2) % 2=t % 2:=by omega
  simp only[e1,e2,List.getElem_cons_succ]
  rw[<- this]
  simp[y19]
theorem z58(l:List (Int × Int)):flatK y19 2 l.toArray=(l.flatMap y19).toArray:=by
 refine ext_get! (by rw[size_flatK,cq,cq,z1i]) fun t ht=>?_
 have ht':t<l.length*2:=by simpa using ht
 rw[get_flatK _ _ _ _ (by simpa using ht')]
 have h1:=ze4 ht'
 have h2:t<(l.flatMap y19).toArray.size:=by rw[cq,z1i];exact ht'
 rw[getElem!_pos (l.flatMap y19).toArray t h2,getElem!_pos l.toArray (t / 2) (by simp;omega)]
 have h3:(l.flatMap y19)[t]'(by rw[z1i];exact ht')=(y19 (l[t / 2]'(by omega)))[t % 2]!:=by
  rw[ae (by rw[z1i];exact ht')] at h1
  exact cj h1
 simp only[eN]
 rw[h3]

section
variable{P:Program}{E:Env}{CL:y1l}{F:Phi}{T:Phi}{B:Nat}{ρ : Rho}{H:HS}{os:List Obj}{w:World}{pt:Nat × Nat}

def GL(W:World):Prop:=∀ g cs,glTab.lookup g=some cs->∀(j:Nat) k n,cs[j]? = some (k,n)->cellOf W.heap g j=some (.int k n)

structure y73(P:Program)(g:Nat):Prop where
 enter:∀ args w,(Go.callFunc g args).run P w=.ok (.enter g args) w
 run:∀(x y:Int × Int) (W:World),GL W->fA P g #[.agg (y19 x).toArray,.agg (y19 y).toArray] W fun e w'=>e=.returned (.int .i64 (cfP x y)) /\ ∃ q os',w'=grow (W.drewN q) os'

theorem zlw{hp hp':y1g}(hs:hp.size<=hp'.size)(ho:∀ b,b<hp.size->hp'[b]? = hp[b]?):hp'=hp++hp'.extract hp.size hp'.size:=by
 refine Array.ext_getElem? fun i=>?_
 by_cases h:i<hp.size
 ·rw[cG h,ho i h]
 ·rw[Array.getElem?_append_right (by omega),Array.getElem?_extract]
  split
  ·congr 1;omega
  ·rw[Array.getElem?_eq_none (by omega)]
theorem y73.of_sim(t:Tie P E T F){g g':Nat}(hf:F g=some g')(hrun:∀ a b c d:Int,∃ n,y1i E (dC E n) g' [.agg [.int .i64 a,.int .i64 b],.agg [.int .i64 c,.int .i64 d]]=some (.int .i64 (cfP (a,b) (c,d)))):y73 P g where
 enter args w:=z3x t.ok hf args
 run x y W hG:=by
  obtain⟨n,hn⟩:=hrun x.1 x.2 y.1 y.2
  have hb:HB (fun b _=>b<W.heap.size) W.heap:=⟨fun b o h=>h,fun g cs hg j k n hj=>⟨z3q (hG g cs hg j k n hj),hG g cs hg j k n hj⟩⟩
  have two:∀ p:Int × Int,Rep F ρ0 (fun b _=>b<W.heap.size) W.heap (.agg (y19 p).toArray) (.agg [.int .i64 p.1,.int .i64 p.2]):=fun p=>
   yo.agg (vs:=y19 p) (.cons (.int _ _) (.cons (.int _ _) .nil))
  have h:=zap t n hf none (fun b _=>b<W.heap.size) W #[.agg (y19 x).toArray,.agg (y19 y).toArray] _ _ hn hb (.cons (two x) (.cons (two y) .nil))
  have h2:cO b8 0 P g #[.agg (y19 x).toArray,.agg (y19 y).toArray] W _:=h
  refine(fH.1 h2).mono fun e w' he=>?_
  cases e with
  |panicked c=>exact he.elim
  |outgrown=>exact he.elim
  |returned v=>
   obtain⟨H',gr,⟨_,st⟩,hv⟩:=he
   refine⟨by rw[hv.intv],w'.drawn - W.drawn,w'.heap.extract W.heap.size w'.heap.size,?_⟩
   have hh:=zlw gr.size gr.old
   obtain⟨e1,e2,e3,e4⟩:=st
   have e5:w'.drawn=W.drawn+(w'.drawn - W.drawn):=by omega
   have key:w' = { W with heap:=w'.heap,drawn:=w'.drawn }:=by
    cases w';cases W;simp only at e1 e2 e3;simp[e1,e2,e3]
   show w' = { W with heap:=W.heap++w'.heap.extract W.heap.size w'.heap.size,drawn:=W.drawn+(w'.drawn - W.drawn) }
   rw[<- hh,<- e5]
   exact key

structure y5w(P:Program)(f g:Nat):Prop where
 run:∀(blk cap:Nat) (ps:List (Int × Int)) (w:World),HoldsK y19 2 w blk 0 ps.toArray->blk<w.heap.size->ps.length<4611686018427387904->(∀ n (d:Array (Int × Int)) os,d.size=ps.length->GL (sortWorldK y19 2 w blk 0 n d os)) ->
  fA P f #[.slice (some ⟨blk,0,none⟩) ps.length cap,.func (.func g) #[] #[]] w fun e w'=>e=.returned (.tuple #[]) /\ ∃ n os,w'=sortWorldK y19 2 w blk 0 n (y1q ps).toArray os

theorem y5w.of{ρ : Go.Shelf.Ren}{f g:Nat}(L:jp P ρ)(hf : ρ.f 6=f)(aE:∀ w,(Go.isAgg (ρ.t 24)).run P w=.ok true w)(zE:∀ w,(Go.sizeOf (ρ.t 24)).run P w=.ok 2 w)(C:y73 P g):y5w P f g:=by
 subst hf
 refine⟨fun blk cap ps w hH hb hn hG=>?_⟩
 have hl:Go.Proofs.CmpLays P g #[] y19 2 cfP blk 0 ps.toArray.size w:=fun m os dk hs x y=>by
  have:=C.run x y (sortWorldK y19 2 w blk 0 m dk os) (hG m dk os (by simpa using hs))
  simpa using this
 have h:=j7 L 2 aE zE y19 (fun _=>rfl) (fun x v hv=>by simp[y19] at hv;rcases hv with rfl | rfl <;> rfl) cfP swoP g #[] blk 0 cap ps.toArray w C.enter hl hH hb (by simpa using hn) totP
 rw[geP] at h
 simpa[y1q] using h

theorem z8z(l:List (Int × Int)):(y1q l).length=l.length:=List.length_mergeSort l

theorem z3b{blk el:Nat}{arr:Array Value}{F':Array Value}{n:Nat}(hb:w.heap[blk]? = some (.cells arr el (0,0))) :
  y7q w (putRow id (gh w n) blk 0 F') blk (putCells id 0 F' arr) el:=by
 have hlt:blk<w.heap.size:=z1t hb
 refine⟨?_,fun b' hne=>?_,?_,⟨rfl,rfl,rfl,gn _ _⟩⟩
 ·show(w.heap.modify blk _)[blk]? = _
  rw[cp,if_pos rfl,hb]
  rfl
 ·show(w.heap.modify blk _)[b']? = _
  rw[cp,if_neg (Ne.symm hne)]
 ·show(w.heap.modify blk _).size=_
  rw[ko]

theorem zm0{w1:World}(os1:Array ep):y6q H H w1.heap (grow w1 os1).heap:=by
 refine⟨?_,fun b hb=>?_,fun _ _ h=>h,fun _ _ h=>.inl h⟩
 ·show w1.heap.size<=(w1.heap++os1).size
  simp
 ·show(w1.heap++os1)[b]? = w1.heap[b]?
  rw[cG hb]

theorem zho{f f' p:Nat}{cmp:List Nat}{G:DFn}(hG:E.fn f'=some G)(he:G=y2t p)(hmp:E.mp f'=false)(hp:E.prim p=y5z cmp)
  (hC:∀ g k,F g=some k->cmp.contains k=true->y5w P f g) (hN:∀(p:Option cy) (cap:Nat) (fv:Value) (w:World),fA P f #[.slice p 0 cap,fv] w fun e w'=>e=.returned (.tuple #[])/\w'=w):y5n P E T F pt f f':=by
 intro n KC K r B ρ H os os' w vals ds d h S hr
 subst he
 simp only[y16,hG,hmp,y20] at h
 obtain⟨rfl,x0,x1,d0,hprim,hds⟩:=zo8 h
 rw[hp] at hprim
 have vals2:∀{x0 x1:D},ds=[x0,x1]->∃ v0 v1,vals = #[v0,v1]/\Rep F ρ H w.heap v0 x0/\Rep F ρ H w.heap v1 x1:=by
  rintro x0 x1 rfl
  have hl:=hr.1
  obtain⟨v0,v1,hvals⟩:∃ v0 v1,vals = #[v0,v1]:=by
   match hl':vals.toList with
   |[x,y]=>exact⟨x,y,by cases vals;simp at hl';rw[hl']⟩
   |[]=>rw[hl'] at hl;simp at hl
   |[_]=>rw[hl'] at hl;simp at hl
   |_::_::_::_=>rw[hl'] at hl;simp at hl
  subst hvals
  exact⟨v0,v1,rfl,hr.2 0 v0 x0 rfl rfl,hr.2 1 v1 x1 rfl rfl⟩
 have fin0:∀(p:Option cy) (cap:Nat) (fv:Value),vals = #[.slice p 0 cap,fv]->os'=os->cO (Fw r) 0 P f vals w (y4l (CLk T F true) F B ρ H os w (.tup []) os'):=by
  rintro p cap fv rfl rfl
  refine z5v ((hN p cap fv w).mono ?_)
  rintro e w' ⟨rfl,rfl⟩
  exact⟨ai _,ρ,H,yy.refl S,.tup #[] [] rfl (fun j v d h=>by simp at h)⟩
 unfold y5z at hprim
 split at hprim
 ·rename_i os _ _ k hxs
  simp only[bo,and_true] at hxs
  obtain⟨rfl,rfl⟩:=hxs
  have hds:=hds (by simp)
  obtain⟨v0,v1,hvals,h0,h1⟩:=vals2 hds
  split at hprim
  case isFalse=>simp at hprim
  simp only[aa,aq] at hprim
  obtain⟨a,cap,rfl,_⟩:=z4p h0
  exact fin0 a cap v1 hvals hprim.2.symm
 ·rename_i os _ _ id len ag gr k hxs
  simp only[bo,and_true] at hxs
  obtain⟨rfl,rfl⟩:=hxs
  have hds:=hds (by simp)
  obtain⟨v0,v1,hvals,h0,h1⟩:=vals2 hds
  split at hprim
  case isFalse=>simp at hprim
  rename_i hk
  split at hprim
  case h_2=>simp at hprim
  rename_i cs hos
  split at hprim
  case isFalse=>simp at hprim
  rename_i hlen
  obtain⟨hlen,hbnd⟩:=hlen
  split at hprim
  case h_2=>simp at hprim
  rename_i ps hps
  simp only[aa,aq] at hprim
  obtain⟨_,rfl⟩:=hprim
  have hcs:=z7r hps
  have hpl:ps.length=len:=by
   have:=congrArg List.length hcs
   rw[z2v,hlen] at this;omega
  cases h0 with
  |sl _ _ _ _ _ _ b cc cap a hid hl ha hcc=>
  cases h1 with
  |fn gf _ cvs _ hF hs _=>
  obtain⟨arr,el,r1,r2,r3,r4,r5⟩:=S.row hid (by simp[yw,hos]:yw os id=some cs)
  by_cases hz:len=0
  ·subst hz
   have hp0:ps=[]:=cU hpl
   subst hp0
   refine fin0 a cap _ hvals ?_
   have:yf (y1q [])=cs:=by rw[hcs];simp[y1q]
   rw[this]
   refine List.ext_getElem? fun i=>?_
   rw[List.getElem?_set]
   split
   ·rename_i e;subst e;rw[if_pos (ac.1 hos).1,hos]
   ·rfl
  ·have hcv:cvs = #[]:=by
    simp only[List.length_nil] at hs
    exact fd hs
   subst hcv
   have ha:=ha hz
   subst ha
   have hblk:b<w.heap.size:=z1t r1
   have hH:HoldsK y19 2 w b 0 ps.toArray:=by
    unfold HoldsK
    rw[z58]
    intro j hj
    rw[cq,z1i] at hj
    rw[bD]
    have hjc:j<cs.length:=by rw[hcs,z2v];exact hj
    have hja:j<arr.size:=by omega
    obtain⟨n,hd1,hd2⟩:=z3s (l:=ps) (j:=j) (d:=cs[j]) (by rw[<- hcs];exact ae hjc)
    have hrep:=r4 j arr[j] cs[j] (bF hja) (ae hjc)
    rw[hd1] at hrep
    have hv:arr[j]=.int .i64 n:=hrep.intv
    have he2:((ps.flatMap y19).toArray[j]!)=.int .i64 n:=by
     have hj2:j<(ps.flatMap y19).toArray.size:=by rw[cq,z1i];exact hj
     rw[getElem!_pos _ j hj2]
     simp only[eN]
     rw[ae (by rw[z1i];exact hj)] at hd2
     exact cj hd2
    constructor
    ·rw[cell?_eq]
     unfold cellOf
     rw[r1]
     simp only[]
     rw[bF hja,hv,he2]
     rfl
    ·unfold World.frozen?
     rw[r1]
     simp
   have hbig:ps.length<4611686018427387904:=by
    rw[hpl];omega
   have hGL:∀ n (d:Array (Int × Int)) os1,d.size=ps.length->GL (sortWorldK y19 2 w b 0 n d os1):=by
    intro n d os1 _ g cs' hg j k n' hj
    obtain⟨h1,h2⟩:=S.hb.gl g cs' hg j k n' hj
    have hne:g ≠ b:=fun e=>S.mutH id cs b cc j hos hid (e ▸ h1)
    have hlt:=z3q h2
    have hw:=z3b (w:=w) (F':=flatK y19 2 d) (n:=n) r1
    have e1:(sortWorldK y19 2 w b 0 n d os1).heap[g]? = w.heap[g]?:=by
     show((putRow _root_.id (gh w n) b 0 (flatK y19 2 d)).heap++os1)[g]? = w.heap[g]?
     rw[cG (by rw[hw.size];exact hlt),hw.other g hne]
    unfold cellOf at h2 ⊢
    rw[e1];exact h2
   have hcall:=(hC gf k hF hk).run b cap ps w hH hblk hbig hGL
   rw[hpl] at hcall
   subst hvals
   refine z5v (hcall.mono ?_)
   rintro e w' ⟨rfl,m,os1,rfl⟩
   have hplen:=z8z ps
   have hw:=z3b (w:=w) (F':=((y1q ps).flatMap y19).toArray) (n:=m) r1
   obtain⟨w1,hw1⟩:∃ w1,w1=putRow _root_.id (gh w m) b 0 ((y1q ps).flatMap y19).toArray:=⟨_,rfl⟩
   have hsw:sortWorldK y19 2 w b 0 m (y1q ps).toArray os1=grow w1 os1:=by
    unfold sortWorldK putRowK
    rw[z58,hw1]
   rw[hsw]
   rw[<- hw1] at hw
   have hcl:(yf (y1q ps)).length=cs.length:=by rw[z2v,hplen,hcs,z2v]
   have hpost:=S.write (cs':=yf (y1q ps)) hos hid hw (by simp[putCells,r2]) (by rw[hcl];simpa[putCells] using r3) (fun j v d hv hd=>by
    obtain⟨n,e1,e2⟩:=z3s hd
    have hj:j<((y1q ps).flatMap y19).length:=(ac.1 e2).1
    subst e1
    unfold putCells at hv
    rw[jr] at hv
    cases ha2:arr[j]? with
    |none=>rw[ha2] at hv;simp at hv
    |some x=>
     rw[ha2] at hv
     simp only[aj,aa] at hv
     rw[if_pos ⟨ej _,by simpa using hj⟩] at hv
     rw[fN,getElem!_pos _ j (by simpa using hj)] at hv
     simp only[eN,_root_.id] at hv
     rw[ae hj] at e2
     rw[<- hv,cj e2]
     exact .int _ _) (fun d hd=>by
    obtain⟨j,hj⟩:=List.mem_iff_getElem?.1 hd
    obtain⟨n,e1,_⟩:=z3s hj
    rw[e1];rfl)
   have p1:yy (CLk T F true) F B (fun i=>i<os.length) ρ H w ρ H w1 (os.set id (.cells (yf (y1q ps)))):=hpost.toT S (y1n.set hos rfl) hw.still
   have p2:=p1.trans (y6q.postT (K:=fun i=>i<os.length) p1.sr (zm0 (H:=H) (w1:=w1) os1) trivial ⟨rfl,rfl,rfl,ai _⟩)
   exact⟨by simp,ρ,H,p2,.tup #[] [] rfl (fun j v d h=>by simp at h)⟩
 ·simp at hprim

end
end Dv

namespace Dv
open Go.RowKit
open Go (Value Program World Act Oper Operand Code Ending Exit MapEntry Fence CallsIn KeepsWalks)
open Go.Sort Go.Lib Go.Proofs

def y55(ks:List (Int × Int))(l:List MapEntry)(seen:Array Nat)(pre:List (Int × Int)):Prop:=((pre.map y8f)++(y3r l seen).map fun e=>e.key).Perm (ks.map y8f)
theorem y55.step{ks pre:List (Int × Int)}{l:List MapEntry}{seen:Array Nat}{e:MapEntry}{x:Int × Int}(hn:(l.map fun e=>e.born).Nodup)(h:y55 ks l seen pre)(he:e ∈ y3r l seen)(hx:e.key=y8f x):y55 ks l (seen.push e.born) (pre++[x]):=by
 have h1:=(zlg hn he).map fun e=>e.key
 unfold y55 at h ⊢
 refine List.Perm.trans ?_ h
 rw[List.map_append,List.append_assoc]
 refine List.Perm.append_left _ ?_
 rw[av] at h1
 rw[hx] at h1
 exact h1.symm
theorem y55.len{ks pre:List (Int × Int)}{l:List MapEntry}{seen:Array Nat}(h:y55 ks l seen pre):pre.length+(y3r l seen).length=ks.length:=by
 have:=h.length_eq
 simpa using this
theorem y55.key{ks pre:List (Int × Int)}{l:List MapEntry}{seen:Array Nat}{e:MapEntry}(h:y55 ks l seen pre)(he:e ∈ y3r l seen):∃ x,e.key=y8f x:=by
 have:e.key ∈ ks.map y8f:=h.mem_iff.1 (List.mem_append_right _ (aV.2 ⟨e,he,rfl⟩))
 obtain⟨x,_,hx⟩:=aV.1 this
 exact⟨x,hx.symm⟩
theorem y55.done{ks pre:List (Int × Int)}{l:List MapEntry}{seen:Array Nat}(h:y55 ks l seen pre)(he:y3r l seen=[]):pre.Perm ks:=by
 unfold y55 at h
 rw[he] at h
 exact zoi (by simpa using h)

abbrev y62(p:Int × Int):List Value:=[.int .i64 p.1,.int .i64 p.2]
theorem zpp(l:List (Int × Int)):(l.flatMap y62).length=l.length*2:=by
 induction l with
 |nil=>rfl
 |cons p l ih=>rw[bB,ax,ih,aF];simp;omega

theorem zu2{W W':World}{row:Option Nat}{base:Nat}{e:Nat}{size:Nat}{v:Value}{k:Nat}{xs:List Value}(h:W.ownsRow base e size v k xs)(hg:W.grownBy W' row)
  (hrow:∀ r,row=some r->∃ o:ep,W.heap[r]? = some o/\o.isWalk=true):W'.ownsRow base e size v k xs:=by
 refine h.kept hg ?_
 rcases h.2 with⟨rfl,_⟩ | ⟨g,cap,cur,rfl,_,hgb,_⟩
 ·exact .inl rfl
 ·refine .inr fun e'=>?_
  obtain⟨o,ho,hw⟩:=hrow g (by simpa[Value.ownBlock] using e'.symm)
  rw[hgb] at ho;cases ho;cases hw

theorem ybz(W:World)(l:Nat)(o:ep):W.grownBy (W.putObj l o) (some l):=
 ⟨rfl,rfl,rfl,by simp,fun k _ hk=>World.putObj_heap_other (fun e=>hk (by rw[e]))⟩
theorem yby(W:World)(b:Nat)(v:Value):W.grownBy (W.setCell ⟨b,0,none⟩ v) (some b):=
 ⟨rfl,rfl,rfl,(KeepsWalks.setCell W _ v).size,fun k _ hk=>Below.heap_setCell _ _ _ k (fun e=>hk (by rw[e]))⟩
theorem row_ne{W:World}{base:Nat}{e:Nat}{size:Nat}{v:Value}{k:Nat}{xs:List Value}(h:W.ownsRow base e size v k xs){j:Nat}{o:ep}(hj:W.heap[j]? = some o)(hno:∀ cur,o ≠ .cells cur e (0,0)) :
  v.ownBlock=none\/v.ownBlock ≠ some j:=by
 rcases h.2 with⟨rfl,_⟩ | ⟨g,cap,cur,rfl,_,hgb,_⟩
 ·exact .inl rfl
 ·refine .inr fun e'=>?_
  have:g=j:=by simpa[Value.ownBlock] using e'
  subst this;rw[hgb] at hj;cases hj;exact hno cur rfl
theorem yc1{W:World}{B:Nat}{v:Value}{t:Nat}(h:W.heap[B]? = some (.cells #[v] t (0,0))):W.cell? ⟨B,0,none⟩=some v/\W.frozen? ⟨B,0,none⟩=false:=by
 constructor <;> simp[World.cell?,World.frozen?,h]
theorem yeb{W:World}{B:Nat}{v:Value}{t:Nat}(v':Value)(h:W.heap[B]? = some (.cells #[v] t (0,0))):(W.setCell ⟨B,0,none⟩ v').heap[B]? = some (.cells #[v'] t (0,0)):=by
 obtain⟨hlt,hk⟩:=Array.getElem?_eq_some_iff.1 h
 show(W.heap.modify B _)[B]? = _
 rw[bF (by rw[ko];exact hlt),Array.getElem_modify_self,hk]
 rfl
theorem zqy{W:World}{base:Nat}{e:Nat}{size:Nat}{v:Value}{k:Nat}{xs:List Value}(h:W.ownsRow base e size v k xs):∀(j:Nat) (o:ep),v.ownBlock=some j->W.heap[j]? = some o->o.isWalk=false:=by
 intro j o hj ho
 rcases h.2 with⟨rfl,_⟩ | ⟨g,cap,cur,rfl,_,hgb,_⟩
 ·simp[Value.ownBlock] at hj
 ·have:g=j:=by simpa[Value.ownBlock] using hj
  subst this;rw[hgb] at ho;cases ho;rfl
theorem ybr(w:World)(x:Int × Int)(t:Nat):∀(j:Nat) (u:Value),(y62 x)[j]? = some u->(w.alloc (.cells #[.int .i64 x.1,.int .i64 x.2] t)).cell? ((⟨w.heap.size,0,none⟩:cy).add j)=some u:=by
 intro j u h
 match j,h with
 | 0,h=>simp at h;subst h;simp[fh]
 | 1,h=>simp at h;subst h;simp[fh]
 |j+2,h=>simp at h

theorem zog{a b:List (Int × Int)}(h:a.Perm b):y1q a=y1q b:=by
 unfold y1q
 have tr:∀ a b c:Int × Int,(!y4p b a)=true->(!y4p c b)=true->(!y4p c a)=true:=fun a b c h1 h2=>by unfold y4p at *;simp at *;omega
 have to:∀ a b:Int × Int,((!y4p b a) || !y4p a b)=true:=fun a b=>by unfold y4p;simp;omega
 refine List.Perm.eq_of_pairwise (le:=fun a b=>(!y4p b a)=true) (fun a b _ _ h1 h2=>?_) (fW tr to a) (fW tr to b) (((gO a _).trans h).trans (gO b _).symm)
 unfold y4p at h1 h2
 simp at h1 h2
 exact mX (by omega) (by omega)

theorem row_holds{w:World}{base g cap:Nat}{ss:List (Int × Int)}(h:w.ownsRow base 25 2 (.slice (some ⟨g,0,none⟩) ss.length cap) ss.length (ss.flatMap y62)) :
  HoldsK y19 2 w g 0 ss.toArray /\ ∃ arr,w.heap[g]? = some (.cells arr 25 (0,0))/\ss.length*2<=arr.size/\base<=g/\ss.length<=cap/\cap<=Go.maxLen:=by
 rcases h.2 with⟨h1,_⟩ | ⟨g',cap',cur,hv,hb,hg,hle,hm,hs,ht⟩
 ·cases h1
 ·cases hv
  refine⟨?_,cur,hg,by rw[hs];exact bh _ hle,hb,hle,hm⟩
  unfold HoldsK
  rw[z58]
  intro j hj
  rw[cq,z1i] at hj
  rw[bD]
  have hjs:j<cur.size:=by rw[hs];exact aI hj (bh _ hle)
  have hx:(ss.flatMap y19)[j]? = some cur[j]:=by
   have h2:(cur.toList.take (ss.length*2))[j]? = some cur[j]:=by
    rw[List.getElem?_take,if_pos hj];simp[hjs]
   rw[ht] at h2;exact h2
  have he:(ss.flatMap y19).toArray[j]! = cur[j]:=by
   have hj2:j<(ss.flatMap y19).toArray.size:=by rw[cq,z1i];exact hj
   rw[getElem!_pos _ j hj2]
   simp only[eN]
   rw[ae (by rw[z1i];exact hj)] at hx
   exact cj hx
  constructor
  ·rw[cell?_eq]
   unfold cellOf
   rw[hg]
   simp only[]
   rw[bF hjs,he]
   rfl
  ·unfold World.frozen?
   rw[hg]
   simp

theorem zqt{P:Program}{f k:Nat}(C:y5w P f k){w w0:World}{g cap:Nat}{ss:List (Int × Int)}(hrow:w.ownsRow w0.heap.size 25 2 (.slice (some ⟨g,0,none⟩) ss.length cap) ss.length (ss.flatMap y62))(hbig:ss.length<4611686018427387904)
  (hG:GL w0) (hb:Below w0.heap.size w0 w) :
  fA P f #[.slice (some ⟨g,0,none⟩) ss.length cap,.func (.func k) #[] #[]] w fun e w'=>e=.returned (.tuple #[])/\Below w0.heap.size w w'/\w.drawn<=w'.drawn /\ ∀(j:Nat) u,((y1q ss).flatMap y62)[j]? = some u->w'.cell? ⟨g,j,none⟩=some u:=by
 obtain⟨hH,arr,hg,hsz,hbase,_⟩:=row_holds hrow
 have hlt:g<w.heap.size:=z1t hg
 have key:∀ n (d:Array (Int × Int)) os,(sortWorldK y19 2 w g 0 n d os).heap=(putRow id (gh w n) g 0 (flatK y19 2 d)).heap++os:=fun n d os=>rfl
 refine(C.run g cap ss w hH hlt hbig (fun n d os _ gb cs hgb j k' n' hj=>?_)).mono ?_
 ·have h1:=hG gb cs hgb j k' n' hj
  have hl1:=z3q h1
  have hw:=z3b (w:=w) (F':=flatK y19 2 d) (n:=n) hg
  unfold cellOf at h1 ⊢
  rw[key,cG (by rw[hw.size];exact aI hl1 hb.size),hw.other gb (by omega),hb.block gb hl1]
  exact h1
 ·rintro e w' ⟨rfl,n,os,rfl⟩
  have hw:=z3b (w:=w) (F':=((y1q ss).flatMap y19).toArray) (n:=n) hg
  have hheap:(sortWorldK y19 2 w g 0 n (y1q ss).toArray os).heap=(putRow id (gh w n) g 0 ((y1q ss).flatMap y19).toArray).heap++os:=by rw[key,z58]
  refine⟨rfl,⟨rfl,rfl,rfl,?_,fun b hbb=>?_⟩,gn _ _,fun j u hj=>?_⟩
  ·rw[hheap,Array.size_append,hw.size];omega
  ·rw[hheap,cG (by rw[hw.size];exact aI hbb hb.size),hw.other b (by omega)]
  ·have hjl:j<((y1q ss).flatMap y19).length:=(ac.1 hj).1
   have hjs:j<arr.size:=by rw[z1i,z8z] at hjl;omega
   rw[cell?_eq]
   unfold cellOf
   rw[hheap,cG (by rw[hw.size];exact hlt),hw.at_]
   simp only[]
   unfold putCells
   rw[jr,bF hjs]
   simp only[aj]
   rw[if_pos ⟨ej _,by simpa using hjl⟩,fN,getElem!_pos _ j (by simpa using hjl)]
   simp only[eN,id]
   have hj':((y1q ss).flatMap y19)[j]? = some u:=hj
   rw[ae hjl] at hj'
   exact hj'

def y7r(w:World)(ks:List (Int × Int))(e:Ending)(w':World):Prop:=
 Below w.heap.size w w'/\w.drawn<=w'.drawn/\((ks=[]/\e=.returned (.slice none 0 0)) \/ ∃ blk cap,e=.returned (.slice (some ⟨blk,0,none⟩) ks.length cap)/\ks.length<=cap/\w.heap.size<=blk /\ ∀(j:Nat) u,((y1q ks).flatMap y62)[j]? = some u->w'.cell? ⟨blk,j,none⟩=some u)


def ybj(P:Program)(f gi k:Nat):Prop:=
 ∀(Bm off b clock:Nat) (es:Array MapEntry) (ks:List (Int × Int)) (w:World),y38 es clock->es.toList.map (fun e=>e.key)=ks.map y8f->ks.length<=1000000->GL w->w.cell? ⟨Bm,off,none⟩=some (.map (some b))->w.heap[b]? = some (.map es clock) ->
  fA P f #[.func (.func gi) #[] #[.pointer (some ⟨Bm,off,none⟩)],.func (.func k) #[] #[]] w (y7r w ks)

def y1r(n:Nat):DFn:=⟨2,[.tmp 1],
 .seq (.region false [] [⟨some 2,.mark false (.c (.int .i64 0)),none⟩])
  (.ifp (.t 2) (.cond (.c .undef) .skip .skip)
   (.seq (.region false [] [⟨some 1,.prim n [.t 0,.t 1],none⟩]) .ret))⟩

theorem zhn{E:Env}{p n:Nat}{ds:List D}{d:D}{os os':List Obj}(h:y1f E (y1r p) (dC E n (y1r p).body (yi (y1r p) ds os))=some (d,os')) :
  ∃ x0 x1,E.prim p [x0,x1] os=some (d,os')/\(x1 ≠ .undef->ds=[x0,x1]):=by
 cases hrun:dC E n (y1r p).body (yi (y1r p) ds os) with
 |none=>rw[hrun] at h;simp[y1f] at h
 |some x=>
 obtain⟨ex,st'⟩:=x
 rw[hrun] at h
 obtain⟨m1,st1,rfl,h1,h2⟩:=z3j (fun m s e h=>(za h).1) hrun
 obtain⟨_,m2,rfl,g1⟩:=za h1
 have hst1:st1=⟨(yi (y1r p) ds os).sl.set 2 (.tup [.undef,.int .i64 0]),os⟩:=by
  have:some (⟨(yi (y1r p) ds os).sl.set 2 (.tup [.undef,.int .i64 0]),os⟩:St)=some st1:=g1
  simpa using this.symm
 subst hst1
 simp only[dC] at h2
 have h2d:ds.length<=2:=by
  rcases bX 2 ds.length with hl | hl
  ·exfalso
   have hm:yp (ym ((yi (y1r p) ds os).sl.set 2 (.tup [.undef,.int .i64 0])) (.t 2))=true:=by
    simp only[ym,ah]
    rw[aQ (by simp[yi];omega)];rfl
   rw[if_pos hm] at h2
   exact z6q h2
  ·exact hl
 have hset:(yi (y1r p) ds os).sl.set 2 (.tup [.undef,.int .i64 0])=(yi (y1r p) ds os).sl:=by
  refine fQ ?_
  simp[yi,y1r];omega
 rw[hset] at h2
 have hm:yp (ym (yi (y1r p) ds os).sl (.t 2))=false:=by
  simp only[ym,ah]
  rw[bm (by simp[yi,y1r];omega)];rfl
 rw[if_neg (by rw[hm];simp)] at h2
 obtain⟨m3,st3,hm3,h3,h4⟩:=z3j (fun m s e h=>(za h).1) h2
 obtain⟨_,m4,rfl,g3⟩:=za h3
 obtain⟨x0,x1,hsl,hds⟩:∃ x0 x1,(yi (y1r p) ds os).sl=[x0,x1]/\(x1 ≠ .undef->ds=[x0,x1]):=by
  match ds,h2d with
  |[],_=>exact⟨.undef,.undef,rfl,fun h=>absurd rfl h⟩
  |[x],_=>exact⟨x,.undef,rfl,fun h=>absurd rfl h⟩
  |[x,y],_=>exact⟨x,y,rfl,fun _=>rfl⟩
  |_::_::_::_,h=>simp at h
 rw[hsl] at g3
 simp only[z8,aK] at g3
 obtain⟨s1,q1,q6⟩:=g3
 simp only[ye,aa] at q6
 subst q6
 simp only[y1c,yh,if_true] at q1
 split at q1
 case h_2=>simp at q1
 rename_i d1 hp1 e1
 simp only[aa] at q1
 subst q1
 simp only[yd,DOp.fin,yj,av,aO,ym,dZ,fE] at e1
 have hm3':m2=m4+1+1:=hm3
 have h6:Ex.ret=ex/\(⟨[x0,d1],hp1⟩:St)=st':=by simpa[dC,y1u] using h4
 obtain⟨rfl,rfl⟩:=h6
 simp only[y1f,y1r,y3y,aj,y25,aa,aq,fE,dZ] at h
 obtain⟨rfl,rfl⟩:=h
 exact⟨x0,x1,e1,hds⟩

theorem zb1{F:Phi}{ρ : Rho}{H:HS}{hp:y1g}:∀{es:List (D × D)} {ks:List (Int × Int)} {me:List MapEntry},y6h es=some ks->y5l F ρ H hp me es->me.map (fun e=>e.key)=ks.map y8f
 |[],ks,me,h,hm=>by
  simp[y6h] at h;subst h
  have:=hm.1;simp at this;rw[this];rfl
 |e::es,ks,me,h,hm=>by
  unfold y6h at h
  split at h
  case h_1=>simp_all
  case h_3=>simp at h
  rename_i a b x r e1
  simp only[bo] at e1
  obtain⟨rfl,rfl⟩:=e1
  split at h
  case h_2=>simp at h
  rename_i l hl
  simp only[aa] at h
  subst h
  match me,hm with
  |[],hm=>have:=hm.1;simp at this
  |m::me,hm=>
   obtain⟨⟨h1,_⟩,h3⟩:=hm.cons_inv
   rw[av,av,zb1 hl h3]
   congr 1
   have:Rep F ρ H hp m.key (.agg [.int .i64 a,.int .i64 b]):=h1
   obtain⟨vs,hv,hr⟩:=this.aggL
   obtain⟨hlen,hr⟩:=hr
   match vs,hlen with
   |[v0,v1],_=>
    have e0:=(hr 0 v0 _ rfl rfl).intv
    have e1:=(hr 1 v1 _ rfl rfl).intv
    rw[hv,e0,e1]

theorem zfq:∀(l:List (Int × Int)),yn (l.map fun p=>D.agg [.int .i64 p.1,.int .i64 p.2])=l.flatMap fun p=>[D.int .i64 p.1,.int .i64 p.2]
 |[]=>rfl
 |p::l=>by rw[av,z13,zfq l];rfl
theorem zmm:∀{l:List (Int × Int)} {j:Nat} {d:D},(l.flatMap fun p=>[D.int .i64 p.1,.int .i64 p.2])[j]? = some d->∃ n,d=.int .i64 n/\(l.flatMap y62)[j]? = some (.int .i64 n)
 |[],j,d,h=>by simp at h
 |p::l,0,d,h=>by simp at h;exact⟨p.1,h.symm,by simp⟩
 |p::l,1,d,h=>by simp at h;exact⟨p.2,h.symm,by simp⟩
 |p::l,j+2,d,h=>by
  obtain⟨n,h1,h2⟩:=zmm (l:=l) (j:=j) (d:=d) (by simpa using h)
  exact⟨n,h1,by simpa using h2⟩

section
variable{P:Program}{E:Env}{CL:y1l}{F:Phi}{T:Phi}{B:Nat}{ρ : Rho}{H:HS}{os:List Obj}{w:World}{pt:Nat × Nat}

theorem zu3{f f' p:Nat}{it cmp:List Nat}{G:DFn}(hG:E.fn f'=some G)(he:G=y1r p)(hmp:E.mp f'=false)(hp:E.prim p=y9y it cmp)
  (hC:∀ gi kk g k,F gi=some kk->F g=some k->it.contains kk=true->cmp.contains k=true->ybj P f gi g):y5n P E T F pt f f':=by
 intro n KC K r B ρ H os os' w vals ds d h S hr
 subst he
 simp only[y16,hG,hmp,y20] at h
 obtain⟨x0,x1,hprim,hds⟩:=zhn h
 rw[hp] at hprim
 unfold y9y at hprim
 split at hprim
 case h_2=>simp at hprim
 rename_i os kk id k hxs
 simp only[bo,and_true] at hxs
 obtain⟨rfl,rfl⟩:=hxs
 have hds:=hds (by simp)
 subst hds
 split at hprim
 case isFalse=>simp at hprim
 rename_i hit
 split at hprim
 case h_2=>simp at hprim
 rename_i es hos
 split at hprim
 case h_2=>simp at hprim
 rename_i ks hks
 split at hprim
 case isFalse=>simp at hprim
 rename_i hlen
 simp only[aa,aq] at hprim
 obtain⟨rfl,rfl⟩:=hprim
 obtain⟨v0,v1,hvals⟩:∃ v0 v1,vals = #[v0,v1]:=by
  have hl:=hr.1
  match hl':vals.toList with
  |[x,y]=>exact⟨x,y,by cases vals;simp at hl';rw[hl']⟩
  |[]=>rw[hl'] at hl;simp at hl
  |[_]=>rw[hl'] at hl;simp at hl
  |_::_::_::_=>rw[hl'] at hl;simp at hl
 subst hvals
 have h0:Rep F ρ H w.heap v0 _:=hr.2 0 v0 _ rfl rfl
 have h1:Rep F ρ H w.heap v1 _:=hr.2 1 v1 _ rfl rfl
 cases h0 with
 |fn gi _ cv0 _ hF0 hs0 hr0=>
 cases h1 with
 |fn g _ cv1 _ hF1 hs1 _=>
 have hc1:cv1 = #[]:=fd (by simpa using hs1)
 subst hc1
 obtain⟨c0,hc0⟩:∃ c0,cv0 = #[c0]:=by
  have:cv0.toList.length=1:=by simpa using hs0
  match hl:cv0.toList,this with
  |[x],_=>exact⟨x,by cases cv0;simp at hl;rw[hl]⟩
 subst hc0
 have hcr:=hr0 0 c0 _ rfl rfl
 cases hcr with
 |iptr Bm off _ vs hH hrv=>
 obtain⟨_,hcell⟩:=hH 0 (by simp)
 have hmr:=hrv 0 _ rfl
 generalize hvm:vs 0=vm at hmr hcell
 cases hmr with
 |map b c _ hid=>
 obtain⟨me,clock,hb,hm,hst⟩:=(S.mapAt hid hos).list
 have hGL:GL w:=fun gb cs hg j k' n' hj=>(S.hb.gl gb cs hg j k' n' hj).2
 have hkk:=zb1 hks hm
 simp only[Bool.and_eq_true] at hit
 have hcall:=hC gi kk g k hF0 hF1 hit.1 hit.2 Bm off b clock me ks w hst hkk hlen hGL (by rw[cell?_eq];exact hcell) hb
 refine z5v (hcall.mono ?_)
 rintro e w' ⟨hB,hd,hres⟩
 have still:y1e w w':=⟨hB.os,hB.tape,hB.output,hd⟩
 have plen:=z8z ks
 rcases hres with⟨hk0,rfl⟩ | ⟨blk,cap,rfl,hcap,hblk,hcells⟩
 ·subst hk0
  have g1:y6q H H w.heap w'.heap:=⟨hB.size,fun b' hb'=>hB.block b' hb',fun _ _ h=>h,fun _ _ h=>.inl h⟩
  refine⟨ai _,ρ,H,y6q.postT S g1 trivial still,?_⟩
  have e0:y1q ([]:List (Int × Int))=[]:=by simp[y1q]
  rw[e0]
  exact .imm .none [] none 0 0 0 0 (fun _=>.nilFunc) (fun x hx=>by cases hx) (ai _) (fun h=>by cases h) (fun k h=>by cases h) (fun h=>absurd rfl h) (fun j hj=>by simp[yn] at hj) (fun j d hd=>by simp[yn] at hd)
 ·have hfl:(yn ((y1q ks).map fun p=>D.agg [.int .i64 p.1,.int .i64 p.2])).length=ks.length*2:=by
   rw[zfq]
   have:∀ l:List (Int × Int),(l.flatMap fun p=>[D.int .i64 p.1,.int .i64 p.2]).length=l.length*2:=by
    intro l
    induction l with
    |nil=>rfl
    |cons p l ih=>rw[bB,ax,ih,aF];simp;omega
   rw[this,plen]
  have hcl:∀ j,j<ks.length*2->∃ u,((y1q ks).flatMap y62)[j]? = some u/\cellOf w'.heap blk j=some u:=fun j hj=>by
   have:j<((y1q ks).flatMap y62).length:=by rw[zpp,plen];exact hj
   have h1:=ae this
   exact⟨_,h1,by rw[<- cell?_eq];exact hcells j _ h1⟩
  have g1:y6q H (fun b o=>H b o\/(b=blk/\o<ks.length*2)) w.heap w'.heap:=⟨hB.size,fun b' hb'=>hB.block b' hb',fun _ _ h=>.inl h,fun b o h=>by
   rcases h with h | ⟨rfl,ho⟩
   ·exact .inl h
   ·obtain⟨u,_,hu⟩:=hcl o ho
    exact .inr ⟨hblk,z3q hu⟩⟩
  refine⟨ai _,ρ,_,y6q.postT S g1 trivial still,?_⟩
  have hel:((y1q ks).map fun p=>D.agg [.int .i64 p.1,.int .i64 p.2]).length=ks.length:=by rw[List.length_map,plen]
  have hrep:=Rep.imm (φ:=F) (ρ:=ρ) (H:=fun b o=>H b o\/(b=blk/\o<ks.length*2)) (hp:=w'.heap) .none ((y1q ks).map fun p=>D.agg [.int .i64 p.1,.int .i64 p.2]) (some ⟨blk,0,none⟩) cap blk 0 2 (fun j=>(cellOf w'.heap blk j).getD .nilFunc)
   (fun x hx=>by obtain⟨p,_,rfl⟩:=aV.1 hx;exact⟨rfl,rfl⟩) (by rw[hel];exact hcap) (fun h=>by cases h) (fun k h=>by cases h) (fun _=>rfl)
   (fun j hj=>by
    rw[hfl] at hj
    obtain⟨u,_,hu⟩:=hcl j hj
    refine⟨.inr ⟨rfl,by omega⟩,?_⟩
    rw[bD,hu];rfl)
   (fun j d hd=>by
    have hj:j<ks.length*2:=by rw[<- hfl];exact(ac.1 hd).1
    rw[zfq] at hd
    obtain⟨n,e1,e2⟩:=zmm hd
    obtain⟨u,h1,h2⟩:=hcl j hj
    rw[e2] at h1
    rw[h2,e1]
    simp only[aa] at h1
    rw[<- h1]
    exact .int _ _)
  rw[hel] at hrep
  exact hrep
end
end Dv
