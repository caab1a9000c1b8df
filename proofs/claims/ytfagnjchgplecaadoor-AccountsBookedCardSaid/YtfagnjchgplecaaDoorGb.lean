/- Texts that a proof of this claim uses, joined: Lw.W223, Lw.W224, Lw.W225, Lw.W241, Lw.W242, Lw.W243, Lw.W244, Lw.S41, Lw.Ty, Lw.W226, Lw.W227, Lw.W228, Lw.W245, Lw.W246, Lw.W2, Lw.W3, Lw.W4, Lw.W5, Lw.W6, Lw.W7, Lw.W247, Lw.W248, Lw.W249, Lw.W250, Lw.W251, Lw.W252, Lw.W253. -/
import Derived.Test.YtfagnjchgplecaaDoorGa
import Derived.Test.YtfagnjchgplecaaDoorLwa
import Derived.Test.YtfagnjchgplecaaDoorDvd
import Derived.Test.YtfagnjchgplecaaDoorWa
set_option linter.all false
open Bool renaming and_eq_true->aj,beq_eq_decide_eq->jG,not_eq_true->kZ
open Classical renaming byContradiction->dG
open Decidable renaming not_not->gt
open Go.IntKind renaming i64->aA,u8->gF
open Int renaming le_refl->n5
open List renaming all_eq_true->ay,append_assoc->bC,append_nil->bW,cons_append->aO,drop_eq_getElem_cons->bJ,drop_length->cW,drop_zero->cA,filter_append->kr,filter_cons->fD,getElem?_append_left->ax,getElem?_eq_getElem->ae,getElem?_eq_some_iff->ac,getElem_mem->aL,length->cB,length_append->av,length_cons->az,length_filter_le->gU,length_map->aF,length_nil->aY,length_set->bp,length_take->aW,map_append->bD,map_cons->aq,map_nil->aQ,map_take->mr,mem_append->aN,mem_cons->aw,mem_filter->eC,mem_flatMap->bz,mem_map->aS,nil_append->bj,not_mem_nil->eY,pairwise_cons->ca,replicate->af,take_append_drop->bo,take_length->aZ,take_of_length_le->bq,take_succ_cons->dT,take_succ_eq_append_getElem->aT,take_zero->jF
open List.Pairwise renaming imp_of_mem->nb
open List.cons renaming injEq->bi
open Nat renaming eq_zero_or_pos->cU,le_refl->ah,lt_succ_iff_lt_or_eq->f9,zero_le->cX
open Option.some renaming injEq->aa
open Prod.mk renaming injEq->ao
open UInt8 renaming ofNat->bS
set_option maxHeartbeats 16000000
namespace Dv
attribute [local simp] af depth dCell dUse dInts dChoice dVar dProb tStart addO Ret
attribute [local congr] z5j z5o z41 z2z z2e z42 z2a


def pAcc (p:Int × Int):D:=dAcc p.1 p.2
abbrev dAccs (l:List (Int × Int)):D:=.imm .none (l.map pAcc)
theorem zap {sz:Nat} {rest:List D}:∀ (els:List D),(∀ x,x ∈ els->x.cellsL.length=sz/\ofCells true x.cellsL=some x)->chunk sz true els.length (flat els++rest)=some els
 | [],_=>rfl
 | x::els,h=>by
  obtain ⟨h1,h2⟩:=h x (by simp)
  have ih:=zap (rest:=rest) els fun y hy=>h y (by simp [hy])
  have ht:=z33 x.cellsL (flat els++rest) 0 [] rfl
  rw [bj,h1] at ht
  rw [az,chunk,z18,bC,ht]
  simp only [h2]
  rw [show (x.cellsL++(flat els++rest)).drop sz=flat els++rest from by rw [<- h1];simp,ih]
theorem zf9:∀ (l:List (Int × Int)),flat (l.map pAcc)=unpairs l
 | []=>rfl
 | p::l=>by rw [aq,z18,zf9 l];rfl
theorem zrv {X:List Obj} {q n:Nat} {L:List (Int × Int)} {gr:Bool} {cs:List D} (h:At X q (.cells cs)) (hc:cs.take (L.length*2)=unpairs L):frz X (n+3) (.sl q 0 L.length 2 true gr)=some (dAccs L):=by
 have hr:rowOf X q=some cs:=by unfold rowOf;rw [h.eq]
 have hcs:cs=flat (L.map pAcc)++cs.drop (L.length*2):=by rw [zf9,<- hc,bo]
 have hch:=zap (sz:=2) (rest:=cs.drop (L.length*2)) (L.map pAcc) (fun x hx=>by obtain ⟨p,_,rfl⟩:=aS.1 hx;exact ⟨rfl,rfl⟩)
 rw [<- hcs,aF] at hch
 show (match rowOf X q with | some cs=>(match chunk 2 true L.length (cs.drop 0) with | some els=>(frzL (frz X (n+2)) els).map (D.imm .none) | none=>none) | none=>none)=_
 rw [hr]
 simp only [cA]
 rw [hch]
 simp only []
 rw [show frzL (frz X (n+2)) (L.map pAcc)=some (L.map pAcc) from z1a fun _ _=>rfl]
 rfl

theorem s363n (hp:List Obj):runS E (dL E) 363 [.imm .exact []] hp=some (.imm .exact [],hp):=by
 have:∃ d hp',runS E (dL E) 363 [.imm .exact []] hp=some (d,hp')/\(d=.imm .exact []/\hp'=hp):=by
  refine z2n c363 (args:=[.imm .exact []]) (hp:=hp) (R:=fun d hp'=>d=.imm .exact []/\hp'=hp) (by simp) ?_
  simp [t363,n363]
 obtain ⟨d,hp',e,rfl,rfl⟩:=this
 exact e

def AccAt (f:Nat) (H:List Obj) (acc:List (Int × Int)) (d:D):Prop:=
 (acc=[]/\d=.imm .exact []) \/ ∃ k,d=.sl k 0 acc.length 2 true true/\2<=k/\k ≠ f/\At H k (.cells (unpairs acc))
theorem AccAt.app {f:Nat} {H r:List Obj} {acc:List (Int × Int)} {d:D} (h:AccAt f H acc d):AccAt f (H++r) acc d:=by
 rcases h with h | ⟨k,h1,h2,h3,h4⟩
 ·exact .inl h
 ·exact .inr ⟨k,h1,h2,h3,h4.app⟩
theorem AccAt.set {f j:Nat} {H:List Obj} {o:Obj} {acc:List (Int × Int)} {d:D} (h:AccAt f H acc d) (hj:j<2):AccAt f (H.set j o) acc d:=by
 rcases h with h | ⟨k,h1,h2,h3,h4⟩
 ·exact .inl h
 ·exact .inr ⟨k,h1,h2,h3,h4.ne (by omega)⟩
theorem AccAt.own {f:Nat} {H r:List Obj} {acc:List (Int × Int)} {d:D} (h:AccAt f H acc d):AccAt H.length (H++r) acc d:=by
 rcases h with h | ⟨k,h1,h2,h3,h4⟩
 ·exact .inl h
 ·exact .inr ⟨k,h1,h2,by have:=h4.lt;omega,h4.app⟩

theorem ztb {f:Nat} {H:List Obj} {acc:List (Int × Int)} {d:D} {a b:Int} (h:AccAt f H acc d) (hl:acc.length<=1000000) (hf:f<H.length) (h2:2<=H.length) :
  ∃ d' H',appendG E H 67 67 d (.imm .exact [dAcc a b])=some (d',H')/\AccAt f H' (acc++[(a,b)]) d'/\d'.storable=true/\d'.cellsL=[d'] /\ ∀ j o,j<2\/j=f->At H j o->At H' j o:=by
 have hlo:listOf H 2 true (.imm .exact [dAcc a b])=some [dAcc a b]:=rfl
 have e67:(E.ty 67).k=.slice 65:=rfl
 rcases h with ⟨rfl,rfl⟩ | ⟨k,rfl,hk,hkf,hA⟩
 ·refine ⟨.sl H.length 0 1 2 true true,H++[.cells (unpairs [(a,b)])],?_,.inr ⟨H.length,rfl,by omega,by omega,by simp [At]⟩,rfl,rfl,fun j o _ a=>a.app⟩
  have h5:(0+1)*((E.ty 65).bytes+1)<=maxBytes/\(E.ty 65).bytes<=65536/\(zeroE E 65).isSome=true/\fitsE (E.ty 65).size ([]:List D)=true:=⟨by decide,by decide,rfl,rfl⟩
  unfold appendG
  simp only [e67]
  rw [show listOf H (E.ty 65).size (E.ty 65).ag (.imm .exact [dAcc a b])=some [dAcc a b] from hlo]
  simp only [az,aY]
  rw [if_neg (by simp),if_pos h5]
  rfl
 ·have hb:(E.ty 65).bytes=16:=rfl
  refine ⟨.sl H.length 0 (acc.length+1) 2 true true,H.set k .dead++[.cells (unpairs (acc++[(a,b)]))],?_,.inr ⟨H.length,by rw [av];rfl,by omega,by omega,by simp [At]⟩,rfl,rfl,fun j o hj a=>(a.ne (by omega)).app⟩
  have h5:(acc.length+1)*((E.ty 65).bytes+1)<=maxBytes/\(E.ty 65).bytes<=65536/\(zeroE E 65).isSome=true/\2=(E.ty 65).size/\(unpairs acc).length=acc.length*2:=⟨by rw [hb];simp [maxBytes];omega,by decide,rfl,rfl,z2q acc⟩
  unfold appendG
  simp only [e67]
  rw [show listOf H (E.ty 65).size (E.ty 65).ag (.imm .exact [dAcc a b])=some [dAcc a b] from hlo,hA.eq]
  simp only [az,aY]
  rw [if_neg (by simp),if_pos h5,z4u]
  rfl

def accOf (x:Int × Ent):Int × Int:=(x.2.kind,x.2.idx)
theorem zc8:∀ (l:List Pst),(itemsL l).map accOf=accs l
 | []=>rfl
 | p::l=>by
  have ih:=zc8 l
  rw [z4k,bD,ih,List.map_map]
  rfl

def AccRow (H:List Obj) (A:List (Int × Int)) (d:D):Prop:=
 (A=[]/\d=.imm .exact []) \/ ∃ k cs,d=.sl k 0 A.length 2 true true/\At H k (.cells cs)/\cs.take (A.length*2)=unpairs A

theorem s325 (l:List Pst) (ok:OkPs l) (hN:entN l<=1000000):∃ d hp',runS E (dL E) 325 [dPsts l] []=some (d,hp')/\AccRow hp' (accL l) d:=by
 have e359:=r359 l
 refine z2n c325 (R:=fun d hp'=>AccRow hp' (accL l) d) (by simp) ?_
 obtain ⟨AS,hAS⟩:∃ AS,AS=accs l:=⟨_,rfl⟩
 have hasl:AS.length=entN l:=by rw [hAS];exact zdt l
 have hLs:accL l=cmpct (psort AS):=by rw [hAS];rfl
 rw [hLs]
 simp [t325,n325,z7,e359]
 refine ⟨380,_,rfl,?_⟩
 intro L hL hcb
 obtain ⟨J,hJ⟩:∃ J:Nat->List (Int × Ent)->List Obj->Prop,J=fun f rem hp'=>2<=f /\ ∃ acc d,At hp' 0 (.cells [d])/\At hp' 1 (L false none)/\acc++rem.map accOf=AS/\AccAt f hp' acc d:=⟨_,rfl⟩
 have key:=i380 l ok 1 J (fun _=>False) (by
   rw [hJ]
   rintro f rem hp' r ⟨hf,acc,d,a1,a2,a3,a4⟩
   exact ⟨hf,acc,d,a1.app,a2.app,a3,a4.app⟩) (by
   rw [hJ]
   rintro f rem hp' r ⟨hf,acc,d,a1,a2,a3,a4⟩
   exact ⟨by have:=a2.lt;omega,acc,d,a1.app,a2.app,a3,a4.own⟩) (by
   intro f x rem hp1 o hj ho
   rw [hJ] at hj
   obtain ⟨hf,acc,d,a1,a2,a3,a4⟩:=hj
   have l1:=a2.lt
   obtain ⟨mi,⟨kd,ix,am⟩⟩:=x
   have hal:acc.length<=1000000:=by
    have:=congrArg cB a3
    rw [av] at this
    omega
   obtain ⟨H1,hH1⟩:∃ H1,H1=hp1.set 1 (L true none):=⟨_,rfl⟩
   have b0:At H1 0 (.cells [d]):=by rw [hH1];exact a1.ne (by omega)
   have b1:At H1 1 (L true none):=by rw [hH1];exact At.self l1
   have bf:At H1 f o:=by rw [hH1];exact ho.ne (by omega)
   have b4:AccAt f H1 acc d:=by rw [hH1];exact a4.set (by omega)
   have l0:=b0.lt
   have lf:=bf.lt
   obtain ⟨t,hp2,e1,e2⟩:=hcb [dI mi,dEnt ⟨kd,ix,am⟩] hp1 (fun t hp'=>t=true/\J f rem hp'/\At hp' f o) rfl a2 (by
    rw [show [Obj.cells [D.imm Spare.exact []]].length=1 from rfl]
    have y2:∀ r:List Obj,(hp1++r)[1]? = some (L false none):=fun r=>a2.app
    have y6:∀ r:List Obj,(hp1++r).set 1 (L true none)=H1++r:=fun r=>by rw [z1r l1,hH1]
    have y7:hp1.length=H1.length:=by rw [hH1,bp]
    have y0:∀ r:List Obj,(H1++r)[0]? = some (.cells [d]):=fun r=>b0.app
    have hda:d.atom=true:=by rcases a4 with ⟨_,rfl⟩ | ⟨k,rfl,_⟩ <;> rfl
    obtain ⟨d',H',g1,g2,g3,g4,g5⟩:=ztb (a:=kd) (b:=ix) (b4.app (r:=[.cells [dI kd,dI ix,dI am]])) hal (by rw [av];omega) (by rw [av];omega)
    have c0:At H' 0 (.cells [d]):=g5 0 _ (.inl (by omega)) b0.app
    have c1:At H' 1 (L true none):=g5 1 _ (.inl (by omega)) b1.app
    have cf:At H' f o:=g5 f _ (.inr rfl) bf.app
    have c10:∀ o,(H'.set 0 o)[1]? = some (L true none):=fun o=>c1.ne (by omega)
    have fin:J f rem ((H'.set 0 (.cells [d'])).set 1 (L false none))/\At ((H'.set 0 (.cells [d'])).set 1 (L false none)) f o:=by
     have k0:=c0.lt
     have k1:=c1.lt
     rw [hJ]
     refine ⟨⟨hf,acc++[(kd,ix)],d',(At.self k0).ne (by omega),At.self (by rw [bp];exact k1),by rw [<- a3];simp [accOf],(g2.set (by omega)).set (by omega)⟩,(cf.ne (by omega)).ne (by omega)⟩
    simp [setAll,↓y2,↓y6,y7,↓y0,hda,g1,g3,g4,c0.eq,↓c10]
    exact fin)
   exact ⟨t,hp2,e1,fun _=>e2.2,fun h=>by rw [e2.1] at h;cases h⟩) (hp:=[.cells [.imm .exact []],L false none]) (f0:=2) (by
   rw [hJ]
   exact ⟨ah _,[],.imm .exact [],rfl,rfl,by rw [zc8,hAS];rfl,.inl ⟨rfl,rfl⟩⟩)
 obtain ⟨d,hp',h1,h2⟩:=key
 rcases h2 with ⟨f,h2⟩ | h2
 ·rw [hJ] at h2
  obtain ⟨_,acc,dd,a1,a2,a3,a4⟩:=h2
  rw [aQ,bW] at a3
  subst a3
  refine ⟨d,hp',h1,.inl ⟨a2,?_⟩⟩
  have hal:acc.length<=1000000:=by omega
  obtain ⟨H2,hH2⟩:∃ H2,H2=hp'.set 1 Obj.dead:=⟨_,rfl⟩
  have b0:At H2 0 (.cells [dd]):=by rw [hH2];exact a1.ne (by omega)
  have b4:AccAt f H2 acc dd:=by rw [hH2];exact a4.set (by omega)
  have l0:=b0.lt
  rcases b4 with ⟨rfl,rfl⟩ | ⟨k,rfl,hk2,hkf,b4⟩
  ·have e1:=s361n (hp:=H2) (k:=362) (.inl rfl)
   have e2:=s363n H2
   have c0:∀ o,(H2.set 0 o)[0]? = some o:=fun o=>At.self l0
   simp [<- hH2,b0.eq,e1,e2,noMark,↓c0]
   exact .inl ⟨by simp [psort,cmpct],rfl⟩
  ·have e1:=s361 (k:=362) (gr:=true) (ag:=true) (.inl rfl) b4 hal
   obtain ⟨H3,hH3⟩:∃ H3,H3=H2.set k (.cells (unpairs (psort acc))):=⟨_,rfl⟩
   have g0:At H3 0 (.cells [.sl k 0 acc.length 2 true true]):=by rw [hH3];exact b0.ne (by omega)
   have g4:At H3 k (.cells (unpairs (psort acc))):=by rw [hH3];exact At.self b4.lt
   obtain ⟨d',H4,e2,cs,rfl,f4,f5,K⟩:=s363 g4 (by rw [z2o];exact hal)
   rw [z2o] at e2
   have f0:=K.2 0 _ (by omega) g0
   have c0:∀ o,(H4.set 0 o)[0]? = some o:=fun o=>At.self f0.lt
   simp [<- hH2,b0.eq,e1,<- hH3,g0.eq,e2,f0.eq,noMark,↓c0]
   exact .inr ⟨k,cs,rfl,f4.ne (by omega),f5⟩
 ·exact h2.elim


theorem r325 (l:List Pst) (ok:OkPs l) (hN:entN l<=1000000):runP E (dL E) 325 [dPsts l]=some (dAccs (accL l)):=by
 obtain ⟨d,hp',e,h⟩:=s325 l ok hN
 have hk:E.keep 325=false:=rfl
 unfold runP
 simp only [e,hk]
 show frz hp' 12 d=_
 rcases h with ⟨h1,rfl⟩ | ⟨k,cs,rfl,h2,h3⟩
 ·rw [h1];rfl
 ·exact zrv (n:=9) h2 h3

end Dv

namespace Dv

theorem zef:∀ {a b:List (Int × Int)},a.Perm b->a.Pairwise (fun x y=>pltB y x=false)->b.Pairwise (fun x y=>pltB y x=false)->a=b
 | [],b,hp,_,_=>by rw [List.nil_perm.1 hp]
 | x::a,[],hp,_,_=>by simp at hp
 | x::a,y::b,hp,ha,hb=>by
  obtain ⟨a1,a2⟩:=ca.1 ha
  obtain ⟨b1,b2⟩:=ca.1 hb
  have hxy:x=y:=by
   have h1:x ∈ y::b:=hp.mem_iff.1 (by simp)
   have h2:y ∈ x::a:=hp.mem_iff.2 (by simp)
   rcases aw.1 h1 with h1 | h1
   ·exact h1
   ·rcases aw.1 h2 with h2 | h2
    ·exact h2.symm
    ·have c1:=b1 x h1
     have c2:=a1 y h2
     rcases z52 c2 with h | h
     ·exact h
     ·rw [h] at c1;simp at c1
  subst hxy
  rw [zef ((List.perm_cons x).1 hp) a2 b2]
end Dv

namespace Dv
attribute [local simp] af depth dCell dUse dInts dChoice dVar dProb tStart addO Ret
attribute [local congr] z5j z5o z41 z2z z2e z42 z2a


def killS:Spare->List Obj->List Obj
 | .tok q,h=>h.set q .dead
 | _,h=>h
theorem z73 {sp:Spare} {h:List Obj}:(killS sp h).length=h.length:=by
 unfold killS;split <;> simp
def RoomS (h:List Obj) (sp:Spare) (n sz:Nat):Prop:=sp=.exact \/ ∃ k,sp=.tok k/\At h k (.tok (n*sz) sz)
theorem RoomS.app {h r:List Obj} {sp:Spare} {n sz:Nat} (R:RoomS h sp n sz):RoomS (h++r) sp n sz:=by
 rcases R with R | ⟨k,R,a⟩
 ·exact .inl R
 ·exact .inr ⟨k,R,a.app⟩
theorem zf2 {h r:List Obj} {sp:Spare} {n sz:Nat} (R:RoomS h sp n sz):killS sp (h++r)=killS sp h++r:=by
 rcases R with rfl | ⟨k,rfl,a⟩
 ·rfl
 ·exact z1r a.lt
theorem zrg {h:List Obj} {sp:Spare} {j:Nat} {o:Obj} (a:At h j o) (hj:∀ k,sp=.tok k->k ≠ j):At (killS sp h) j o:=by
 cases sp with
 | tok k=>exact a.ne (hj k rfl)
 | exact=>exact a
 | none=>exact a
theorem zfn {hp:List Obj} {id t e sz:Nat} {sp sp':Spare} {els new:List D} (hk:(E.ty t).k=.slice e) (hs:(E.ty e).size=sz) (hl:listOf hp (E.ty e).size (E.ty e).ag (.imm sp' new)=some new) (hap:appOk E e els new) (R:RoomS hp sp els.length sz) :
  app0 E hp id t t (.imm sp els) (.imm sp' new)=some (.imm (.tok id) (els++new),addO (killS sp hp) id (.tok ((els.length+new.length)*sz) sz)):=by
 rw [hs] at hl
 rcases R with rfl | ⟨k,rfl,a⟩
 ·rw [z1f]
  simp only [hk,hl,z8,hs]
  rw [if_pos hap]
  rfl
 ·rw [z1u]
  simp only [hk,hl,z8,hs]
  rw [if_pos hap,a.eq,zch,z8,if_pos ⟨rfl,rfl⟩]
  rfl
theorem zbs {hp:List Obj} {sp:Spare} {sz:Nat} {ag:Bool} {els:List D} (h:∀ x,x ∈ els->x.storable=true/\x.cellsL.length=sz):listOf hp sz ag (.imm sp els)=some els:=by
 simp only [listOf]
 rw [if_pos (by
  rw [ay]
  intro x hx
  rw [(h x hx).1,(h x hx).2];simp)]
theorem ziz {sz:Nat} {els:List D} (h:∀ x,x ∈ els->x.storable=true/\x.cellsL.length=sz):fitsE sz els=true:=by
 unfold fitsE
 rw [ay]
 intro x hx
 rw [(h x hx).1,(h x hx).2];simp
theorem zj0 {l:List Ent}:∀ x,x ∈ l.map dEnt->x.storable=true/\x.cellsL.length=3:=fun x hx=>by
 obtain ⟨s,_,rfl⟩:=aS.1 hx
 exact ⟨rfl,rfl⟩
theorem zq0 {hp:List Obj} {id:Nat} {sp sp':Spare} {l m:List Ent} (hl:l.length+m.length<=10000000) (R:RoomS hp sp l.length 3) :
  app0 E hp id 66 66 (.imm sp (l.map dEnt)) (.imm sp' (m.map dEnt))=some (.imm (.tok id) (l.map dEnt++m.map dEnt),addO (killS sp hp) id (.tok ((l.length+m.length)*3) 3)):=by
 have:=zfn (hp:=hp) (id:=id) (t:=66) (e:=72) (sz:=3) (sp:=sp) (sp':=sp') (els:=l.map dEnt) (new:=m.map dEnt) rfl rfl (zbs zj0) ⟨by
  rw [aF,aF,show (E.ty 72).bytes=24 from rfl];simp [maxBytes];omega,by decide,rfl,ziz zj0⟩ (by rw [aF];exact R)
 rw [aF,aF] at this
 exact this
theorem zyl {h r:List Obj} {j:Nat} {sp:Spare} {l:List Ent} {a b c:Int} (hl:l.length<=1000000) (R:RoomS h sp l.length 3) (hj:j<r.length) :
  app0 E (h++r) (h.length+j) 66 66 (.imm sp (l.map dEnt)) (.imm .exact [.agg [dI a,dI b,dI c]])=some (.imm (.tok (h.length+j)) (l.map dEnt++[dEnt ⟨a,b,c⟩]),killS sp h++r.set j (.tok ((l.length+1)*3) 3)):=by
 have e:=zq0 (hp:=h++r) (id:=h.length+j) (sp:=sp) (sp':=.exact) (l:=l) (m:=[⟨a,b,c⟩]) (by simp;omega) R.app
 rw [zf2 R] at e
 have e2:addO (killS sp h++r) (h.length+j) (.tok ((l.length+1)*3) 3)=killS sp h++r.set j (.tok ((l.length+1)*3) 3):=by
  unfold addO
  rw [if_pos (by rw [av,z73];omega)]
  have:=zco (hp:=killS sp h) (r:=r) (k:=j) (x:=.tok ((l.length+1)*3) 3)
  rwa [z73] at this
 rw [<- e2]
 exact e

theorem RoomS.ne {h:List Obj} {sp:Spare} {n sz q:Nat} {o:Obj} (R:RoomS h sp n sz) (B:At h q o) (ho:∀ u s,o ≠ .tok u s):∀ k,sp=.tok k->k ≠ q:=by
 intro k hk e
 subst e
 rcases R with rfl | ⟨k',rfl,a⟩
 ·cases hk
 ·cases hk
  have:=a.eq.symm.trans B.eq
  cases this
  exact ho _ _ rfl
theorem tokAt {h r:List Obj} {sp:Spare} {j u s:Nat} (hr:r[j]? = some (.tok u s)):At (killS sp h++r) (h.length+j) (.tok u s):=by
 have:=zd8 (hp:=killS sp h) (r:=r) (k:=j)
 rw [z73] at this
 unfold At
 rw [this];exact hr
theorem zem {h r:List Obj} {sp:Spare} {n sz j:Nat} (hr:r[j]? = some (.tok (n*sz) sz)):RoomS (killS sp h++r) (.tok (h.length+j)) n sz:=.inr ⟨_,rfl,tokAt hr⟩

def eMap (m:Sums):List (D × D):=m.map fun e=>(dAcc e.1.1 e.1.2,dI e.2)
theorem zoz {a b:Key}:(dAcc a.1 a.2).eqb (dAcc b.1 b.2)=some (decide (a=b)):=by
 have h:(dAcc a.1 a.2).eqb (dAcc b.1 b.2)=some ((a.1 == b.1) && ((a.2 == b.2) && true)):=rfl
 rw [h]
 obtain ⟨a1,a2⟩:=a
 obtain ⟨b1,b2⟩:=b
 simp only [aa,ao,Bool.and_true]
 by_cases h1:a1=b1 <;> by_cases h2:a2=b2 <;> simp [h1,h2]
theorem ztw {a:Key}:∀ {m:Sums},mapFind (dAcc a.1 a.2) (eMap m)=some ((lookS a m).map dI)
 | []=>rfl
 | e::r=>by
  have ih:=ztw (a:=a) (m:=r)
  have hc:eMap (e::r)=(dAcc e.1.1 e.1.2,dI e.2)::eMap r:=rfl
  rw [hc,mapFind]
  simp only [zoz]
  unfold lookS
  by_cases h:a=e.1
  ·simp [h]
  ·simp only [h,decide_false,if_false];exact ih
theorem zxo {a:Key} {n:Int}:∀ {m:Sums},mapPut (dAcc a.1 a.2) (dI n) (eMap m)=some (eMap (putM a n m))
 | []=>rfl
 | e::r=>by
  have ih:=zxo (a:=a) (n:=n) (m:=r)
  have hc:eMap (e::r)=(dAcc e.1.1 e.1.2,dI e.2)::eMap r:=rfl
  rw [hc,mapPut]
  simp only [zoz]
  unfold putM
  by_cases h:a=e.1
  ·simp only [h,decide_true,if_true];rfl
  ·simp only [h,decide_false,if_false,ih];rfl
theorem lk75 {H:List Obj} {q:Nat} {m:Sums} {a b:Int} (A:At H q (.map (eMap m))):lookupD E H 75 (.map (some q)) (dAcc a b) false=some (dI (lookZ (a,b) m)):=by
 have hk:(E.ty 75).k=.map 65 2:=rfl
 have hz:zeroE E 2=some (dI 0):=rfl
 have hf:mapFind (dAcc a b) (eMap m)=some ((lookS (a,b) m).map dI):=ztw (a:=(a,b))
 have ho:keyOk E 65 (dAcc a b)=true:=rfl
 unfold lookupD
 simp only [hk,ho,if_true,A.eq,hf,hz]
 unfold lookZ
 cases lookS (a,b) m <;> rfl
theorem ms75 {H:List Obj} {q:Nat} {m:Sums} {a b n:Int} (A:At H q (.map (eMap m))):mapsetD E H 75 (.map (some q)) (dAcc a b) (dI n)=some (H.set q (.map (eMap (putM (a,b) n m)))):=by
 have hk:(E.ty 75).k=.map 65 2:=rfl
 have hf:mapPut (dAcc a b) (dI n) (eMap m)=some (eMap (putM (a,b) n m)):=zxo (a:=(a,b))
 have ho:keyOk E 65 (dAcc a b)=true:=rfl
 unfold mapsetD
 simp only [hk,A.eq,hf]
 rw [if_pos ⟨ho,rfl,rfl⟩]
 rfl
theorem zii:∀ {m:Sums},keysOf (eMap m)=some (keysM m)
 | []=>rfl
 | e::r=>by
  have ih:=zii (m:=r)
  have hc:eMap (e::r)=(.agg [.int .i64 e.1.1,.int .i64 e.1.2],dI e.2)::eMap r:=rfl
  rw [hc,keysOf,ih]
  rfl

theorem s387 (d:D) (hp:List Obj) (hd:d.storable=true) (hc:d.cellsL=[d]) (hm:isMark d=false):runS E (dL E) 387 [d] hp=some (.fn 409 [.iptr [d]],hp):=by
 obtain ⟨x,y,e,rfl,rfl⟩:∃ x y,runS E (dL E) 387 [d] hp=some (x,y)/\(x=.fn 409 [.iptr [d]]/\y=hp):=by
  refine z2n c387 (R:=fun x y=>x=.fn 409 [.iptr [d]]/\y=hp) (by simp) ?_
  simp [t387,n387,hd,hc,hm]
 exact e
theorem s388 {hp:List Obj} {q:Nat} {m:Sums} (A:At hp q (.map (eMap m))) (hl:m.length<=1000000) :
  runS E (dL E) (388) [.fn 409 [.iptr [.map (some q)]],.fn 386 []] hp=some (dAccs (psort (keysM m)),hp):=by
 have e:E.fn (388)=some f388:=rfl
 have e2:E.mp (388)=false:=rfl
 have e4:E.prim 1=keysD [409] [386]:=rfl
 have e5:keysD [409] [386] [.fn 409 [.iptr [.map (some q)]],.fn 386 []] hp=some (dAccs (psort (keysM m)),hp):=by
  unfold keysD
  have hc:([409].contains 409 && [386].contains 386)=true:=rfl
  simp only [hc,if_true,A.eq,zii]
  rw [if_pos (by simp [keysM];omega)]
  rfl
 unfold runS
 simp only [e,e2,f388,startF,z8i,z5d,zfg,z4n,z60,finishQ]
 simp [stepOps,stepOp,wantedD,putO,DOp.fin,finOp,pureOp,getO,gOf,z60,finishF,resD,applyEf,addO,z4n,z7y,isMark,e4,e5,oneRes]

theorem zp2 {m:Sums} {l:List Key} {i:Nat} (h:i<l.length):entK m (l.take (i+1))=if lookZ l[i] m=0 then entK m (l.take i) else entK m (l.take i)++[⟨l[i].1,l[i].2,lookZ l[i] m⟩]:=by
 have key:∀ (a:List Key) (x:Key),entK m (a++[x])=if lookZ x m=0 then entK m a else entK m a++[⟨x.1,x.2,lookZ x m⟩]:=by
  intro a x
  induction a with
  | nil=>simp only [bj,entK]
  | cons y a ih=>
   simp only [aO,entK,ih]
   split <;> split <;> rfl
 rw [aT h,key]
theorem zsb {m:Sums} {l:List Key}:(entK m l).length<=l.length:=by
 have:=(z7b (m:=m) (l:=l)).length_le
 simpa using this

theorem s370 {hp:List Obj} {q:Nat} {m:Sums} (A:At hp q (.map (eMap m))) (hl:m.length<=1000000) :
  ∃ d hp',runS E (dL E) 370 [.map (some q)] hp=some (d,hp') /\ ∃ sp,d=.imm sp ((entM m).map dEnt):=by
 refine z2n c370 (args:=[.map (some q)]) (hp:=hp) (R:=fun d hp'=>∃ sp,d=.imm sp ((entM m).map dEnt)) (by simp) ?_
 obtain ⟨KS,hKS⟩:∃ KS,KS=psort (keysM m):=⟨_,rfl⟩
 have hkl:KS.length<=1000000:=by rw [hKS,z2o];simp [keysM];omega
 have e1:=s387 (.map (some q)) hp rfl rfl rfl
 have e2:=s388 A hl
 rw [<- hKS] at e2
 have hM:entM m=entK m KS:=by rw [hKS];rfl
 rw [hM]
 simp [t370,n370,e1,e2,noMark]
 refine z10 KS.length (fun i env h=>∃ (x3 x8 x9 x10 x11:D) (sp:Spare),env=[.map (some q),.imm sp ((entK m (KS.take i)).map dEnt),.fn 386 [],x3,.fn 409 [.iptr [.map (some q)]],dAccs KS,dI KS.length,dI i,x8,x9,x10,x11] /\
  RoomS h sp (entK m (KS.take i)).length 3/\At h q (.map (eMap m))) 0 (by omega) ⟨_,_,_,_,_,.exact,rfl,.inl rfl,A⟩ ?_
 rintro i env h hi ⟨x3,x8,x9,x10,x11,sp,rfl,R,B⟩
 by_cases hlt:i<KS.length
 rotate_left
 ·have:i=KS.length:=by omega
  subst this
  rw [aZ]
  simp
 have hup:=zg hlt (by omega)
 have y1:=fun r:List Obj=>lk75 (a:=KS[i].1) (b:=KS[i].2) (B.app (r:=r))
 have pA:pAcc KS[i]=.agg [dI KS[i].1,dI KS[i].2]:=rfl
 have htk:=zp2 (m:=m) hlt
 have hln:=zsb (m:=m) (l:=KS.take i)
 rw [aW] at hln
 obtain ⟨L,hL⟩:∃ L,L=entK m (KS.take i):=⟨_,rfl⟩
 rw [<- hL] at htk hln R ⊢
 have y2:∀ (r:List Obj) (c:Int),8<r.length->app0 E (h++r) (h.length+1+7) 66 66 (.imm sp (L.map dEnt)) (.imm .exact [.agg [dI KS[i].1,dI KS[i].2,dI c]])=some (.imm (.tok (h.length+8)) (L.map dEnt++[dEnt ⟨KS[i].1,KS[i].2,c⟩]),killS sp h++r.set 8 (.tok ((L.length+1)*3) 3)):=fun r c hr=>zyl (by omega) R hr
 by_cases h0:lookZ KS[i] m=0
 ·have h0':lookZ (KS[i].1,KS[i].2) m=0:=h0
  rw [if_pos h0] at htk
  simp [hlt,pA,-z1k,y1,h0',hup,htk]
  exact ⟨_,_,_,_,_,_,⟨rfl,rfl,rfl,rfl,rfl,rfl⟩,R.app,B.app⟩
 ·have h0' : ¬ lookZ (KS[i].1,KS[i].2) m=0:=h0
  rw [if_neg h0] at htk
  simp [hlt,pA,-z1k,y1,h0',hup,htk,y2]
  exact ⟨_,_,_,_,_,_,⟨rfl,rfl,rfl,rfl,rfl,rfl⟩,zem rfl,(zrg B (R.ne B (by simp))).app⟩

end Dv

namespace Dv

def okT (x:Ent):Prop:=(1<=x.kind/\x.kind<=4)/\(-1<=x.idx/\x.idx<=4095)/\(-1099511627776<=x.amt/\x.amt<=1099511627776)/\x.amt ≠ 0
instance (x:Ent):Decidable (okT x):=inferInstanceAs (Decidable (_/\_))
def tgt (t:List Ent):Prop:=(∀ x,x ∈ t->okT x)/\ordE t
def allE (l:List Pst):List Ent:=l.flatMap fun p=>p.ents
def low (l:List Ent):List Ent:=l.filter fun x=>decide (x.kind<=4)
def bkN (l:List Pst) (t:List Ent):List Ent:=netE (t++negL (low (allE l)))
def bkS (l:List Pst) (m:Int) (t:List Ent):Stp:=⟨m,(l.length:Int) - 1,bkN l t⟩
open Classical in
noncomputable def boE (tg:Tag) (l:List Pst) (m:Int) (t:List Ent):Int:=
 if rdE tg l ≠ 0 then rdE tg l else if ¬ tgt t then 430 else if bkN l t=[] then 0 else postE tg l (bkS l m t)
open Classical in
noncomputable def boL (tg:Tag) (l:List Pst) (m:Int) (t:List Ent):List Pst:=
 if boE tg l m t=0 then (if bkN l t=[] then l else l++[newP tg l (bkS l m t)]) else []

theorem zho (a b:List Pst):allE (a++b)=allE a++allE b:=List.flatMap_append
theorem zkf (a b:List Ent):low (a++b)=low a++low b:=kr ..
theorem zds:∀ (l:List Pst),(allE l).length=entN l
 | []=>rfl
 | p::l=>by
  have:=zds l
  simp only [allE,List.flatMap_cons,av,entN] at this ⊢
  omega
theorem zhn {k i:Int}:∀ {l:List Ent},amtOf k i (low l)=if k<=4 then amtOf k i l else 0
 | []=>by simp [low,amtOf]
 | x::l=>by
  have ih:=zhn (k:=k) (i:=i) (l:=l)
  unfold low at ih ⊢
  rw [fD]
  by_cases h:x.kind<=4
  ·rw [if_pos (by simpa using h)]
   simp only [amtOf,ih]
   by_cases hk:k<=4
   ·simp [hk]
   ·have : ¬ (x.kind=k/\x.idx=i):=fun e=>hk (by omega)
    simp [hk,this]
  ·rw [if_neg (by simpa using h)]
   simp only [amtOf,ih]
   by_cases hk:k<=4
   ·have : ¬ (x.kind=k/\x.idx=i):=fun e=>h (by omega)
    simp [this]
   ·simp [hk]
theorem zjb {k i m:Int}:∀ {l:List Pst},(∀ p,p ∈ l->p.minute<=m)->balP k i m l=amtOf k i (allE l)
 | [],_=>rfl
 | p::l,h=>by
  have ih:=zjb (l:=l) (k:=k) (i:=i) fun q hq=>h q (by simp [hq])
  have e:allE (p::l)=p.ents++allE l:=rfl
  rw [e,z3p]
  simp only [balP]
  rw [if_pos (h p (by simp)),ih]
theorem zur {tg:Tag} {l:List Pst} (v:vld tg l):∀ p,p ∈ l->p.minute<=1440:=fun p hp=>by
 have:=(v.2.1 p hp).fm.minute;omega
theorem zhx {t:List Ent} (h:tgt t) {k i:Int} (hk : ¬ k<=4):amtOf k i t=0:=by
 refine z7f fun hm=>?_
 obtain ⟨x,hx,e⟩:=aS.1 hm
 have:=(h.1 x hx).1.2
 have e1:x.kind=k:=congrArg Prod.fst e
 omega
theorem zwl {l:List Pst} {t:List Ent} {k i:Int}:amtOf k i (bkN l t)=amtOf k i t - if k<=4 then amtOf k i (allE l) else 0:=by
 unfold bkN
 rw [zgl,z3p,zaz,zhn];omega
structure Bok (tg:Tag) (l:List Pst) (m:Int) (t:List Ent):Prop where
 v:vld tg l
 ok:tgt t
 post:bkN l t ≠ []->postE tg l (bkS l m t)=0
open Classical in
theorem z1t {tg:Tag} {l:List Pst} {m:Int} {t:List Ent}:boE tg l m t=0 ↔ Bok tg l m t:=by
 unfold boE
 constructor
 ·intro h
  split at h
  ·rename_i h1;exact absurd h h1
  ·rename_i h1
   split at h
   ·simp at h
   ·rename_i h2
    refine ⟨z12.1 (gt.1 h1),gt.1 h2,fun h3=>?_⟩
    rw [if_neg h3] at h;exact h
 ·intro ⟨h1,h2,h3⟩
  rw [if_neg (by simp [z12.2 h1]),if_neg (by simp [h2])]
  split
  ·rfl
  ·rename_i h4;exact h3 h4
theorem z5g {tg:Tag} {l:List Pst} {m:Int} {t:List Ent} (b:Bok tg l m t):boL tg l m t=if bkN l t=[] then l else l++[newP tg l (bkS l m t)]:=by
 unfold boL
 rw [if_pos (z1t.2 b)]
theorem Bok.vld {tg:Tag} {l:List Pst} {m:Int} {t:List Ent} (b:Bok tg l m t):vld tg (boL tg l m t):=by
 rw [z5g b]
 split
 ·exact b.v
 ·rename_i h;exact (zi3 (b.post h)).2.2.1
theorem Bok.len {tg:Tag} {l:List Pst} {m:Int} {t:List Ent} (b:Bok tg l m t):l.length<=(boL tg l m t).length/\(boL tg l m t).length<=l.length+1/\(boL tg l m t).take l.length=l:=by
 rw [z5g b]
 split <;> simp
theorem Bok.last {tg:Tag} {l:List Pst} {m:Int} {t:List Ent} (b:Bok tg l m t) (h:(boL tg l m t).length ≠ l.length):(boL tg l m t)[l.length]? = some (newP tg l (bkS l m t)):=by
 rw [z5g b] at h ⊢
 split
 ·rename_i h1;rw [if_pos h1] at h;exact absurd rfl h
 ·simp
theorem Bok.before {tg:Tag} {l:List Pst} {m w:Int} {t:List Ent} (b:Bok tg l m t) (h:w<m) (k i:Int):balP k i w (boL tg l m t)=balP k i w l:=by
 rw [z5g b]
 split
 ·rfl
 ·rw [zhi]
  have : ¬ (newP tg l (bkS l m t)).minute<=w:=by show ¬ m<=w;omega
  simp only [balP,if_neg this];omega
theorem Bok.all {tg:Tag} {l:List Pst} {m:Int} {t:List Ent} (b:Bok tg l m t) (k i:Int):amtOf k i (allE (boL tg l m t))=if k<=4 then amtOf k i t else amtOf k i (allE l):=by
 have e:amtOf k i (allE (boL tg l m t))=amtOf k i (allE l)+amtOf k i (bkN l t):=by
  rw [z5g b]
  split
  ·rename_i h;rw [h];simp [amtOf]
  ·rw [zho,z3p]
   have:allE [newP tg l (bkS l m t)]=bkN l t:=by simp [allE,newP,bkS]
   rw [this]
 rw [e,zwl]
 split
 ·omega
 ·rename_i hk;rw [zhx b.ok hk];omega
theorem Bok.bal {tg:Tag} {l:List Pst} {m:Int} {t:List Ent} (b:Bok tg l m t) (k i:Int):balP k i 1440 (boL tg l m t)=if k<=4 then amtOf k i t else amtOf k i (allE l):=by
 rw [zjb (zur b.vld),b.all]
theorem Bok.again {tg:Tag} {l:List Pst} {m:Int} {t:List Ent} (b:Bok tg l m t):bkN (boL tg l m t) t=[]:=by
 unfold bkN
 refine znk.2 fun k i=>?_
 rw [z3p,zaz,zhn,b.all]
 by_cases hk:k<=4
 ·rw [if_pos hk,if_pos hk];omega
 ·rw [if_neg hk,zhx b.ok hk];rfl
theorem Bok.twice {tg:Tag} {l:List Pst} {m:Int} {t:List Ent} (b:Bok tg l m t):Bok tg (boL tg l m t) m t:=⟨b.vld,b.ok,fun h=>absurd b.again h⟩
theorem Bok.twiceL {tg:Tag} {l:List Pst} {m:Int} {t:List Ent} (b:Bok tg l m t):boL tg (boL tg l m t) m t=boL tg l m t:=by
 rw [z5g b.twice,if_pos b.again]
theorem Bok.anew {tg:Tag} {l:List Pst} {m:Int} {t t':List Ent} (b:Bok tg l m t) (b':Bok tg (boL tg l m t) m t') (c:Bok tg l m t') (k i:Int) :
  balP k i 1440 (boL tg (boL tg l m t) m t')=balP k i 1440 (boL tg l m t'):=by
 rw [b'.bal,c.bal,b.all]
 split <;> rfl
theorem zpp {l:List Pst} {t:List Ent}:(bkN l t).length<=t.length+entN l:=by
 unfold bkN
 have h1:=zvi (l:=t++negL (low (allE l)))
 have h2:(low (allE l)).length<=(allE l).length:=gU ..
 rw [zds] at h2
 rw [av,zic] at h1
 omega
def amtF (k i:Int):List Ent->Int
 | []=>0
 | x::l=>if x.kind=k/\x.idx=i then x.amt else amtF k i l
theorem zq2 {k i:Int}:∀ {l:List Ent},ordE l->amtF k i l=amtOf k i l
 | [],_=>rfl
 | x::l,h=>by
  have hs:=z6m.2 h
  obtain ⟨h1,h2⟩:=z3v.1 hs
  simp only [amtF,amtOf]
  split
  ·rename_i e
   have:amtOf k i l=0:=z7f fun hm=>by
    have:=h1 _ hm
    rw [show (k,i)=keyE x from by unfold keyE;rw [e.1,e.2],z3z] at this
    cases this
   omega
  ·rw [zq2 (z6m.1 h2)];omega

def stE (l:List Pst) (k m:Int):List Ent:=((accL l).filter fun a=>decide (a.1=k)).map fun a=>⟨a.1,a.2,balP a.1 a.2 m l⟩
theorem zde {A:Type} (f:A->Int) (g:A->Int):∀ (l:List A),(∀ a,a ∈ l->1<=g a/\g a<=5) ->
  (((l.filter fun a=>decide (g a=1)).map f).sum+((l.filter fun a=>decide (g a=2)).map f).sum+((l.filter fun a=>decide (g a=3)).map f).sum+((l.filter fun a=>decide (g a=4)).map f).sum+((l.filter fun a=>decide (g a=5)).map f).sum=(l.map f).sum) /\
  ((l.filter fun a=>decide (g a=1)).length+(l.filter fun a=>decide (g a=2)).length+(l.filter fun a=>decide (g a=3)).length+(l.filter fun a=>decide (g a=4)).length+(l.filter fun a=>decide (g a=5)).length=l.length)
 | [],_=>by simp
 | x::l,h=>by
  have ih:=zde f g l fun a ha=>h a (by simp [ha])
  have hx:=h x (by simp)
  have hc:g x=1\/g x=2\/g x=3\/g x=4\/g x=5:=by omega
  rcases hc with e | e | e | e | e <;> simp [fD,e] <;> constructor <;> omega

end Dv

namespace Dv
attribute [local simp] af depth dCell dUse dInts dChoice dVar dProb tStart addO Ret
attribute [local congr] z5j z5o z41 z2z z2e z42 z2a


def wib (x a b:Int):Bool:=decide (a<=x) && decide (x<=b)
theorem zcd {x a b:Int}:wib x a b=true ↔ a<=x/\x<=b:=by unfold wib;simp
theorem r368 (x a b:Int):runP E (dL E) 368 [dI x,dI a,dI b]=some (.bool (wib x a b)):=by
 refine zj c368 (by simp) ?_
 by_cases h:a<=x <;> simp [t368,n368,wib,h]
def okB (x:Ent):Bool:=wib x.kind 1 4 && (wib x.idx (-1) 4095 && (wib x.amt (-1099511627776) 1099511627776 && !decide (x.amt=0)))
theorem zng {x:Ent}:okB x=true ↔ okT x:=by
 unfold okB okT
 simp only [aj,zcd,Bool.not_eq_true',decide_eq_false_iff_not]
def tgAt (t:List Ent) (j:Nat):Prop:=∃ x,t[j]? = some x/\okT x /\ ∀ i y,i+1=j->t[i]? = some y->ltA y x
theorem zmn {t:List Ent}:tgt t ↔ ∀ j,j<t.length->tgAt t j:=by
 constructor
 ·intro h j hj
  refine ⟨t[j],ae hj,h.1 _ (aL hj),fun i y e hy=>?_⟩
  subst e
  have hi:=(ac.1 hy)
  obtain ⟨h1,rfl⟩:=hi
  exact h.2 i hj
 ·intro h
  refine ⟨fun x hx=>?_,fun i hi=>?_⟩
  ·obtain ⟨j,hj⟩:=List.mem_iff_getElem?.1 hx
   obtain ⟨y,hy,ok,_⟩:=h j (ac.1 hj).1
   rw [hj] at hy;cases hy;exact ok
  ·obtain ⟨y,hy,_,o⟩:=h (i+1) hi
   rw [ae hi] at hy
   cases hy
   exact o i _ rfl (ae (by omega))

open Classical in
theorem r375 (t:List Ent) (hl:t.length<=1000000):runP E (dL E) 375 [.imm .none (t.map dEnt)]=some (.bool (decide (tgt t))):=by
 have e368:=r368
 refine zj c375 (by simp) ?_
 obtain ⟨B,hB⟩:∃ B,B=decide (tgt t):=⟨_,rfl⟩
 have hBf : ¬ tgt t->B=false:=fun h=>by rw [hB];simp [h]
 have hBt:tgt t->B=true:=fun h=>by rw [hB];simp [h]
 rw [<- hB]
 simp [t375,n375]
 refine z10 t.length (fun i env h=>∃ (x2 x3 x4 x5 x9 x10 x11 x12 x13 x14 x15:D) ,env=[.imm .none (t.map dEnt),.bool false,x2,x3,x4,x5,.imm .none (t.map dEnt),dI t.length,dI i,x9,x10,x11,x12,x13,x14,x15] /\ ∀ j,j<i->tgAt t j) 0 (by omega) ⟨_,_,_,_,_,_,_,_,_,_,_,rfl,fun j hj=>by omega⟩ ?_
 rintro i env h hi ⟨x2,x3,x4,x5,x9,x10,x11,x12,x13,x14,x15,rfl,ht⟩
 by_cases hlt:i<t.length
 rotate_left
 ·have:i=t.length:=by omega
  subst this
  have:=hBt (zmn.2 ht)
  simp [this]
 have hup:=zg hlt (by omega)
 obtain ⟨x,hx⟩:∃ x,x=t[i]:=⟨_,rfl⟩
 have hx2:t[i]? = some x:=by rw [hx];exact ae hlt
 have no:okB x=false->B=false:=fun h=>hBf fun h2=>by
  obtain ⟨y,hy,ok,_⟩:=zmn.1 h2 i hlt
  rw [hx2] at hy;cases hy
  rw [zng.2 ok] at h;cases h
 by_cases h1:wib x.kind 1 4=true
 rotate_left
 ·have h1:wib x.kind 1 4=false:=by simpa using h1
  have:=no (by unfold okB;rw [h1];rfl)
  simp [hlt,e368,<- hx,h1,this]
 by_cases h2:wib x.idx (-1) 4095=true
 rotate_left
 ·have h2:wib x.idx (-1) 4095=false:=by simpa using h2
  have:=no (by unfold okB;rw [h1,h2];rfl)
  simp [hlt,e368,<- hx,h1,h2,this]
 by_cases h3:wib x.amt (-1099511627776) 1099511627776=true
 rotate_left
 ·have h3:wib x.amt (-1099511627776) 1099511627776=false:=by simpa using h3
  have:=no (by unfold okB;rw [h1,h2,h3];rfl)
  simp [hlt,e368,<- hx,h1,h2,h3,this]
 by_cases h4:x.amt=0
 ·have:=no (by unfold okB;rw [h1,h2,h3,decide_eq_true h4];rfl)
  simp [hlt,e368,<- hx,h1,h2,h3,h4,this]
 have ok:okT x:=zng.1 (by unfold okB;rw [h1,h2,h3,decide_eq_false h4];rfl)
 rcases cU i with h0 | h0
 ·subst h0
  simp [hlt,e368,<- hx,h1,h2,h3,h4]
  exact ⟨rfl,x,hx2,ok,fun i y e=>by omega⟩
 ·have hw:aA.wrap ((i:Int) - 1)=((i - 1:Nat):Int):=by
   rw [zb ⟨by omega,by omega⟩];omega
  have hlt':i - 1<t.length:=by omega
  obtain ⟨y,hy⟩:∃ y,y=t[i - 1]:=⟨_,rfl⟩
  have hy2:t[i - 1]? = some y:=by rw [hy];exact ae hlt'
  have no2 : ¬ ltA y x->B=false:=fun h=>hBf fun h2=>by
   obtain ⟨x',hx',_,o⟩:=zmn.1 h2 i hlt
   rw [hx2] at hx';cases hx'
   exact h (o (i - 1) y (by omega) hy2)
  have yes:ltA y x->∀ j,j<i+1->tgAt t j:=fun h j hj=>by
   rcases Nat.lt_or_ge j i with h5 | h5
   ·exact ht j h5
   ·have:j=i:=by omega
    subst this
    refine ⟨x,hx2,ok,fun k z e hz=>?_⟩
    have:k=j - 1:=by omega
    subst this
    rw [hy2] at hz;cases hz;exact h
  by_cases ha:x.kind<y.kind
  ·have:=no2 (by unfold ltA;omega)
   simp [hlt,e368,<- hx,h1,h2,h3,h4,h0,hw,hlt',<- hy,ha,this]
  by_cases hb:y.kind=x.kind
  ·by_cases hc:x.idx<=y.idx
   ·have:=no2 (by unfold ltA;omega)
    simp [hlt,e368,<- hx,h1,h2,h3,h4,h0,hw,hlt',<- hy,ha,hb,hc,this]
   ·have:=yes (by unfold ltA;omega)
    simp [hlt,e368,<- hx,h1,h2,h3,h4,h0,hw,hlt',<- hy,ha,hb,hc,hup]
    exact this
  ·have:=yes (by unfold ltA;omega)
   simp [hlt,e368,<- hx,h1,h2,h3,h4,h0,hw,hlt',<- hy,ha,hb,hup]
   exact this

theorem zq {hp:List Obj} {n:Nat} {l:List Ent}:frzL (frz hp (n+2)) (l.map dEnt)=some (l.map dEnt):=z1a fun _ _=>rfl
noncomputable def boD (l:List Pst) (m:Int) (t:List Ent):D:=.tup [dPsts (boL tgB l m t),dI (boE tgB l m t)]

def bdE (x:Ent):Prop:=-1099511627776<=x.amt/\x.amt<=1099511627776
theorem z95 {L r F:List Ent} {x:Ent} (hF:∀ x,x ∈ F->bdE x) (hl:F.length<=2000000) (e:L++x::r=F):aA.wrap (lookZ (x.kind,x.idx) (sumsOf L [])+x.amt)=lookZ (x.kind,x.idx) (sumsOf L [])+x.amt:=by
 have h1:=z63 (k:=x.kind) (i:=x.idx) (l:=L) (m:=[])
 have h2:=zjf (k:=x.kind) (i:=x.idx) (l:=L) (B:=1099511627776) (fun y hy=>hF y (by rw [<- e];simp [hy])) (by omega)
 have h3:=hF x (by rw [<- e];simp)
 have h4:L.length<=2000000:=by
  have:=congrArg cB e
  rw [av] at this;omega
 rw [h1]
 unfold bdE at h3
 have h5:lookZ (x.kind,x.idx) []=0:=rfl
 rw [h5]
 rw [zb ⟨by omega,by omega⟩]
theorem z9c {L r F:List Ent} {x:Ent} (e:L++x::r=F):(L++[x])++r=F/\putM (x.kind,x.idx) (lookZ (x.kind,x.idx) (sumsOf L [])+x.amt) (sumsOf L [])=sumsOf (L++[x]) []:=by
 refine ⟨by rw [<- e];simp,?_⟩
 rw [zci];rfl
theorem zrc {x:Ent} {l:List Ent}:low (x::l)=if x.kind<=4 then x::low l else low l:=by
 unfold low;rw [fD];by_cases h:x.kind<=4 <;> simp [h]
theorem zgn (a b:List Ent):negL (a++b)=negL a++negL b:=bD ..
theorem znl (x:Ent) (a:List Ent):negL (x::a)=negE x::negL a:=rfl
theorem zwn {l:List Pst} {t:List Ent} (v:vld tgB l) (ht:tgt t):∀ x,x ∈ t++negL (low (allE l))->bdE x:=by
 intro x hx
 rcases aN.1 hx with hx | hx
 ·exact (ht.1 x hx).2.2.1
 ·obtain ⟨y,hy,rfl⟩:=aS.1 hx
  have hy:=(eC.1 hy).1
  obtain ⟨p,hp,hy⟩:=bz.1 hy
  have:=((v.2.1 p hp).fm.ents.ok y hy).2.2
  unfold bdE negE
  simp only
  omega
theorem zrq {l:List Pst} {t:List Ent}:(t++negL (low (allE l))).length<=t.length+entN l:=by
 have h2:(low (allE l)).length<=(allE l).length:=gU ..
 rw [zds] at h2
 rw [av,zic];omega

theorem r345 (l:List Pst) (m:Int) (t:List Ent) (ok:OkPs l) (hN:t.length+entN l<=1000000):runP E (dL E) 345 [dPsts l,dI m,.imm .none (t.map dEnt)]=some (boD l m t):=by
 have e324:=r324 l ok
 have e375:=r375 t (by omega)
 refine zj c345 (by simp) ?_
 unfold boD
 by_cases h0:rdE tgB l=0
 rotate_left
 ·have hE:boE tgB l m t=rdE tgB l:=by unfold boE;rw [if_pos h0]
  have hL:boL tgB l m t=[]:=by unfold boL;rw [if_neg (by rw [hE];exact h0)]
  rw [hE,hL]
  simp [t345,n345,z7,zq,e324,h0]
 have v:=z12.1 h0
 rw [h0] at e324
 by_cases ht:tgt t
 rotate_left
 ·have hE:boE tgB l m t=430:=by unfold boE;rw [if_neg (by simp [h0]),if_pos ht]
  have hL:boL tgB l m t=[]:=by unfold boL;rw [if_neg (by rw [hE];decide)]
  rw [hE,hL]
  simp [t345,n345,z7,zq,e324,e375,ht]
 have hl:=ok.1
 obtain ⟨F,hF⟩:∃ F,F=t++negL (low (allE l)):=⟨_,rfl⟩
 have hFb:∀ x,x ∈ F->bdE x:=by rw [hF];exact zwn v ht
 have hFl:F.length<=1000000:=by rw [hF];have:=zrq (l:=l) (t:=t);omega
 have hbk:bkN l t=netE F:=by rw [hF];rfl
 obtain ⟨X,hX⟩:∃ X,X=D.tup [dPsts (boL tgB l m t),dI (boE tgB l m t)]:=⟨_,rfl⟩
 rw [<- hX]
 simp [t345,n345,z7,zq,e324,e375,ht]
 refine z10 t.length (fun i env h=>∃ (x3 x4 x6 x7 x8 x9 x10 x11 x12 x16 x17 x18 x19 x20 x21 x22 x23 x24 x25 x26 x27 x28 x29 x30 x31 x32 x33:D) (L:List Ent),env=[dPsts l,dI m,.imm .none (t.map dEnt),x3,x4,.map (some 0),x6,x7,x8,x9,x10,x11,x12,.imm .none (t.map dEnt),dI t.length,dI i,x16,x17,x18,x19,x20,x21,x22,x23,x24,x25,x26,x27,x28,x29,x30,x31,x32,x33]/\At h 0 (.map (eMap (sumsOf L [])))/\L++(t.drop i++negL (low (allE l)))=F) 0 (by omega) ⟨_,_,_,_,_,_,_,_,_,_,_,_,_,_,_,_,_,_,_,_,_,_,_,_,_,_,_,[],rfl,rfl,by rw [hF];simp⟩ ?_
 rintro i env h hi ⟨x3,x4,x6,x7,x8,x9,x10,x11,x12,x16,x17,x18,x19,x20,x21,x22,x23,x24,x25,x26,x27,x28,x29,x30,x31,x32,x33,L,rfl,A,hLF⟩
 by_cases hlt:i<t.length
 ·have hup:=zg hlt (by omega)
  obtain ⟨x,hx⟩:∃ x,x=t[i]:=⟨_,rfl⟩
  rw [zw hlt,aO,<- hx] at hLF
  have hw:=z95 hFb (by omega) hLF
  obtain ⟨hs1,hs2⟩:=z9c hLF
  have y1:=fun r:List Obj=>lk75 (a:=x.kind) (b:=x.idx) (A.app (r:=r))
  have y2:=fun (r:List Obj) (n:Int)=>ms75 (a:=x.kind) (b:=x.idx) (n:=n) (A.app (r:=r))
  simp [hlt,<- hx,-z1k,-z2p,y1,y2,hw,hs2,hup]
  exact ⟨L++[x],At.self (A.app.lt),hs1⟩
 ·have:i=t.length:=by omega
  subst this
  rw [cW,bj] at hLF
  simp
  refine z10 l.length (fun j env h=>∃ (x3 x4 x6 x7 x8 x9 x10 x11 x12 x13 x14 x15 x16 x17 x18 x22 x23 x24 x25 x26 x27 x28 x29 x30 x31 x32 x33:D) (L:List Ent),env=[dPsts l,dI m,.imm .none (t.map dEnt),x3,x4,.map (some 0),x6,x7,x8,x9,x10,x11,x12,x13,x14,x15,x16,x17,x18,dPsts l,dI l.length,dI j,x22,x23,x24,x25,x26,x27,x28,x29,x30,x31,x32,x33]/\At h 0 (.map (eMap (sumsOf L [])))/\L++negL (low (allE (l.drop j)))=F) 0 (by omega) ⟨_,_,_,_,_,_,_,_,_,_,_,_,_,_,_,_,_,_,_,_,_,_,_,_,_,_,_,L,rfl,A,by rw [<- hLF];rfl⟩ ?_
  clear A hLF
  clear L h x3 x4 x6 x7 x8 x9 x10 x11 x12 x16 x17 x18 x19 x20 x21 x22 x23 x24 x25 x26 x27 x28 x29 x30 x31 x32 x33
  rintro j env h hj ⟨x3,x4,x6,x7,x8,x9,x10,x11,x12,x13,x14,x15,x16,x17,x18,x22,x23,x24,x25,x26,x27,x28,x29,x30,x31,x32,x33,L,rfl,A,hLF⟩
  by_cases hlt:j<l.length
  rotate_left
  ·have:j=l.length:=by omega
   subst this
   rw [cW] at hLF
   have hLF:L=F:=by rw [<- hLF];simp [allE,low,negL]
   subst hLF
   have hm:(sumsOf L []).length<=1000000:=by
    have:=z5l (l:=L) (m:=[]);simp at this;omega
   obtain ⟨d,hp',e,sp,rfl⟩:=s370 A hm
   have hbk2:bkN l t=entM (sumsOf L []):=hbk
   have hbl:=zpp (l:=l) (t:=t)
   rw [<- hbk2] at e
   by_cases hb:bkN l t=[]
   ·rw [hb] at e
    have b:Bok tgB l m t:=⟨v,ht,fun h=>absurd hb h⟩
    have hE:boE tgB l m t=0:=z1t.2 b
    have hL:boL tgB l m t=l:=by rw [z5g b,if_pos hb]
    rw [hE,hL] at hX
    simp [e,noMark,hX,z7]
   ·have e316:=r316 l (bkS l m t) ok (by unfold bkS;simp only;omega)
    have hw:aA.wrap ((l.length:Int) - 1)=(l.length:Int) - 1:=zb ⟨by omega,by omega⟩
    have hE:boE tgB l m t=postE tgB l (bkS l m t):=by
     unfold boE;rw [if_neg (by simp [h0]),if_neg (by simp [ht]),if_neg hb]
    have hL:boL tgB l m t=if postE tgB l (bkS l m t)=0 then l++[newP tgB l (bkS l m t)] else []:=by
     unfold boL;rw [hE,if_neg hb]
    have hX2:X=poD l (bkS l m t):=by rw [hX,hE,hL];rfl
    have e316':runP E (dL E) 316 [dPsts l,dI m,dI ((l.length:Int) - 1),.imm .none ((bkN l t).map dEnt)]=some X:=by rw [hX2];exact e316
    have hn : ¬ (((bkN l t).length:Int)=0):=by
     have:=List.length_pos_iff.2 hb;omega
    obtain ⟨P,hP⟩:∃ P,P=boL tgB l m t:=⟨_,rfl⟩
    obtain ⟨Q,hQ⟩:∃ Q,Q=boE tgB l m t:=⟨_,rfl⟩
    rw [<- hP,<- hQ] at hX
    subst hX
    simp [e,noMark,z7,zq,hb,hw,e316']
  have hup:=zg hlt (by omega)
  obtain ⟨p,hpi⟩:∃ p,p=l[j]:=⟨_,rfl⟩
  have hp2:=ok.2 p (by rw [hpi];exact aL hlt)
  obtain ⟨R,hR⟩:∃ R,R=negL (low (allE (l.drop (j+1)))):=⟨_,rfl⟩
  rw [zw hlt,<- hpi,show allE (p::l.drop (j+1))=p.ents++allE (l.drop (j+1)) from rfl,zkf,zgn,<- hR] at hLF
  have q1:=fun h:List Obj=>znw (h:=h) hp2.1
  have q3:=stP hp2.1
  simp only [af] at q3
  have hA1:At (h++[.cells (pC p)]) h.length (.cells (pC p)):=by simp [At]
  have A2:=A.app (r:=[.cells (pC p)])
  have y1:=ld66 hA1
  simp [hlt,<- hpi,hp2.1,-zp,q1,↓q3,y1]
  generalize h++[Obj.cells (pC p)]=H0 at A2 hA1
  generalize h.length=C at hA1
  have hel:=hp2.2
  refine z10 p.ents.length (fun i env h=>∃ (x3 x4 x6 x7 x8 x9 x10 x11 x12 x13 x14 x15 x16 x17 x18 x22 x23 x27 x28 x29 x30 x31 x32 x33:D) (L:List Ent),env=[dPsts l,dI m,.imm .none (t.map dEnt),x3,x4,.map (some 0),x6,x7,x8,x9,x10,x11,x12,x13,x14,x15,x16,x17,x18,dPsts l,dI l.length,dI j,x22,x23,.imm .none (p.ents.map dEnt),dI p.ents.length,dI i,x27,x28,x29,x30,x31,x32,x33]/\At h 0 (.map (eMap (sumsOf L [])))/\L++(negL (low (p.ents.drop i))++R)=F) 0 (by omega) ⟨_,_,_,_,_,_,_,_,_,_,_,_,_,_,_,_,_,_,_,_,_,_,_,_,L,rfl,A2,hLF⟩ ?_
  clear A A2 hLF y1 hA1 q1 q3
  clear L h x3 x4 x6 x7 x8 x9 x10 x11 x12 x13 x14 x15 x16 x17 x18 x22 x23 x24 x25 x26 x27 x28 x29 x30 x31 x32 x33
  rintro i env h hi ⟨x3,x4,x6,x7,x8,x9,x10,x11,x12,x13,x14,x15,x16,x17,x18,x22,x23,x27,x28,x29,x30,x31,x32,x33,L,rfl,A,hLF⟩
  by_cases hlt2:i<p.ents.length
  rotate_left
  ·have:i=p.ents.length:=by omega
   subst this
   rw [cW] at hLF
   have hLF:L++R=F:=by rw [<- hLF];simp [low,negL]
   simp [hlt,hup]
   exact ⟨L,A,by rw [<- hR];exact hLF⟩
  have hup2:=zg hlt2 (by omega)
  obtain ⟨x,hx⟩:∃ x,x=p.ents[i]:=⟨_,rfl⟩
  rw [zw hlt2,zrc,<- hx] at hLF
  have y1:=fun r:List Obj=>lk75 (a:=x.kind) (b:=x.idx) (A.app (r:=r))
  have y2:=fun (r:List Obj) (n:Int)=>ms75 (a:=x.kind) (b:=x.idx) (n:=n) (A.app (r:=r))
  by_cases hk:x.kind<=4
  ·rw [if_pos hk,znl,aO] at hLF
   have hw:=z95 hFb (by omega) hLF
   obtain ⟨hs1,hs2⟩:=z9c hLF
   have hw:aA.wrap (lookZ (x.kind,x.idx) (sumsOf L []) - x.amt)=lookZ (x.kind,x.idx) (sumsOf L []) - x.amt:=hw
   have hs2:putM (x.kind,x.idx) (lookZ (x.kind,x.idx) (sumsOf L []) - x.amt) (sumsOf L [])=sumsOf (L++[negE x]) []:=hs2
   simp [hlt2,<- hx,-z1k,-z2p,y1,y2,hw,hs2,hup2,hk]
   exact ⟨L++[negE x],At.self (A.app.lt),hs1⟩
  ·rw [if_neg hk] at hLF
   simp [hlt2,<- hx,-z1k,-z2p,hup2,hk]
   exact ⟨L,A.app,hLF⟩

theorem zyd {a b:List UInt8} (ha:a.length=32) (hb:b.length=32):binD E .eql 73 (.agg (a.map byteD)) (.agg (b.map byteD))=some (.bool (decide (a=b))):=by
 have h1:(E.ty 73).eqc=true:=rfl
 have h2:(E.ty 73).zero=af a.length (D.int .u8 0):=by rw [ha];rfl
 unfold binD
 simp only []
 rw [if_pos ⟨h1,by rw [h2];exact z69⟩,zal (by rw [ha,hb])]
theorem okn:OkPs []:=⟨by simp,by simp⟩

end Dv

namespace Dv

theorem zhw {x:D} {c:Nat} (h:Typed E c x) (hk:(E.ty c).k=.int .i64):∃ n,x=dI n/\i64 n:=by
 have ha:(E.ty c).ag=false:=by unfold TI.ag;rw [hk]
 obtain ⟨n,h3,ho⟩:=z9b (z99 h ha) hk
 simp only [bi,and_true] at h3
 exact ⟨n,h3,ho⟩

end Dv

namespace Dv
attribute [local simp] af depth dCell dUse dInts dChoice dVar dProb tStart addO Ret
attribute [local congr] z5j z5o z41 z2z z2e z42 z2a


def okE (e:Ent):Prop:=i64 e.kind/\i64 e.idx/\i64 e.amt
theorem two {A:Type} {l:List A} (h:l.length=2):∃ a b,l=[a,b]:=by
 match l,h with
 | [a,b],_=>exact ⟨a,b,rfl⟩
theorem zpg {ds:List D} (h:DTc E 65 ds):∃ k i,ds=[dI k,dI i]/\i64 k/\i64 i:=by
 obtain ⟨hl,hf⟩:=z9a h (fs:=[(0,2),(1,2)]) rfl
 obtain ⟨x,y,rfl⟩:=two hl
 obtain ⟨a,h2,o2⟩:=z9b (hf 0 _ rfl) rfl
 obtain ⟨b,h3,o3⟩:=z9b (hf 1 _ rfl) rfl
 simp [E,tyTab] at h2 h3
 subst h2 h3
 exact ⟨a,b,rfl,o2,o3⟩
theorem ztj {x:D} (h:Typed E 72 x):∃ e,x=dEnt e/\okE e:=by
 obtain ⟨ds,rfl,h1⟩:=zdz h rfl
 obtain ⟨hl,hf⟩:=z9a h1 (fs:=[(0,65),(2,2)]) rfl
 obtain ⟨x,y,z,rfl⟩:=three hl
 obtain ⟨a,b,h2,o1,o2⟩:=zpg (hf 0 _ rfl)
 obtain ⟨c,h3,o3⟩:=z9b (hf 1 _ rfl) rfl
 simp [E,tyTab] at h2 h3
 obtain ⟨rfl,rfl⟩:=h2
 subst h3
 exact ⟨⟨a,b,c⟩,rfl,o1,o2,o3⟩
theorem sl70 {l:List Pst} {k:Nat} (h:k<=l.length) (h32:∀ p,p ∈ l->p.prev.length=32):sliceD E 70 (.imm .none (l.map dPst)) none (some (dI k)) none=some (.imm .none ((l.take k).map dPst)):=by
 have hk:(E.ty 70).k=.slice 71:=rfl
 have hf:headFits (E.ty 71).size (l.map dPst)=true:=by
  cases l with
  | nil=>rfl
  | cons p l=>
   show ((pC p).length == 36)=true
   rw [zi7 (h32 p (by simp))];rfl
 have hs:sliceSpare .none (l.map dPst).length k none=.none:=by unfold sliceSpare;simp
 unfold sliceD
 simp only [hk,bnd,Int.natCast_nonneg,if_true,Int.toNat_natCast,hf,Option.map_none,hs]
 rw [if_pos ⟨cX _,by simpa using h,ah _,trivial⟩,cA,Nat.sub_zero,mr]

theorem z7g {l:List Pst}:(accL l).length<=entN l:=by
 unfold accL
 exact Nat.le_trans z5e (by rw [z2o,zdt];exact ah _)

theorem zxr {a b:Ent}:binD E .neq 72 (dEnt a) (dEnt b)=some (.bool (!decide (a=b))):=by
 obtain ⟨a1,a2,a3⟩:=a
 obtain ⟨b1,b2,b3⟩:=b
 have e:(decide ((⟨a1,a2,a3⟩:Ent)=⟨b1,b2,b3⟩))=(a1 == b1 && (a2 == b2 && a3 == b3)):=by
  by_cases h1:a1=b1 <;> by_cases h2:a2=b2 <;> by_cases h3:a3=b3 <;> simp [h1,h2,h3]
 rw [e]
 simp [binD,E,tyTab,kindsL,eqL,atomEq]
theorem zbz {A:Type} {a b:List A} (hl:a.length=b.length) (h:∀ i,∀ h:i<a.length,a[i]=b[i]'(by omega)):a=b:=
 List.ext_getElem hl fun i h1 _=>h i h1

theorem r342 (a b:List Ent) (ha:a.length<=1000000) (hb:b.length<=1000000):runP E (dL E) 342 [.imm .none (a.map dEnt),.imm .none (b.map dEnt)]=some (.bool (decide (a=b))):=by
 refine zj c342 (by simp) ?_
 by_cases hl:a.length=b.length
 rotate_left
 ·have h1 : ¬ (a.length:Int)=b.length:=by omega
  have h2 : ¬ a=b:=fun h=>hl (by rw [h])
  simp [t342,n342,h1,h2]
 have h1:(a.length:Int)=b.length:=by omega
 obtain ⟨B,hB⟩:∃ B,B=decide (a=b):=⟨_,rfl⟩
 rw [<- hB]
 simp [t342,n342,h1]
 refine z10 a.length (fun i env h=>∃ (x4 x5 x6:D) ,env=[.imm .none (a.map dEnt),.imm .none (b.map dEnt),.bool false,dI i,x4,x5,x6] /\ ∀ j,(hj:j<a.length)->j<i->a[j]=b[j]'(by omega)) 0 (by omega) ⟨_,_,_,rfl,fun _ _ h=>absurd h (by omega)⟩ ?_
 rintro i env h hi ⟨x4,x5,x6,rfl,F⟩
 by_cases hlt:i<a.length
 rotate_left
 ·have hge : ¬ (i:Int)<a.length:=by omega
  have:i=a.length:=by omega
  have hB2:B=true:=by
   rw [hB,decide_eq_true_eq]
   exact zbz hl fun j hj=>F j hj (by omega)
  simp [hge,hB2,this]
 have hup:=zg hlt (by omega)
 have hlt2:i<b.length:=by omega
 obtain ⟨x,hx⟩:∃ x,x=a[i]:=⟨_,rfl⟩
 obtain ⟨y,hy⟩:∃ y,y=b[i]:=⟨_,rfl⟩
 have n1:=zxr (a:=x) (b:=y)
 have l72:∀ (h:List Obj) (x:Ent),loadD E h 72 (.iptr [dI x.kind,dI x.idx,dI x.amt])=some (dEnt x):=fun _ _=>rfl
 by_cases hxy:x=y
 ·have hd:decide (x=y)=true:=by simpa using hxy
  rw [hd] at n1
  simp [hlt,hlt2,<- hx,<- hy,hup,n1,l72,-zr,-zas]
  intro j hj hji
  by_cases hje:j<i
  ·exact F j hj hje
  ·have:j=i:=by omega
   subst this
   rw [<- hx,<- hy];exact hxy
 ·have hd:decide (x=y)=false:=by simpa using hxy
  rw [hd] at n1
  have hB2:B=false:=by
   rw [hB,decide_eq_false_iff_not]
   intro h
   subst h
   exact hxy (by rw [hx,hy])
  simp [hlt,hlt2,<- hx,<- hy,hup,n1,l72,hB2,-zr,-zas]


def few43 (l:List Pst):Bool:=l.all (fun p=>decide (p.ents.length<=40)) && decide (l.length<=20)
theorem zj2:∀ {l:List Pst},(∀ p,p ∈ l->p.ents.length<=40)->entN l<=40*l.length
 | [],_=>by simp [entN]
 | p::l,h=>by
  have:=zj2 (l:=l) fun q hq=>h q (by simp [hq])
  have:=h p (by simp)
  simp only [entN,az];omega
theorem z5c {l:List Pst}:few43 l=true ↔ (∀ p,p ∈ l->p.ents.length<=40)/\l.length<=20:=by
 unfold few43;simp
theorem zh7 {l:List Pst} (h:few43 l=true):entN l<=800:=by
 obtain ⟨h1,h2⟩:=z5c.1 h
 have:=zj2 h1;omega
theorem zdf {l:List Pst} (h:few43 l=true) (h32:∀ p,p ∈ l->p.prev.length=32):OkPs l:=by
 obtain ⟨h1,h2⟩:=z5c.1 h
 exact ⟨by omega,fun p hp=>⟨h32 p hp,by have:=h1 p hp;omega⟩⟩
theorem il66 {h:List Obj} {es r:List D}:loadD E h 66 (.iptr (.imm .none es::r))=some (.imm .none es):=rfl
theorem il2 {h:List Obj} {a:Int} {r:List D}:loadD E h 2 (.iptr (dI a::r))=some (dI a):=rfl
theorem il73 {h:List Obj} {p:Pst} (hp:p.prev.length=32):loadD E h 73 (.iptr (p.prev.map byteD))=some (dDig p.prev):=by
 have e:=z26 32 0 (p.prev.map byteD) (by simp [hp])
 unfold loadD
 simp only [show (E.ty 73).size=32 from rfl,e]
 rfl

theorem r344 (l:List Pst) (hl:l.length<=9223372036854775807) (h32:∀ p,p ∈ l->p.prev.length=32):runP E (dL E) 344 [dPsts l]=some (.bool (few43 l)):=by
 refine zj c344 (by simp) ?_
 obtain ⟨B,hB⟩:∃ B,B=few43 l:=⟨_,rfl⟩
 rw [<- hB]
 simp [t344,n344]
 refine z10 l.length (fun i env h=>∃ (x3 x4:D) ,env=[dPsts l,.bool false,dI i,x3,x4] /\ ∀ p,p ∈ l.take i->p.ents.length<=40) 0 (by omega) ⟨_,_,rfl,by simp⟩ ?_
 rintro i env h hi ⟨x3,x4,rfl,F⟩
 by_cases hlt:i<l.length
 rotate_left
 ·have:i=l.length:=by omega
  subst this
  rw [aZ] at F
  have hB2:B=decide (l.length<=20):=by
   rw [hB];unfold few43
   rw [ay.2 (by simpa using F)];rfl
  simp [hB2]
  omega
 have hup:aA.wrap ((i:Int)+1)=(i:Int)+1:=zb ⟨by omega,by omega⟩
 obtain ⟨p,hp⟩:∃ p,p=l[i]:=⟨_,rfl⟩
 have ho:=h32 p (by rw [hp];exact aL hlt)
 by_cases h40:p.ents.length<=40
 ·have h41 : ¬ (40:Int)<p.ents.length:=by omega
  simp [hlt,<- hp,ho,hup,il66,-zr,h41]
  intro q hq
  rw [aT hlt,<- hp] at hq
  rcases aN.1 hq with hq | hq
  ·exact F q hq
  ·simp at hq;rw [hq];exact h40
 ·have h41:(40:Int)<p.ents.length:=by omega
  have hB2:B=false:=by
   rw [hB,<- kZ,z5c]
   exact fun h=>h40 (h.1 p (by rw [hp];exact aL hlt))
  simp [hlt,<- hp,ho,hup,il66,-zr,h41,hB2]

theorem r346 (a b:List Pst) (ha:OkPs a) (hb:OkPs b):runP E (dL E) 346 [dPsts a,dPsts b]=some (.bool (decide (a=b))):=by
 refine zj c346 (by simp) ?_
 obtain ⟨ha1,ha2⟩:=ha
 obtain ⟨hb1,hb2⟩:=hb
 by_cases hl:a.length=b.length
 rotate_left
 ·have h1 : ¬ (a.length:Int)=b.length:=by omega
  have h2 : ¬ a=b:=fun h=>hl (by rw [h])
  simp [t346,n346,h1,h2]
 have h1:(a.length:Int)=b.length:=by omega
 obtain ⟨B,hB⟩:∃ B,B=decide (a=b):=⟨_,rfl⟩
 rw [<- hB]
 simp [t346,n346,h1]
 refine z10 a.length (fun i env h=>∃ (x4 x5 x6:D) ,env=[dPsts a,dPsts b,.bool false,dI i,x4,x5,x6] /\ ∀ j,(hj:j<a.length)->j<i->a[j]=b[j]'(by omega)) 0 (by omega) ⟨_,_,_,rfl,fun _ _ h=>absurd h (by omega)⟩ ?_
 rintro i env h hi ⟨x4,x5,x6,rfl,F⟩
 by_cases hlt:i<a.length
 rotate_left
 ·have hge : ¬ (i:Int)<a.length:=by omega
  have:i=a.length:=by omega
  have hB2:B=true:=by
   rw [hB,decide_eq_true_eq]
   exact zbz hl fun j hj=>F j hj (by omega)
  simp [hge,hB2,this]
 have hup:=zg hlt (by omega)
 have hlt2:i<b.length:=by omega
 obtain ⟨x,hx⟩:∃ x,x=a[i]:=⟨_,rfl⟩
 obtain ⟨y,hy⟩:∃ y,y=b[i]:=⟨_,rfl⟩
 have px:=ha2 x (by rw [hx];exact aL hlt)
 have py:=hb2 y (by rw [hy];exact aL hlt2)
 have n1:=r342 x.ents y.ents px.2 py.2
 have q1:=fun h:List Obj=>il73 (h:=h) px.1
 have q2:=fun h:List Obj=>il73 (h:=h) py.1
 have eqd:=zyd px.1 py.1
 have no : ¬ x=y->B=false:=fun h=>by
  rw [hB,decide_eq_false_iff_not]
  intro h2
  subst h2
  exact h (by rw [hx,hy])
 have hpq:(x=y) ↔ ((((x.no=y.no/\x.minute=y.minute)/\x.corrects=y.corrects)/\x.prev=y.prev)/\x.ents=y.ents):=by
  clear n1 q1 q2 eqd no hx hy px py
  obtain ⟨a,b,c,d,e⟩:=x
  obtain ⟨a',b',c',d',e'⟩:=y
  simp only [Pst.mk.injEq]
  constructor
  ·rintro ⟨rfl,rfl,rfl,rfl,rfl⟩;exact ⟨⟨⟨⟨rfl,rfl⟩,rfl⟩,rfl⟩,rfl⟩
  ·rintro ⟨⟨⟨⟨rfl,rfl⟩,rfl⟩,rfl⟩,rfl⟩;exact ⟨rfl,rfl,rfl,rfl,rfl⟩
 by_cases h2:x.no=y.no
 rotate_left
 ·have hB2:=no fun h=>h2 (by rw [h])
  simp [hlt,hlt2,<- hx,<- hy,px.1,py.1,il2,il66,↓q1,↓q2,-zr,h2,hB2]
 by_cases h3:x.minute=y.minute
 rotate_left
 ·have hB2:=no fun h=>h3 (by rw [h])
  simp [hlt,hlt2,<- hx,<- hy,px.1,py.1,il2,il66,↓q1,↓q2,-zr,h2,h3,hB2]
 by_cases h4:x.corrects=y.corrects
 rotate_left
 ·have hB2:=no fun h=>h4 (by rw [h])
  simp [hlt,hlt2,<- hx,<- hy,px.1,py.1,il2,il66,↓q1,↓q2,-zr,h2,h3,h4,hB2]
 by_cases h5:x.prev=y.prev
 rotate_left
 ·have hB2:=no fun h=>h5 (by rw [h])
  rw [decide_eq_false h5] at eqd
  have ned:binD E .neq 73 (dDig x.prev) (dDig y.prev)=some (.bool true):=by
   have:=zgm px.1 py.1
   rwa [decide_eq_false h5] at this
  simp [hlt,hlt2,<- hx,<- hy,px.1,py.1,il2,il66,↓q1,↓q2,-zr,h2,h3,h4,ned,hB2]
 have ned:binD E .neq 73 (dDig y.prev) (dDig y.prev)=some (.bool false):=by
  have:=zgm py.1 py.1
  rwa [decide_eq_true rfl] at this
 rw [h5] at q1
 by_cases h6:x.ents=y.ents
 ·have hxy:x=y:=hpq.2 ⟨⟨⟨⟨h2,h3⟩,h4⟩,h5⟩,h6⟩
  rw [decide_eq_true h6] at n1
  rw [h6] at n1
  simp [hlt,hlt2,<- hx,<- hy,px.1,py.1,il2,il66,↓q1,↓q2,-zr,h2,h3,h4,h5,h6,ned,z23,n1,hup]
  intro j hj hji
  by_cases hje:j<i
  ·exact F j hj hje
  ·have:j=i:=by omega
   subst this
   rw [<- hx,<- hy];exact hxy
 ·have hB2:=no fun h=>h6 (by rw [h])
  rw [decide_eq_false h6] at n1
  simp [hlt,hlt2,<- hx,<- hy,px.1,py.1,il2,il66,↓q1,↓q2,-zr,h2,h3,h4,h5,ned,z23,n1,hup,hB2]

theorem r347 (l:List Pst) (ok:OkPs l) (hN:entN l<=1000000) (k i m:Int):runP E (dL E) 347 [dPsts l,dAcc k i,dI m]=some (dI (if rdE tgB l=0 then balP k i m l else 0)):=by
 have e:=r318 l ok hN k i m
 unfold blD at e
 refine zj c347 (by simp) ?_
 obtain ⟨X,hX⟩:∃ X,X=if rdE tgB l=0 then balP k i m l else 0:=⟨_,rfl⟩
 obtain ⟨Y,hY⟩:∃ Y,Y=rdE tgB l:=⟨_,rfl⟩
 rw [<- hX,<- hY] at e
 rw [<- hX]
 simp [t347,n347,e,z7]

theorem r348 (t:List Ent) (hl:t.length<=1000000) (k i:Int):runP E (dL E) 348 [.imm .none (t.map dEnt),dI k,dI i]=some (dI (amtF k i t)):=by
 refine zj c348 (by simp) ?_
 obtain ⟨X,hX⟩:∃ X,X=amtF k i t:=⟨_,rfl⟩
 rw [<- hX]
 simp [t348,n348]
 refine z10 t.length (fun j env h=>∃ (x5 x6:D) ,env=[.imm .none (t.map dEnt),dI k,dI i,dI 0,dI j,x5,x6]/\X=amtF k i (t.drop j)) 0 (by omega) ⟨_,_,rfl,by simpa using hX⟩ ?_
 rintro j env h hj ⟨x5,x6,rfl,F⟩
 by_cases hlt:j<t.length
 rotate_left
 ·have:j=t.length:=by omega
  subst this
  rw [cW] at F
  simp [F,amtF]
 have hup:=zg hlt (by omega)
 obtain ⟨x,hx⟩:∃ x,x=t[j]:=⟨_,rfl⟩
 rw [zw hlt,<- hx] at F
 simp only [amtF] at F
 have ea:=zu0 (a:=(x.kind,x.idx)) (b:=(k,i))
 simp only [ao] at ea
 by_cases he:x.kind=k/\x.idx=i
 ·rw [if_pos he] at F
  rw [decide_eq_true he] at ea
  simp [hlt,<- hx,hup,ea,-zat,F]
 ·rw [if_neg he] at F
  rw [decide_eq_false he] at ea
  simp [hlt,<- hx,hup,ea,-zat]
  exact F

def stF (l:List Pst) (k m:Int) (as:List Key):List Ent:=(as.filter fun a=>decide (a.1=k)).map fun a=>⟨a.1,a.2,balP a.1 a.2 m l⟩
theorem zqs {l:List Pst} {k m:Int} {as:List Key} {i:Nat} (h:i<as.length):stF l k m (as.take (i+1))=if as[i].1=k then stF l k m (as.take i)++[⟨as[i].1,as[i].2,balP as[i].1 as[i].2 m l⟩] else stF l k m (as.take i):=by
 unfold stF
 rw [aT h,kr,bD]
 by_cases hk:as[i].1=k <;> simp [hk]
theorem zv7 {l:List Pst} {k m:Int} {as:List Key}:(stF l k m as).length<=as.length:=by
 unfold stF;rw [aF];exact gU ..
theorem zwv {h:List Obj} {c:Obj} {sp:Spare} {l:List Ent} {a b n:Int} (hl:l.length<=1000000) (R:RoomS h sp l.length 3) :
  app0 E (h++[c]) (h.length+1) 66 66 (.imm sp (l.map dEnt)) (.imm .exact [.agg [dI a,dI b,dI n]])=some (.imm (.tok (h.length+1)) (l.map dEnt++[dEnt ⟨a,b,n⟩]),killS sp h++[c,.tok ((l.length+1)*3) 3]):=by
 have e:=zq0 (hp:=h++[c]) (id:=h.length+1) (sp:=sp) (sp':=.exact) (l:=l) (m:=[⟨a,b,n⟩]) (by simp;omega) R.app
 rw [zf2 R] at e
 have e2:addO (killS sp h++[c]) (h.length+1) (.tok ((l.length+1)*3) 3)=killS sp h++[c,.tok ((l.length+1)*3) 3]:=by
  unfold addO
  rw [if_neg (by rw [av,z73];simp),bC];rfl
 rw [<- e2]
 exact e
open Classical in
noncomputable def stX (l:List Pst) (k:Int):Int:=if rdE tgB l ≠ 0 then rdE tgB l else if wib k 1 5=true then 0 else 430
open Classical in
noncomputable def stD (l:List Pst) (k m:Int):D:=.tup [.imm .none ((if stX l k=0 then stE l k m else []).map dEnt),dI (stX l k)]

theorem r352 (l:List Pst) (ok:OkPs l) (hN:entN l<=1000000) (k m:Int):runP E (dL E) 352 [dPsts l,dI k,dI m]=some (stD l k m):=by
 have e324:=r324 l ok
 have e325:=r325 l ok hN
 have e368:=r368
 refine zj c352 (by simp) ?_
 unfold stD
 by_cases h0:rdE tgB l=0
 rotate_left
 ·have hX:stX l k=rdE tgB l:=by unfold stX;rw [if_pos h0]
  rw [hX,if_neg h0]
  simp [t352,n352,z7,e324,h0]
 by_cases hk:wib k 1 5=true
 rotate_left
 ·have hk2:wib k 1 5=false:=by simpa using hk
  have hX:stX l k=430:=by unfold stX;rw [if_neg (by simp [h0]),if_neg hk]
  rw [hX,if_neg (by decide)]
  rw [h0] at e324
  simp [t352,n352,z7,e324,e368,hk2]
 have hX:stX l k=0:=by unfold stX;rw [if_neg (by simp [h0]),if_pos hk]
 rw [hX,if_pos rfl]
 have e318:=fun a b=>r318 l ok hN a b m
 unfold blD at e318
 rw [h0] at e324 e318
 simp only [if_true] at e318
 have hal:=z7g (l:=l)
 obtain ⟨AS,hAS⟩:∃ AS,AS=accL l:=⟨_,rfl⟩
 have hst:stE l k m=stF l k m AS:=by rw [hAS];rfl
 rw [<- hAS] at e325 hal
 rw [hst]
 simp [t352,n352,z7,e324,e368,hk,e325]
 refine z10 AS.length (fun i env h=>∃ (x5 x6 x7 x8 x9 x13 x14 x15 x16 x17 x18:D) (sp:Spare),env=[dPsts l,dI k,dI m,.imm sp ((stF l k m (AS.take i)).map dEnt),dI 0,x5,x6,x7,x8,x9,dAccs AS,dI AS.length,dI i,x13,x14,x15,x16,x17,x18]/\RoomS h sp (stF l k m (AS.take i)).length 3) 0 (by omega) ⟨_,_,_,_,_,_,_,_,_,_,_,.exact,rfl,.inl rfl⟩ ?_
 rintro i env h hi ⟨x5,x6,x7,x8,x9,x13,x14,x15,x16,x17,x18,sp,rfl,R⟩
 by_cases hlt:i<AS.length
 rotate_left
 ·have:i=AS.length:=by omega
  subst this
  rw [aZ]
  simp [zq]
 have hup:=zg hlt (by omega)
 have pA:pAcc AS[i]=.agg [dI AS[i].1,dI AS[i].2]:=rfl
 have e318:=e318 AS[i].1 AS[i].2
 have htk:=zqs (l:=l) (k:=k) (m:=m) hlt
 have hln:=zv7 (l:=l) (k:=k) (m:=m) (as:=AS.take i)
 rw [aW] at hln
 obtain ⟨L,hL⟩:∃ L,L=stF l k m (AS.take i):=⟨_,rfl⟩
 rw [<- hL] at htk hln R ⊢
 have y2:∀ (c:Obj) (n:Int),app0 E (h++[c]) (h.length+1) 66 66 (.imm sp (L.map dEnt)) (.imm .exact [.agg [dI AS[i].1,dI AS[i].2,dI n]])=some (.imm (.tok (h.length+1)) (L.map dEnt++[dEnt ⟨AS[i].1,AS[i].2,n⟩]),killS sp h++[c,.tok ((L.length+1)*3) 3]):=fun c n=>zwv (by omega) R
 by_cases h0:AS[i].1=k
 ·rw [if_pos h0] at htk
  subst h0
  simp [hlt,pA,hup,htk,z7,e318,y2]
  exact ⟨_,_,_,_,_,_,_,_,_,_,_,_,⟨rfl,rfl,rfl,rfl,rfl,rfl,rfl,rfl,rfl,rfl,rfl,rfl⟩,zem (j:=1) rfl⟩
 ·rw [if_neg h0] at htk
  simp [hlt,pA,h0,hup,htk]
  exact ⟨_,_,_,_,_,_,_,_,_,_,_,_,⟨rfl,rfl,rfl,rfl,rfl,rfl,rfl,rfl,rfl,rfl,rfl,rfl⟩,R.app⟩

theorem r350 (l:List Pst) (ok:OkPs l):runP E (dL E) 350 [dPsts l]=some (.tup [.bool (decide (rdE tgB l=0)),dI (rdE tgB l)]):=by
 have e324:=r324 l ok
 refine zj c350 (by simp) ?_
 by_cases h0:rdE tgB l=0
 rotate_left
 ·simp [t350,n350,z7,e324,h0]
 have v:=z12.1 h0
 rw [h0] at e324 ⊢
 have hl:=ok.1
 simp [t350,n350,z7,e324]
 refine z10 l.length (fun j env h=>∃ (x3 x4 x5 x6 x7 x10 x11 x12 x13 x14 x15 x16 x17 x18 x19 x20 x21 x22:D) ,env=[dPsts l,.bool false,dI 0,x3,x4,x5,x6,x7,dI l.length,dI j,x10,x11,x12,x13,x14,x15,x16,x17,x18,x19,x20,x21,x22]) 0 (by omega) ⟨_,_,_,_,_,_,_,_,_,_,_,_,_,_,_,_,_,_,rfl⟩ ?_
 rintro j env h hj ⟨x3,x4,x5,x6,x7,x10,x11,x12,x13,x14,x15,x16,x17,x18,x19,x20,x21,x22,rfl⟩
 by_cases hltj:j<l.length
 rotate_left
 ·have:j=l.length:=by omega
  subst this
  simp
 have hupj:=zg hltj (by omega)
 obtain ⟨z,hz⟩:∃ z,z=l[j]:=⟨_,rfl⟩
 have hz2:=ok.2 z (by rw [hz];exact aL hltj)
 simp [hltj]
 refine z10 l.length (fun i env h=>∃ (x5 x6 x7 x10 x14 x15 x16 x17 x18 x19 x20 x21 x22:D) ,env=[dPsts l,.bool false,dI 0,dI j,dI 0,x5,x6,x7,dI l.length,dI j,x10,dPsts l,dI l.length,dI i,x14,x15,x16,x17,x18,x19,x20,x21,x22]) 0 (by omega) ⟨_,_,_,_,_,_,_,_,_,_,_,_,_,rfl⟩ ?_
 clear h x3 x4 x5 x6 x7 x10 x11 x12 x13 x14 x15 x16 x17 x18 x19 x20 x21 x22
 rintro i env h hi ⟨x5,x6,x7,x10,x14,x15,x16,x17,x18,x19,x20,x21,x22,rfl⟩
 by_cases hlt:i<l.length
 rotate_left
 ·have:i=l.length:=by omega
  subst this
  simp [hltj,hupj]
 have hup:=zg hlt (by omega)
 obtain ⟨p,hpi⟩:∃ p,p=l[i]:=⟨_,rfl⟩
 have hpm:p ∈ l:=by rw [hpi];exact aL hlt
 have hp2:=ok.2 p hpm
 have g:=v.2.1 p hpm
 have q1:=fun h:List Obj=>znw (h:=h) hp2.1
 have q3:=stP hp2.1
 simp only [af] at q3
 have hA1:∀ r,At (h ++ .cells (pC p)::r) h.length (.cells (pC p)):=fun r=>by simp [At]
 have y1:=fun r:List Obj=>ld66 (hA1 r)
 have y2:=fun r:List Obj=>ld2 (hA1 r)
 by_cases hm:p.minute<=z.minute
 rotate_left
 ·have hm':z.minute<p.minute:=by omega
  simp [hlt,hltj,<- hpi,<- hz,hp2.1,hz2.1,-zp,-zr,q1,↓q3,y1,y2,il2,hm,hm',hup]
 simp [hlt,hltj,<- hpi,<- hz,hp2.1,hz2.1,-zp,-zr,q1,↓q3,y1,y2,il2,hm,hup]
 generalize h ++ .cells (pC p)::_=H0
 generalize h.length=C
 clear q1 q3 hA1 y1 y2
 have hel:=hp2.2
 have hz0:sumE p.ents=0:=g.sum
 have hmost:=g.fm.ents.most
 refine z10 p.ents.length (fun e env h=>∃ (x5 x6 x7 x10 x14 x15 x16 x20 x21 x22:D) (c:Int),env=[dPsts l,.bool false,dI 0,dI j,dI c,x5,x6,x7,dI l.length,dI j,x10,dPsts l,dI l.length,dI i,x14,x15,x16,.imm .none (p.ents.map dEnt),dI p.ents.length,dI e,x20,x21,x22]/\c+sumE (p.ents.drop e)=0 /\ -(1099511627776*(e:Int))<=c/\c<=1099511627776*(e:Int)) 0 (by omega) ⟨_,_,_,_,_,_,_,_,_,_,0,rfl,by simp [hz0],by simp,by simp⟩ ?_
 clear h x5 x6 x7 x10 x14 x15 x16 x17 x18 x19 x20 x21 x22
 rintro e env h he ⟨x5,x6,x7,x10,x14,x15,x16,x20,x21,x22,c,rfl,b1,b2,b3⟩
 by_cases hlt2:e<p.ents.length
 rotate_left
 ·have:e=p.ents.length:=by omega
  subst this
  rw [cW] at b1
  have hc:c=0:=by simpa [sumE] using b1
  subst hc
  simp [hup]
 have hup2:=zg hlt2 (by omega)
 obtain ⟨x,hx⟩:∃ x,x=p.ents[e]:=⟨_,rfl⟩
 have okx:=(g.fm.ents.ok x (by rw [hx];exact aL hlt2)).2.2.2
 rw [zw hlt2,<- hx] at b1
 simp only [sumE] at b1
 have hw:aA.wrap (c+x.amt)=c+x.amt:=zb ⟨by omega,by omega⟩
 simp [hlt2,<- hx,hup2,hw]
 exact ⟨_,_,_,_,_,_,_,_,_,_,_,⟨rfl,rfl,rfl,rfl,rfl,rfl,rfl,rfl,rfl,rfl,rfl⟩,by omega,by omega,by omega⟩

theorem z5i {n:Nat} (h:n<=1000000000000):aA.wrap (n:Int)=(n:Int):=zb ⟨by omega,by omega⟩

def incrB {A:Type} (c:A->A->Int):List A->Bool
 | a::b::r=>decide (c a b<0) && incrB c (b::r)
 | _=>true

theorem za8 {A:Type} {c:A->A->Int} {l:List A} (h:l.length<=1):incrB c l=true:=by
 match l,h with
 | [],_=>rfl
 | [_],_=>rfl

theorem r69 (l:List Cell) (k:Nat) (c:Cell->Cell->Int) (hc:∀ a b,runP E (dL E) k [dCell a,dCell b]=some (dI (c a b))) (hl:l.length<=1000000) :
  runP E (dL E) 69 [.imm .none (l.map dCell),.fn k []]=some (.bool (incrB c l)):=by
 refine zj c69 (by simp) ?_
 simp [t69,n69]
 refine z10 (l.length+1) (fun i env hp=>∃ c4 c5:D,env=[.imm .none (l.map dCell),.fn k [],.bool false,dI i,c4,c5] /\ ∃ j,i=j+1/\incrB c (l.drop j)=incrB c l) 1 (by omega) ⟨_,_,rfl,0,rfl,rfl⟩ ?_
 rintro i env hp hi ⟨c4,c5,rfl,j,rfl,hm⟩
 by_cases hlt:j+1<l.length
 ·have hj:j<l.length:=by omega
  rw [zw hj,zw hlt] at hm
  have hk:=hc l[j] l[j+1]
  have hlt':(j:Int)+1<l.length:=by omega
  have hnn:(0:Int)<=(j:Int)+1:=by omega
  by_cases h0:c l[j] l[j+1]<0
  ·simp [incrB,h0] at hm
   have h0' : ¬ 0<=c l[j] l[j+1]:=by omega
   simp [hlt,hlt',hj,hnn,z5i (n:=j) (by omega),zb (n:=(j:Int)+1) ⟨by omega,by omega⟩,zb (n:=(j:Int)+1+1) ⟨by omega,by omega⟩,hk,h0',hm]
  ·simp [incrB,h0] at hm
   have h0':0<=c l[j] l[j+1]:=by omega
   simp [hlt,hlt',hj,hnn,z5i (n:=j) (by omega),zb (n:=(j:Int)+1) ⟨by omega,by omega⟩,hk,h0',hm]
 ·have he:incrB c (l.drop j)=true:=za8 (by simp;omega)
  have hlt' : ¬ (j:Int)+1<l.length:=by omega
  rw [he] at hm
  simp [hlt,hlt',<- hm]

theorem r73 (l:List Int) (k:Nat) (c:Int->Int->Int) (hc:∀ a b,runP E (dL E) k [dI a,dI b]=some (dI (c a b))) (hl:l.length<=1000000) :
  runP E (dL E) 73 [.imm .none (l.map dI),.fn k []]=some (.bool (incrB c l)):=by
 refine zj c73 (by simp) ?_
 simp [t73,n73]
 refine z10 (l.length+1) (fun i env hp=>∃ c4 c5:D,env=[.imm .none (l.map dI),.fn k [],.bool false,dI i,c4,c5] /\ ∃ j,i=j+1/\incrB c (l.drop j)=incrB c l) 1 (by omega) ⟨_,_,rfl,0,rfl,rfl⟩ ?_
 rintro i env hp hi ⟨c4,c5,rfl,j,rfl,hm⟩
 by_cases hlt:j+1<l.length
 ·have hj:j<l.length:=by omega
  rw [zw hj,zw hlt] at hm
  have hk:=hc l[j] l[j+1]
  have hlt':(j:Int)+1<l.length:=by omega
  have hnn:(0:Int)<=(j:Int)+1:=by omega
  by_cases h0:c l[j] l[j+1]<0
  ·simp [incrB,h0] at hm
   have h0' : ¬ 0<=c l[j] l[j+1]:=by omega
   simp [hlt,hlt',hj,hnn,z5i (n:=j) (by omega),zb (n:=(j:Int)+1) ⟨by omega,by omega⟩,zb (n:=(j:Int)+1+1) ⟨by omega,by omega⟩,hk,h0',hm]
  ·simp [incrB,h0] at hm
   have h0':0<=c l[j] l[j+1]:=by omega
   simp [hlt,hlt',hj,hnn,z5i (n:=j) (by omega),zb (n:=(j:Int)+1) ⟨by omega,by omega⟩,hk,h0',hm]
 ·have he:incrB c (l.drop j)=true:=za8 (by simp;omega)
  have hlt' : ¬ (j:Int)+1<l.length:=by omega
  rw [he] at hm
  simp [hlt,hlt',<- hm]

theorem r75 (l:List Use) (k:Nat) (c:Use->Use->Int) (hc:∀ a b,runP E (dL E) k [dUse a,dUse b]=some (dI (c a b))) (hl:l.length<=1000000) :
  runP E (dL E) 75 [.imm .none (l.map dUse),.fn k []]=some (.bool (incrB c l)):=by
 refine zj c75 (by simp) ?_
 simp [t75,n75]
 refine z10 (l.length+1) (fun i env hp=>∃ c4 c5:D,env=[.imm .none (l.map dUse),.fn k [],.bool false,dI i,c4,c5] /\ ∃ j,i=j+1/\incrB c (l.drop j)=incrB c l) 1 (by omega) ⟨_,_,rfl,0,rfl,rfl⟩ ?_
 rintro i env hp hi ⟨c4,c5,rfl,j,rfl,hm⟩
 by_cases hlt:j+1<l.length
 ·have hj:j<l.length:=by omega
  rw [zw hj,zw hlt] at hm
  have hk:=hc l[j] l[j+1]
  have hlt':(j:Int)+1<l.length:=by omega
  have hnn:(0:Int)<=(j:Int)+1:=by omega
  by_cases h0:c l[j] l[j+1]<0
  ·simp [incrB,h0] at hm
   have h0' : ¬ 0<=c l[j] l[j+1]:=by omega
   simp [hlt,hlt',hj,hnn,z5i (n:=j) (by omega),zb (n:=(j:Int)+1) ⟨by omega,by omega⟩,zb (n:=(j:Int)+1+1) ⟨by omega,by omega⟩,hk,h0',hm]
  ·simp [incrB,h0] at hm
   have h0':0<=c l[j] l[j+1]:=by omega
   simp [hlt,hlt',hj,hnn,z5i (n:=j) (by omega),zb (n:=(j:Int)+1) ⟨by omega,by omega⟩,hk,h0',hm]
 ·have he:incrB c (l.drop j)=true:=za8 (by simp;omega)
  have hlt' : ¬ (j:Int)+1<l.length:=by omega
  rw [he] at hm
  simp [hlt,hlt',<- hm]

def idxI {A:Type} (f:A->Bool):List A->Nat->Int
 | [],_=>-1
 | x::r,i=>if f x then i else idxI f r (i+1)

theorem zim {A:Type} {f:A->Bool}:∀ {l:List A} {i:Nat},decide (0<=idxI f l i)=l.any f
 | [],i=>rfl
 | x::r,i=>by
  simp only [idxI,List.any_cons]
  by_cases h:f x=true
  ·simp [h]
  ·have h2:=zim (f:=f) (l:=r) (i:=i+1)
   simp at h
   simpa [h] using h2

theorem r106 (l:List Int) (k:Nat) (f:Int->Bool) (hf:∀ x,runP E (dL E) k [dI x]=some (.bool (f x))) (hl:l.length<=1000000) :
  runP E (dL E) 106 [dInts l,.fn k []]=some (dI (idxI f l 0)):=by
 refine zj c106 (by simp) ?_
 simp [t106,n106]
 refine z10 l.length (fun i env hp=>∃ c3 c6 c7:D,env=[dInts l,.fn k [],dI 0,c3,dI l.length,dI i,c6,c7]/\idxI f (l.drop i) i=idxI f l 0) 0 (by omega) ⟨_,_,_,rfl,rfl⟩ ?_
 rintro i env hp hi ⟨c3,c6,c7,rfl,hm⟩
 by_cases hlt:i<l.length
 ·rw [zw hlt] at hm
  have hk:=hf l[i]
  cases h0:f l[i] with
  | true=>
   simp [idxI,h0] at hm
   simp [hlt,hk,h0,<- hm]
  | false=>
   simp [idxI,h0] at hm
   simp [hlt,hk,h0,zg hlt (by omega),hm]
 ·have:i=l.length:=by omega
  subst this
  simp [idxI] at hm
  simp [<- hm]

theorem r71 (l:List Int) (k:Nat) (f:Int->Bool) (hf:∀ x,runP E (dL E) k [dI x]=some (.bool (f x))) (hl:l.length<=1000000) :
  runP E (dL E) 71 [dInts l,.fn k []]=some (.bool (l.any f)):=by
 refine zj c71 (by simp) ?_
 simp [t71,n71,r106 l k f hf hl,zim]

theorem z3f {A:Type} {h r:List A} {x:A}:(h++x::r)[h.length]? = some x:=by simp
theorem zcn {A:Type} {h r:List A} {x y:A}:(h++x::r).set h.length y=h++y::r:=by simp

section
variable {E:Env} {Q:Ex->List D->List Obj->Prop} {env:List D} {hp:List Obj}

theorem wT_chk {a:TC} (n:Nat) (P:Nat->Prop) (I:Nat->List D->List Obj->Prop) (h0:I 0 env hp)
  (good:∀ i env hp,i<n->I i env hp->P i->(∀ j,j<i->P j)->wT E a (fun ex env' hp'=>match ex with
   | .normal=>I (i+1) env' hp'
   | _=>False) env hp)
  (bad:∀ i env hp,i<n->I i env hp -> ¬ P i->wT E a (fun ex env' hp'=>match ex with
   | .normal=>False
   | ex=>Q ex env' hp') env hp)
  (last:∀ env hp,I n env hp->(∀ j,j<n->P j)->wT E a (fun ex env' hp'=>match ex with
   | .normal=>False
   | ex=>Q ex env' hp') env hp):wT E (.loop a) Q env hp:=by
 refine z10 n (fun i env hp=>I i env hp /\ ∀ j,j<i->P j) 0 (cX _) ⟨h0,fun j hj=>by omega⟩ ?_
 rintro i env hp hi ⟨hI,hP⟩
 by_cases hlt:i<n
 ·by_cases hp':P i
  ·refine z7i ?_ (good i env hp hlt hI hp' hP)
   intro ex env' hp'' h
   cases ex with
   | normal=>
    refine ⟨hlt,h,fun j hj=>?_⟩
    rcases f9.1 hj with h1 | rfl
    ·exact hP j h1
    ·exact hp'
   | exit _=>exact h.elim
   | ret=>exact h.elim
  ·refine z7i ?_ (bad i env hp hlt hI hp')
   intro ex env' hp'' h
   cases ex with
   | normal=>exact h.elim
   | exit _=>exact h
   | ret=>exact h
 ·have:i=n:=by omega
  subst this
  refine z7i ?_ (last env hp hI hP)
  intro ex env' hp'' h
  cases ex with
  | normal=>exact h.elim
  | exit _=>exact h
  | ret=>exact h

theorem zdy {a:TC} (n:Nat) (P:Nat->Prop) (I:Nat->List D->List Obj->Prop) (h0:I 0 env hp)
  (step:∀ i env hp,i<n->I i env hp->(∀ j,j<i->P j)->wT E a (fun ex env' hp'=>match ex with
   | .normal=>P i/\I (i+1) env' hp'
   | ex=>Q ex env' hp') env hp)
  (last:∀ env hp,I n env hp->(∀ j,j<n->P j)->wT E a (fun ex env' hp'=>match ex with
   | .normal=>False
   | ex=>Q ex env' hp') env hp):wT E (.loop a) Q env hp:=by
 refine z10 n (fun i env hp=>I i env hp /\ ∀ j,j<i->P j) 0 (cX _) ⟨h0,fun j hj=>by omega⟩ ?_
 rintro i env hp hi ⟨hI,hP⟩
 by_cases hlt:i<n
 ·refine z7i ?_ (step i env hp hlt hI hP)
  intro ex env' hp'' h
  cases ex with
  | normal=>
   refine ⟨hlt,h.2,fun j hj=>?_⟩
   rcases f9.1 hj with h1 | rfl
   ·exact hP j h1
   ·exact h.1
  | exit _=>exact h
  | ret=>exact h
 ·have:i=n:=by omega
  subst this
  refine z7i ?_ (last env hp hI hP)
  intro ex env' hp'' h
  cases ex with
  | normal=>exact h.elim
  | exit _=>exact h
  | ret=>exact h
end

theorem zmh {i:Nat} (h0:0<i) (h:i<=1000000000000):aA.wrap ((i:Int) - 1)=((i - 1:Nat):Int):=by
 rw [zb ⟨by omega,by omega⟩];omega

def wi (n lo hi:Int):Prop:=lo<=n/\n<=hi
instance {n lo hi:Int}:Decidable (wi n lo hi):=inferInstanceAs (Decidable (_/\_))

structure OkUse (p:Prob) (u:Use):Prop where
 known:u.cell ∈ p.cells
 places:wi u.places 1 8

structure OkChoice (p:Prob) (c:Choice):Prop where
 delay:wi c.delay 0 1048576
 cost:wi c.cost 0 1048576
 changes:wi c.changes 0 1048576
 uses:∀ u,u ∈ c.uses->OkUse p u
 incr:∀ (i:Nat) (h:i+1<c.uses.length),ltC c.uses[i].cell c.uses[i+1].cell=true

structure OkVar (p:Prob) (v:Var):Prop where
 some:1<=v.leaves.length
 one:1<=v.choices.length
 most:v.choices.length<=96
 leaves:∀ n,n ∈ v.leaves->wi n 0 (p.capacity.length - 1)
 incr:∀ (i:Nat) (h:i+1<v.leaves.length),v.leaves[i]<v.leaves[i+1]
 choices:∀ c,c ∈ v.choices->OkChoice p c

theorem z7n {A:Type} {l:List A} {P:A->Prop}:(∀ x,x ∈ l->P x) ↔ ∀ (i:Nat) (h:i<l.length),P l[i]:=by
 constructor
 ·intro h i hi;exact h _ (aL hi)
 ·intro h x hx
  obtain ⟨i,hi,rfl⟩:=List.getElem_of_mem hx
  exact h i hi

structure Small (p:Prob):Prop where
 cells:p.cells.length<=12
 cap:p.capacity.length<=4
 rows:∀ l,l ∈ p.capacity->l.length<=16
 vars:p.vars.length<=6
 leaves:∀ v,v ∈ p.vars->v.leaves.length<=8
 choices:∀ v,v ∈ p.vars->v.choices.length<=8
 uses:∀ v,v ∈ p.vars->∀ c,c ∈ v.choices->c.uses.length<=12

structure OkP (p:Prob):Prop where
 some:1<=p.capacity.length
 nonneg:∀ c,c ∈ p.cells->0<=c.index/\0<=c.minute
 incr:∀ (i:Nat) (h:i+1<p.cells.length),ltC p.cells[i] p.cells[i+1]=true
 cap:∀ l,l ∈ p.capacity->l.length=p.cells.length /\ ∀ n,n ∈ l->wi n 0 4096
 vars:∀ v,v ∈ p.vars->OkVar p v

open Classical in
noncomputable def ck (p:Prob):Int:=if OkP p then 0 else 270

def kent (c:Cell):D × D:=(dCell c,.bool true)

theorem zfd {c:Cell}:∀ {es:List Cell},mapFind (dCell c) (es.map kent)=some (if c ∈ es then some (.bool true) else none)
 | []=>rfl
 | x::es=>by
  have hq:D.eqb (dCell c) (dCell x)=some (decide (c=x)):=by
   simp [D.eqb,eqL,atomEq]
   cases c;cases x;simp [jG]
  simp only [aq,mapFind,kent,hq]
  by_cases h:c=x
  ·simp [h]
  ·simp only [h,decide_false,aw,false_or]
   exact zfd

theorem zi2 {c:Cell}:∀ {es:List Cell},mapPut (dCell c) (.bool true) (es.map kent)=some ((if c ∈ es then es else es++[c]).map kent)
 | []=>rfl
 | x::es=>by
  have hq:D.eqb (dCell c) (dCell x)=some (decide (c=x)):=by
   simp [D.eqb,eqL,atomEq]
   cases c;cases x;simp [jG]
  simp only [aq,mapPut,kent,hq]
  by_cases h:c=x
  ·simp [h,kent]
  ·have ih:=zi2 (c:=c) (es:=es)
   simp only [h,decide_false,aw,false_or]
   rw [ih]
   by_cases hm:c ∈ es <;> simp [hm,kent]

theorem z3d {A:Type} {c:A->A->Int}:∀ {l:List A},incrB c l=true ↔ ∀ (i:Nat) (h:i+1<l.length),c l[i] l[i+1]<0
 | []=>⟨fun _ i h=>by simp at h,fun _=>rfl⟩
 | [_]=>⟨fun _ i h=>by simp at h,fun _=>rfl⟩
 | a::b::r=>by
  have ih:=z3d (c:=c) (l:=b::r)
  simp only [incrB,aj,decide_eq_true_eq,ih]
  constructor
  ·rintro ⟨h1,h2⟩ i hi
   cases i with
   | zero=>exact h1
   | succ i=>exact h2 i (by simpa using hi)
  ·intro h
   exact ⟨h 0 (by simp),fun i hi=>h (i+1) (by simpa using hi)⟩

theorem zdm {a b:Int}:cmpI a b<0 ↔ a<b:=by
 unfold cmpI
 (repeat' split) <;> omega

theorem zh0 {l:List Int} (h:∀ (i:Nat) (hi:i+1<l.length),l[i]<l[i+1]):∀ (j i:Nat) (hj:j<l.length) (hij:i<=j),l[i]'(by omega)<=l[j]
 | 0,i,hj,hij=>by
  have:i=0:=by omega
  subst this;exact n5 _
 | j+1,i,hj,hij=>by
  rcases f9.1 (Nat.lt_succ_of_le hij) with h1 | rfl
  ·have:=zh0 h j i (by omega) (by omega)
   have:=h j hj
   omega
  ·exact n5 _

theorem zht {x lo hi:Int} (h:wi x lo hi):lo<=x/\x<=hi /\ ¬ x<lo /\ ¬ hi<x:=by unfold wi at h;omega
theorem zhu {x lo hi:Int} (h : ¬ wi x lo hi):(x<lo /\ ¬ lo<=x)\/(hi<x /\ ¬ x<=hi/\lo<=x /\ ¬ x<lo):=by unfold wi at h;omega

theorem r71w (l:List Int) (hl:l.length<=1000000):∃ q:Bool,(q=true ↔ ¬ ∀ n,n ∈ l->wi n 0 4096)/\runP E (dL E) 71 [.imm .none (l.map dI),.fn 72 []]=some (.bool q):=by
 refine ⟨_,?_,r71 l 72 (fun n=>!decide (0<=n/\n<=4096)) r72 hl⟩
 rw [List.any_eq_true]
 constructor
 ·rintro ⟨n,hn,h⟩ hall
  have:=hall n hn
  unfold wi at this
  simp [this] at h
 ·intro h
  refine dG fun hn=>h fun n hm=>?_
  unfold wi
  refine dG fun hw=>hn ⟨n,hm,?_⟩
  simp only [hw,decide_false,Bool.not_false]

theorem r15 (p:Prob) (S:Small p):runP E (dL E) 15 [dProb p]=some (dI (ck p)):=by
 refine zj c15 (by simp) ?_
 generalize hB:ck p=B
 have hBf : ¬ OkP p->B=270:=by intro h;rw [<- hB];simp [ck,h]
 have hBt:OkP p->B=0:=by intro h;rw [<- hB];simp [ck,h]
 have s1:=S.cells
 have s2:=S.cap
 have s3:=S.vars
 have h69:=r69 p.cells 70 cmpC r70 (by omega)
 simp [t15,n15,r67,h69]
 have h1 : ¬ (4096:Int)<p.cells.length:=by omega
 by_cases h2:(p.capacity.length:Int)<1
 ·have h2':((p.capacity.length:Int)<1\/(32:Int)<p.capacity.length):=.inl h2
  simp [h1,h2',hBf (fun ok=>by have:=ok.some;omega)]
 have h2' : ¬ ((p.capacity.length:Int)<1\/(32:Int)<p.capacity.length):=by omega
 have h4 : ¬ (64:Int)<p.vars.length:=by omega
 cases hinc:incrB cmpC p.cells with
 | false=>
  simp [h1,h2',h4,hBf (fun ok=>by
   have:incrB cmpC p.cells=true:=z3d.2 fun i hi=>by
    have:=ok.incr i hi
    rw [<- zd3] at this;exact this
   rw [hinc] at this;cases this)]
 | true=>
 have hincr:=z3d.1 hinc
 simp [h1,h2',h4]
 obtain ⟨P,hP⟩:∃ P:Nat->Prop,P=fun i=>∀ (h:i<p.cells.length),0<=p.cells[i].index/\0<=p.cells[i].minute:=⟨_,rfl⟩
 refine zdy p.cells.length P
  (fun i env hp=>∃ (x4 x5 x6 x7 x8 x9 x10 x11 x15 x16 x17 x18 x19 x20 x21 x22 x23 x24 x25 x26 x27 x28 x29 x30 x31 x32 x33 x34 x35 x36 x37 x38 x39 x40:D) (es:List Cell) (h:List Obj),env=[dProb p,.loc 0 0,dI 0,.map (some 1),x4,x5,x6,x7,x8,x9,x10,x11,.imm .none (p.cells.map dCell),dI p.cells.length,dI i,x15,x16,x17,x18,x19,x20,x21,x22,x23,x24,x25,x26,x27,x28,x29,x30,x31,x32,x33,x34,x35,x36,x37,x38,x39,x40]/\hp=.cells (dProb p).cellsL :: .map (es.map kent)::h /\ ∀ c,c ∈ es ↔ c ∈ p.cells.take i)
  ⟨_,_,_,_,_,_,_,_,_,_,_,_,_,_,_,_,_,_,_,_,_,_,_,_,_,_,_,_,_,_,_,_,_,_,[],_,rfl,rfl,by simp⟩ ?_ ?_
 ·rintro i env hp hi ⟨x4,x5,x6,x7,x8,x9,x10,x11,x15,x16,x17,x18,x19,x20,x21,x22,x23,x24,x25,x26,x27,x28,x29,x30,x31,x32,x33,x34,x35,x36,x37,x38,x39,x40,es,h,rfl,rfl,hes⟩ hall
  have hBc : ¬ (0<=p.cells[i].index/\0<=p.cells[i].minute)->B=270:=fun hn=>hBf (fun ok=>hn (ok.nonneg _ (aL hi)))
  simp [hi,z3f,zcn]
  by_cases g1:p.cells[i].index<0
  ·simp [g1,hBc (by omega)]
  by_cases g2:p.cells[i].minute<0
  ·simp [g1,g2,hBc (by omega)]
  have hPi:P i:=by rw [hP];exact fun _=>⟨by omega,by omega⟩
  have hput:=zi2 (c:=p.cells[i]) (es:=es)
  simp at hput
  simp [g1,g2,z3f,hput,zg hi (by omega),hPi]
  refine ⟨_,rfl,fun c=>?_⟩
  have hts:p.cells.take (i+1)=p.cells.take i++[p.cells[i]]:=by simp
  rw [hts,aN,<- hes c]
  by_cases hm:p.cells[i] ∈ es
  ·rw [if_pos hm]
   constructor
   ·exact .inl
   ·rintro (h | h)
    ·exact h
    ·simp at h;rw [h];exact hm
  ·rw [if_neg hm,aN]
 rintro env hp ⟨x4,x5,x6,x7,x8,x9,x10,x11,x15,x16,x17,x18,x19,x20,x21,x22,x23,x24,x25,x26,x27,x28,x29,x30,x31,x32,x33,x34,x35,x36,x37,x38,x39,x40,es,h,rfl,rfl,hes⟩ hcells
 rw [hP] at hcells
 rw [aZ] at hes
 simp
 clear hP P
 obtain ⟨P,hP⟩:∃ P:Nat->Prop,P=fun i=>∀ (h:i<p.capacity.length),p.capacity[i].length=p.cells.length /\ ∀ n,n ∈ p.capacity[i]->wi n 0 4096:=⟨_,rfl⟩
 refine zdy p.capacity.length P
  (fun i env hp=>∃ (x4 x5 x6 x7 x8 x9 x10 x11 x12 x13 x14 x15 x16 x17 x21 x22 x23 x24 x25 x26 x27 x28 x29 x30 x31 x32 x33 x34 x35 x36 x37 x38 x39 x40:D) (h:List Obj),env=[dProb p,.loc 0 0,dI 0,.map (some 1),x4,x5,x6,x7,x8,x9,x10,x11,x12,x13,x14,x15,x16,x17,.imm .none (p.capacity.map dInts),dI p.capacity.length,dI i,x21,x22,x23,x24,x25,x26,x27,x28,x29,x30,x31,x32,x33,x34,x35,x36,x37,x38,x39,x40]/\hp=.cells (dProb p).cellsL :: .map (es.map kent)::h)
  ⟨_,_,_,_,_,_,_,_,_,_,_,_,_,_,_,_,_,_,_,_,_,_,_,_,_,_,_,_,_,_,_,_,_,_,_,rfl,rfl⟩ ?_ ?_
 ·rintro i env hp hi ⟨x4,x5,x6,x7,x8,x9,x10,x11,x12,x13,x14,x15,x16,x17,x21,x22,x23,x24,x25,x26,x27,x28,x29,x30,x31,x32,x33,x34,x35,x36,x37,x38,x39,x40,h,rfl,rfl⟩ hall
  have hBc : ¬ (p.capacity[i].length=p.cells.length /\ ∀ n,n ∈ p.capacity[i]->wi n 0 4096)->B=270:=fun hn=>hBf (fun ok=>hn (ok.cap _ (aL hi)))
  obtain ⟨q,hq,h71⟩:=r71w p.capacity[i] (by have:=S.rows _ (aL hi);omega)
  simp [hi,h71]
  by_cases g1:p.capacity[i].length=p.cells.length
  rotate_left
  ·have g1' : ¬ (p.capacity[i].length:Int)=p.cells.length:=by omega
   simp [g1,g1',hBc (fun h=>g1 h.1)]
  simp [g1]
  cases q with
  | false=>
   have g2:∀ n,n ∈ p.capacity[i]->wi n 0 4096:=dG fun h=>by
    have:=hq.2 h;cases this
   have hPi:P i:=by rw [hP];exact fun _=>⟨g1,g2⟩
   simp [zg hi (by omega),hPi]
  | true=>simp [hBc (fun h=>hq.1 rfl h.2)]
 rintro env hp ⟨x4,x5,x6,x7,x8,x9,x10,x11,x12,x13,x14,x15,x16,x17,x21,x22,x23,x24,x25,x26,x27,x28,x29,x30,x31,x32,x33,x34,x35,x36,x37,x38,x39,x40,h,rfl,rfl⟩ hcap
 rw [hP] at hcap
 simp
 clear hP P
 obtain ⟨P,hP⟩:∃ P:Nat->Prop,P=fun i=>∀ (h:i<p.vars.length),OkVar p p.vars[i]:=⟨_,rfl⟩
 refine zdy p.vars.length P
  (fun i env hp=>∃ (x4 x5 x6 x7 x8 x9 x10 x11 x12 x13 x14 x15 x16 x17 x18 x19 x20 x21 x22 x26 x27 x28 x29 x30 x31 x32 x33 x34 x35 x36 x37 x38 x39 x40:D) (h:List Obj),env=[dProb p,.loc 0 0,dI 0,.map (some 1),x4,x5,x6,x7,x8,x9,x10,x11,x12,x13,x14,x15,x16,x17,x18,x19,x20,x21,x22,.imm .none (p.vars.map dVar),dI p.vars.length,dI i,x26,x27,x28,x29,x30,x31,x32,x33,x34,x35,x36,x37,x38,x39,x40]/\hp=.cells (dProb p).cellsL :: .map (es.map kent)::h)
  ⟨_,_,_,_,_,_,_,_,_,_,_,_,_,_,_,_,_,_,_,_,_,_,_,_,_,_,_,_,_,_,_,_,_,_,_,rfl,rfl⟩ ?_ ?_
 ·rintro i env hp hi ⟨x4,x5,x6,x7,x8,x9,x10,x11,x12,x13,x14,x15,x16,x17,x18,x19,x20,x21,x22,x26,x27,x28,x29,x30,x31,x32,x33,x34,x35,x36,x37,x38,x39,x40,h,rfl,rfl⟩ hall
  have hmem:=aL hi
  have hBv : ¬ OkVar p p.vars[i]->B=270:=fun hn=>hBf (fun ok=>hn (ok.vars _ hmem))
  have l1:=S.leaves _ hmem
  have l2:=S.choices _ hmem
  have h73:=r73 p.vars[i].leaves 74 cmpI r74 (by omega)
  have hcapw:=s2
  simp [hi,z3f,zcn,r67,h73]
  by_cases g1:p.vars[i].leaves=[]
  ·simp [g1,hBv (fun ok=>by have:=ok.some;rw [g1] at this;simp at this)]
  have g1l:p.vars[i].leaves.length ≠ 0:=fun h=>g1 (List.length_eq_zero_iff.1 h)
  by_cases g2:(p.vars[i].choices.length:Int)<1
  ·have g2' : ¬ (1:Int)<=p.vars[i].choices.length:=by omega
   simp [g1,g2',hBv (fun ok=>by have:=ok.one;omega)]
  have g2':(1:Int)<=p.vars[i].choices.length:=by omega
  have g2'':(p.vars[i].choices.length:Int)<=96:=by omega
  cases g3:incrB cmpI p.vars[i].leaves with
  | false=>
   simp [g1,g2',g2'',hBv (fun ok=>by
    have:incrB cmpI p.vars[i].leaves=true:=z3d.2 fun k hk=>zdm.2 (ok.incr k hk)
    rw [g3] at this;cases this)]
  | true=>
  have g3':=z3d.1 g3
  have hl0:0<p.vars[i].leaves.length:=by omega
  by_cases g4:p.vars[i].leaves[0]<0
  ·simp [g1,g2',g2'',hl0,z3f,g4,hBv (fun ok=>by
    have:=ok.leaves _ (aL hl0)
    unfold wi at this;omega)]
  have hl1:p.vars[i].leaves.length - 1<p.vars[i].leaves.length:=by omega
  have hwp:aA.wrap ((p.vars[i].leaves.length:Int) - 1)=((p.vars[i].leaves.length - 1:Nat):Int):=zmh hl0 (by omega)
  by_cases g5:(p.capacity.length:Int)<=p.vars[i].leaves[p.vars[i].leaves.length - 1]
  ·simp [g1,g2',g2'',hl0,hl1,z3f,g4,g5,hwp,hBv (fun ok=>by
    have:=ok.leaves _ (aL hl1)
    unfold wi at this;omega)]
  simp [g1,g2',g2'',hl0,hl1,z3f,g4,g5,hwp]
  have hleaves:∀ n,n ∈ p.vars[i].leaves->wi n 0 (p.capacity.length - 1):=z7n.2 fun k hk=>by
   have e:∀ (k:Nat) (hk:k+1<p.vars[i].leaves.length),p.vars[i].leaves[k]<p.vars[i].leaves[k+1]:=fun k hk=>zdm.1 (g3' k hk)
   have e1:=zh0 e k 0 hk (by omega)
   have e2:=zh0 e (p.vars[i].leaves.length - 1) k hl1 (by omega)
   unfold wi;omega
  obtain ⟨P2,hP2⟩:∃ P:Nat->Prop,P=fun k=>∀ (h:k<p.vars[i].choices.length),OkChoice p p.vars[i].choices[k]:=⟨_,rfl⟩
  refine zdy p.vars[i].choices.length P2
   (fun k env hp=>∃ (x4 x5 x7 x8 x9 x10 x11 x12 x13 x14 x15 x16 x17 x18 x19 x20 x21 x22 x26 x27 x28 x32 x33 x34 x35 x36 x37 x38 x39 x40:D) (G:List Obj),env=[dProb p,.loc 0 0,dI 0,.map (some 1),x4,x5,.loc (h.length+2) 0,x7,x8,x9,x10,x11,x12,x13,x14,x15,x16,x17,x18,x19,x20,x21,x22,.imm .none (p.vars.map dVar),dI p.vars.length,dI i,x26,x27,x28,.imm .none (p.vars[i].choices.map dChoice),dI p.vars[i].choices.length,dI k,x32,x33,x34,x35,x36,x37,x38,x39,x40]/\hp=.cells (dProb p).cellsL :: .map (es.map kent)::G/\G[h.length]? = some (.cells (dVar p.vars[i]).cellsL))
   ⟨_,_,_,_,_,_,_,_,_,_,_,_,_,_,_,_,_,_,_,_,_,_,_,_,_,_,_,_,_,_,_,rfl,rfl,z3f⟩ ?_ ?_
  ·rintro k env hp hk ⟨x4,x5,x7,x8,x9,x10,x11,x12,x13,x14,x15,x16,x17,x18,x19,x20,x21,x22,x26,x27,x28,x32,x33,x34,x35,x36,x37,x38,x39,x40,G,rfl,rfl,hG⟩ hall2
   have hBc : ¬ OkChoice p p.vars[i].choices[k]->B=270:=fun hn=>hBv (fun ok=>hn (ok.choices _ (aL hk)))
   have hmemk:=aL hk
   have l3:=S.uses _ hmem _ hmemk
   have h75:=r75 p.vars[i].choices[k].uses 76 (fun a b=>cmpC a.cell b.cell) r76 (by omega)
   simp [hk,z3f,zcn,r67,h75]
   by_cases k1:wi p.vars[i].choices[k].delay 0 1048576
   rotate_left
   ·rcases zhu k1 with ⟨q1,q2⟩ | ⟨q1,q2,q3,q4⟩
    ·simp [q1,q2,hBc (fun ok=>k1 ok.delay)]
    ·simp [q1,q2,q3,q4,hBc (fun ok=>k1 ok.delay)]
   obtain ⟨a1,a2,a3,a4⟩:=zht k1
   by_cases k2:wi p.vars[i].choices[k].cost 0 1048576
   rotate_left
   ·rcases zhu k2 with ⟨q1,q2⟩ | ⟨q1,q2,q3,q4⟩
    ·simp [a1,a2,a3,a4,q1,q2,hBc (fun ok=>k2 ok.cost)]
    ·simp [a1,a2,a3,a4,q1,q2,q3,q4,hBc (fun ok=>k2 ok.cost)]
   obtain ⟨b1,b2,b3,b4⟩:=zht k2
   by_cases k3:wi p.vars[i].choices[k].changes 0 1048576
   rotate_left
   ·rcases zhu k3 with ⟨q1,q2⟩ | ⟨q1,q2,q3,q4⟩
    ·simp [a1,a2,a3,a4,b1,b2,b3,b4,q1,q2,hBc (fun ok=>k3 ok.changes)]
    ·simp [a1,a2,a3,a4,b1,b2,b3,b4,q1,q2,q3,q4,hBc (fun ok=>k3 ok.changes)]
   obtain ⟨c1,c2,c3,c4⟩:=zht k3
   cases k4:incrB (fun a b:Use=>cmpC a.cell b.cell) p.vars[i].choices[k].uses with
   | false=>
    simp [a1,a2,a3,a4,b1,b2,b3,b4,c1,c2,c3,c4,hBc (fun ok=>by
     have:incrB (fun a b:Use=>cmpC a.cell b.cell) p.vars[i].choices[k].uses=true:=z3d.2 fun q hq=>by
      have:=ok.incr q hq
      rw [<- zd3] at this;exact this
     rw [k4] at this;cases this)]
   | true=>
   have k4':=z3d.1 k4
   simp [a1,a2,a3,a4,b1,b2,b3,b4,c1,c2,c3,c4,z3f]
   obtain ⟨P3,hP3⟩:∃ P:Nat->Prop,P=fun q=>∀ (h:q<p.vars[i].choices[k].uses.length),OkUse p p.vars[i].choices[k].uses[q]:=⟨_,rfl⟩
   have hGa:∀ r,(G++r)[h.length]? = some (.cells (dVar p.vars[i]).cellsL):=fun r=>by
    rw [ax (ac.1 hG).1];exact hG
   refine zdy p.vars[i].choices[k].uses.length P3
    (fun q env hp=>∃ (x4 x5 x9 x10 x11 x12 x13 x14 x15 x16 x17 x18 x19 x20 x21 x22 x26 x27 x28 x32 x33 x34 x38 x39 x40:D) (G2:List Obj),env=[dProb p,.loc 0 0,dI 0,.map (some 1),x4,x5,.loc (h.length+2) 0,.loc (G.length+2) 0,dI 1048576,x9,x10,x11,x12,x13,x14,x15,x16,x17,x18,x19,x20,x21,x22,.imm .none (p.vars.map dVar),dI p.vars.length,dI i,x26,x27,x28,.imm .none (p.vars[i].choices.map dChoice),dI p.vars[i].choices.length,dI k,x32,x33,x34,.imm .none (p.vars[i].choices[k].uses.map dUse),dI p.vars[i].choices[k].uses.length,dI q,x38,x39,x40]/\hp=.cells (dProb p).cellsL :: .map (es.map kent)::G2/\G2[h.length]? = some (.cells (dVar p.vars[i]).cellsL))
    ⟨_,_,_,_,_,_,_,_,_,_,_,_,_,_,_,_,_,_,_,_,_,_,_,_,_,_,rfl,rfl,hGa _⟩ ?_ ?_
   ·rintro q env hp hq ⟨x4,x5,x9,x10,x11,x12,x13,x14,x15,x16,x17,x18,x19,x20,x21,x22,x26,x27,x28,x32,x33,x34,x38,x39,x40,G2,rfl,rfl,hG2⟩ hall3
    have hGb:∀ r,(G2++r)[h.length]? = some (.cells (dVar p.vars[i]).cellsL):=fun r=>by
     rw [ax (ac.1 hG2).1];exact hG2
    have hBu:(¬ OkUse p p.vars[i].choices[k].uses[q])->B=270:=fun hn=>hBc (fun ok=>hn (ok.uses _ (aL hq)))
    have hfind:=zfd (c:=p.vars[i].choices[k].uses[q].cell) (es:=es)
    simp at hfind
    simp [hq,z3f,zcn,r67,hfind]
    by_cases m1:p.vars[i].choices[k].uses[q].cell ∈ es
    rotate_left
    ·simp [m1,hBu (fun ok=>m1 ((hes _).2 ok.known))]
    by_cases m2:wi p.vars[i].choices[k].uses[q].places 1 8
    rotate_left
    ·rcases zhu m2 with ⟨q1,q2⟩ | ⟨q1,q2,q3,q4⟩
     ·simp [m1,q1,q2,hBu (fun ok=>m2 ok.places)]
     ·simp [m1,q1,q2,q3,q4,hBu (fun ok=>m2 ok.places)]
    obtain ⟨d1,d2,d3,d4⟩:=zht m2
    have hPq:P3 q:=by rw [hP3];exact fun _=>⟨(hes _).1 m1,m2⟩
    simp [m1,d1,d2,d3,d4,zg hq (by omega),hPq]
    simpa using hGb _
   ·rintro env hp ⟨x4,x5,x9,x10,x11,x12,x13,x14,x15,x16,x17,x18,x19,x20,x21,x22,x26,x27,x28,x32,x33,x34,x38,x39,x40,G2,rfl,rfl,hG2⟩ hall3
    rw [hP3] at hall3
    have hPk:P2 k:=by
     rw [hP2]
     exact fun _=>⟨k1,k2,k3,z7n.2 fun q hq=>hall3 q hq hq,fun q hq=>by
      have:=k4' q hq
      rw [zd3] at this;exact this⟩
    simp [zg hk (by omega),hPk]
    simpa using hG2
  ·rintro env hp ⟨x4,x5,x7,x8,x9,x10,x11,x12,x13,x14,x15,x16,x17,x18,x19,x20,x21,x22,x26,x27,x28,x32,x33,x34,x35,x36,x37,x38,x39,x40,G,rfl,rfl,hG⟩ hall2
   rw [hP2] at hall2
   have hPi:P i:=by
    rw [hP]
    exact fun _=>⟨by omega,by omega,by omega,hleaves,fun k hk=>zdm.1 (g3' k hk),z7n.2 fun k hk=>hall2 k hk hk⟩
   simp [zg hi (by omega),hPi]
 rintro env hp ⟨x4,x5,x6,x7,x8,x9,x10,x11,x12,x13,x14,x15,x16,x17,x18,x19,x20,x21,x22,x26,x27,x28,x29,x30,x31,x32,x33,x34,x35,x36,x37,x38,x39,x40,h,rfl,rfl⟩ hvars
 rw [hP] at hvars
 have:B=0:=hBt ⟨by omega,z7n.2 fun i hi=>hcells i hi hi,fun i hi=>by
  have:=hincr i hi
  rw [zd3] at this;exact this,z7n.2 fun i hi=>hcap i hi hi,z7n.2 fun i hi=>hvars i hi hi⟩
 simp [this]

structure Bkg where
 prod:Int
 var:Int
 amt:Int
abbrev dBkg (b:Bkg):D:=.agg [dI b.prod,dI b.var,dI b.amt]
def nd (c:List Int) (i:Int):Int:=(c[i.toNat]?).getD 0
def nvA (p:Prob) (i:Int):Int:=((p.vars[i.toNat]?).map fun v=>v.a).getD 0
def bk4 (p:Prob) (c:List Int) (k:Int) (b:Bkg):List Ent:=[⟨1,nd c b.var,b.amt⟩,⟨2,nvA p b.var,b.amt⟩,⟨3,b.prod,-b.amt⟩,⟨4,k,-b.amt⟩]
def okBk (p:Prob) (b:Bkg):Bool:=wib b.var 0 ((p.vars.length:Int) - 1) && (wib (nvA p b.var) 0 4095 && (wib b.prod (-1) 7 && wib b.amt (-1048576) 1048576))
def bksE (p:Prob) (c:List Int) (k:Int) (bs:List Bkg):List Ent:=bs.flatMap (bk4 p c k)
def okSol (p:Prob) (c:List Int) (k:Int) (bs:List Bkg):Bool:=decide (c.length=p.vars.length) && (c.all (fun n=>wib n 0 7) && (wib k 0 3 && (decide (bs.length<=1024) && bs.all (okBk p))))
noncomputable def enE (p:Prob) (c:List Int) (k:Int) (bs:List Bkg):Int:=if ck p ≠ 0 then ck p else if okSol p c k bs=true then 0 else 430
noncomputable def enD (p:Prob) (c:List Int) (k:Int) (bs:List Bkg):D:=.tup [.imm .none ((if enE p c k bs=0 then netE (bksE p c k bs) else []).map dEnt),dI (enE p c k bs)]

theorem r367 (n:Int):runP E (dL E) 367 [dI n]=some (.bool (!wib n 0 7)):=by
 have e:=r368
 refine zj c367 (by simp) ?_
 simp [t367,n367,e]
theorem r369 (b:Bkg) (n1 n2 k:Int):runP E (dL E) 369 [dBkg b,dI n1,dI n2,dI k]=some (.fn 385 [.iptr [dI n1],.iptr [dI b.prod,dI b.var,dI b.amt],.iptr [dI n2],.iptr [dI k]]):=by
 refine zj c369 (by simp) ?_
 simp [t369,n369]

theorem i385 (b:Bkg) (n1 n2 k:Int) (hb:i64 (-b.amt)) (L:Nat) (J:List Ent->List Obj->Prop)
  (hy:∀ x rem hp,J (x::rem) hp->∃ hp',runY (dL E) L [dAcc x.kind x.idx,dI x.amt] hp=some (.bool true,hp')/\J rem hp')
  {hp:List Obj} {rem:List Ent} (h0:J ([⟨1,n1,b.amt⟩,⟨2,n2,b.amt⟩,⟨3,b.prod,-b.amt⟩,⟨4,k,-b.amt⟩]++rem) hp) :
  ∃ d hp',runS E (dL E) 385 [.yld L,.iptr [dI n1],.iptr [dI b.prod,dI b.var,dI b.amt],.iptr [dI n2],.iptr [dI k]] hp=some (d,hp')/\J rem hp':=by
 refine z2n c385 (R:=fun _ hp'=>J rem hp') (by simp) ?_
 obtain ⟨H1,e1,h1⟩:=hy _ _ _ h0
 obtain ⟨H2,e2,h2⟩:=hy _ _ _ h1
 obtain ⟨H3,e3,h3⟩:=hy _ _ _ h2
 obtain ⟨H4,e4,h4⟩:=hy _ _ _ h3
 have hw:aA.wrap (-b.amt) = -b.amt:=zb hb
 simp only at e1 e2 e3 e4
 simp [t385,n385,e1,e2,e3,e4,hw]
 exact h4

theorem zpo {p:Prob} {c:List Int} {k:Int}:∀ {bs:List Bkg},(bksE p c k bs).length=bs.length*4
 | []=>rfl
 | b::r=>by
  have ih:=zpo (p:=p) (c:=c) (k:=k) (bs:=r)
  have e:bksE p c k (b::r)=bk4 p c k b++bksE p c k r:=rfl
  rw [e,av,ih,show (bk4 p c k b).length=4 from rfl,az];omega
theorem r340 (p:Prob) (S:Small p) (c:List Int) (hc:c.length<=1000000) (k:Int) (bs:List Bkg) (hbs:bs.length<=1000000):runP E (dL E) 340 [dProb p,dInts c,dI k,.imm .none (bs.map dBkg)]=some (enD p c k bs):=by
 have e15:=r15 p S
 have e368:=r368
 have e71:=r71 c 367 (fun n=>!wib n 0 7) r367 hc
 rw [<- List.not_all_eq_any_not] at e71
 refine zj c340 (by simp) ?_
 unfold enD
 have hnv:=S.vars
 by_cases h0:ck p=0
 rotate_left
 ·have hE:enE p c k bs=ck p:=by unfold enE;rw [if_pos h0]
  rw [hE,if_neg h0]
  simp [t340,n340,e15,h0]
 rw [h0] at e15
 have hE:enE p c k bs=if okSol p c k bs=true then 0 else 430:=by unfold enE;rw [if_neg (by simp [h0])]
 have bad:okSol p c k bs=false->(D.tup [.imm .none ((if enE p c k bs=0 then netE (bksE p c k bs) else []).map dEnt),dI (enE p c k bs)])=.tup [.imm .none [],dI 430]:=fun h=>by
  rw [hE,h];rfl
 by_cases h1:c.length=p.vars.length
 rotate_left
 ·have h1' : ¬ (c.length:Int)=p.vars.length:=by omega
  rw [bad (by unfold okSol;rw [decide_eq_false h1];rfl)]
  simp [t340,n340,e15,h1']
 by_cases h2:c.all (fun n=>wib n 0 7)=true
 rotate_left
 ·have h2:c.all (fun n=>wib n 0 7)=false:=by simpa using h2
  rw [bad (by unfold okSol;rw [decide_eq_true h1,h2];rfl)]
  rw [h2] at e71
  simp [t340,n340,e15,h1,e71]
 rw [h2] at e71
 by_cases h3:wib k 0 3=true
 rotate_left
 ·have h3:wib k 0 3=false:=by simpa using h3
  rw [bad (by unfold okSol;rw [decide_eq_true h1,h2,h3];rfl)]
  simp [t340,n340,e15,h1,e71,e368,h3]
 by_cases h4:bs.length<=1024
 rotate_left
 ·have h4':(1024:Int)<bs.length:=by omega
  rw [bad (by unfold okSol;rw [decide_eq_true h1,h2,h3,decide_eq_false h4];rfl)]
  simp [t340,n340,e15,h1,e71,e368,h3,h4']
 have h4' : ¬ (1024:Int)<bs.length:=by omega
 have hok:okSol p c k bs=bs.all (okBk p):=by unfold okSol;rw [decide_eq_true h1,h2,h3,decide_eq_true h4];rfl
 rw [hok] at bad
 obtain ⟨F,hF⟩:∃ F,F=bksE p c k bs:=⟨_,rfl⟩
 have hFl:F.length=bs.length*4:=by
  rw [hF];exact zpo
 obtain ⟨X,hX⟩:∃ X,X=(D.tup [.imm .none ((if enE p c k bs=0 then netE (bksE p c k bs) else []).map dEnt),dI (enE p c k bs)]):=⟨_,rfl⟩
 have good:bs.all (okBk p)=true->X=.tup [.imm .none ((netE F).map dEnt),dI 0]:=fun h=>by
  rw [hX,hE,hok,h,if_pos rfl,if_pos rfl,hF]
 rw [<- hX] at bad ⊢
 simp [t340,n340,e15,h1,e71,e368,h3,h4']
 refine z10 bs.length (fun i env h=>∃ (x3 x7 x9 x10 x11 x12 x13 x14 x18 x19 x20 x21 x22 x23 x24 x25:D) (L:List Ent),env=[dProb p,dInts c,dI k,x3,.iptr (dProb p).cellsL,.imm .exact [],dI 0,x7,.loc 1 0,x9,x10,x11,x12,x13,x14,.imm .none (bs.map dBkg),dI bs.length,dI i,x18,x19,x20,x21,x22,x23,x24,x25]/\At h 0 (.map (eMap (sumsOf L [])))/\At h 1 (.cells [.map (some 0)])/\L++bksE p c k (bs.drop i)=F/\(∀ b,b ∈ bs.take i->okBk p b=true) /\ ∀ x,x ∈ L->bdE x) 0 (by omega) ⟨_,_,_,_,_,_,_,_,_,_,_,_,_,_,_,_,[],rfl,rfl,rfl,by rw [hF];rfl,by simp,by simp⟩ ?_
 rintro i env h hi ⟨x3,x7,x9,x10,x11,x12,x13,x14,x18,x19,x20,x21,x22,x23,x24,x25,L,rfl,A,A1,hLF,hgd,hbd⟩
 by_cases hlt:i<bs.length
 rotate_left
 ·have:i=bs.length:=by omega
  subst this
  rw [aZ] at hgd
  rw [cW] at hLF
  have hLF:L=F:=by rw [<- hLF];simp [bksE]
  subst hLF
  have hm:(sumsOf L []).length<=1000000:=by
   have:=z5l (l:=L) (m:=[]);simp at this;omega
  obtain ⟨d,hp',e,sp,rfl⟩:=s370 A hm
  have hX2:=good (ay.2 hgd)
  have hn:entM (sumsOf L [])=netE L:=rfl
  rw [hn] at e
  have y:loadD E h 75 (.loc 1 0)=some (.map (some 0)):=by
   unfold loadD
   simp only [A1.eq]
   rfl
  simp [-zp,y,e,noMark,hX2,zq]
 have hup:=zg hlt (by omega)
 obtain ⟨b,hb⟩:∃ b,b=bs[i]:=⟨_,rfl⟩
 have hbm:b ∈ bs:=by rw [hb];exact aL hlt
 have no:okBk p b=false->X=D.tup [.imm .none [],dI 430]:=fun h=>bad (by
  rw [<- kZ,ay]
  intro h2
  rw [h2 b hbm] at h;cases h)
 rw [zw hlt,<- hb] at hLF
 obtain ⟨R,hR⟩:∃ R,R=bksE p c k (bs.drop (i+1)):=⟨_,rfl⟩
 have hLF:L++(bk4 p c k b++R)=F:=by rw [hR];exact hLF
 obtain ⟨pr,vr,am⟩:=b
 have hwn:aA.wrap ((p.vars.length:Int) - 1)=(p.vars.length:Int) - 1:=zb ⟨by omega,by omega⟩
 by_cases a1:wib vr 0 ((p.vars.length:Int) - 1)=true
 rotate_left
 ·have a1:wib vr 0 ((p.vars.length:Int) - 1)=false:=by simpa using a1
  have hX2:=no (by unfold okBk;rw [a1];rfl)
  simp [hlt,<- hb,e368,hwn,a1,hX2]
 have a1':=zcd.1 a1
 obtain ⟨v,rfl⟩:∃ v:Nat,vr=v:=⟨vr.toNat,by omega⟩
 have hv:v<p.vars.length:=by omega
 have hvc:v<c.length:=by omega
 have hnd:nd c (v:Int)=c[v]:=by unfold nd;simp [hvc]
 have hnv2:nvA p (v:Int)=p.vars[v].a:=by unfold nvA;simp [hv]
 obtain ⟨n1,hn1⟩:∃ n1,n1=c[v]:=⟨_,rfl⟩
 obtain ⟨w,hw⟩:∃ w,w=p.vars[v]:=⟨_,rfl⟩
 rw [<- hw] at hnv2
 rw [<- hn1] at hnd
 by_cases a2:wib w.a 0 4095=true
 rotate_left
 ·have a2:wib w.a 0 4095=false:=by simpa using a2
  have hX2:=no (by unfold okBk;simp only [a1,hnv2,a2];rfl)
  simp [hlt,<- hb,e368,hwn,a1,hv,<- hw,a2,hX2]
 by_cases a3:wib pr (-1) 7=true
 rotate_left
 ·have a3:wib pr (-1) 7=false:=by simpa using a3
  have hX2:=no (by unfold okBk;simp only [a1,hnv2,a2,a3];rfl)
  simp [hlt,<- hb,e368,hwn,a1,hv,<- hw,a2,a3,hX2]
 by_cases a4:wib am (-1048576) 1048576=true
 rotate_left
 ·have a4:wib am (-1048576) 1048576=false:=by simpa using a4
  have hX2:=no (by unfold okBk;simp only [a1,hnv2,a2,a3,a4];rfl)
  simp [hlt,<- hb,e368,hwn,a1,hv,<- hw,a2,a3,a4,hX2]
 have hgd2:okBk p ⟨pr,v,am⟩=true:=by unfold okBk;simp only [a1,hnv2,a2,a3,a4];rfl
 have e369:=r369 ⟨pr,v,am⟩ n1 w.a k
 simp only at e369
 have a4':=zcd.1 a4
 simp [hlt,<- hb,e368,hwn,a1,hv,<- hw,a2,a3,a4,hvc,<- hn1,e369]
 have A:=A.app (r:=.cells [dI pr,dI (v:Int),dI am]::af 15 Obj.dead)
 have A1:=A1.app (r:=.cells [dI pr,dI (v:Int),dI am]::af 15 Obj.dead)
 simp only [af] at A A1
 generalize h ++ .cells [dI pr,dI (v:Int),dI am]::_=H0 at A A1
 refine ⟨385,_,rfl,?_⟩
 intro Lf hLf hcb
 obtain ⟨C,hC⟩:∃ C,C=H0.length:=⟨_,rfl⟩
 have hC2:2<=C:=by have:=A1.lt;omega
 obtain ⟨F',hF'⟩:∃ F',F'=L++bk4 p c k ⟨pr,v,am⟩:=⟨_,rfl⟩
 have hFb:∀ x,x ∈ F'->bdE x:=by
  intro x hx
  rw [hF'] at hx
  rcases aN.1 hx with hx | hx
  ·exact hbd x hx
  ·unfold bdE
   simp only [bk4,aw,eY,or_false] at hx
   rcases hx with rfl | rfl | rfl | rfl <;> simp only <;> omega
 have hFl2:F'.length<=2000000:=by
  have:=congrArg cB hLF
  rw [av,av] at this
  rw [hF',av];omega
 obtain ⟨J,hJ⟩:∃ J:List Ent->List Obj->Prop,J=fun rem H=>∃ Ls,At H 0 (.map (eMap (sumsOf Ls [])))/\At H 1 (.cells [.map (some 0)])/\At H C (Lf false none)/\Ls++rem=F':=⟨_,rfl⟩
 have key:=i385 ⟨pr,v,am⟩ n1 w.a k (by unfold i64;simp only;omega) C J (by
  intro x rem H hj
  rw [hJ] at hj
  obtain ⟨Ls,b0,b1,b2,b3⟩:=hj
  obtain ⟨t,hp2,e1,e2⟩:=hcb [dAcc x.kind x.idx,dI x.amt] H (fun t hp'=>t=true/\J rem hp') rfl (by rw [<- hC];exact b2) (by
   rw [<- hC]
   obtain ⟨H1,hH1⟩:∃ H1,H1=H.set C (Lf true none):=⟨_,rfl⟩
   have lC:=b2.lt
   have c0:At H1 0 (.map (eMap (sumsOf Ls []))):=by rw [hH1];exact b0.ne (by omega)
   have c1:At H1 1 (.cells [.map (some 0)]):=by rw [hH1];exact b1.ne (by omega)
   have c2:At H1 C (Lf true none):=by rw [hH1];exact At.self lC
   have y2:∀ r:List Obj,(H++r)[C]? = some (Lf false none):=fun r=>b2.app
   have y6:∀ r:List Obj,(H++r).set C (Lf true none)=H1++r:=fun r=>by rw [z1r lC,hH1]
   have y7:H.length=H1.length:=by rw [hH1,bp]
   have hw:=z95 hFb hFl2 b3
   obtain ⟨hs1,hs2⟩:=z9c b3
   have y1:=fun r:List Obj=>lk75 (a:=x.kind) (b:=x.idx) (c0.app (r:=r))
   have y3:=fun (r:List Obj) (n:Int)=>ms75 (a:=x.kind) (b:=x.idx) (n:=n) (c0.app (r:=r))
   have y4:∀ r:List Obj,loadD E (H1++r) 75 (.loc 1 0)=some (.map (some 0)):=fun r=>by
    unfold loadD
    simp only [c1.appE]
    rfl
   have y5:∀ r:List Obj,loadD E (H1 ++ .cells [dI x.kind,dI x.idx]::r) 65 (.loc H1.length 0)=some (dAcc x.kind x.idx):=fun r=>by
    unfold loadD
    simp only [z3f]
    rfl
   simp [setAll,↓y2,↓y6,y7,-zp,y4,y5,-z1k,-z2p,y1,y3,hw,hs2]
   have l0:=c0.lt
   refine ⟨(c2.app).ne (by omega),?_⟩
   rw [hJ]
   exact ⟨Ls++[x],(At.self (by rw [av];omega)).ne (by omega),((c1.app).ne (by omega)).ne (by omega),At.self (by rw [bp,av,<- y7];omega),hs1⟩)
  rw [e2.1,<- hC] at e1
  exact ⟨hp2,e1,e2.2⟩) (hp:=H0++[Lf false none]) (rem:=[]) (by
  rw [hJ]
  refine ⟨L,A.app,A1.app,by rw [hC];simp [At],?_⟩
  rw [hF',bW]
  simp only [bk4,hnd,hnv2])
 obtain ⟨d,hp',e,hj⟩:=key
 rw [hJ] at hj
 obtain ⟨Ls,b0,b1,b2,b3⟩:=hj
 rw [bW] at b3
 subst b3
 rw [hC] at e b2
 refine ⟨d,hp',e,.inl ⟨b2,?_⟩⟩
 rw [<- hC]
 simp [hup]
 refine ⟨Ls,b0.ne (by omega),b1.ne (by omega),?_,?_,hFb⟩
 ·rw [hF',bC,<- hR];exact hLF
 ·intro b' hb'
  rw [aT hlt,<- hb] at hb'
  rcases aN.1 hb' with hb' | hb'
  ·exact hgd b' hb'
  ·simp at hb';rw [hb'];exact hgd2

def pq0:Prob:=⟨[],[[]],[⟨7,0,[0],[⟨0,0,0,[]⟩]⟩]⟩
def eq0:List Ent:=[⟨1,3,10⟩,⟨2,7,10⟩,⟨3,2,-10⟩,⟨4,1,-10⟩]
def sq0:Stp:=⟨5,-1,eq0⟩
def pp0:Pst:=newP tgB [] sq0
theorem zr0:Small pq0:=by
 refine ⟨by decide,by decide,?_,by decide,?_,?_,?_⟩
 ·intro l hl;simp [pq0] at hl;subst hl;simp
 ·intro v hv;simp [pq0] at hv;subst hv;simp
 ·intro v hv;simp [pq0] at hv;subst hv;simp
 ·intro v hv c hc;simp [pq0] at hv;subst hv;simp at hc;subst hc;simp
theorem pq_ok:ck pq0=0:=by
 unfold ck
 rw [if_pos]
 refine ⟨by decide,?_,?_,?_,?_⟩
 ·intro c hc;simp [pq0] at hc
 ·intro i h;simp [pq0] at h
 ·intro l hl;simp [pq0] at hl;subst hl;simp [pq0]
 ·intro v hv
  simp [pq0] at hv;subst hv
  refine ⟨by simp,by simp,by simp,?_,?_,?_⟩
  ·intro n hn;simp at hn;subst hn;simp [wi,pq0]
  ·intro i h;simp at h
  ·intro c hc
   simp at hc;subst hc
   refine ⟨by simp [wi],by simp [wi],by simp [wi],?_,?_⟩
   ·intro u hu;simp at hu
   ·intro i h;simp at h
theorem zh9:sortE eq0:=by unfold sortE;decide
theorem eq_ne:∀ e,e ∈ eq0->e.amt ≠ 0:=by
 intro e he
 simp only [eq0,aw,eY,or_false] at he
 rcases he with rfl | rfl | rfl | rfl <;> decide
theorem ztz:netE eq0=eq0:=zib zh9 eq_ne fun _ _=>rfl
theorem zty:∀ e,e ∈ eq0->okT e:=by
 intro e he
 simp only [eq0,aw,eY,or_false] at he
 rcases he with rfl | rfl | rfl | rfl <;> decide
theorem ztx:tgt eq0:=⟨zty,z6m.1 zh9⟩
theorem zyc:sumE eq0=0:=by decide
theorem eq_fm:fmE eq0:=⟨by decide,by decide,fun x hx=>by
 have:=zty x hx
 unfold okT at this
 unfold okEnt
 omega,z6m.1 zh9⟩
theorem znc:postE tgB [] sq0=0:=by
 rw [zet z97 (by simp) (by simp)]
 exact z40.2 ⟨⟨by simp [newP],by simp [newP,sq0],by simp [newP,sq0],eq_fm⟩,zyc⟩
theorem znb:vld tgB [pp0]:=(zi3 znc).2.2.1
theorem enD0:enD pq0 [3] 1 [⟨2,0,10⟩]=.tup [.imm .none (eq0.map dEnt),dI 0]:=by
 have h1:okSol pq0 [3] 1 [⟨2,0,10⟩]=true:=by decide
 have h2:enE pq0 [3] 1 [⟨2,0,10⟩]=0:=by unfold enE;rw [pq_ok,h1];rfl
 have h3:bksE pq0 [3] 1 [⟨2,0,10⟩]=eq0:=rfl
 unfold enD
 rw [h2,h3,ztz]
 rfl
theorem bk0:bkN [] eq0=eq0:=by
 unfold bkN
 have:eq0++negL (low (allE []))=eq0:=rfl
 rw [this,ztz]
theorem bo0:Bok tgB [] 5 eq0:=⟨z97,ztx,fun _=>by unfold bkS;rw [bk0];exact znc⟩
theorem boD0:boD [] 5 eq0=.tup [dPsts [pp0],dI 0]:=by
 unfold boD
 rw [z1t.2 bo0,z5g bo0,bk0,if_neg (by decide)]
 unfold bkS
 rw [bk0]
 rfl
theorem bk1:bkN [pp0] eq0=[]:=by
 have:=bo0.again
 rw [z5g bo0,bk0,if_neg (by decide)] at this
 unfold bkS at this
 rw [bk0] at this
 exact this
theorem bo1:Bok tgB [pp0] 9 eq0:=⟨znb,ztx,fun h=>absurd bk1 h⟩
theorem boD1:boD [pp0] 9 eq0=.tup [dPsts [pp0],dI 0]:=by
 unfold boD
 rw [z1t.2 bo1,z5g bo1,if_pos bk1]
theorem bk2:bkN [] []=[]:=znk.2 fun _ _=>rfl
theorem bo2:Bok tgB [] 5 []:=⟨z97,⟨by simp,fun i hi=>by simp at hi⟩,fun h=>absurd bk2 h⟩
theorem boD2:boD [] 5 []=.tup [dPsts [],dI 0]:=by
 unfold boD
 rw [z1t.2 bo2,z5g bo2,if_pos bk2]
theorem znd:accL [pp0]=[(1,3),(2,7),(3,2),(4,1)]:=by
 have es:psort [(1,3),(2,7),(3,2),(4,1)]=[(1,3),(2,7),(3,2),(4,1)]:=
  zef (z3x _) (z51 _) (by decide)
 unfold accL
 have:accs [pp0]=[(1,3),(2,7),(3,2),(4,1)]:=rfl
 rw [this,es]
 decide
theorem stX0:stX [pp0] 3=0:=by unfold stX;rw [if_neg (by simp [z12.2 znb]),if_pos (by decide)]
theorem stD0:stD [pp0] 3 5=.tup [.imm .none [dEnt ⟨3,2,-10⟩],dI 0]:=by
 unfold stD
 rw [stX0,if_pos rfl]
 unfold stE
 rw [znd]
 rfl
theorem stD1:stD [pp0] 3 4=.tup [.imm .none [dEnt ⟨3,2,0⟩],dI 0]:=by
 unfold stD
 rw [stX0,if_pos rfl]
 unfold stE
 rw [znd]
 rfl
theorem stD2:stD [] 0 5=.tup [.imm .none [],dI 430]:=by
 have:stX [] 0=430:=by unfold stX;rw [if_neg (by simp [z12.2 z97]),if_neg (by decide)]
 unfold stD
 rw [this,if_neg (by decide)]
 rfl

theorem zk3:OkPs [pp0]:=⟨by simp,fun p hp=>by simp at hp;subst hp;exact ⟨dig32,by decide⟩⟩
theorem r339:runP E (dL E) 339 []=some (.bool true):=by
 have a1:=r340 pq0 zr0 [3] (by decide) 1 [⟨2,0,10⟩] (by decide)
 rw [enD0] at a1
 have b1:=r345 [] 5 eq0 okn (by decide)
 have b2:=r345 [pp0] 9 eq0 zk3 (by decide)
 have b3:=r345 [] 5 [] okn (by decide)
 rw [boD0] at b1
 rw [boD1] at b2
 rw [boD2] at b3
 have c1:=r352 [pp0] zk3 (by decide) 3 5
 have c2:=r352 [pp0] zk3 (by decide) 3 4
 have c3:=r352 [] okn (by decide) 0 5
 rw [stD0] at c1
 rw [stD1] at c2
 rw [stD2] at c3
 have d1:=r350 [pp0] zk3
 have d2:=r350 [] okn
 rw [z12.2 znb] at d1
 rw [z12.2 z97] at d2
 have e1:=r342 eq0 eq0 (by decide) (by decide)
 have e2:=r342 [⟨3,2,-10⟩] [⟨3,2,-10⟩] (by decide) (by decide)
 have e3:=r342 [⟨3,2,0⟩] [⟨3,2,0⟩] (by decide) (by decide)
 have f1:=r346 [pp0] [pp0] zk3 zk3
 have n0:pp0.prev.length=32:=dig32
 have pc:pp0.corrects = -1:=rfl
 simp only [dPsts,aq,aQ,eq0,decide_true,dProb,pq0,dInts,dCell,dVar,dChoice,dBkg,dUse] at a1 b1 b2 b3 c1 c2 c3 d1 d2 e1 e2 e3 f1
 generalize pp0=p0 at *
 have l2i:∀ (h:List Obj) (a:Int) (r:List D),loadD E h 2 (.iptr (dI a::r))=some (dI a):=fun _ _ _=>rfl
 have bc:(p0.corrects == -1)=true:=by rw [pc];rfl
 refine zj c339 (by simp) ?_
 simp [t339,n339,a1,b1,b2,b3,c1,c2,c3,d1,d2,e1,e2,e3,f1,n0,bc,l2i,z23,zh,noMark,-zr]

theorem zux {ds:List D} (h:DTc E 13 ds):∃ u:UInt8,ds=[byteD u]:=by
 cases h with
 | int h' hw=>
  rename_i k n
  have hk:(E.ty 13).k=.int .u8:=rfl
  rw [hk] at h';cases h'
  simp [Go.Lit.wf] at hw
  obtain ⟨a1,a2⟩:=hw
  have e1:gF.min=0:=by decide
  have e2:gF.max=255:=by decide
  have b1:0<=n:=by first | exact a1 | (rw [e1] at a1;exact a1)
  have b2:n<=255:=by first | exact a2 | (rw [e2] at a2;exact a2)
  refine ⟨bS n.toNat,?_⟩
  have:(bS n.toNat).toNat=n.toNat:=by simp;omega
  simp only [bi,D.int.injEq,and_true,true_and,this]
  omega
 | bool h'=>cases h'
 | str h'=>cases h'
 | slice h' _ _ _=>cases h'
 | struct h' _ _=>cases h'
 | arr h' _ _=>cases h'
theorem zxh {ds:List D} (h:DTc E 73 ds):∃ d:List UInt8,ds=d.map byteD/\d.length=32:=by
 obtain ⟨hl,hf⟩:=zxi h (n:=32) (e:=13) rfl
 have hl:ds.length=32:=hl
 have hx:∀ x,x ∈ ds->∃ u,x=byteD u/\True:=by
  intro x hx
  obtain ⟨i,hi,rfl⟩:=List.mem_iff_getElem.1 hx
  obtain ⟨u,hu⟩:=zux (hf i (by omega))
  have e1:(E.ty 13).size=1:=rfl
  rw [e1,Nat.mul_one,bJ hi] at hu
  simp only [dT,jF,bi,and_true] at hu
  exact ⟨u,hu,trivial⟩
 obtain ⟨d,rfl,_⟩:=za2 (f:=byteD) (R:=fun _=>True) hx
 exact ⟨d,rfl,by simpa using hl⟩
theorem zxg {x:D} (h:Typed E 71 x):∃ p,x=dPst p/\p.prev.length=32:=by
 obtain ⟨ds,rfl,h1⟩:=zdz h rfl
 obtain ⟨hl,hf⟩:=z9a h1 (fs:=[(0,2),(1,2),(2,2),(3,66),(4,73)]) rfl
 have hl:ds.length=36:=hl
 match ds,hl with
 | a::b::c::d::r,hl=>
  obtain ⟨n1,g1,_⟩:=z9b (hf 0 _ rfl) rfl
  obtain ⟨n2,g2,_⟩:=z9b (hf 1 _ rfl) rfl
  obtain ⟨n3,g3,_⟩:=z9b (hf 2 _ rfl) rfl
  obtain ⟨els,g4,hlen,g6⟩:=zcg (hf 3 _ rfl) (e:=72) rfl
  obtain ⟨dg,g5,h32⟩:=zxh (hf 4 _ rfl)
  obtain ⟨l,rfl,_⟩:=za2 (f:=dEnt) (R:=okE) (els:=els) fun x hx=>ztj (g6 x hx)
  have e1:(E.ty 2).size=1:=rfl
  have e2:(E.ty 66).size=1:=rfl
  have e3:(E.ty 73).size=32:=rfl
  simp only [cA,List.drop_succ_cons,e1,e2,e3,dT,jF,bi,and_true] at g1 g2 g3 g4 g5
  simp only [az] at hl
  rw [bq (by omega)] at g5
  subst g1 g2 g3 g4 g5
  exact ⟨⟨n1,n2,n3,l,dg⟩,rfl,h32⟩
theorem zfx {x:D} (h:Typed E 70 x):∃ l,x=dPsts l/\(∀ p,p ∈ l->p.prev.length=32)/\l.length<=9223372036854775807:=by
 obtain ⟨els,h5,hlen,h6⟩:=zcg (z99 h rfl) (e:=71) rfl
 simp only [bi,and_true] at h5
 subst h5
 obtain ⟨l,rfl,o⟩:=za2 (f:=dPst) (R:=fun p=>p.prev.length=32) (els:=els) fun x hx=>zxg (h6 x hx)
 exact ⟨l,rfl,o,by rw [aF] at hlen;exact hlen⟩
theorem zfy {x:D} (h:Typed E 66 x):∃ l:List Ent,x=.imm .none (l.map dEnt)/\(∀ e,e ∈ l->okE e)/\l.length<=9223372036854775807:=by
 obtain ⟨els,h5,hlen,h6⟩:=zcg (z99 h rfl) (e:=72) rfl
 simp only [bi,and_true] at h5
 subst h5
 obtain ⟨l,rfl,o⟩:=za2 (f:=dEnt) (R:=okE) (els:=els) fun x hx=>ztj (h6 x hx)
 exact ⟨l,rfl,o,by rw [aF] at hlen;exact hlen⟩

theorem zj1 {l:List (Int × Int)}:∀ x,x ∈ l.map pAcc->x.storable=true/\x.cellsL.length=2:=fun x hx=>by
 obtain ⟨s,_,rfl⟩:=aS.1 hx
 exact ⟨rfl,rfl⟩
theorem zq1 {hp:List Obj} {id:Nat} {sp sp':Spare} {l m:List (Int × Int)} (hl:l.length+m.length<=10000000) (R:RoomS hp sp l.length 2) :
  app0 E hp id 67 67 (.imm sp (l.map pAcc)) (.imm sp' (m.map pAcc))=some (.imm (.tok id) (l.map pAcc++m.map pAcc),addO (killS sp hp) id (.tok ((l.length+m.length)*2) 2)):=by
 have:=zfn (hp:=hp) (id:=id) (t:=67) (e:=65) (sz:=2) (sp:=sp) (sp':=sp') (els:=l.map pAcc) (new:=m.map pAcc) rfl rfl (zbs zj1) ⟨by
  rw [aF,aF,show (E.ty 65).bytes=16 from rfl];simp [maxBytes];omega,by decide,rfl,ziz zj1⟩ (by rw [aF];exact R)
 rw [aF,aF] at this
 exact this

theorem zsp {l:List Pst} {m:Int} {t:List Ent} (ok:OkPs l) (hl:l.length<=1000) (hN:t.length+entN l<=100000):OkPs (boL tgB l m t)/\(boL tgB l m t).length<=l.length+1/\entN (boL tgB l m t)<=t.length+2*entN l:=by
 have hb:=zpp (l:=l) (t:=t)
 unfold boL
 split
 ·split
  ·exact ⟨ok,by omega,by omega⟩
  ·refine ⟨⟨by simp;omega,fun p hp=>?_⟩,by simp,?_⟩
   ·rcases aN.1 hp with hp | hp
    ·exact ok.2 p hp
    ·simp at hp;subst hp
     exact ⟨dig32,by show (bkN l t).length<=1000000;omega⟩
   ·rw [zha]
    have:entN [newP tgB l (bkS l m t)]=(bkN l t).length:=by simp [entN,newP,bkS]
    omega
 ·exact ⟨⟨by simp,by simp⟩,by simp,by simp [entN]⟩

theorem law349 (l:List Pst) (hl:l.length<=9223372036854775807) (h32:∀ p,p ∈ l->p.prev.length=32) (m:Int) (t t':List Ent) (ht:t.length<=9223372036854775807) (ht':t'.length<=9223372036854775807) :
  runP E (dL E) 349 [dPsts l,dI m,.imm .none (t.map dEnt),.imm .none (t'.map dEnt)]=some (.bool true):=by
 have s0:=r339
 have e344:=r344 l hl h32
 refine zj c349 (by simp) ?_
 by_cases hf:few43 l=true
 rotate_left
 ·have hf:few43 l=false:=by simpa using hf
  rw [hf] at e344
  simp [t349,n349,s0,e344,z7]
 rw [hf] at e344
 by_cases h40:t.length<=40
 rotate_left
 ·have h41:(40:Int)<t.length:=by omega
  simp [t349,n349,s0,e344,z7,h41]
 have h41 : ¬ (40:Int)<t.length:=by omega
 by_cases g40:t'.length<=40
 rotate_left
 ·have g41:(40:Int)<t'.length:=by omega
  simp [t349,n349,s0,e344,z7,h41,g41]
 have g41 : ¬ (40:Int)<t'.length:=by omega
 have ok:=zdf hf h32
 have hN:=zh7 hf
 have hl20:=(z5c.1 hf).2
 have e1:=r345 l m t ok (by omega)
 obtain ⟨ok1,l1,n1⟩:=zsp (m:=m) (t:=t) ok (by omega) (by omega)
 have e2:=r345 (boL tgB l m t) m t' ok1 (by omega)
 obtain ⟨ok2,l2,n2⟩:=zsp (m:=m) (t:=t') ok1 (by omega) (by omega)
 have e3:=r345 l m t' ok (by omega)
 obtain ⟨ok3,l3,n3⟩:=zsp (m:=m) (t:=t') ok (by omega) (by omega)
 unfold boD at e1 e2 e3
 have hboth:boE tgB l m t=0->boE tgB (boL tgB l m t) m t'=0->boE tgB l m t'=0->vld tgB (boL tgB (boL tgB l m t) m t')/\vld tgB (boL tgB l m t') /\ ∀ k i,balP k i 1440 (boL tgB (boL tgB l m t) m t')=balP k i 1440 (boL tgB l m t'):=fun h1 h2 h3=>
  ⟨(z1t.1 h2).vld,(z1t.1 h3).vld,fun k i=>(z1t.1 h1).anew (z1t.1 h2) (z1t.1 h3) k i⟩
 generalize boE tgB l m t=E1 at *
 generalize hB1:boL tgB l m t=B1 at *
 generalize boE tgB B1 m t'=E2 at *
 generalize hB2:boL tgB B1 m t'=B2 at *
 generalize boE tgB l m t'=E3 at *
 generalize hB3:boL tgB l m t'=B3 at *
 by_cases z1:E1=0
 rotate_left
 ·simp [t349,n349,s0,e344,z7,zq,h41,g41,e1,e2,e3,z1]
 by_cases z2:E2=0
 rotate_left
 ·simp [t349,n349,s0,e344,z7,zq,h41,g41,e1,e2,e3,z1,z2]
 by_cases z3:E3=0
 rotate_left
 ·simp [t349,n349,s0,e344,z7,zq,h41,g41,e1,e2,e3,z1,z2,z3]
 obtain ⟨v2,v3,hbal⟩:=hboth z1 z2 z3
 subst z1 z2 z3
 have a2:=r325 B2 ok2 (by omega)
 have a3:=r325 B3 ok3 (by omega)
 have x2:=z7g (l:=B2)
 have x3:=z7g (l:=B3)
 have c2:=fun k i=>r347 B2 ok2 (by omega) k i 1440
 have c3:=fun k i=>r347 B3 ok3 (by omega) k i 1440
 have d2:=r350 B2 ok2
 rw [z12.2 v2] at c2 d2
 rw [z12.2 v3] at c3
 generalize accL B2=A2 at *
 generalize accL B3=A3 at *
 have apA:∀ hp id,app0 E hp id 67 67 (.imm .exact []) (dAccs A2)=some (.imm (.tok id) (A2.map pAcc),addO hp id (.tok (A2.length*2) 2)):=fun hp id=>by
  have:=zq1 (hp:=hp) (id:=id) (sp:=.exact) (sp':=.none) (l:=[]) (m:=A2) (by simp;omega) (.inl rfl)
  simpa [killS] using this
 obtain ⟨A,hA⟩:∃ A,A=A2++A3:=⟨_,rfl⟩
 have apB:∀ hp id k,hp[k]? = some (.tok (A2.length*2) 2)->app0 E hp id 67 67 (.imm (.tok k) (A2.map pAcc)) (dAccs A3)=some (.imm (.tok id) (A.map pAcc),addO (hp.set k .dead) id (.tok ((A2.length+A3.length)*2) 2)):=fun hp id k h=>by
  have:=zq1 (hp:=hp) (id:=id) (sp:=.tok k) (sp':=.none) (l:=A2) (m:=A3) (by omega) (.inr ⟨k,rfl,h⟩)
  rw [hA,bD]
  simpa [killS] using this
 have hAl:A.length<=10000:=by rw [hA];simp;omega
 simp [t349,n349,s0,e344,z7,zq,h41,g41,e1,e2,e3,a2,a3,apA,apB]
 simp only [if_true] at c2 c3
 refine z10 A.length (fun i env h=>∃ (x2 x3 x5 x6 x8 x10 x13 x14 x15 x16 x17 x18 x19 x20 x21 x22 x23 x24 x25:D) ,env=[dPsts l,dI m,x2,x3,.bool false,x5,x6,dPsts B2,x8,dPsts B3,x10,.imm (.tok 1) (A.map pAcc),dI i,x13,x14,x15,x16,x17,x18,x19,x20,x21,x22,x23,x24,x25]) 0 (by omega) ⟨_,_,_,_,_,_,_,_,_,_,_,_,_,_,_,_,_,_,_,rfl⟩ ?_
 rintro i env h hi ⟨x2,x3,x5,x6,x8,x10,x13,x14,x15,x16,x17,x18,x19,x20,x21,x22,x23,x24,x25,rfl⟩
 by_cases hlt:i<A.length
 rotate_left
 ·have:i=A.length:=by omega
  subst this
  simp [z7,d2]
 have hup:=zg hlt (by omega)
 have pA:pAcc A[i]=.agg [dI A[i].1,dI A[i].2]:=rfl
 have c2:=c2 A[i].1 A[i].2
 have c3:=c3 A[i].1 A[i].2
 rw [hbal] at c2
 simp [hlt,pA,hup,c2,c3,z7]

theorem accountsAnew:∀ xs,TypedL E [70,2,66,66] xs->∃ n,runP E (dC E n) 349 xs=some (.bool true):=by
 intro xs h
 match xs,h with
 | [x,y,z,w],⟨t1,t2,t3,t4,_⟩=>
  obtain ⟨l,rfl,h32,hl⟩:=zfx t1
  obtain ⟨m,rfl,_⟩:=zhw t2 rfl
  obtain ⟨t,rfl,_,ht⟩:=zfy t3
  obtain ⟨t',rfl,_,ht'⟩:=zfy t4
  exact z4y (law349 l hl h32 m t t' ht ht')
 | [],h=>exact h.elim
 | [_],h=>exact h.2.elim
 | [_,_],h=>exact h.2.2.elim
 | [_,_,_],h=>exact h.2.2.2.elim
 | _::_::_::_::_::_,h=>exact h.2.2.2.2.elim

theorem zxm {l:List Pst} {k m:Int} {x:Ent} (h:x ∈ stE l k m):x.kind=k/\x.amt=balP x.kind x.idx m l:=by
 unfold stE at h
 obtain ⟨a,ha,rfl⟩:=aS.1 h
 have:=(eC.1 ha).2
 exact ⟨by simpa using this,rfl⟩
theorem zxl {l:List Pst} {k m:Int}:(stE l k m).Pairwise fun a b=>a.idx<b.idx:=by
 unfold stE
 rw [List.pairwise_map]
 have h:=(zb0 l).filter (fun a=>decide (a.1=k))
 refine nb (fun {a b} ha hb hab=>?_) h
 have h1:=(eC.1 ha).2
 have h2:=(eC.1 hb).2
 simp only [decide_eq_true_eq] at h1 h2
 have:=zcw.1 hab
 simp only
 omega
theorem zmw {l:List Pst} {k m:Int} {i j:Nat} (h:i<j) (hj:j<(stE l k m).length):(stE l k m)[i].idx<(stE l k m)[j].idx:=
 List.pairwise_iff_getElem.1 zxl i j (by omega) hj h
theorem zv3 {l:List Pst} {k m:Int}:sumE (stE l k m)=(((accL l).filter fun a=>decide (a.1=k)).map fun a=>balP a.1 a.2 m l).sum:=by
 unfold stE
 generalize (accL l).filter _=L
 induction L with
 | nil=>rfl
 | cons a L ih=>simp only [aq,sumE,List.sum_cons,ih]
def tl5 (f:Nat->Int):Nat->Int
 | 0=>0
 | n+1=>f (6 - (n+1))+tl5 f n
theorem zqi {f:Nat->Int} {k:Nat} (h0:1<=k) (h:k<=5):tl5 f (6 - k)=f k+tl5 f (6 - (k+1)):=by
 have e:6 - k=(6 - (k+1))+1:=by omega
 rw [e,tl5]
 have:6 - (6 - (k+1)+1)=k:=by omega
 rw [this]
theorem kinds {l:List Pst} (v:vld tgB l):∀ a,a ∈ accL l->1<=a.1/\a.1<=5:=fun a ha=>by
 have ha:=zji.1 ha
 unfold accs at ha
 obtain ⟨p,hp,h2⟩:=bz.1 ha
 obtain ⟨x,hx,rfl⟩:=aS.1 h2
 exact ((v.2.1 p hp).fm.ents.ok x hx).1
theorem zuy {l:List Pst} (v:vld tgB l) (m:Int):tl5 (fun k=>sumE (stE l k m)) 5=0:=by
 have h:=(zde (fun a=>balP a.1 a.2 m l) (fun a=>a.1) (accL l) (kinds v)).1
 rw [zth v] at h
 simp only [tl5,zv3]
 have e1:((6 - (4+1):Nat):Int)=1:=rfl
 have e2:((6 - (3+1):Nat):Int)=2:=rfl
 have e3:((6 - (2+1):Nat):Int)=3:=rfl
 have e4:((6 - (1+1):Nat):Int)=4:=rfl
 have e5:((6 - (0+1):Nat):Int)=5:=rfl
 rw [e1,e2,e3,e4,e5]
 omega
theorem zuz {l:List Pst} (v:vld tgB l) (m:Int):tl5 (fun k=>((stE l k m).length:Int)) 5=(accL l).length:=by
 have h:=(zde (fun a=>balP a.1 a.2 m l) (fun a=>a.1) (accL l) (kinds v)).2
 have e:∀ k:Int,(stE l k m).length=((accL l).filter fun a=>decide (a.1=k)).length:=fun k=>by unfold stE;rw [aF]
 simp only [tl5,e]
 have e1:((6 - (4+1):Nat):Int)=1:=rfl
 have e2:((6 - (3+1):Nat):Int)=2:=rfl
 have e3:((6 - (2+1):Nat):Int)=3:=rfl
 have e4:((6 - (1+1):Nat):Int)=4:=rfl
 have e5:((6 - (0+1):Nat):Int)=5:=rfl
 rw [e1,e2,e3,e4,e5]
 omega
theorem zb9 {f:Nat->Int} (h:∀ k,0<=f k):∀ n,0<=tl5 f n
 | 0=>by simp [tl5]
 | n+1=>by
  have:=zb9 h n
  have:=h (6 - (n+1))
  simp only [tl5];omega
theorem zyk {l:List Pst} (v:vld tgB l) (hN:entN l<=800) (k i m:Int) : -(1099511627776*800)<=balP k i m l/\balP k i m l<=1099511627776*800:=by
 have:=zpu (l:=l) (k:=k) (i:=i) (m:=m) fun p hp x hx=>(v.2.1 p hp).fm.ents.ok x hx
 omega

theorem law351 (l:List Pst) (hl:l.length<=9223372036854775807) (h32:∀ p,p ∈ l->p.prev.length=32) (m:Int):runP E (dL E) 351 [dPsts l,dI m]=some (.bool true):=by
 have s0:=r339
 have e344:=r344 l hl h32
 refine zj c351 (by simp) ?_
 by_cases hf:few43 l=true
 rotate_left
 ·have hf:few43 l=false:=by simpa using hf
  rw [hf] at e344
  simp [t351,n351,s0,e344,z7]
 rw [hf] at e344
 have ok:=zdf hf h32
 have hN:=zh7 hf
 have e324:=r324 l ok
 by_cases h0:rdE tgB l=0
 rotate_left
 ·simp [t351,n351,s0,e344,z7,e324,h0]
 have v:=z12.1 h0
 have e352:∀ k:Nat,1<=k->k<=5->runP E (dL E) 352 [dPsts l,dI k,dI m]=some (.tup [.imm .none ((stE l k m).map dEnt),dI 0]):=fun k h1 h2=>by
  have:=r352 l ok (by omega) k m
  have hX:stX l k=0:=by unfold stX;rw [if_neg (by simp [h0]),if_pos (zcd.2 ⟨by omega,by omega⟩)]
  unfold stD at this
  rw [hX,if_pos rfl] at this
  exact this
 have e347:=fun k i=>r347 l ok (by omega) k i m
 rw [h0] at e324 e347
 simp only [if_true] at e347
 have e325:=r325 l ok (by omega)
 have hal:=z7g (l:=l)
 obtain ⟨fS,hfS⟩:∃ fS:Nat->Int,fS=fun k:Nat=>sumE (stE l (k:Int) m):=⟨_,rfl⟩
 obtain ⟨fL,hfL⟩:∃ fL:Nat->Int,fL=fun k:Nat=>((stE l (k:Int) m).length:Int):=⟨_,rfl⟩
 have hS:=zuy v m
 have hL:=zuz v m
 have hfn:∀ k,0<=fL k:=fun k=>by rw [hfL];simp only;omega
 rw [<- hfS] at hS
 rw [<- hfL] at hL
 simp [t351,n351,s0,e344,z7,e324]
 refine z10 6 (fun k env h=>∃ (x6 x7 x8 x9 x10 x11 x12 x13 x14 x15:D) (S N:Int),env=[dPsts l,dI m,.bool false,dI S,dI N,dI k,x6,x7,x8,x9,x10,x11,x12,x13,x14,x15]/\1<=k/\S+tl5 fS (6 - k)=0/\N+tl5 fL (6 - k)=(accL l).length/\0<=N /\ -(1099511627776*800*N)<=S/\S<=1099511627776*800*N) 1 (by omega) ⟨_,_,_,_,_,_,_,_,_,_,0,0,rfl,by omega,by simpa using hS,by simpa using hL,by omega,by omega,by omega⟩ ?_
 rintro k env h hk ⟨x6,x7,x8,x9,x10,x11,x12,x13,x14,x15,S,N,rfl,hk1,b1,b2,b3,b4,b5⟩
 by_cases hlt:k<=5
 rotate_left
 ·have:k=6:=by omega
  subst this
  simp only [Nat.sub_self,tl5,Int.add_zero] at b1 b2
  subst b1
  simp [z7,e325,b2]
 have hlt':(k:Int)<=5:=by omega
 rw [zqi hk1 hlt] at b1 b2
 have hnn:=zb9 hfn (6 - (k+1))
 have e352:=e352 k hk1 hlt
 have hm:=fun x hx=>zxm (l:=l) (k:=k) (m:=m) (x:=x) hx
 have ho:∀ (i j:Nat) (x y:Ent),i<j->(stE l k m)[i]? = some x->(stE l k m)[j]? = some y->x.idx<y.idx:=fun i j x y hij hx hy=>by
  obtain ⟨h1,rfl⟩:=ac.1 hx
  obtain ⟨h2,rfl⟩:=ac.1 hy
  exact zmw hij h2
 have f1:fS k=sumE (stE l k m):=by rw [hfS]
 have f2:fL k=(stE l k m).length:=by rw [hfL]
 rw [f1] at b1
 rw [f2] at b2
 clear f1 f2 hfS hfL
 have e5:6 - (k+1)=5 - k:=by omega
 rw [e5] at b1 b2 hnn
 generalize stE l k m=es at *
 have hel:(es.length:Int)<=800:=by omega
 have hw1:aA.wrap (N+(es.length:Int))=N+es.length:=zb ⟨by omega,by omega⟩
 simp [hlt',z7,e352,hw1]
 refine z10 es.length (fun e env h=>∃ (x7 x9 x10 x11 x12 x13 x14 x15:D) (S:Int),env=[dPsts l,dI m,.bool false,dI S,dI (N+es.length),dI k,.imm .none (es.map dEnt),x7,dI e,x9,x10,x11,x12,x13,x14,x15]/\S+(sumE (es.drop e)+tl5 fS (5 - k))=0 /\ -(1099511627776*800*(N+e))<=S/\S<=1099511627776*800*(N+e)) 0 (by omega) ⟨_,_,_,_,_,_,_,_,S,rfl,by simpa using b1,by simpa using b4,by simpa using b5⟩ ?_
 clear b1 b4 b5
 clear S h x6 x7 x8 x9 x10 x11 x12 x13 x14 x15
 rintro e env h he ⟨x7,x9,x10,x11,x12,x13,x14,x15,S,rfl,b1,b4,b5⟩
 by_cases hlt2:e<es.length
 rotate_left
 ·have:e=es.length:=by omega
  subst this
  rw [cW] at b1
  have hup:aA.wrap ((k:Int)+1)=(k:Int)+1:=zb ⟨by omega,by omega⟩
  have b1:S+tl5 fS (5 - k)=0:=by rw [<- b1];simp [sumE]
  simp [hup]
  exact ⟨by omega,_,_,_,_,_,_,_,_,_,_,_,_,⟨rfl,rfl,rfl,rfl,rfl,rfl,rfl,rfl,rfl,rfl,rfl,rfl⟩,b1,by omega,by omega,by omega,by omega⟩
 have hup2:=zg hlt2 (by omega)
 obtain ⟨x,hx⟩:∃ x,x=es[e]:=⟨_,rfl⟩
 have hx2:es[e]? = some x:=by rw [hx];exact ae hlt2
 obtain ⟨m1,m2⟩:=hm x (by rw [hx];exact aL hlt2)
 have bd:=zyk v hN x.kind x.idx m
 rw [<- m2] at bd
 rw [zw hlt2,<- hx] at b1
 simp only [sumE] at b1
 have hw:aA.wrap (S+x.amt)=S+x.amt:=zb ⟨by omega,by omega⟩
 have e347:=e347 x.kind x.idx
 rw [<- m2,m1] at e347
 rcases cU e with h0 | h0
 ·subst h0
  simp [hlt2,<- hx,hw,m1,e347,z7]
  exact ⟨_,_,_,_,_,_,_,_,_,⟨rfl,rfl,rfl,rfl,rfl,rfl,rfl,rfl,rfl,rfl⟩,by rw [List.drop_one] at b1;omega,by omega,by omega⟩
 ·have hwm:aA.wrap ((e:Int) - 1)=((e - 1:Nat):Int):=by
   rw [zb ⟨by omega,by omega⟩];omega
  have hlt3:e - 1<es.length:=by omega
  obtain ⟨y,hy⟩:∃ y,y=es[e - 1]:=⟨_,rfl⟩
  have hy2:es[e - 1]? = some y:=by rw [hy];exact ae hlt3
  have hlt4:=ho (e - 1) e y x (by omega) hy2 hx2
  have hlt5 : ¬ x.idx<=y.idx:=by omega
  simp [hlt2,<- hx,hw,m1,e347,z7,h0,hwm,hlt3,<- hy,hlt5,hup2]
  exact ⟨_,_,_,_,_,_,_,_,_,⟨rfl,rfl,rfl,rfl,rfl,rfl,rfl,rfl,rfl⟩,by omega,by omega,by omega⟩

theorem accountsEvery:∀ xs,TypedL E [70,2] xs->∃ n,runP E (dC E n) 351 xs=some (.bool true):=by
 intro xs h
 match xs,h with
 | [x,y],⟨t1,t2,_⟩=>
  obtain ⟨l,rfl,h32,hl⟩:=zfx t1
  obtain ⟨m,rfl,_⟩:=zhw t2 rfl
  exact z4y (law351 l hl h32 m)
 | [],h=>exact h.elim
 | [_],h=>exact h.2.elim
 | _::_::_::_,h=>exact h.2.2.elim

theorem AccRow.app {H r:List Obj} {A:List (Int × Int)} {d:D} (h:AccRow H A d):AccRow (H++r) A d:=by
 rcases h with h | ⟨k,cs,h1,h2,h3⟩
 ·exact .inl h
 ·exact .inr ⟨k,cs,h1,h2.app,h3⟩
theorem AccRow.len {H:List Obj} {A:List (Int × Int)} {d:D} (h:AccRow H A d):lenD E H 67 d=some (dI A.length):=by
 rcases h with ⟨rfl,rfl⟩ | ⟨k,cs,rfl,h2,h3⟩ <;> rfl
theorem AccRow.mark {H:List Obj} {A:List (Int × Int)} {d:D} (h:AccRow H A d):isMark d=false:=by
 rcases h with ⟨_,rfl⟩ | ⟨k,cs,rfl,_⟩ <;> rfl
theorem AccRow.get {H:List Obj} {A:List (Int × Int)} {d:D} (h:AccRow H A d) {i:Nat} (hi:i<A.length):∃ k,iaddrD E 67 d (dI i)=some (.loc k (i*2))/\(∀ r,loadD E (H++r) 65 (.loc k (i*2))=some (dAcc A[i].1 A[i].2))/\(∀ r,loadD E (H++r) 2 (.loc k (i*2))=some (dI A[i].1)) /\ ∀ r,loadD E (H++r) 2 (.loc k (i*2+1))=some (dI A[i].2):=by
 rcases h with ⟨rfl,rfl⟩ | ⟨k,cs,rfl,h2,h3⟩
 ·simp at hi
 ·have e:cs=unpairs (A.take i)++dI A[i].1::dI A[i].2::(unpairs (A.drop (i+1))++cs.drop (A.length*2)):=by
   have e:cs=unpairs A++cs.drop (A.length*2):=by rw [<- h3,bo]
   have e3:unpairs A=unpairs (A.take i)++dI A[i].1::dI A[i].2::unpairs (A.drop (i+1)):=by
    conv=>lhs;rw [<- bo i A,bJ hi,z4u,z47]
   conv=>lhs;rw [e,e3]
   simp
  have hl:(unpairs (A.take i)).length=i*2:=by rw [z2q,aW];omega
  generalize unpairs (A.take i)=P at e hl
  generalize unpairs (A.drop (i+1))++cs.drop (A.length*2)=Q at e
  subst e
  have t2:takeC (P++dI A[i].1::dI A[i].2::Q) (i*2) 2=some [dI A[i].1,dI A[i].2]:=by
   have:=z33 [dI A[i].1,dI A[i].2] Q (i*2) P hl
   simpa using this
  have t1:takeC (P++dI A[i].1::dI A[i].2::Q) (i*2) 1=some [dI A[i].1]:=by
   have:=z33 [dI A[i].1] (dI A[i].2::Q) (i*2) P hl
   simpa using this
  have t3:takeC (P++dI A[i].1::dI A[i].2::Q) (i*2+1) 1=some [dI A[i].2]:=by
   have:=z33 [dI A[i].2] Q (i*2+1) (P++[dI A[i].1]) (by simp [hl])
   simpa using this
  refine ⟨k,?_,fun r=>?_,fun r=>?_,fun r=>?_⟩
  ·simp [zf5,hi]
  all_goals unfold loadD
  ·simp only [h2.appE,show (E.ty 65).size=2 from rfl,t2];rfl
  ·simp only [h2.appE,show (E.ty 2).size=1 from rfl,t1];rfl
  ·simp only [h2.appE,show (E.ty 2).size=1 from rfl,t3];rfl
theorem AccRow.add {H:List Obj} {A:List (Int × Int)} {d:D} (h:AccRow H A d) (hl:A.length<=1000000) (a b:Int) :
  ∃ d' H',appendG E H 67 67 d (.imm .exact [dAcc a b])=some (d',H')/\AccRow H' (A++[(a,b)]) d':=by
 have hlo:listOf H 2 true (.imm .exact [dAcc a b])=some [dAcc a b]:=rfl
 have e67:(E.ty 67).k=.slice 65:=rfl
 have hb:(E.ty 65).bytes=16:=rfl
 rcases h with ⟨rfl,rfl⟩ | ⟨k,cs,rfl,hA,hc⟩
 ·refine ⟨.sl H.length 0 1 2 true true,H++[.cells (unpairs [(a,b)])],?_,.inr ⟨H.length,unpairs [(a,b)],rfl,by simp [At],rfl⟩⟩
  have h5:(0+1)*((E.ty 65).bytes+1)<=maxBytes/\(E.ty 65).bytes<=65536/\(zeroE E 65).isSome=true/\fitsE (E.ty 65).size ([]:List D)=true:=⟨by decide,by decide,rfl,rfl⟩
  unfold appendG
  simp only [e67]
  rw [show listOf H (E.ty 65).size (E.ty 65).ag (.imm .exact [dAcc a b])=some [dAcc a b] from hlo]
  simp only [az,aY]
  rw [if_neg (by simp),if_pos h5]
  rfl
 ·have hlen:A.length*2<=cs.length:=by
   have:=congrArg cB hc
   rw [z2q,aW] at this;omega
  have h5:(A.length+1)*((E.ty 65).bytes+1)<=maxBytes:=by rw [hb];simp [maxBytes];omega
  refine ⟨.sl H.length 0 (A.length+1) 2 true true,H.set k .dead++[.cells (unpairs (A++[(a,b)]))],?_,.inr ⟨H.length,unpairs (A++[(a,b)]),by rw [av];rfl,by simp [At],by rw [bq (by rw [z2q];omega)]⟩⟩
  unfold appendG
  simp only [e67]
  rw [show listOf H (E.ty 65).size (E.ty 65).ag (.imm .exact [dAcc a b])=some [dAcc a b] from hlo,hA.eq]
  simp only [az,aY]
  rw [if_neg (by simp)]
  by_cases he:cs.length=A.length*2
  ·rw [if_pos ⟨h5,by decide,rfl,rfl,he⟩,z4u,<- hc,bq (by omega)]
   rfl
  ·rw [if_neg fun h=>he h.2.2.2.2,if_pos ⟨h5,by decide,rfl,rfl,hlen⟩,z4u,hc]
   rfl

theorem Bok.at_ {l:List Pst} {m:Int} {t:List Ent} (b:Bok tgB l m t) (h:(boL tgB l m t).length ≠ l.length):∃ q,(boL tgB l m t)[l.length]? = some q/\q.corrects=(l.length:Int) - 1:=⟨_,b.last h,rfl⟩

theorem law343 (l:List Pst) (hl:l.length<=9223372036854775807) (h32:∀ p,p ∈ l->p.prev.length=32) (m w:Int) (t:List Ent) (ht:t.length<=9223372036854775807) :
  runP E (dL E) 343 [dPsts l,dI m,.imm .none (t.map dEnt),dI w]=some (.bool true):=by
 have s0:=r339
 have e344:=r344 l hl h32
 refine zj c343 (by simp) ?_
 by_cases hf:few43 l=true
 rotate_left
 ·have hf:few43 l=false:=by simpa using hf
  rw [hf] at e344
  simp [t343,n343,s0,e344,z7]
 rw [hf] at e344
 by_cases h40:t.length<=40
 rotate_left
 ·have h41:(40:Int)<t.length:=by omega
  simp [t343,n343,s0,e344,z7,h41]
 have h41 : ¬ (40:Int)<t.length:=by omega
 have ok:=zdf hf h32
 have hN:=zh7 hf
 have hl20:=(z5c.1 hf).2
 have e1:=r345 l m t ok (by omega)
 obtain ⟨ok1,l1,n1⟩:=zsp (m:=m) (t:=t) ok (by omega) (by omega)
 unfold boD at e1
 by_cases h0:boE tgB l m t=0
 rotate_left
 ·have hL:boL tgB l m t=[]:=by unfold boL;rw [if_neg h0]
  rw [hL] at e1
  simp [t343,n343,s0,e344,z7,zq,h41,e1,h0]
 have b:=z1t.1 h0
 have e2:=r345 (boL tgB l m t) m t ok1 (by omega)
 unfold boD at e2
 rw [b.twiceL,z1t.2 b.twice] at e2
 rw [h0] at e1
 have e324:=r324 (boL tgB l m t) ok1
 rw [z12.2 b.vld] at e324
 obtain ⟨k1,k2,k3⟩:=b.len
 have hsl:=sl70 k1 fun p hp=>(ok1.2 p hp).1
 rw [k3] at hsl
 have f1:=r346 l l ok ok
 have f2:=r346 (boL tgB l m t) (boL tgB l m t) ok1 ok1
 have g1:=fun k i m'=>r347 (boL tgB l m t) ok1 (by omega) k i m'
 have g2:=fun k i m'=>r347 l ok (by omega) k i m'
 have g3:=fun k i=>r348 t (by omega) k i
 rw [z12.2 b.vld] at g1
 rw [z12.2 b.v] at g2
 simp only [if_true] at g1 g2
 have hbef:=fun (h:w<m) k i=>b.before h k i
 have hbal:∀ k i,k<=4->balP k i 1440 (boL tgB l m t)=amtF k i t:=fun k i hk=>by rw [b.bal,if_pos hk,zq2 b.ok.2]
 have hlast:=b.at_
 obtain ⟨d0,H0,c1,hR⟩:=s325 (boL tgB l m t) ok1 (by omega)
 have hal:=z7g (l:=boL tgB l m t)
 have hmk:makD (runS E (dL E)) 325 [dPsts (boL tgB l m t)] []=some (d0,H0):=by
  have hm:=hR.mark
  unfold makD
  simp only [aY,af,c1,noMark,hm,Bool.false_eq_true,if_false,Option.map_some,cA,bj]
 generalize boL tgB l m t=L at *
 have hw1:aA.wrap ((l.length:Int)+1)=(l.length:Int)+1:=zb ⟨by omega,by omega⟩
 have hw2:aA.wrap ((l.length:Int) - 1)=(l.length:Int) - 1:=zb ⟨by omega,by omega⟩
 have q1 : ¬ (L.length:Int)<l.length:=by omega
 have q2 : ¬ (l.length:Int)+1<L.length:=by omega
 generalize accL L=A0 at *
 simp [t343,n343,s0,e344,z7,zq,h41,e1,e324,hw1,q1,q2,hsl,f1,hmk]
 refine z10 t.length (fun i env h=>∃ (x6 x9 x10 x11 x12 x13 x14 x15 x16 x17 x18 x19 x20 x21 x22 x23:D) (d:D),env=[dPsts l,dI m,.imm .none (t.map dEnt),dI w,.bool false,dPsts L,x6,d,dI i,x9,x10,x11,x12,x13,x14,x15,x16,x17,x18,x19,x20,x21,x22,x23]/\AccRow h (A0++(t.take i).map keyE) d) 0 (by omega) ⟨_,_,_,_,_,_,_,_,_,_,_,_,_,_,_,_,d0,rfl,by simpa using hR⟩ ?_
 rintro i env h hi ⟨x6,x9,x10,x11,x12,x13,x14,x15,x16,x17,x18,x19,x20,x21,x22,x23,d,rfl,R⟩
 by_cases hlt:i<t.length
 ·have hup:=zg hlt (by omega)
  obtain ⟨x,hx⟩:∃ x,x=t[i]:=⟨_,rfl⟩
  obtain ⟨d',H',y1,R'⟩:=R.add (by simp;omega) x.kind x.idx
  have hm:=R'.mark
  rw [bC] at R'
  have e:(t.take i).map keyE++[(x.kind,x.idx)]=(t.take (i+1)).map keyE:=by
   rw [aT hlt,bD,<- hx];rfl
  rw [e] at R'
  simp [hlt,<- hx,hup,y1]
  exact ⟨_,_,_,_,_,_,_,_,_,_,_,_,_,_,_,_,_,⟨rfl,rfl,rfl,rfl,rfl,rfl,rfl,rfl,rfl,rfl,rfl,rfl,rfl,rfl,rfl,rfl,rfl⟩,by rw [<- mr];exact R'⟩
 ·have:i=t.length:=by omega
  subst this
  rw [aZ] at R
  have hAl:(A0++t.map keyE).length<=10000:=by simp;omega
  generalize A0++t.map keyE=A at R hAl
  simp
  refine z10 A.length (fun i env h=>∃ (x6 x8 x10 x11 x12 x13 x14 x15 x16 x17 x18 x19 x20 x21 x22 x23:D) ,env=[dPsts l,dI m,.imm .none (t.map dEnt),dI w,.bool false,dPsts L,x6,d,x8,dI i,x10,x11,x12,x13,x14,x15,x16,x17,x18,x19,x20,x21,x22,x23]/\AccRow h A d) 0 (by omega) ⟨_,_,_,_,_,_,_,_,_,_,_,_,_,_,_,_,rfl,R⟩ ?_
  clear R
  clear h x6 x9 x10 x11 x12 x13 x14 x15 x16 x17 x18 x19 x20 x21 x22 x23
  rintro i env h hi ⟨x6,x8,x10,x11,x12,x13,x14,x15,x16,x17,x18,x19,x20,x21,x22,x23,rfl,R⟩
  have hlen:=R.len
  by_cases hlt2:i<A.length
  ·have hup2:=zg hlt2 (by omega)
   obtain ⟨k,y1,y2,y3,y4⟩:=R.get hlt2
   have y2':=y2 []
   have y3':=y3 []
   have y4':=y4 []
   rw [bW] at y2' y3' y4'
   obtain ⟨a,ha⟩:∃ a,a=A[i]:=⟨_,rfl⟩
   rw [<- ha] at y2 y3 y4 y2' y3' y4'
   by_cases hwm:w<m
   ·have hb:=hbef hwm a.1 a.2
    by_cases ha4:a.1<=4
    ·have hc:=hbal a.1 a.2 ha4
     simp [hlen,hlt2,hup2,y1,-zp,y2,y3,y4,y2',y3',y4',g1,g2,g3,z7,zq,hwm,hb,ha4,hc]
     exact R.app
    ·simp [hlen,hlt2,hup2,y1,-zp,y2,y3,y4,y2',y3',y4',g1,g2,g3,z7,zq,hwm,hb,ha4]
     exact R.app
   ·by_cases ha4:a.1<=4
    ·have hc:=hbal a.1 a.2 ha4
     simp [hlen,hlt2,hup2,y1,-zp,y2,y3,y4,y2',y3',y4',g1,g2,g3,z7,zq,hwm,ha4,hc]
     exact R.app
    ·simp [hlen,hlt2,hup2,y1,-zp,y2,y3,y4,y2',y3',y4',g1,g2,g3,z7,zq,hwm,ha4]
     exact R.app
  ·have:i=A.length:=by omega
   subst this
   by_cases hLl:L.length=l.length
   ·have hLl':(L.length:Int)=l.length:=by omega
    simp [hlen,z7,zq,e2,f2,hLl']
   ·have hLl' : ¬ (L.length:Int)=l.length:=by omega
    obtain ⟨q,hq,hq2⟩:=hlast hLl
    have hq32:=(ok1.2 q (List.mem_of_getElem? hq)).1
    simp [hlen,z7,zq,e2,f2,hLl',hq,hq32,il2,-zr,hw2,hq2]

theorem accountsBooked:∀ xs,TypedL E [70,2,66,2] xs->∃ n,runP E (dC E n) 343 xs=some (.bool true):=by
 intro xs h
 match xs,h with
 | [x,y,z,w],⟨t1,t2,t3,t4,_⟩=>
  obtain ⟨l,rfl,h32,hl⟩:=zfx t1
  obtain ⟨m,rfl,_⟩:=zhw t2 rfl
  obtain ⟨t,rfl,_,ht⟩:=zfy t3
  obtain ⟨w,rfl,_⟩:=zhw t4 rfl
  exact z4y (law343 l hl h32 m w t ht)
 | [],h=>exact h.elim
 | [_],h=>exact h.2.elim
 | [_,_],h=>exact h.2.2.elim
 | [_,_,_],h=>exact h.2.2.2.elim
 | _::_::_::_::_::_,h=>exact h.2.2.2.2.elim

end Dv
