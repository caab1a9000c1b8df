/- Texts that a proof of this claim uses, joined: Lw.W223, Lw.W224, Lw.W225, Lw.W241, Lw.W242, Lw.W243, Lw.W244, Lw.S41, Lw.Ty, Lw.W226, Lw.W227, Lw.W228, Lw.W245, Lw.W246, Lw.W2, Lw.W3, Lw.W4, Lw.W5, Lw.W6, Lw.W7, Lw.W247, Lw.W248, Lw.W249, Lw.W250, Lw.W251, Lw.W252, Lw.W253, Lw.W229. -/
import Derived.Test.YtfagnjchgplecaaDoorGa
import Derived.Test.YtfagnjchgplecaaDoorLwa
import Derived.Test.YtfagnjchgplecaaDoorDvd
import Derived.Test.YtfagnjchgplecaaDoorWa
set_option linter.all false
open Bool renaming and_eq_true->ai,and_false->lH,beq_eq_decide_eq->jF,false_and->gj,true_and->gJ
open Classical renaming byContradiction->dH
open Decidable renaming not_not->gw
open Go.IntKind renaming i64->aC
open Int renaming le_refl->nY
open List renaming all_cons->eD,all_eq_true->ax,all_nil->hO,append_assoc->bC,append_nil->bV,cons_append->aR,drop_length->cu,filter_append->iA,filter_cons->fC,getElem?_append_left->ay,getElem?_eq_getElem->ae,getElem?_eq_some_iff->ac,getElem_mem->aF,getElem_of_mem->fH,length->cG,length_append->ar,length_cons->az,length_filter_le->fq,length_map->aH,length_nil->be,length_set->bl,length_take->aS,map_append->bR,map_cons->au,map_nil->aO,mem_append->aQ,mem_cons->aw,mem_map->aV,nil_append->bh,not_mem_nil->eU,pairwise_cons->cW,replicate->ah,take_length->aY,take_succ_eq_append_getElem->aM
open List.cons renaming injEq->bp
open Nat renaming le_refl->af,lt_succ_iff_lt_or_eq->eV,zero_le->cH
open Option.some renaming injEq->aa
set_option maxHeartbeats 16000000
namespace Dv
attribute [local simp] ah depth y2c y6l y2k y2g y4y y19 y3t y2b Ret
attribute [local congr] z48 z4j z3b z2h z1x z3h z1w


def yaj(p:Int × Int):D:=y2v p.1 p.2
abbrev y8v(l:List (Int × Int)):D:=.imm .none (l.map yaj)
theorem zas{sz:Nat}{rest:List D}:∀(els:List D),(∀ x,x ∈ els->x.cellsL.length=sz/\yk true x.cellsL=some x)->y31 sz true els.length (yi els++rest)=some els
 |[],_=>rfl
 |x::els,h=>by
  obtain⟨h1,h2⟩:=h x (by simp)
  have ih:=zas (rest:=rest) els fun y hy=>h y (by simp[hy])
  have ht:=z6m x.cellsL (yi els++rest) 0 [] rfl
  rw[bh,h1] at ht
  rw[az,y31,zq,bC,ht]
  simp only[h2]
  rw[show(x.cellsL++(yi els++rest)).drop sz=yi els++rest from by rw[<- h1];simp,ih]
theorem zey:∀(l:List (Int × Int)),yi (l.map yaj)=yf l
 |[]=>rfl
 |p::l=>by rw[au,zq,zey l];rfl
theorem zri{X:List Obj}{q n:Nat}{L:List (Int × Int)}{gr:Bool}{cs:List D}(h:At X q (.cells cs))(hc:cs.take (L.length*2)=yf L):frz X (n+3) (.sl q 0 L.length 2 true gr)=some (y8v L):=by
 have hr:yw X q=some cs:=by unfold yw;rw[h.eq]
 have hcs:cs=yi (L.map yaj)++cs.drop (L.length*2):=by rw[zey,<- hc,List.take_append_drop]
 have hch:=zas (sz:=2) (rest:=cs.drop (L.length*2)) (L.map yaj) (fun x hx=>by obtain⟨p,_,rfl⟩:=aV.1 hx;exact⟨rfl,rfl⟩)
 rw[<- hcs,aH] at hch
 show(match yw X q with | some cs=>(match y31 2 true L.length (cs.drop 0) with | some els=>(y1y (frz X (n+2)) els).map (D.imm .none) | none=>none) | none=>none)=_
 rw[hr]
 simp only[List.drop_zero]
 rw[hch]
 simp only[]
 rw[show y1y (frz X (n+2)) (L.map yaj)=some (L.map yaj) from z17 fun _ _=>rfl]
 rfl

theorem yep(hp:List Obj):y1n E (dL E) 363 [.imm .exact []] hp=some (.imm .exact [],hp):=by
 have:∃ d hp',y1n E (dL E) 363 [.imm .exact []] hp=some (d,hp')/\(d=.imm .exact []/\hp'=hp):=by
  refine z2q c363 (args:=[.imm .exact []]) (hp:=hp) (R:=fun d hp'=>d=.imm .exact []/\hp'=hp) (by simp) ?_
  simp[t363,n363]
 obtain⟨d,hp',e,rfl,rfl⟩:=this
 exact e

def y4w(f:Nat)(H:List Obj)(acc:List (Int × Int))(d:D):Prop:=
 (acc=[]/\d=.imm .exact []) \/ ∃ k,d=.sl k 0 acc.length 2 true true/\2<=k/\k ≠ f/\At H k (.cells (yf acc))
theorem y4w.app{f:Nat}{H r:List Obj}{acc:List (Int × Int)}{d:D}(h:y4w f H acc d):y4w f (H++r) acc d:=by
 rcases h with h | ⟨k,h1,h2,h3,h4⟩
 ·exact .inl h
 ·exact .inr ⟨k,h1,h2,h3,h4.app⟩
theorem y4w.set{f j:Nat}{H:List Obj}{o:Obj}{acc:List (Int × Int)}{d:D}(h:y4w f H acc d)(hj:j<2):y4w f (H.set j o) acc d:=by
 rcases h with h | ⟨k,h1,h2,h3,h4⟩
 ·exact .inl h
 ·exact .inr ⟨k,h1,h2,h3,h4.ne (by omega)⟩
theorem y4w.own{f:Nat}{H r:List Obj}{acc:List (Int × Int)}{d:D}(h:y4w f H acc d):y4w H.length (H++r) acc d:=by
 rcases h with h | ⟨k,h1,h2,h3,h4⟩
 ·exact .inl h
 ·exact .inr ⟨k,h1,h2,by have:=h4.lt;omega,h4.app⟩

theorem zt0{f:Nat}{H:List Obj}{acc:List (Int × Int)}{d:D}{a b:Int}(h:y4w f H acc d)(hl:acc.length<=1000000)(hf:f<H.length)(h2:2<=H.length) :
  ∃ d' H',y2y E H 67 67 d (.imm .exact [y2v a b])=some (d',H')/\y4w f H' (acc++[(a,b)]) d'/\d'.storable=true/\d'.cellsL=[d'] /\ ∀ j o,j<2\/j=f->At H j o->At H' j o:=by
 have hlo:y15 H 2 true (.imm .exact [y2v a b])=some [y2v a b]:=rfl
 have e67:(E.ty 67).k=.slice 65:=rfl
 rcases h with⟨rfl,rfl⟩ | ⟨k,rfl,hk,hkf,hA⟩
 ·refine⟨.sl H.length 0 1 2 true true,H++[.cells (yf [(a,b)])],?_,.inr ⟨H.length,rfl,by omega,by omega,by simp[At]⟩,rfl,rfl,fun j o _ a=>a.app⟩
  have h5:(0+1)*((E.ty 65).bytes+1)<=yj/\(E.ty 65).bytes<=65536/\(y20 E 65).isSome=true/\y2q (E.ty 65).size ([]:List D)=true:=⟨by decide,by decide,rfl,rfl⟩
  unfold y2y
  simp only[e67]
  rw[show y15 H (E.ty 65).size (E.ty 65).ag (.imm .exact [y2v a b])=some [y2v a b] from hlo]
  simp only[az,be]
  rw[if_neg (by simp),if_pos h5]
  rfl
 ·have hb:(E.ty 65).bytes=16:=rfl
  refine⟨.sl H.length 0 (acc.length+1) 2 true true,H.set k .dead++[.cells (yf (acc++[(a,b)]))],?_,.inr ⟨H.length,by rw[ar];rfl,by omega,by omega,by simp[At]⟩,rfl,rfl,fun j o hj a=>(a.ne (by omega)).app⟩
  have h5:(acc.length+1)*((E.ty 65).bytes+1)<=yj/\(E.ty 65).bytes<=65536/\(y20 E 65).isSome=true/\2=(E.ty 65).size/\(yf acc).length=acc.length*2:=⟨by rw[hb];simp[yj];omega,by decide,rfl,rfl,z4a acc⟩
  unfold y2y
  simp only[e67]
  rw[show y15 H (E.ty 65).size (E.ty 65).ag (.imm .exact [y2v a b])=some [y2v a b] from hlo,hA.eq]
  simp only[az,be]
  rw[if_neg (by simp),if_pos h5,z9e]
  rfl

def ybm(x:Int × Ent):Int × Int:=(x.2.kind,x.2.idx)
theorem zca:∀(l:List Pst),(y49 l).map ybm=yc2 l
 |[]=>rfl
 |p::l=>by
  have ih:=zca l
  rw[z4p,bR,ih,List.map_map]
  rfl

def yau(H:List Obj)(A:List (Int × Int))(d:D):Prop:=
 (A=[]/\d=.imm .exact []) \/ ∃ k cs,d=.sl k 0 A.length 2 true true/\At H k (.cells cs)/\cs.take (A.length*2)=yf A

theorem s325(l:List Pst)(ok:y8i l)(hN:y7z l<=1000000):∃ d hp',y1n E (dL E) 325 [y1r l] []=some (d,hp')/\yau hp' (ya0 l) d:=by
 have e359:=r359 l
 refine z2q c325 (R:=fun d hp'=>yau hp' (ya0 l) d) (by simp) ?_
 obtain⟨AS,hAS⟩:∃ AS,AS=yc2 l:=⟨_,rfl⟩
 have hasl:AS.length=y7z l:=by rw[hAS];exact zdl l
 have hLs:ya0 l=y1h (y1l AS):=by rw[hAS];rfl
 rw[hLs]
 simp[t325,n325,zl,e359]
 refine⟨380,_,rfl,?_⟩
 intro L hL hcb
 obtain⟨J,hJ⟩:∃ J:Nat->List (Int × Ent)->List Obj->Prop,J=fun f rem hp'=>2<=f /\ ∃ acc d,At hp' 0 (.cells [d])/\At hp' 1 (L false none)/\acc++rem.map ybm=AS/\y4w f hp' acc d:=⟨_,rfl⟩
 have key:=i380 l ok 1 J (fun _=>False) (by
   rw[hJ]
   rintro f rem hp' r ⟨hf,acc,d,a1,a2,a3,a4⟩
   exact⟨hf,acc,d,a1.app,a2.app,a3,a4.app⟩) (by
   rw[hJ]
   rintro f rem hp' r ⟨hf,acc,d,a1,a2,a3,a4⟩
   exact⟨by have:=a2.lt;omega,acc,d,a1.app,a2.app,a3,a4.own⟩) (by
   intro f x rem hp1 o hj ho
   rw[hJ] at hj
   obtain⟨hf,acc,d,a1,a2,a3,a4⟩:=hj
   have l1:=a2.lt
   obtain⟨mi,⟨kd,ix,am⟩⟩:=x
   have hal:acc.length<=1000000:=by
    have:=congrArg cG a3
    rw[ar] at this
    omega
   obtain⟨H1,hH1⟩:∃ H1,H1=hp1.set 1 (L true none):=⟨_,rfl⟩
   have b0:At H1 0 (.cells [d]):=by rw[hH1];exact a1.ne (by omega)
   have b1:At H1 1 (L true none):=by rw[hH1];exact At.self l1
   have bf:At H1 f o:=by rw[hH1];exact ho.ne (by omega)
   have b4:y4w f H1 acc d:=by rw[hH1];exact a4.set (by omega)
   have l0:=b0.lt
   have lf:=bf.lt
   obtain⟨t,hp2,e1,e2⟩:=hcb [dI mi,y18 ⟨kd,ix,am⟩] hp1 (fun t hp'=>t=true/\J f rem hp'/\At hp' f o) rfl a2 (by
    rw[show[Obj.cells [D.imm y1a.exact []]].length=1 from rfl]
    have y2:∀ r:List Obj,(hp1++r)[1]? = some (L false none):=fun r=>a2.app
    have y6:∀ r:List Obj,(hp1++r).set 1 (L true none)=H1++r:=fun r=>by rw[z1s l1,hH1]
    have y7:hp1.length=H1.length:=by rw[hH1,bl]
    have y0:∀ r:List Obj,(H1++r)[0]? = some (.cells [d]):=fun r=>b0.app
    have hda:d.atom=true:=by rcases a4 with⟨_,rfl⟩ | ⟨k,rfl,_⟩ <;> rfl
    obtain⟨d',H',g1,g2,g3,g4,g5⟩:=zt0 (a:=kd) (b:=ix) (b4.app (r:=[.cells [dI kd,dI ix,dI am]])) hal (by rw[ar];omega) (by rw[ar];omega)
    have c0:At H' 0 (.cells [d]):=g5 0 _ (.inl (by omega)) b0.app
    have c1:At H' 1 (L true none):=g5 1 _ (.inl (by omega)) b1.app
    have cf:At H' f o:=g5 f _ (.inr rfl) bf.app
    have c10:∀ o,(H'.set 0 o)[1]? = some (L true none):=fun o=>c1.ne (by omega)
    have fin:J f rem ((H'.set 0 (.cells [d'])).set 1 (L false none))/\At ((H'.set 0 (.cells [d'])).set 1 (L false none)) f o:=by
     have k0:=c0.lt
     have k1:=c1.lt
     rw[hJ]
     refine⟨⟨hf,acc++[(kd,ix)],d',(At.self k0).ne (by omega),At.self (by rw[bl];exact k1),by rw[<- a3];simp[ybm],(g2.set (by omega)).set (by omega)⟩,(cf.ne (by omega)).ne (by omega)⟩
    simp[y2f,↓y2,↓y6,y7,↓y0,hda,g1,g3,g4,c0.eq,↓c10]
    exact fin)
   exact⟨t,hp2,e1,fun _=>e2.2,fun h=>by rw[e2.1] at h;cases h⟩) (hp:=[.cells [.imm .exact []],L false none]) (f0:=2) (by
   rw[hJ]
   exact⟨af _,[],.imm .exact [],rfl,rfl,by rw[zca,hAS];rfl,.inl ⟨rfl,rfl⟩⟩)
 obtain⟨d,hp',h1,h2⟩:=key
 rcases h2 with⟨f,h2⟩ | h2
 ·rw[hJ] at h2
  obtain⟨_,acc,dd,a1,a2,a3,a4⟩:=h2
  rw[aO,bV] at a3
  subst a3
  refine⟨d,hp',h1,.inl ⟨a2,?_⟩⟩
  have hal:acc.length<=1000000:=by omega
  obtain⟨H2,hH2⟩:∃ H2,H2=hp'.set 1 Obj.dead:=⟨_,rfl⟩
  have b0:At H2 0 (.cells [dd]):=by rw[hH2];exact a1.ne (by omega)
  have b4:y4w f H2 acc dd:=by rw[hH2];exact a4.set (by omega)
  have l0:=b0.lt
  rcases b4 with⟨rfl,rfl⟩ | ⟨k,rfl,hk2,hkf,b4⟩
  ·have e1:=yeq (hp:=H2) (k:=362) (.inl rfl)
   have e2:=yep H2
   have c0:∀ o,(H2.set 0 o)[0]? = some o:=fun o=>At.self l0
   simp[<- hH2,b0.eq,e1,e2,y14,↓c0]
   exact .inl ⟨by simp[y1l,y1h],rfl⟩
  ·have e1:=s361 (k:=362) (gr:=true) (ag:=true) (.inl rfl) b4 hal
   obtain⟨H3,hH3⟩:∃ H3,H3=H2.set k (.cells (yf (y1l acc))):=⟨_,rfl⟩
   have g0:At H3 0 (.cells [.sl k 0 acc.length 2 true true]):=by rw[hH3];exact b0.ne (by omega)
   have g4:At H3 k (.cells (yf (y1l acc))):=by rw[hH3];exact At.self b4.lt
   obtain⟨d',H4,e2,cs,rfl,f4,f5,K⟩:=s363 g4 (by rw[z2r];exact hal)
   rw[z2r] at e2
   have f0:=K.2 0 _ (by omega) g0
   have c0:∀ o,(H4.set 0 o)[0]? = some o:=fun o=>At.self f0.lt
   simp[<- hH2,b0.eq,e1,<- hH3,g0.eq,e2,f0.eq,y14,↓c0]
   exact .inr ⟨k,cs,rfl,f4.ne (by omega),f5⟩
 ·exact h2.elim


theorem r325(l:List Pst)(ok:y8i l)(hN:y7z l<=1000000):y17 E (dL E) 325 [y1r l]=some (y8v (ya0 l)):=by
 obtain⟨d,hp',e,h⟩:=s325 l ok hN
 have hk:E.keep 325=false:=rfl
 unfold y17
 simp only[e,hk]
 show frz hp' 12 d=_
 rcases h with⟨h1,rfl⟩ | ⟨k,cs,rfl,h2,h3⟩
 ·rw[h1];rfl
 ·exact zri (n:=9) h2 h3

end Dv

namespace Dv

theorem ze5:∀{a b:List (Int × Int)},a.Perm b->a.Pairwise (fun x y=>y3k y x=false)->b.Pairwise (fun x y=>y3k y x=false)->a=b
 |[],b,hp,_,_=>by rw[List.nil_perm.1 hp]
 |x::a,[],hp,_,_=>by simp at hp
 |x::a,y::b,hp,ha,hb=>by
  obtain⟨a1,a2⟩:=cW.1 ha
  obtain⟨b1,b2⟩:=cW.1 hb
  have hxy:x=y:=by
   have h1:x ∈ y::b:=hp.mem_iff.1 (by simp)
   have h2:y ∈ x::a:=hp.mem_iff.2 (by simp)
   rcases aw.1 h1 with h1 | h1
   ·exact h1
   ·rcases aw.1 h2 with h2 | h2
    ·exact h2.symm
    ·have c1:=b1 x h1
     have c2:=a1 y h2
     rcases z6u c2 with h | h
     ·exact h
     ·rw[h] at c1;simp at c1
  subst hxy
  rw[ze5 ((List.perm_cons x).1 hp) a2 b2]
end Dv

namespace Dv
attribute [local simp] ah depth y2c y6l y2k y2g y4y y19 y3t y2b Ret
attribute [local congr] z48 z4j z3b z2h z1x z3h z1w


def y34:y1a->List Obj->List Obj
 |.tok q,h=>h.set q .dead
 |_,h=>h
theorem z5e{sp:y1a}{h:List Obj}:(y34 sp h).length=h.length:=by
 unfold y34;split <;> simp
def y4t(h:List Obj)(sp:y1a)(n sz:Nat):Prop:=sp=.exact \/ ∃ k,sp=.tok k/\At h k (.tok (n*sz) sz)
theorem y4t.app{h r:List Obj}{sp:y1a}{n sz:Nat}(R:y4t h sp n sz):y4t (h++r) sp n sz:=by
 rcases R with R | ⟨k,R,a⟩
 ·exact .inl R
 ·exact .inr ⟨k,R,a.app⟩
theorem zes{h r:List Obj}{sp:y1a}{n sz:Nat}(R:y4t h sp n sz):y34 sp (h++r)=y34 sp h++r:=by
 rcases R with rfl | ⟨k,rfl,a⟩
 ·rfl
 ·exact z1s a.lt
theorem zr1{h:List Obj}{sp:y1a}{j:Nat}{o:Obj}(a:At h j o)(hj:∀ k,sp=.tok k->k ≠ j):At (y34 sp h) j o:=by
 cases sp with
 |tok k=>exact a.ne (hj k rfl)
 |exact=>exact a
 |none=>exact a
theorem zpm{hp:List Obj}{id t e sz:Nat}{sp sp':y1a}{els new:List D}(hk:(E.ty t).k=.slice e)(hs:(E.ty e).size=sz)(hl:y15 hp (E.ty e).size (E.ty e).ag (.imm sp' new)=some new)(hap:y3f E e els new)(R:y4t hp sp els.length sz) :
  y7t E hp id t t (.imm sp els) (.imm sp' new)=some (.imm (.tok id) (els++new),y2b (y34 sp hp) id (.tok ((els.length+new.length)*sz) sz)):=by
 rw[hs] at hl
 rcases R with rfl | ⟨k,rfl,a⟩
 ·rw[z1g]
  simp only[hk,hl,z8,hs]
  rw[if_pos hap]
  rfl
 ·rw[z1u]
  simp only[hk,hl,z8,hs]
  rw[if_pos hap,a.eq,zch,z8,if_pos ⟨rfl,rfl⟩]
  rfl
theorem zk2{hp:List Obj}{sp:y1a}{sz:Nat}{ag:Bool}{els:List D}(h:∀ x,x ∈ els->x.storable=true/\x.cellsL.length=sz):y15 hp sz ag (.imm sp els)=some els:=by
 simp only[y15]
 rw[if_pos (by
  rw[ax]
  intro x hx
  rw[(h x hx).1,(h x hx).2];simp)]
theorem zrr{sz:Nat}{els:List D}(h:∀ x,x ∈ els->x.storable=true/\x.cellsL.length=sz):y2q sz els=true:=by
 unfold y2q
 rw[ax]
 intro x hx
 rw[(h x hx).1,(h x hx).2];simp
theorem zii{l:List Ent}:∀ x,x ∈ l.map y18->x.storable=true/\x.cellsL.length=3:=fun x hx=>by
 obtain⟨s,_,rfl⟩:=aV.1 hx
 exact⟨rfl,rfl⟩
theorem z85{hp:List Obj}{id:Nat}{sp sp':y1a}{l m:List Ent}(hl:l.length+m.length<=10000000)(R:y4t hp sp l.length 3) :
  y7t E hp id 66 66 (.imm sp (l.map y18)) (.imm sp' (m.map y18))=some (.imm (.tok id) (l.map y18++m.map y18),y2b (y34 sp hp) id (.tok ((l.length+m.length)*3) 3)):=by
 have:=zpm (hp:=hp) (id:=id) (t:=66) (e:=72) (sz:=3) (sp:=sp) (sp':=sp') (els:=l.map y18) (new:=m.map y18) rfl rfl (zk2 zii) ⟨by
  rw[aH,aH,show(E.ty 72).bytes=24 from rfl];simp[yj];omega,by decide,rfl,zrr zii⟩ (by rw[aH];exact R)
 rw[aH,aH] at this
 exact this
theorem zyd{h r:List Obj}{j:Nat}{sp:y1a}{l:List Ent}{a b c:Int}(hl:l.length<=1000000)(R:y4t h sp l.length 3)(hj:j<r.length) :
  y7t E (h++r) (h.length+j) 66 66 (.imm sp (l.map y18)) (.imm .exact [.agg [dI a,dI b,dI c]])=some (.imm (.tok (h.length+j)) (l.map y18++[y18 ⟨a,b,c⟩]),y34 sp h++r.set j (.tok ((l.length+1)*3) 3)):=by
 have e:=z85 (hp:=h++r) (id:=h.length+j) (sp:=sp) (sp':=.exact) (l:=l) (m:=[⟨a,b,c⟩]) (by simp;omega) R.app
 rw[zes R] at e
 have e2:y2b (y34 sp h++r) (h.length+j) (.tok ((l.length+1)*3) 3)=y34 sp h++r.set j (.tok ((l.length+1)*3) 3):=by
  unfold y2b
  rw[if_pos (by rw[ar,z5e];omega)]
  have:=z8v (hp:=y34 sp h) (r:=r) (k:=j) (x:=.tok ((l.length+1)*3) 3)
  rwa [z5e] at this
 rw[<- e2]
 exact e

theorem y4t.ne{h:List Obj}{sp:y1a}{n sz q:Nat}{o:Obj}(R:y4t h sp n sz)(B:At h q o)(ho:∀ u s,o ≠ .tok u s):∀ k,sp=.tok k->k ≠ q:=by
 intro k hk e
 subst e
 rcases R with rfl | ⟨k',rfl,a⟩
 ·cases hk
 ·cases hk
  have:=a.eq.symm.trans B.eq
  cases this
  exact ho _ _ rfl
theorem yej{h r:List Obj}{sp:y1a}{j u s:Nat}(hr:r[j]? = some (.tok u s)):At (y34 sp h++r) (h.length+j) (.tok u s):=by
 have:=z5u (hp:=y34 sp h) (r:=r) (k:=j)
 rw[z5e] at this
 unfold At
 rw[this];exact hr
theorem z9q{h r:List Obj}{sp:y1a}{n sz j:Nat}(hr:r[j]? = some (.tok (n*sz) sz)):y4t (y34 sp h++r) (.tok (h.length+j)) n sz:=.inr ⟨_,rfl,yej hr⟩

def y5f(m:y3u):List (D × D):=m.map fun e=>(y2v e.1.1 e.1.2,dI e.2)
theorem zon{a b:Key}:(y2v a.1 a.2).eqb (y2v b.1 b.2)=some (decide (a=b)):=by
 have h:(y2v a.1 a.2).eqb (y2v b.1 b.2)=some ((a.1 == b.1) && ((a.2 == b.2) && true)):=rfl
 rw[h]
 obtain⟨a1,a2⟩:=a
 obtain⟨b1,b2⟩:=b
 simp only[aa,Prod.mk.injEq,Bool.and_true]
 by_cases h1:a1=b1 <;> by_cases h2:a2=b2 <;> simp[h1,h2]
theorem ztk{a:Key}:∀{m:y3u},y16 (y2v a.1 a.2) (y5f m)=some ((y4f a m).map dI)
 |[]=>rfl
 |e::r=>by
  have ih:=ztk (a:=a) (m:=r)
  have hc:y5f (e::r)=(y2v e.1.1 e.1.2,dI e.2)::y5f r:=rfl
  rw[hc,y16]
  simp only[zon]
  unfold y4f
  by_cases h:a=e.1
  ·simp[h]
  ·simp only[h,decide_false,if_false];exact ih
theorem zxh{a:Key}{n:Int}:∀{m:y3u},y1j (y2v a.1 a.2) (dI n) (y5f m)=some (y5f (y7w a n m))
 |[]=>rfl
 |e::r=>by
  have ih:=zxh (a:=a) (n:=n) (m:=r)
  have hc:y5f (e::r)=(y2v e.1.1 e.1.2,dI e.2)::y5f r:=rfl
  rw[hc,y1j]
  simp only[zon]
  unfold y7w
  by_cases h:a=e.1
  ·simp only[h,decide_true,if_true];rfl
  ·simp only[h,decide_false,if_false,ih];rfl
theorem yd3{H:List Obj}{q:Nat}{m:y3u}{a b:Int}(A:At H q (.map (y5f m))):y24 E H 75 (.map (some q)) (y2v a b) false=some (dI (y2p (a,b) m)):=by
 have hk:(E.ty 75).k=.map 65 2:=rfl
 have hz:y20 E 2=some (dI 0):=rfl
 have hf:y16 (y2v a b) (y5f m)=some ((y4f (a,b) m).map dI):=ztk (a:=(a,b))
 have ho:y44 E 65 (y2v a b)=true:=rfl
 unfold y24
 simp only[hk,ho,if_true,A.eq,hf,hz]
 unfold y2p
 cases y4f (a,b) m <;> rfl
theorem yf2{H:List Obj}{q:Nat}{m:y3u}{a b n:Int}(A:At H q (.map (y5f m))):y2w E H 75 (.map (some q)) (y2v a b) (dI n)=some (H.set q (.map (y5f (y7w (a,b) n m)))):=by
 have hk:(E.ty 75).k=.map 65 2:=rfl
 have hf:y1j (y2v a b) (dI n) (y5f m)=some (y5f (y7w (a,b) n m)):=zxh (a:=(a,b))
 have ho:y44 E 65 (y2v a b)=true:=rfl
 unfold y2w
 simp only[hk,A.eq,hf]
 rw[if_pos ⟨ho,rfl,rfl⟩]
 rfl
theorem zi1:∀{m:y3u},y5j (y5f m)=some (y2j m)
 |[]=>rfl
 |e::r=>by
  have ih:=zi1 (m:=r)
  have hc:y5f (e::r)=(.agg [.int .i64 e.1.1,.int .i64 e.1.2],dI e.2)::y5f r:=rfl
  rw[hc,y5j,ih]
  rfl

theorem s387(d:D)(hp:List Obj)(hd:d.storable=true)(hc:d.cellsL=[d])(hm:yt d=false):y1n E (dL E) 387 [d] hp=some (.fn 409 [.iptr [d]],hp):=by
 obtain⟨x,y,e,rfl,rfl⟩:∃ x y,y1n E (dL E) 387 [d] hp=some (x,y)/\(x=.fn 409 [.iptr [d]]/\y=hp):=by
  refine z2q c387 (R:=fun x y=>x=.fn 409 [.iptr [d]]/\y=hp) (by simp) ?_
  simp[t387,n387,hd,hc,hm]
 exact e
theorem s388{hp:List Obj}{q:Nat}{m:y3u}(A:At hp q (.map (y5f m)))(hl:m.length<=1000000) :
  y1n E (dL E) (388) [.fn 409 [.iptr [.map (some q)]],.fn 386 []] hp=some (y8v (y1l (y2j m)),hp):=by
 have e:E.fn (388)=some f388:=rfl
 have e2:E.mp (388)=false:=rfl
 have e4:E.prim 1=y8r [409] [386]:=rfl
 have e5:y8r [409] [386] [.fn 409 [.iptr [.map (some q)]],.fn 386 []] hp=some (y8v (y1l (y2j m)),hp):=by
  unfold y8r
  have hc:([409].contains 409 && [386].contains 386)=true:=rfl
  simp only[hc,if_true,A.eq,zi1]
  rw[if_pos (by simp[y2j];omega)]
  rfl
 unfold y1n
 simp only[e,e2,f388,yl,z8n,z5i,zf5,z4s,z62,y2a]
 simp[ye,yd,yh,y22,DOp.fin,ym,ya,yn,gOf,z62,y1o,y4e,yg,y2b,z4s,z81,yt,e4,e5,y29]

theorem zoq{m:y3u}{l:List Key}{i:Nat}(h:i<l.length):y5i m (l.take (i+1))=if y2p l[i] m=0 then y5i m (l.take i) else y5i m (l.take i)++[⟨l[i].1,l[i].2,y2p l[i] m⟩]:=by
 have key:∀(a:List Key) (x:Key),y5i m (a++[x])=if y2p x m=0 then y5i m a else y5i m a++[⟨x.1,x.2,y2p x m⟩]:=by
  intro a x
  induction a with
  |nil=>simp only[bh,y5i]
  |cons y a ih=>
   simp only[aR,y5i,ih]
   split <;> split <;> rfl
 rw[aM h,key]
theorem zrz{m:y3u}{l:List Key}:(y5i m l).length<=l.length:=by
 have:=(z7e (m:=m) (l:=l)).length_le
 simpa using this

theorem s370{hp:List Obj}{q:Nat}{m:y3u}(A:At hp q (.map (y5f m)))(hl:m.length<=1000000) :
  ∃ d hp',y1n E (dL E) 370 [.map (some q)] hp=some (d,hp') /\ ∃ sp,d=.imm sp ((y9x m).map y18):=by
 refine z2q c370 (args:=[.map (some q)]) (hp:=hp) (R:=fun d hp'=>∃ sp,d=.imm sp ((y9x m).map y18)) (by simp) ?_
 obtain⟨KS,hKS⟩:∃ KS,KS=y1l (y2j m):=⟨_,rfl⟩
 have hkl:KS.length<=1000000:=by rw[hKS,z2r];simp[y2j];omega
 have e1:=s387 (.map (some q)) hp rfl rfl rfl
 have e2:=s388 A hl
 rw[<- hKS] at e2
 have hM:y9x m=y5i m KS:=by rw[hKS];rfl
 rw[hM]
 simp[t370,n370,e1,e2,y14]
 refine zr KS.length (fun i env h=>∃(x3 x8 x9 x10 x11:D) (sp:y1a),env=[.map (some q),.imm sp ((y5i m (KS.take i)).map y18),.fn 386 [],x3,.fn 409 [.iptr [.map (some q)]],y8v KS,dI KS.length,dI i,x8,x9,x10,x11] /\
  y4t h sp (y5i m (KS.take i)).length 3/\At h q (.map (y5f m))) 0 (by omega) ⟨_,_,_,_,_,.exact,rfl,.inl rfl,A⟩ ?_
 rintro i env h hi ⟨x3,x8,x9,x10,x11,sp,rfl,R,B⟩
 by_cases hlt:i<KS.length
 rotate_left
 ·have:i=KS.length:=by omega
  subst this
  rw[aY]
  simp
 have hup:=zb hlt (by omega)
 have y1:=fun r:List Obj=>yd3 (a:=KS[i].1) (b:=KS[i].2) (B.app (r:=r))
 have pA:yaj KS[i]=.agg [dI KS[i].1,dI KS[i].2]:=rfl
 have htk:=zoq (m:=m) hlt
 have hln:=zrz (m:=m) (l:=KS.take i)
 rw[aS] at hln
 obtain⟨L,hL⟩:∃ L,L=y5i m (KS.take i):=⟨_,rfl⟩
 rw[<- hL] at htk hln R ⊢
 have y2:∀(r:List Obj) (c:Int),8<r.length->y7t E (h++r) (h.length+1+7) 66 66 (.imm sp (L.map y18)) (.imm .exact [.agg [dI KS[i].1,dI KS[i].2,dI c]])=some (.imm (.tok (h.length+8)) (L.map y18++[y18 ⟨KS[i].1,KS[i].2,c⟩]),y34 sp h++r.set 8 (.tok ((L.length+1)*3) 3)):=fun r c hr=>zyd (by omega) R hr
 by_cases h0:y2p KS[i] m=0
 ·have h0':y2p (KS[i].1,KS[i].2) m=0:=h0
  rw[if_pos h0] at htk
  simp[hlt,pA,-z1l,y1,h0',hup,htk]
  exact⟨_,_,_,_,_,_,⟨rfl,rfl,rfl,rfl,rfl,rfl⟩,R.app,B.app⟩
 ·have h0' : ¬ y2p (KS[i].1,KS[i].2) m=0:=h0
  rw[if_neg h0] at htk
  simp[hlt,pA,-z1l,y1,h0',hup,htk,y2]
  exact⟨_,_,_,_,_,_,⟨rfl,rfl,rfl,rfl,rfl,rfl⟩,z9q rfl,(zr1 B (R.ne B (by simp))).app⟩

end Dv

namespace Dv

def okT(x:Ent):Prop:=(1<=x.kind/\x.kind<=4)/\(-1<=x.idx/\x.idx<=4095)/\(-1099511627776<=x.amt/\x.amt<=1099511627776)/\x.amt ≠ 0
instance(x:Ent):Decidable (okT x):=inferInstanceAs (Decidable (_/\_))
def tgt(t:List Ent):Prop:=(∀ x,x ∈ t->okT x)/\yd2 t
def y50(l:List Pst):List Ent:=l.flatMap fun p=>p.ents
def low(l:List Ent):List Ent:=l.filter fun x=>decide (x.kind<=4)
def bkN(l:List Pst)(t:List Ent):List Ent:=y6j (t++y5x (low (y50 l)))
def bkS(l:List Pst)(m:Int)(t:List Ent):Stp:=⟨m,(l.length:Int) - 1,bkN l t⟩
open Classical in
noncomputable def boE(tg:Tag)(l:List Pst)(m:Int)(t:List Ent):Int:=
 if rdE tg l ≠ 0 then rdE tg l else if ¬ tgt t then 430 else if bkN l t=[] then 0 else y3x tg l (bkS l m t)
open Classical in
noncomputable def boL(tg:Tag)(l:List Pst)(m:Int)(t:List Ent):List Pst:=
 if boE tg l m t=0 then(if bkN l t=[] then l else l++[y7x tg l (bkS l m t)]) else[]

theorem zhc(a b:List Pst):y50 (a++b)=y50 a++y50 b:=List.flatMap_append
theorem zjw(a b:List Ent):low (a++b)=low a++low b:=iA ..
theorem zdk:∀(l:List Pst),(y50 l).length=y7z l
 |[]=>rfl
 |p::l=>by
  have:=zdk l
  simp only[y50,List.flatMap_cons,ar,y7z] at this ⊢
  omega
theorem zhb{k i:Int}:∀{l:List Ent},yz k i (low l)=if k<=4 then yz k i l else 0
 |[]=>by simp[low,yz]
 |x::l=>by
  have ih:=zhb (k:=k) (i:=i) (l:=l)
  unfold low at ih ⊢
  rw[fC]
  by_cases h:x.kind<=4
  ·rw[if_pos (by simpa using h)]
   simp only[yz,ih]
   by_cases hk:k<=4
   ·simp[hk]
   ·have : ¬ (x.kind=k/\x.idx=i):=fun e=>hk (by omega)
    simp[hk,this]
  ·rw[if_neg (by simpa using h)]
   simp only[yz,ih]
   by_cases hk:k<=4
   ·have : ¬ (x.kind=k/\x.idx=i):=fun e=>h (by omega)
    simp[this]
   ·simp[hk]
theorem zhk{t:List Ent}(h:tgt t){k i:Int}(hk : ¬ k<=4):yz k i t=0:=by
 refine z95 fun hm=>?_
 obtain⟨x,hx,e⟩:=aV.1 hm
 have:=(h.1 x hx).1.2
 have e1:x.kind=k:=congrArg Prod.fst e
 omega
theorem zwb{l:List Pst}{t:List Ent}{k i:Int}:yz k i (bkN l t)=yz k i t - if k<=4 then yz k i (y50 l) else 0:=by
 unfold bkN
 rw[zga,z3s,zb2,zhb];omega
structure Bok(tg:Tag)(l:List Pst)(m:Int)(t:List Ent):Prop where
 v:vld tg l
 ok:tgt t
 post:bkN l t ≠ []->y3x tg l (bkS l m t)=0
open Classical in
theorem z7i{tg:Tag}{l:List Pst}{m:Int}{t:List Ent}:boE tg l m t=0 ↔ Bok tg l m t:=by
 unfold boE
 constructor
 ·intro h
  split at h
  ·rename_i h1;exact absurd h h1
  ·rename_i h1
   split at h
   ·simp at h
   ·rename_i h2
    refine⟨z1q.1 (gw.1 h1),gw.1 h2,fun h3=>?_⟩
    rw[if_neg h3] at h;exact h
 ·intro ⟨h1,h2,h3⟩
  rw[if_neg (by simp[z1q.2 h1]),if_neg (by simp[h2])]
  split
  ·rfl
  ·rename_i h4;exact h3 h4
theorem zc9{tg:Tag}{l:List Pst}{m:Int}{t:List Ent}(b:Bok tg l m t):boL tg l m t=if bkN l t=[] then l else l++[y7x tg l (bkS l m t)]:=by
 unfold boL
 rw[if_pos (z7i.2 b)]
theorem Bok.all{tg:Tag}{l:List Pst}{m:Int}{t:List Ent}(b:Bok tg l m t)(k i:Int):yz k i (y50 (boL tg l m t))=if k<=4 then yz k i t else yz k i (y50 l):=by
 have e:yz k i (y50 (boL tg l m t))=yz k i (y50 l)+yz k i (bkN l t):=by
  rw[zc9 b]
  split
  ·rename_i h;rw[h];simp[yz]
  ·rw[zhc,z3s]
   have:y50 [y7x tg l (bkS l m t)]=bkN l t:=by simp[y50,y7x,bkS]
   rw[this]
 rw[e,zwb]
 split
 ·omega
 ·rename_i hk;rw[zhk b.ok hk];omega
theorem Bok.again{tg:Tag}{l:List Pst}{m:Int}{t:List Ent}(b:Bok tg l m t):bkN (boL tg l m t) t=[]:=by
 unfold bkN
 refine zn2.2 fun k i=>?_
 rw[z3s,zb2,zhb,b.all]
 by_cases hk:k<=4
 ·rw[if_pos hk,if_pos hk];omega
 ·rw[if_neg hk,zhk b.ok hk];rfl
theorem zwa{l:List Pst}{t:List Ent}:(bkN l t).length<=t.length+y7z l:=by
 unfold bkN
 have h1:=zn3 (l:=t++y5x (low (y50 l)))
 have h2:(low (y50 l)).length<=(y50 l).length:=fq ..
 rw[zdk] at h2
 rw[ar,zhv] at h1
 omega
def stE(l:List Pst)(k m:Int):List Ent:=((ya0 l).filter fun a=>decide (a.1=k)).map fun a=>⟨a.1,a.2,ybj a.1 a.2 m l⟩
end Dv

namespace Dv
attribute [local simp] ah depth y2c y6l y2k y2g y4y y19 y3t y2b Ret
attribute [local congr] z48 z4j z3b z2h z1x z3h z1w


def wib(x a b:Int):Bool:=decide (a<=x) && decide (x<=b)
theorem z7j{x a b:Int}:wib x a b=true ↔ a<=x/\x<=b:=by unfold wib;simp
theorem ycy(x a b:Int):y17 E (dL E) 368 [dI x,dI a,dI b]=some (.bool (wib x a b)):=by
 refine zg c368 (by simp) ?_
 by_cases h:a<=x <;> simp[t368,n368,wib,h]
theorem r371(x a b:Int):y17 E (dL E) 371 [dI x,dI a,dI b]=some (.bool (wib x a b)):=by
 refine zg c371 (by simp) ?_
 by_cases h:a<=x <;> simp[t371,n371,wib,h]

def okB(x:Ent):Bool:=wib x.kind 1 4 && (wib x.idx (-1) 4095 && (wib x.amt (-1099511627776) 1099511627776 && !decide (x.amt=0)))
theorem zmy{x:Ent}:okB x=true ↔ okT x:=by
 unfold okB okT
 simp only[ai,z7j,Bool.not_eq_true',decide_eq_false_iff_not]
def yek(t:List Ent)(j:Nat):Prop:=∃ x,t[j]? = some x/\okT x /\ ∀ i y,i+1=j->t[i]? = some y->ltA y x
theorem zm4{t:List Ent}:tgt t ↔ ∀ j,j<t.length->yek t j:=by
 constructor
 ·intro h j hj
  refine⟨t[j],ae hj,h.1 _ (aF hj),fun i y e hy=>?_⟩
  subst e
  have hi:=(ac.1 hy)
  obtain⟨h1,rfl⟩:=hi
  exact h.2 i hj
 ·intro h
  refine⟨fun x hx=>?_,fun i hi=>?_⟩
  ·obtain⟨j,hj⟩:=List.mem_iff_getElem?.1 hx
   obtain⟨y,hy,ok,_⟩:=h j (ac.1 hj).1
   rw[hj] at hy;cases hy;exact ok
  ·obtain⟨y,hy,_,o⟩:=h (i+1) hi
   rw[ae hi] at hy
   cases hy
   exact o i _ rfl (ae (by omega))

open Classical in
theorem r375(t:List Ent)(hl:t.length<=1000000):y17 E (dL E) 375 [.imm .none (t.map y18)]=some (.bool (decide (tgt t))):=by
 have e368:=ycy
 refine zg c375 (by simp) ?_
 obtain⟨B,hB⟩:∃ B,B=decide (tgt t):=⟨_,rfl⟩
 have hBf : ¬ tgt t->B=false:=fun h=>by rw[hB];simp[h]
 have hBt:tgt t->B=true:=fun h=>by rw[hB];simp[h]
 rw[<- hB]
 simp[t375,n375]
 refine zr t.length (fun i env h=>∃(x2 x3 x4 x5 x9 x10 x11 x12 x13 x14 x15:D) ,env=[.imm .none (t.map y18),.bool false,x2,x3,x4,x5,.imm .none (t.map y18),dI t.length,dI i,x9,x10,x11,x12,x13,x14,x15] /\ ∀ j,j<i->yek t j) 0 (by omega) ⟨_,_,_,_,_,_,_,_,_,_,_,rfl,fun j hj=>by omega⟩ ?_
 rintro i env h hi ⟨x2,x3,x4,x5,x9,x10,x11,x12,x13,x14,x15,rfl,ht⟩
 by_cases hlt:i<t.length
 rotate_left
 ·have:i=t.length:=by omega
  subst this
  have:=hBt (zm4.2 ht)
  simp[this]
 have hup:=zb hlt (by omega)
 obtain⟨x,hx⟩:∃ x,x=t[i]:=⟨_,rfl⟩
 have hx2:t[i]? = some x:=by rw[hx];exact ae hlt
 have no:okB x=false->B=false:=fun h=>hBf fun h2=>by
  obtain⟨y,hy,ok,_⟩:=zm4.1 h2 i hlt
  rw[hx2] at hy;cases hy
  rw[zmy.2 ok] at h;cases h
 by_cases h1:wib x.kind 1 4=true
 rotate_left
 ·have h1:wib x.kind 1 4=false:=by simpa using h1
  have:=no (by unfold okB;rw[h1];rfl)
  simp[hlt,e368,<- hx,h1,this]
 by_cases h2:wib x.idx (-1) 4095=true
 rotate_left
 ·have h2:wib x.idx (-1) 4095=false:=by simpa using h2
  have:=no (by unfold okB;rw[h1,h2];rfl)
  simp[hlt,e368,<- hx,h1,h2,this]
 by_cases h3:wib x.amt (-1099511627776) 1099511627776=true
 rotate_left
 ·have h3:wib x.amt (-1099511627776) 1099511627776=false:=by simpa using h3
  have:=no (by unfold okB;rw[h1,h2,h3];rfl)
  simp[hlt,e368,<- hx,h1,h2,h3,this]
 by_cases h4:x.amt=0
 ·have:=no (by unfold okB;rw[h1,h2,h3,decide_eq_true h4];rfl)
  simp[hlt,e368,<- hx,h1,h2,h3,h4,this]
 have ok:okT x:=zmy.1 (by unfold okB;rw[h1,h2,h3,decide_eq_false h4];rfl)
 rcases Nat.eq_zero_or_pos i with h0 | h0
 ·subst h0
  simp[hlt,e368,<- hx,h1,h2,h3,h4]
  exact⟨rfl,x,hx2,ok,fun i y e=>by omega⟩
 ·have hw:aC.wrap ((i:Int) - 1)=((i - 1:Nat):Int):=by
   rw[za ⟨by omega,by omega⟩];omega
  have hlt':i - 1<t.length:=by omega
  obtain⟨y,hy⟩:∃ y,y=t[i - 1]:=⟨_,rfl⟩
  have hy2:t[i - 1]? = some y:=by rw[hy];exact ae hlt'
  have no2 : ¬ ltA y x->B=false:=fun h=>hBf fun h2=>by
   obtain⟨x',hx',_,o⟩:=zm4.1 h2 i hlt
   rw[hx2] at hx';cases hx'
   exact h (o (i - 1) y (by omega) hy2)
  have yes:ltA y x->∀ j,j<i+1->yek t j:=fun h j hj=>by
   rcases Nat.lt_or_ge j i with h5 | h5
   ·exact ht j h5
   ·have:j=i:=by omega
    subst this
    refine⟨x,hx2,ok,fun k z e hz=>?_⟩
    have:k=j - 1:=by omega
    subst this
    rw[hy2] at hz;cases hz;exact h
  by_cases ha:x.kind<y.kind
  ·have:=no2 (by unfold ltA;omega)
   simp[hlt,e368,<- hx,h1,h2,h3,h4,h0,hw,hlt',<- hy,ha,this]
  by_cases hb:y.kind=x.kind
  ·by_cases hc:x.idx<=y.idx
   ·have:=no2 (by unfold ltA;omega)
    simp[hlt,e368,<- hx,h1,h2,h3,h4,h0,hw,hlt',<- hy,ha,hb,hc,this]
   ·have:=yes (by unfold ltA;omega)
    simp[hlt,e368,<- hx,h1,h2,h3,h4,h0,hw,hlt',<- hy,ha,hb,hc,hup]
    exact this
  ·have:=yes (by unfold ltA;omega)
   simp[hlt,e368,<- hx,h1,h2,h3,h4,h0,hw,hlt',<- hy,ha,hb,hup]
   exact this

theorem z13{hp:List Obj}{n:Nat}{l:List Ent}:y1y (frz hp (n+2)) (l.map y18)=some (l.map y18):=z17 fun _ _=>rfl
noncomputable def boD(l:List Pst)(m:Int)(t:List Ent):D:=.tup [y1r (boL tgB l m t),dI (boE tgB l m t)]

def bdE(x:Ent):Prop:=-1099511627776<=x.amt/\x.amt<=1099511627776
theorem z9a{L r F:List Ent}{x:Ent}(hF:∀ x,x ∈ F->bdE x)(hl:F.length<=2000000)(e:L++x::r=F):aC.wrap (y2p (x.kind,x.idx) (y1k L [])+x.amt)=y2p (x.kind,x.idx) (y1k L [])+x.amt:=by
 have h1:=z65 (k:=x.kind) (i:=x.idx) (l:=L) (m:=[])
 have h2:=ziu (k:=x.kind) (i:=x.idx) (l:=L) (B:=1099511627776) (fun y hy=>hF y (by rw[<- e];simp[hy])) (by omega)
 have h3:=hF x (by rw[<- e];simp)
 have h4:L.length<=2000000:=by
  have:=congrArg cG e
  rw[ar] at this;omega
 rw[h1]
 unfold bdE at h3
 have h5:y2p (x.kind,x.idx) []=0:=rfl
 rw[h5]
 rw[za ⟨by omega,by omega⟩]
theorem z9f{L r F:List Ent}{x:Ent}(e:L++x::r=F):(L++[x])++r=F/\y7w (x.kind,x.idx) (y2p (x.kind,x.idx) (y1k L [])+x.amt) (y1k L [])=y1k (L++[x]) []:=by
 refine⟨by rw[<- e];simp,?_⟩
 rw[zci];rfl
theorem zqx{x:Ent}{l:List Ent}:low (x::l)=if x.kind<=4 then x::low l else low l:=by
 unfold low;rw[fC];by_cases h:x.kind<=4 <;> simp[h]
theorem zgc(a b:List Ent):y5x (a++b)=y5x a++y5x b:=bR ..
theorem zn4(x:Ent)(a:List Ent):y5x (x::a)=yb6 x::y5x a:=rfl
theorem zwd{l:List Pst}{t:List Ent}(v:vld tgB l)(ht:tgt t):∀ x,x ∈ t++y5x (low (y50 l))->bdE x:=by
 intro x hx
 rcases aQ.1 hx with hx | hx
 ·exact(ht.1 x hx).2.2.1
 ·obtain⟨y,hy,rfl⟩:=aV.1 hx
  have hy:=(List.mem_filter.1 hy).1
  obtain⟨p,hp,hy⟩:=List.mem_flatMap.1 hy
  have:=((v.2.1 p hp).fm.ents.ok y hy).2.2
  unfold bdE yb6
  simp only
  omega
theorem zrc{l:List Pst}{t:List Ent}:(t++y5x (low (y50 l))).length<=t.length+y7z l:=by
 have h2:(low (y50 l)).length<=(y50 l).length:=fq ..
 rw[zdk] at h2
 rw[ar,zhv];omega

theorem yex(l:List Pst)(m:Int)(t:List Ent)(ok:y8i l)(hN:t.length+y7z l<=1000000):y17 E (dL E) 345 [y1r l,dI m,.imm .none (t.map y18)]=some (boD l m t):=by
 have e324:=ycz l ok
 have e375:=r375 t (by omega)
 refine zg c345 (by simp) ?_
 unfold boD
 by_cases h0:rdE tgB l=0
 rotate_left
 ·have hE:boE tgB l m t=rdE tgB l:=by unfold boE;rw[if_pos h0]
  have hL:boL tgB l m t=[]:=by unfold boL;rw[if_neg (by rw[hE];exact h0)]
  rw[hE,hL]
  simp[t345,n345,zl,z13,e324,h0]
 have v:=z1q.1 h0
 rw[h0] at e324
 by_cases ht:tgt t
 rotate_left
 ·have hE:boE tgB l m t=430:=by unfold boE;rw[if_neg (by simp[h0]),if_pos ht]
  have hL:boL tgB l m t=[]:=by unfold boL;rw[if_neg (by rw[hE];decide)]
  rw[hE,hL]
  simp[t345,n345,zl,z13,e324,e375,ht]
 have hl:=ok.1
 obtain⟨F,hF⟩:∃ F,F=t++y5x (low (y50 l)):=⟨_,rfl⟩
 have hFb:∀ x,x ∈ F->bdE x:=by rw[hF];exact zwd v ht
 have hFl:F.length<=1000000:=by rw[hF];have:=zrc (l:=l) (t:=t);omega
 have hbk:bkN l t=y6j F:=by rw[hF];rfl
 obtain⟨X,hX⟩:∃ X,X=D.tup [y1r (boL tgB l m t),dI (boE tgB l m t)]:=⟨_,rfl⟩
 rw[<- hX]
 simp[t345,n345,zl,z13,e324,e375,ht]
 refine zr t.length (fun i env h=>∃(x3 x4 x6 x7 x8 x9 x10 x11 x12 x16 x17 x18 x19 x20 x21 x22 x23 x24 x25 x26 x27 x28 x29 x30 x31 x32 x33:D) (L:List Ent),env=[y1r l,dI m,.imm .none (t.map y18),x3,x4,.map (some 0),x6,x7,x8,x9,x10,x11,x12,.imm .none (t.map y18),dI t.length,dI i,x16,x17,x18,x19,x20,x21,x22,x23,x24,x25,x26,x27,x28,x29,x30,x31,x32,x33]/\At h 0 (.map (y5f (y1k L [])))/\L++(t.drop i++y5x (low (y50 l)))=F) 0 (by omega) ⟨_,_,_,_,_,_,_,_,_,_,_,_,_,_,_,_,_,_,_,_,_,_,_,_,_,_,_,[],rfl,rfl,by rw[hF];simp⟩ ?_
 rintro i env h hi ⟨x3,x4,x6,x7,x8,x9,x10,x11,x12,x16,x17,x18,x19,x20,x21,x22,x23,x24,x25,x26,x27,x28,x29,x30,x31,x32,x33,L,rfl,A,hLF⟩
 by_cases hlt:i<t.length
 ·have hup:=zb hlt (by omega)
  obtain⟨x,hx⟩:∃ x,x=t[i]:=⟨_,rfl⟩
  rw[zm hlt,aR,<- hx] at hLF
  have hw:=z9a hFb (by omega) hLF
  obtain⟨hs1,hs2⟩:=z9f hLF
  have y1:=fun r:List Obj=>yd3 (a:=x.kind) (b:=x.idx) (A.app (r:=r))
  have y2:=fun(r:List Obj) (n:Int)=>yf2 (a:=x.kind) (b:=x.idx) (n:=n) (A.app (r:=r))
  simp[hlt,<- hx,-z1l,-z2s,y1,y2,hw,hs2,hup]
  exact⟨L++[x],At.self (A.app.lt),hs1⟩
 ·have:i=t.length:=by omega
  subst this
  rw[cu,bh] at hLF
  simp
  refine zr l.length (fun j env h=>∃(x3 x4 x6 x7 x8 x9 x10 x11 x12 x13 x14 x15 x16 x17 x18 x22 x23 x24 x25 x26 x27 x28 x29 x30 x31 x32 x33:D) (L:List Ent),env=[y1r l,dI m,.imm .none (t.map y18),x3,x4,.map (some 0),x6,x7,x8,x9,x10,x11,x12,x13,x14,x15,x16,x17,x18,y1r l,dI l.length,dI j,x22,x23,x24,x25,x26,x27,x28,x29,x30,x31,x32,x33]/\At h 0 (.map (y5f (y1k L [])))/\L++y5x (low (y50 (l.drop j)))=F) 0 (by omega) ⟨_,_,_,_,_,_,_,_,_,_,_,_,_,_,_,_,_,_,_,_,_,_,_,_,_,_,_,L,rfl,A,by rw[<- hLF];rfl⟩ ?_
  clear A hLF
  clear L h x3 x4 x6 x7 x8 x9 x10 x11 x12 x16 x17 x18 x19 x20 x21 x22 x23 x24 x25 x26 x27 x28 x29 x30 x31 x32 x33
  rintro j env h hj ⟨x3,x4,x6,x7,x8,x9,x10,x11,x12,x13,x14,x15,x16,x17,x18,x22,x23,x24,x25,x26,x27,x28,x29,x30,x31,x32,x33,L,rfl,A,hLF⟩
  by_cases hlt:j<l.length
  rotate_left
  ·have:j=l.length:=by omega
   subst this
   rw[cu] at hLF
   have hLF:L=F:=by rw[<- hLF];simp[y50,low,y5x]
   subst hLF
   have hm:(y1k L []).length<=1000000:=by
    have:=z5o (l:=L) (m:=[]);simp at this;omega
   obtain⟨d,hp',e,sp,rfl⟩:=s370 A hm
   have hbk2:bkN l t=y9x (y1k L []):=hbk
   have hbl:=zwa (l:=l) (t:=t)
   rw[<- hbk2] at e
   by_cases hb:bkN l t=[]
   ·rw[hb] at e
    have b:Bok tgB l m t:=⟨v,ht,fun h=>absurd hb h⟩
    have hE:boE tgB l m t=0:=z7i.2 b
    have hL:boL tgB l m t=l:=by rw[zc9 b,if_pos hb]
    rw[hE,hL] at hX
    simp[e,y14,hX,zl]
   ·have e316:=r316 l (bkS l m t) ok (by unfold bkS;simp only;omega)
    have hw:aC.wrap ((l.length:Int) - 1)=(l.length:Int) - 1:=za ⟨by omega,by omega⟩
    have hE:boE tgB l m t=y3x tgB l (bkS l m t):=by
     unfold boE;rw[if_neg (by simp[h0]),if_neg (by simp[ht]),if_neg hb]
    have hL:boL tgB l m t=if y3x tgB l (bkS l m t)=0 then l++[y7x tgB l (bkS l m t)] else[]:=by
     unfold boL;rw[hE,if_neg hb]
    have hX2:X=poD l (bkS l m t):=by rw[hX,hE,hL];rfl
    have e316':y17 E (dL E) 316 [y1r l,dI m,dI ((l.length:Int) - 1),.imm .none ((bkN l t).map y18)]=some X:=by rw[hX2];exact e316
    have hn : ¬ (((bkN l t).length:Int)=0):=by
     have:=List.length_pos_iff.2 hb;omega
    obtain⟨P,hP⟩:∃ P,P=boL tgB l m t:=⟨_,rfl⟩
    obtain⟨Q,hQ⟩:∃ Q,Q=boE tgB l m t:=⟨_,rfl⟩
    rw[<- hP,<- hQ] at hX
    subst hX
    simp[e,y14,zl,z13,hb,hw,e316']
  have hup:=zb hlt (by omega)
  obtain⟨p,hpi⟩:∃ p,p=l[j]:=⟨_,rfl⟩
  have hp2:=ok.2 p (by rw[hpi];exact aF hlt)
  obtain⟨R,hR⟩:∃ R,R=y5x (low (y50 (l.drop (j+1)))):=⟨_,rfl⟩
  rw[zm hlt,<- hpi,show y50 (p::l.drop (j+1))=p.ents++y50 (l.drop (j+1)) from rfl,zjw,zgc,<- hR] at hLF
  have q1:=fun h:List Obj=>zng (h:=h) hp2.1
  have q3:=stP hp2.1
  simp only[ah] at q3
  have hA1:At (h++[.cells (pC p)]) h.length (.cells (pC p)):=by simp[At]
  have A2:=A.app (r:=[.cells (pC p)])
  have y1:=yf8 hA1
  simp[hlt,<- hpi,hp2.1,-z10,q1,↓q3,y1]
  generalize h++[Obj.cells (pC p)]=H0 at A2 hA1
  generalize h.length=C at hA1
  have hel:=hp2.2
  refine zr p.ents.length (fun i env h=>∃(x3 x4 x6 x7 x8 x9 x10 x11 x12 x13 x14 x15 x16 x17 x18 x22 x23 x27 x28 x29 x30 x31 x32 x33:D) (L:List Ent),env=[y1r l,dI m,.imm .none (t.map y18),x3,x4,.map (some 0),x6,x7,x8,x9,x10,x11,x12,x13,x14,x15,x16,x17,x18,y1r l,dI l.length,dI j,x22,x23,.imm .none (p.ents.map y18),dI p.ents.length,dI i,x27,x28,x29,x30,x31,x32,x33]/\At h 0 (.map (y5f (y1k L [])))/\L++(y5x (low (p.ents.drop i))++R)=F) 0 (by omega) ⟨_,_,_,_,_,_,_,_,_,_,_,_,_,_,_,_,_,_,_,_,_,_,_,_,L,rfl,A2,hLF⟩ ?_
  clear A A2 hLF y1 hA1 q1 q3
  clear L h x3 x4 x6 x7 x8 x9 x10 x11 x12 x13 x14 x15 x16 x17 x18 x22 x23 x24 x25 x26 x27 x28 x29 x30 x31 x32 x33
  rintro i env h hi ⟨x3,x4,x6,x7,x8,x9,x10,x11,x12,x13,x14,x15,x16,x17,x18,x22,x23,x27,x28,x29,x30,x31,x32,x33,L,rfl,A,hLF⟩
  by_cases hlt2:i<p.ents.length
  rotate_left
  ·have:i=p.ents.length:=by omega
   subst this
   rw[cu] at hLF
   have hLF:L++R=F:=by rw[<- hLF];simp[low,y5x]
   simp[hlt,hup]
   exact⟨L,A,by rw[<- hR];exact hLF⟩
  have hup2:=zb hlt2 (by omega)
  obtain⟨x,hx⟩:∃ x,x=p.ents[i]:=⟨_,rfl⟩
  rw[zm hlt2,zqx,<- hx] at hLF
  have y1:=fun r:List Obj=>yd3 (a:=x.kind) (b:=x.idx) (A.app (r:=r))
  have y2:=fun(r:List Obj) (n:Int)=>yf2 (a:=x.kind) (b:=x.idx) (n:=n) (A.app (r:=r))
  by_cases hk:x.kind<=4
  ·rw[if_pos hk,zn4,aR] at hLF
   have hw:=z9a hFb (by omega) hLF
   obtain⟨hs1,hs2⟩:=z9f hLF
   have hw:aC.wrap (y2p (x.kind,x.idx) (y1k L []) - x.amt)=y2p (x.kind,x.idx) (y1k L []) - x.amt:=hw
   have hs2:y7w (x.kind,x.idx) (y2p (x.kind,x.idx) (y1k L []) - x.amt) (y1k L [])=y1k (L++[yb6 x]) []:=hs2
   simp[hlt2,<- hx,-z1l,-z2s,y1,y2,hw,hs2,hup2,hk]
   exact⟨L++[yb6 x],At.self (A.app.lt),hs1⟩
  ·rw[if_neg hk] at hLF
   simp[hlt2,<- hx,-z1l,-z2s,hup2,hk]
   exact⟨L,A.app,hLF⟩

theorem zy6{a b:List UInt8}(ha:a.length=32)(hb:b.length=32):y2s E .eql 73 (.agg (a.map yc)) (.agg (b.map yc))=some (.bool (decide (a=b))):=by
 have h1:(E.ty 73).eqc=true:=rfl
 have h2:(E.ty 73).zero=ah a.length (D.int .u8 0):=by rw[ha];rfl
 unfold y2s
 simp only[]
 rw[if_pos ⟨h1,by rw[h2];exact z6c⟩,zap (by rw[ha,hb])]
theorem okn:y8i []:=⟨by simp,by simp⟩

end Dv

namespace Dv

theorem zul{x:D}{c:Nat}(h:y4h E c x)(hk:(E.ty c).k=.slice 2):∃ l,x=y2k l/\y75 l:=by
 have ha:(E.ty c).ag=false:=by unfold TI.ag;rw[hk]
 obtain⟨l,h3,ho⟩:=zfn (z52 h ha) hk
 simp only[bp,and_true] at h3
 exact⟨l,h3,ho⟩
theorem zxb{x:D}{c:Nat}(h:y4h E c x)(hk:(E.ty c).k=.int .i64):∃ n,x=dI n/\i64 n:=by
 have ha:(E.ty c).ag=false:=by unfold TI.ag;rw[hk]
 obtain⟨n,h3,ho⟩:=z3z (z52 h ha) hk
 simp only[bp,and_true] at h3
 exact⟨n,h3,ho⟩

end Dv

namespace Dv
attribute [local simp] ah depth y2c y6l y2k y2g y4y y19 y3t y2b Ret
attribute [local congr] z48 z4j z3b z2h z1x z3h z1w


theorem two{A:Type}{l:List A}(h:l.length=2):∃ a b,l=[a,b]:=by
 match l,h with
 |[a,b],_=>exact⟨a,b,rfl⟩

theorem zt7{l:List Pst}:(ya0 l).length<=y7z l:=by
 unfold ya0
 exact Nat.le_trans z5j (by rw[z2r,zdl];exact af _)

theorem zxk{a b:Ent}:y2s E .neq 72 (y18 a) (y18 b)=some (.bool (!decide (a=b))):=by
 obtain⟨a1,a2,a3⟩:=a
 obtain⟨b1,b2,b3⟩:=b
 have e:(decide ((⟨a1,a2,a3⟩:Ent)=⟨b1,b2,b3⟩))=(a1 == b1 && (a2 == b2 && a3 == b3)):=by
  by_cases h1:a1=b1 <;> by_cases h2:a2=b2 <;> by_cases h3:a3=b3 <;> simp[h1,h2,h3]
 rw[e]
 simp[y2s,E,y73,y1m,eqL,y1u]
theorem zc0{A:Type}{a b:List A}(hl:a.length=b.length)(h:∀ i,∀ h:i<a.length,a[i]=b[i]'(by omega)):a=b:=
 List.ext_getElem hl fun i h1 _=>h i h1

theorem ycb(a b:List Ent)(ha:a.length<=1000000)(hb:b.length<=1000000):y17 E (dL E) 342 [.imm .none (a.map y18),.imm .none (b.map y18)]=some (.bool (decide (a=b))):=by
 refine zg c342 (by simp) ?_
 by_cases hl:a.length=b.length
 rotate_left
 ·have h1 : ¬ (a.length:Int)=b.length:=by omega
  have h2 : ¬ a=b:=fun h=>hl (by rw[h])
  simp[t342,n342,h1,h2]
 have h1:(a.length:Int)=b.length:=by omega
 obtain⟨B,hB⟩:∃ B,B=decide (a=b):=⟨_,rfl⟩
 rw[<- hB]
 simp[t342,n342,h1]
 refine zr a.length (fun i env h=>∃(x4 x5 x6:D) ,env=[.imm .none (a.map y18),.imm .none (b.map y18),.bool false,dI i,x4,x5,x6] /\ ∀ j,(hj:j<a.length)->j<i->a[j]=b[j]'(by omega)) 0 (by omega) ⟨_,_,_,rfl,fun _ _ h=>absurd h (by omega)⟩ ?_
 rintro i env h hi ⟨x4,x5,x6,rfl,F⟩
 by_cases hlt:i<a.length
 rotate_left
 ·have hge : ¬ (i:Int)<a.length:=by omega
  have:i=a.length:=by omega
  have hB2:B=true:=by
   rw[hB,decide_eq_true_eq]
   exact zc0 hl fun j hj=>F j hj (by omega)
  simp[hge,hB2,this]
 have hup:=zb hlt (by omega)
 have hlt2:i<b.length:=by omega
 obtain⟨x,hx⟩:∃ x,x=a[i]:=⟨_,rfl⟩
 obtain⟨y,hy⟩:∃ y,y=b[i]:=⟨_,rfl⟩
 have n1:=zxk (a:=x) (b:=y)
 have l72:∀(h:List Obj) (x:Ent),yx E h 72 (.iptr [dI x.kind,dI x.idx,dI x.amt])=some (y18 x):=fun _ _=>rfl
 by_cases hxy:x=y
 ·have hd:decide (x=y)=true:=by simpa using hxy
  rw[hd] at n1
  simp[hlt,hlt2,<- hx,<- hy,hup,n1,l72,-z12,-zav]
  intro j hj hji
  by_cases hje:j<i
  ·exact F j hj hje
  ·have:j=i:=by omega
   subst this
   rw[<- hx,<- hy];exact hxy
 ·have hd:decide (x=y)=false:=by simpa using hxy
  rw[hd] at n1
  have hB2:B=false:=by
   rw[hB,decide_eq_false_iff_not]
   intro h
   subst h
   exact hxy (by rw[hx,hy])
  simp[hlt,hlt2,<- hx,<- hy,hup,n1,l72,hB2,-z12,-zav]


theorem ybx{h:List Obj}{es r:List D}:yx E h 66 (.iptr (.imm .none es::r))=some (.imm .none es):=rfl
theorem il2{h:List Obj}{a:Int}{r:List D}:yx E h 2 (.iptr (dI a::r))=some (dI a):=rfl
theorem il73{h:List Obj}{p:Pst}(hp:p.prev.length=32):yx E h 73 (.iptr (p.prev.map yc))=some (y7i p.prev):=by
 have e:=z29 32 0 (p.prev.map yc) (by simp[hp])
 unfold yx
 simp only[show(E.ty 73).size=32 from rfl,e]
 rfl

theorem r346(a b:List Pst)(ha:y8i a)(hb:y8i b):y17 E (dL E) 346 [y1r a,y1r b]=some (.bool (decide (a=b))):=by
 refine zg c346 (by simp) ?_
 obtain⟨ha1,ha2⟩:=ha
 obtain⟨hb1,hb2⟩:=hb
 by_cases hl:a.length=b.length
 rotate_left
 ·have h1 : ¬ (a.length:Int)=b.length:=by omega
  have h2 : ¬ a=b:=fun h=>hl (by rw[h])
  simp[t346,n346,h1,h2]
 have h1:(a.length:Int)=b.length:=by omega
 obtain⟨B,hB⟩:∃ B,B=decide (a=b):=⟨_,rfl⟩
 rw[<- hB]
 simp[t346,n346,h1]
 refine zr a.length (fun i env h=>∃(x4 x5 x6:D) ,env=[y1r a,y1r b,.bool false,dI i,x4,x5,x6] /\ ∀ j,(hj:j<a.length)->j<i->a[j]=b[j]'(by omega)) 0 (by omega) ⟨_,_,_,rfl,fun _ _ h=>absurd h (by omega)⟩ ?_
 rintro i env h hi ⟨x4,x5,x6,rfl,F⟩
 by_cases hlt:i<a.length
 rotate_left
 ·have hge : ¬ (i:Int)<a.length:=by omega
  have:i=a.length:=by omega
  have hB2:B=true:=by
   rw[hB,decide_eq_true_eq]
   exact zc0 hl fun j hj=>F j hj (by omega)
  simp[hge,hB2,this]
 have hup:=zb hlt (by omega)
 have hlt2:i<b.length:=by omega
 obtain⟨x,hx⟩:∃ x,x=a[i]:=⟨_,rfl⟩
 obtain⟨y,hy⟩:∃ y,y=b[i]:=⟨_,rfl⟩
 have px:=ha2 x (by rw[hx];exact aF hlt)
 have py:=hb2 y (by rw[hy];exact aF hlt2)
 have n1:=ycb x.ents y.ents px.2 py.2
 have q1:=fun h:List Obj=>il73 (h:=h) px.1
 have q2:=fun h:List Obj=>il73 (h:=h) py.1
 have eqd:=zy6 px.1 py.1
 have no : ¬ x=y->B=false:=fun h=>by
  rw[hB,decide_eq_false_iff_not]
  intro h2
  subst h2
  exact h (by rw[hx,hy])
 have hpq:(x=y) ↔ ((((x.no=y.no/\x.minute=y.minute)/\x.corrects=y.corrects)/\x.prev=y.prev)/\x.ents=y.ents):=by
  clear n1 q1 q2 eqd no hx hy px py
  obtain⟨a,b,c,d,e⟩:=x
  obtain⟨a',b',c',d',e'⟩:=y
  simp only[Pst.mk.injEq]
  constructor
  ·rintro⟨rfl,rfl,rfl,rfl,rfl⟩;exact⟨⟨⟨⟨rfl,rfl⟩,rfl⟩,rfl⟩,rfl⟩
  ·rintro⟨⟨⟨⟨rfl,rfl⟩,rfl⟩,rfl⟩,rfl⟩;exact⟨rfl,rfl,rfl,rfl,rfl⟩
 by_cases h2:x.no=y.no
 rotate_left
 ·have hB2:=no fun h=>h2 (by rw[h])
  simp[hlt,hlt2,<- hx,<- hy,px.1,py.1,il2,ybx,↓q1,↓q2,-z12,h2,hB2]
 by_cases h3:x.minute=y.minute
 rotate_left
 ·have hB2:=no fun h=>h3 (by rw[h])
  simp[hlt,hlt2,<- hx,<- hy,px.1,py.1,il2,ybx,↓q1,↓q2,-z12,h2,h3,hB2]
 by_cases h4:x.corrects=y.corrects
 rotate_left
 ·have hB2:=no fun h=>h4 (by rw[h])
  simp[hlt,hlt2,<- hx,<- hy,px.1,py.1,il2,ybx,↓q1,↓q2,-z12,h2,h3,h4,hB2]
 by_cases h5:x.prev=y.prev
 rotate_left
 ·have hB2:=no fun h=>h5 (by rw[h])
  rw[decide_eq_false h5] at eqd
  have ned:y2s E .neq 73 (y7i x.prev) (y7i y.prev)=some (.bool true):=by
   have:=zgb px.1 py.1
   rwa [decide_eq_false h5] at this
  simp[hlt,hlt2,<- hx,<- hy,px.1,py.1,il2,ybx,↓q1,↓q2,-z12,h2,h3,h4,ned,hB2]
 have ned:y2s E .neq 73 (y7i y.prev) (y7i y.prev)=some (.bool false):=by
  have:=zgb py.1 py.1
  rwa [decide_eq_true rfl] at this
 rw[h5] at q1
 by_cases h6:x.ents=y.ents
 ·have hxy:x=y:=hpq.2 ⟨⟨⟨⟨h2,h3⟩,h4⟩,h5⟩,h6⟩
  rw[decide_eq_true h6] at n1
  rw[h6] at n1
  simp[hlt,hlt2,<- hx,<- hy,px.1,py.1,il2,ybx,↓q1,↓q2,-z12,h2,h3,h4,h5,h6,ned,z27,n1,hup]
  intro j hj hji
  by_cases hje:j<i
  ·exact F j hj hje
  ·have:j=i:=by omega
   subst this
   rw[<- hx,<- hy];exact hxy
 ·have hB2:=no fun h=>h6 (by rw[h])
  rw[decide_eq_false h6] at n1
  simp[hlt,hlt2,<- hx,<- hy,px.1,py.1,il2,ybx,↓q1,↓q2,-z12,h2,h3,h4,h5,ned,z27,n1,hup,hB2]

def stF(l:List Pst)(k m:Int)(as:List Key):List Ent:=(as.filter fun a=>decide (a.1=k)).map fun a=>⟨a.1,a.2,ybj a.1 a.2 m l⟩
theorem zqb{l:List Pst}{k m:Int}{as:List Key}{i:Nat}(h:i<as.length):stF l k m (as.take (i+1))=if as[i].1=k then stF l k m (as.take i)++[⟨as[i].1,as[i].2,ybj as[i].1 as[i].2 m l⟩] else stF l k m (as.take i):=by
 unfold stF
 rw[aM h,iA,bR]
 by_cases hk:as[i].1=k <;> simp[hk]
theorem zuw{l:List Pst}{k m:Int}{as:List Key}:(stF l k m as).length<=as.length:=by
 unfold stF;rw[aH];exact fq ..
theorem zwl{h:List Obj}{c:Obj}{sp:y1a}{l:List Ent}{a b n:Int}(hl:l.length<=1000000)(R:y4t h sp l.length 3) :
  y7t E (h++[c]) (h.length+1) 66 66 (.imm sp (l.map y18)) (.imm .exact [.agg [dI a,dI b,dI n]])=some (.imm (.tok (h.length+1)) (l.map y18++[y18 ⟨a,b,n⟩]),y34 sp h++[c,.tok ((l.length+1)*3) 3]):=by
 have e:=z85 (hp:=h++[c]) (id:=h.length+1) (sp:=sp) (sp':=.exact) (l:=l) (m:=[⟨a,b,n⟩]) (by simp;omega) R.app
 rw[zes R] at e
 have e2:y2b (y34 sp h++[c]) (h.length+1) (.tok ((l.length+1)*3) 3)=y34 sp h++[c,.tok ((l.length+1)*3) 3]:=by
  unfold y2b
  rw[if_neg (by rw[ar,z5e];simp),bC];rfl
 rw[<- e2]
 exact e
open Classical in
noncomputable def stX(l:List Pst)(k:Int):Int:=if rdE tgB l ≠ 0 then rdE tgB l else if wib k 1 5=true then 0 else 430
open Classical in
noncomputable def stD(l:List Pst)(k m:Int):D:=.tup [.imm .none ((if stX l k=0 then stE l k m else[]).map y18),dI (stX l k)]

theorem yew(l:List Pst)(ok:y8i l)(hN:y7z l<=1000000)(k m:Int):y17 E (dL E) 352 [y1r l,dI k,dI m]=some (stD l k m):=by
 have e324:=ycz l ok
 have e325:=r325 l ok hN
 have e368:=ycy
 refine zg c352 (by simp) ?_
 unfold stD
 by_cases h0:rdE tgB l=0
 rotate_left
 ·have hX:stX l k=rdE tgB l:=by unfold stX;rw[if_pos h0]
  rw[hX,if_neg h0]
  simp[t352,n352,zl,e324,h0]
 by_cases hk:wib k 1 5=true
 rotate_left
 ·have hk2:wib k 1 5=false:=by simpa using hk
  have hX:stX l k=430:=by unfold stX;rw[if_neg (by simp[h0]),if_neg hk]
  rw[hX,if_neg (by decide)]
  rw[h0] at e324
  simp[t352,n352,zl,e324,e368,hk2]
 have hX:stX l k=0:=by unfold stX;rw[if_neg (by simp[h0]),if_pos hk]
 rw[hX,if_pos rfl]
 have e318:=fun a b=>r318 l ok hN a b m
 unfold blD at e318
 rw[h0] at e324 e318
 simp only[if_true] at e318
 have hal:=zt7 (l:=l)
 obtain⟨AS,hAS⟩:∃ AS,AS=ya0 l:=⟨_,rfl⟩
 have hst:stE l k m=stF l k m AS:=by rw[hAS];rfl
 rw[<- hAS] at e325 hal
 rw[hst]
 simp[t352,n352,zl,e324,e368,hk,e325]
 refine zr AS.length (fun i env h=>∃(x5 x6 x7 x8 x9 x13 x14 x15 x16 x17 x18:D) (sp:y1a),env=[y1r l,dI k,dI m,.imm sp ((stF l k m (AS.take i)).map y18),dI 0,x5,x6,x7,x8,x9,y8v AS,dI AS.length,dI i,x13,x14,x15,x16,x17,x18]/\y4t h sp (stF l k m (AS.take i)).length 3) 0 (by omega) ⟨_,_,_,_,_,_,_,_,_,_,_,.exact,rfl,.inl rfl⟩ ?_
 rintro i env h hi ⟨x5,x6,x7,x8,x9,x13,x14,x15,x16,x17,x18,sp,rfl,R⟩
 by_cases hlt:i<AS.length
 rotate_left
 ·have:i=AS.length:=by omega
  subst this
  rw[aY]
  simp[z13]
 have hup:=zb hlt (by omega)
 have pA:yaj AS[i]=.agg [dI AS[i].1,dI AS[i].2]:=rfl
 have e318:=e318 AS[i].1 AS[i].2
 have htk:=zqb (l:=l) (k:=k) (m:=m) hlt
 have hln:=zuw (l:=l) (k:=k) (m:=m) (as:=AS.take i)
 rw[aS] at hln
 obtain⟨L,hL⟩:∃ L,L=stF l k m (AS.take i):=⟨_,rfl⟩
 rw[<- hL] at htk hln R ⊢
 have y2:∀(c:Obj) (n:Int),y7t E (h++[c]) (h.length+1) 66 66 (.imm sp (L.map y18)) (.imm .exact [.agg [dI AS[i].1,dI AS[i].2,dI n]])=some (.imm (.tok (h.length+1)) (L.map y18++[y18 ⟨AS[i].1,AS[i].2,n⟩]),y34 sp h++[c,.tok ((L.length+1)*3) 3]):=fun c n=>zwl (by omega) R
 by_cases h0:AS[i].1=k
 ·rw[if_pos h0] at htk
  subst h0
  simp[hlt,pA,hup,htk,zl,e318,y2]
  exact⟨_,_,_,_,_,_,_,_,_,_,_,_,⟨rfl,rfl,rfl,rfl,rfl,rfl,rfl,rfl,rfl,rfl,rfl,rfl⟩,z9q (j:=1) rfl⟩
 ·rw[if_neg h0] at htk
  simp[hlt,pA,h0,hup,htk]
  exact⟨_,_,_,_,_,_,_,_,_,_,_,_,⟨rfl,rfl,rfl,rfl,rfl,rfl,rfl,rfl,rfl,rfl,rfl,rfl⟩,R.app⟩

theorem r350(l:List Pst)(ok:y8i l):y17 E (dL E) 350 [y1r l]=some (.tup [.bool (decide (rdE tgB l=0)),dI (rdE tgB l)]):=by
 have e324:=ycz l ok
 refine zg c350 (by simp) ?_
 by_cases h0:rdE tgB l=0
 rotate_left
 ·simp[t350,n350,zl,e324,h0]
 have v:=z1q.1 h0
 rw[h0] at e324 ⊢
 have hl:=ok.1
 simp[t350,n350,zl,e324]
 refine zr l.length (fun j env h=>∃(x3 x4 x5 x6 x7 x10 x11 x12 x13 x14 x15 x16 x17 x18 x19 x20 x21 x22:D) ,env=[y1r l,.bool false,dI 0,x3,x4,x5,x6,x7,dI l.length,dI j,x10,x11,x12,x13,x14,x15,x16,x17,x18,x19,x20,x21,x22]) 0 (by omega) ⟨_,_,_,_,_,_,_,_,_,_,_,_,_,_,_,_,_,_,rfl⟩ ?_
 rintro j env h hj ⟨x3,x4,x5,x6,x7,x10,x11,x12,x13,x14,x15,x16,x17,x18,x19,x20,x21,x22,rfl⟩
 by_cases hltj:j<l.length
 rotate_left
 ·have:j=l.length:=by omega
  subst this
  simp
 have hupj:=zb hltj (by omega)
 obtain⟨z,hz⟩:∃ z,z=l[j]:=⟨_,rfl⟩
 have hz2:=ok.2 z (by rw[hz];exact aF hltj)
 simp[hltj]
 refine zr l.length (fun i env h=>∃(x5 x6 x7 x10 x14 x15 x16 x17 x18 x19 x20 x21 x22:D) ,env=[y1r l,.bool false,dI 0,dI j,dI 0,x5,x6,x7,dI l.length,dI j,x10,y1r l,dI l.length,dI i,x14,x15,x16,x17,x18,x19,x20,x21,x22]) 0 (by omega) ⟨_,_,_,_,_,_,_,_,_,_,_,_,_,rfl⟩ ?_
 clear h x3 x4 x5 x6 x7 x10 x11 x12 x13 x14 x15 x16 x17 x18 x19 x20 x21 x22
 rintro i env h hi ⟨x5,x6,x7,x10,x14,x15,x16,x17,x18,x19,x20,x21,x22,rfl⟩
 by_cases hlt:i<l.length
 rotate_left
 ·have:i=l.length:=by omega
  subst this
  simp[hltj,hupj]
 have hup:=zb hlt (by omega)
 obtain⟨p,hpi⟩:∃ p,p=l[i]:=⟨_,rfl⟩
 have hpm:p ∈ l:=by rw[hpi];exact aF hlt
 have hp2:=ok.2 p hpm
 have g:=v.2.1 p hpm
 have q1:=fun h:List Obj=>zng (h:=h) hp2.1
 have q3:=stP hp2.1
 simp only[ah] at q3
 have hA1:∀ r,At (h ++ .cells (pC p)::r) h.length (.cells (pC p)):=fun r=>by simp[At]
 have y1:=fun r:List Obj=>yf8 (hA1 r)
 have y2:=fun r:List Obj=>ld2 (hA1 r)
 by_cases hm:p.minute<=z.minute
 rotate_left
 ·have hm':z.minute<p.minute:=by omega
  simp[hlt,hltj,<- hpi,<- hz,hp2.1,hz2.1,-z10,-z12,q1,↓q3,y1,y2,il2,hm,hm',hup]
 simp[hlt,hltj,<- hpi,<- hz,hp2.1,hz2.1,-z10,-z12,q1,↓q3,y1,y2,il2,hm,hup]
 generalize h ++ .cells (pC p)::_=H0
 generalize h.length=C
 clear q1 q3 hA1 y1 y2
 have hel:=hp2.2
 have hz0:y5a p.ents=0:=g.sum
 have hmost:=g.fm.ents.most
 refine zr p.ents.length (fun e env h=>∃(x5 x6 x7 x10 x14 x15 x16 x20 x21 x22:D) (c:Int),env=[y1r l,.bool false,dI 0,dI j,dI c,x5,x6,x7,dI l.length,dI j,x10,y1r l,dI l.length,dI i,x14,x15,x16,.imm .none (p.ents.map y18),dI p.ents.length,dI e,x20,x21,x22]/\c+y5a (p.ents.drop e)=0 /\ -(1099511627776*(e:Int))<=c/\c<=1099511627776*(e:Int)) 0 (by omega) ⟨_,_,_,_,_,_,_,_,_,_,0,rfl,by simp[hz0],by simp,by simp⟩ ?_
 clear h x5 x6 x7 x10 x14 x15 x16 x17 x18 x19 x20 x21 x22
 rintro e env h he ⟨x5,x6,x7,x10,x14,x15,x16,x20,x21,x22,c,rfl,b1,b2,b3⟩
 by_cases hlt2:e<p.ents.length
 rotate_left
 ·have:e=p.ents.length:=by omega
  subst this
  rw[cu] at b1
  have hc:c=0:=by simpa[y5a] using b1
  subst hc
  simp[hup]
 have hup2:=zb hlt2 (by omega)
 obtain⟨x,hx⟩:∃ x,x=p.ents[e]:=⟨_,rfl⟩
 have okx:=(g.fm.ents.ok x (by rw[hx];exact aF hlt2)).2.2.2
 rw[zm hlt2,<- hx] at b1
 simp only[y5a] at b1
 have hw:aC.wrap (c+x.amt)=c+x.amt:=za ⟨by omega,by omega⟩
 simp[hlt2,<- hx,hup2,hw]
 exact⟨_,_,_,_,_,_,_,_,_,_,_,⟨rfl,rfl,rfl,rfl,rfl,rfl,rfl,rfl,rfl,rfl,rfl⟩,by omega,by omega,by omega⟩

theorem z5l{n:Nat}(h:n<=1000000000000):aC.wrap (n:Int)=(n:Int):=za ⟨by omega,by omega⟩

def y2t{A:Type}(c:A->A->Int):List A->Bool
 |a::b::r=>decide (c a b<0) && y2t c (b::r)
 |_=>true

theorem zac{A:Type}{c:A->A->Int}{l:List A}(h:l.length<=1):y2t c l=true:=by
 match l,h with
 |[],_=>rfl
 |[_],_=>rfl

theorem r69(l:List Cell)(k:Nat)(c:Cell->Cell->Int)(hc:∀ a b,y17 E (dL E) k [y2c a,y2c b]=some (dI (c a b)))(hl:l.length<=1000000) :
  y17 E (dL E) 69 [.imm .none (l.map y2c),.fn k []]=some (.bool (y2t c l)):=by
 refine zg c69 (by simp) ?_
 simp[t69,n69]
 refine zr (l.length+1) (fun i env hp=>∃ c4 c5:D,env=[.imm .none (l.map y2c),.fn k [],.bool false,dI i,c4,c5] /\ ∃ j,i=j+1/\y2t c (l.drop j)=y2t c l) 1 (by omega) ⟨_,_,rfl,0,rfl,rfl⟩ ?_
 rintro i env hp hi ⟨c4,c5,rfl,j,rfl,hm⟩
 by_cases hlt:j+1<l.length
 ·have hj:j<l.length:=by omega
  rw[zm hj,zm hlt] at hm
  have hk:=hc l[j] l[j+1]
  have hlt':(j:Int)+1<l.length:=by omega
  have hnn:(0:Int)<=(j:Int)+1:=by omega
  by_cases h0:c l[j] l[j+1]<0
  ·simp[y2t,h0] at hm
   have h0' : ¬ 0<=c l[j] l[j+1]:=by omega
   simp[hlt,hlt',hj,hnn,z5l (n:=j) (by omega),za (n:=(j:Int)+1) ⟨by omega,by omega⟩,za (n:=(j:Int)+1+1) ⟨by omega,by omega⟩,hk,h0',hm]
  ·simp[y2t,h0] at hm
   have h0':0<=c l[j] l[j+1]:=by omega
   simp[hlt,hlt',hj,hnn,z5l (n:=j) (by omega),za (n:=(j:Int)+1) ⟨by omega,by omega⟩,hk,h0',hm]
 ·have he:y2t c (l.drop j)=true:=zac (by simp;omega)
  have hlt' : ¬ (j:Int)+1<l.length:=by omega
  rw[he] at hm
  simp[hlt,hlt',<- hm]

theorem r73(l:List Int)(k:Nat)(c:Int->Int->Int)(hc:∀ a b,y17 E (dL E) k [dI a,dI b]=some (dI (c a b)))(hl:l.length<=1000000) :
  y17 E (dL E) 73 [.imm .none (l.map dI),.fn k []]=some (.bool (y2t c l)):=by
 refine zg c73 (by simp) ?_
 simp[t73,n73]
 refine zr (l.length+1) (fun i env hp=>∃ c4 c5:D,env=[.imm .none (l.map dI),.fn k [],.bool false,dI i,c4,c5] /\ ∃ j,i=j+1/\y2t c (l.drop j)=y2t c l) 1 (by omega) ⟨_,_,rfl,0,rfl,rfl⟩ ?_
 rintro i env hp hi ⟨c4,c5,rfl,j,rfl,hm⟩
 by_cases hlt:j+1<l.length
 ·have hj:j<l.length:=by omega
  rw[zm hj,zm hlt] at hm
  have hk:=hc l[j] l[j+1]
  have hlt':(j:Int)+1<l.length:=by omega
  have hnn:(0:Int)<=(j:Int)+1:=by omega
  by_cases h0:c l[j] l[j+1]<0
  ·simp[y2t,h0] at hm
   have h0' : ¬ 0<=c l[j] l[j+1]:=by omega
   simp[hlt,hlt',hj,hnn,z5l (n:=j) (by omega),za (n:=(j:Int)+1) ⟨by omega,by omega⟩,za (n:=(j:Int)+1+1) ⟨by omega,by omega⟩,hk,h0',hm]
  ·simp[y2t,h0] at hm
   have h0':0<=c l[j] l[j+1]:=by omega
   simp[hlt,hlt',hj,hnn,z5l (n:=j) (by omega),za (n:=(j:Int)+1) ⟨by omega,by omega⟩,hk,h0',hm]
 ·have he:y2t c (l.drop j)=true:=zac (by simp;omega)
  have hlt' : ¬ (j:Int)+1<l.length:=by omega
  rw[he] at hm
  simp[hlt,hlt',<- hm]

theorem r75(l:List Use)(k:Nat)(c:Use->Use->Int)(hc:∀ a b,y17 E (dL E) k [y6l a,y6l b]=some (dI (c a b)))(hl:l.length<=1000000) :
  y17 E (dL E) 75 [.imm .none (l.map y6l),.fn k []]=some (.bool (y2t c l)):=by
 refine zg c75 (by simp) ?_
 simp[t75,n75]
 refine zr (l.length+1) (fun i env hp=>∃ c4 c5:D,env=[.imm .none (l.map y6l),.fn k [],.bool false,dI i,c4,c5] /\ ∃ j,i=j+1/\y2t c (l.drop j)=y2t c l) 1 (by omega) ⟨_,_,rfl,0,rfl,rfl⟩ ?_
 rintro i env hp hi ⟨c4,c5,rfl,j,rfl,hm⟩
 by_cases hlt:j+1<l.length
 ·have hj:j<l.length:=by omega
  rw[zm hj,zm hlt] at hm
  have hk:=hc l[j] l[j+1]
  have hlt':(j:Int)+1<l.length:=by omega
  have hnn:(0:Int)<=(j:Int)+1:=by omega
  by_cases h0:c l[j] l[j+1]<0
  ·simp[y2t,h0] at hm
   have h0' : ¬ 0<=c l[j] l[j+1]:=by omega
   simp[hlt,hlt',hj,hnn,z5l (n:=j) (by omega),za (n:=(j:Int)+1) ⟨by omega,by omega⟩,za (n:=(j:Int)+1+1) ⟨by omega,by omega⟩,hk,h0',hm]
  ·simp[y2t,h0] at hm
   have h0':0<=c l[j] l[j+1]:=by omega
   simp[hlt,hlt',hj,hnn,z5l (n:=j) (by omega),za (n:=(j:Int)+1) ⟨by omega,by omega⟩,hk,h0',hm]
 ·have he:y2t c (l.drop j)=true:=zac (by simp;omega)
  have hlt' : ¬ (j:Int)+1<l.length:=by omega
  rw[he] at hm
  simp[hlt,hlt',<- hm]

def yaa{A:Type}(f:A->Bool):List A->Nat->Int
 |[],_=>-1
 |x::r,i=>if f x then i else yaa f r (i+1)

theorem zi5{A:Type}{f:A->Bool}:∀{l:List A} {i:Nat},decide (0<=yaa f l i)=l.any f
 |[],i=>rfl
 |x::r,i=>by
  simp only[yaa,List.any_cons]
  by_cases h:f x=true
  ·simp[h]
  ·have h2:=zi5 (f:=f) (l:=r) (i:=i+1)
   simp at h
   simpa[h] using h2

theorem r106(l:List Int)(k:Nat)(f:Int->Bool)(hf:∀ x,y17 E (dL E) k [dI x]=some (.bool (f x)))(hl:l.length<=1000000) :
  y17 E (dL E) 106 [y2k l,.fn k []]=some (dI (yaa f l 0)):=by
 refine zg c106 (by simp) ?_
 simp[t106,n106]
 refine zr l.length (fun i env hp=>∃ c3 c6 c7:D,env=[y2k l,.fn k [],dI 0,c3,dI l.length,dI i,c6,c7]/\yaa f (l.drop i) i=yaa f l 0) 0 (by omega) ⟨_,_,_,rfl,rfl⟩ ?_
 rintro i env hp hi ⟨c3,c6,c7,rfl,hm⟩
 by_cases hlt:i<l.length
 ·rw[zm hlt] at hm
  have hk:=hf l[i]
  cases h0:f l[i] with
  |true=>
   simp[yaa,h0] at hm
   simp[hlt,hk,h0,<- hm]
  |false=>
   simp[yaa,h0] at hm
   simp[hlt,hk,h0,zb hlt (by omega),hm]
 ·have:i=l.length:=by omega
  subst this
  simp[yaa] at hm
  simp[<- hm]

theorem r71(l:List Int)(k:Nat)(f:Int->Bool)(hf:∀ x,y17 E (dL E) k [dI x]=some (.bool (f x)))(hl:l.length<=1000000) :
  y17 E (dL E) 71 [y2k l,.fn k []]=some (.bool (l.any f)):=by
 refine zg c71 (by simp) ?_
 simp[t71,n71,r106 l k f hf hl,zi5]

def atS(c:Cell):List Cell->Nat->Int
 |[],_=>-1
 |x::l,i=>if x=c then i else atS c l (i+1)

theorem r109(l:List Cell)(c:Cell)(hl:l.length<=1000000):y17 E (dL E) 109 [.imm .none (l.map y2c),y2c c]=some (dI (atS c l 0)):=by
 refine zg c109 (by simp) ?_
 simp[t109,n109]
 refine zr l.length (fun i env hp=>∃(c5 c6:D) (h:List Obj),env=[.imm .none (l.map y2c),y2c c,.loc 0 0,dI 0,dI i,c5,c6]/\hp=.cells (y2c c).cellsL::h/\atS c (l.drop i) i=atS c l 0) 0 (by omega) ⟨_,_,_,rfl,rfl,rfl⟩ ?_
 rintro i env hp hi ⟨c5,c6,h,rfl,rfl,hm⟩
 by_cases hlt:i<l.length
 ·rw[zm hlt] at hm
  have hiff:(l[i].airport=c.airport/\l[i].index=c.index/\l[i].minute=c.minute) ↔ l[i]=c:=by
   cases l[i];cases c;simp
  by_cases h0:l[i]=c
  ·simp[atS,h0] at hm
   simp[hlt,y1m,eqL,y1u,h0,<- hm]
  ·simp[atS,h0] at hm
   have h0':=fun hh=>h0 (hiff.1 hh)
   have h0b:(l[i].airport == c.airport && (l[i].index == c.index && l[i].minute == c.minute))=false:=by simpa using h0'
   simp[hlt,y1m,eqL,y1u,h0b,zb hlt (by omega),hm]
 ·have:i=l.length:=by omega
  subst this
  simp[atS] at hm
  simp[<- hm]

theorem z19{A:Type}{h r:List A}{x:A}:(h++x::r)[h.length]? = some x:=by simp
theorem z6a{A:Type}{h r:List A}{x y:A}:(h++x::r).set h.length y=h++y::r:=by simp

def y7a:List Var->Int->Int->Int
 |[],_,n=>n
 |v::r,lim,n=>if n<lim then y7a r lim (n*(if 1<(v.choices.length:Int) then v.choices.length else 1)) else n

def yb7(p:y4j)(lim:Int):Int:=if lim<y7a p.vars lim 1 then lim else y7a p.vars lim 1

theorem r61(p:y4j)(lim:Int)(h8:∀ v,v ∈ p.vars->v.choices.length<=8)(hl:lim<=2000)(hv:p.vars.length<=6) :
  y17 E (dL E) 61 [y19 p,dI lim]=some (dI (yb7 p lim)):=by
 refine zg c61 (by simp) ?_
 unfold yb7
 simp[t61,n61]
 refine zr p.vars.length (fun i env hp=>∃(n:Int) (c:D),env=[y19 p,dI lim,.loc 0 0,dI 0,dI n,dI i,c]/\hp=[.cells (y19 p).cellsL]/\0<=n/\n<=16000/\y7a (p.vars.drop i) lim n=y7a p.vars lim 1) 0 (cH _) ⟨1,.undef,rfl,rfl,by omega,by omega,rfl⟩ ?_
 rintro i env hp hi ⟨n,c,rfl,rfl,h0,h1,hm⟩
 by_cases hlt:i<p.vars.length
 ·rw[zm hlt] at hm
  have hc8:p.vars[i].choices.length<=8:=h8 _ (aF hlt)
  by_cases hn:n<lim
  ·simp only[y7a,if_pos hn] at hm
   have hb:n*p.vars[i].choices.length<=2000*8:=by
    have:=Int.mul_le_mul_of_nonneg_left (show(p.vars[i].choices.length:Int)<=8 by omega) h0
    omega
   have hb0:0<=n*p.vars[i].choices.length:=Int.mul_nonneg h0 (by omega)
   by_cases h1':1<(p.vars[i].choices.length:Int)
   ·rw[if_pos h1'] at hm
    simp[hlt,hn,h1',zb hlt (by omega),za (n:=n*p.vars[i].choices.length) ⟨by omega,by omega⟩]
    exact⟨hb0,hb,hm⟩
   ·rw[if_neg h1'] at hm
    have hn1:n*1=n:=Int.mul_one n
    simp only[Int.natCast_one,hn1] at hm
    simp[hlt,hn,h1',zb hlt (by omega),za (n:=n) ⟨by omega,by omega⟩]
    exact⟨h0,h1,hm⟩
  ·simp only[y7a,if_neg hn] at hm
   simp[hlt,hn]
   subst hm
   split <;> simp[*]
 ·have:i=p.vars.length:=by omega
  subst this
  simp[y7a] at hm
  subst hm
  simp

def y9k(v:Var):Bool:=decide (v.leaves.length<=8) && decide (v.choices.length<=8) && v.choices.all fun c=>decide (c.uses.length<=12)

def yby(p:y4j):Bool:=decide (p.cells.length<=12) && decide (p.capacity.length<=4) && decide (p.vars.length<=6) && (p.capacity.all fun l=>decide (l.length<=16)) && p.vars.all y9k && decide (yb7 p 2000<2000)

theorem r2(p:y4j):y17 E (dL E) 2 [y19 p]=some (.bool (yby p)):=by
 refine zg c2 (by simp) ?_
 unfold yby
 simp[t2,n2]
 by_cases h1':(12:Int)<p.cells.length
 ·have h1 : ¬ p.cells.length<=12:=by omega
  simp[h1,h1']
 by_cases h2':(4:Int)<p.capacity.length
 ·have h2 : ¬ p.capacity.length<=4:=by omega
  simp[h1',h2,h2']
 by_cases h3':(6:Int)<p.vars.length
 ·have h3 : ¬ p.vars.length<=6:=by omega
  simp[h1',h2',h3,h3']
 have h1:p.cells.length<=12:=by omega
 have h2:p.capacity.length<=4:=by omega
 have h3:p.vars.length<=6:=by omega
 simp[h1,h1',h2,h2',h3,h3']
 refine zr p.capacity.length (fun i env hp=>∃ x4 x5 x6 x7 x8 x9 x10 x11 x12 x13 x14:D,env=[y19 p,.loc 0 0,.bool false,dI i,x4,x5,x6,x7,x8,x9,x10,x11,x12,x13,x14]/\hp=[.cells (y19 p).cellsL] /\
  ((p.capacity.drop i).all fun l=>decide (l.length<=16))=(p.capacity.all fun l=>decide (l.length<=16))) 0 (by omega) ⟨_,_,_,_,_,_,_,_,_,_,_,rfl,rfl,rfl⟩ ?_
 rintro i env hp hi ⟨x4,x5,x6,x7,x8,x9,x10,x11,x12,x13,x14,rfl,rfl,hm⟩
 by_cases hlt:i<p.capacity.length
 ·rw[zm hlt,eD] at hm
  by_cases h4:p.capacity[i].length<=16
  ·have h4' : ¬ (16:Int)<p.capacity[i].length:=by omega
   simp only[h4,decide_true,gJ] at hm
   simp[hlt,h4',zb hlt (by omega),hm]
  ·have h4':(16:Int)<p.capacity[i].length:=by omega
   simp only[h4,decide_false,gj] at hm
   simp[hlt,h4',<- hm]
 have:i=p.capacity.length:=by omega
 subst this
 simp only[cu,hO] at hm
 simp[<- hm]
 refine zr p.vars.length (fun i env hp=>∃(x3 x5 x6 x7 x8 x9 x10 x11 x12 x13 x14:D) (h:List Obj),env=[y19 p,.loc 0 0,.bool false,x3,dI i,x5,x6,x7,x8,x9,x10,x11,x12,x13,x14]/\hp=.cells (y19 p).cellsL::h /\
  (p.vars.drop i).all y9k=p.vars.all y9k /\ ∀ j (hj:j<p.vars.length),j<i->y9k p.vars[j]=true) 0 (by omega) ⟨_,_,_,_,_,_,_,_,_,_,_,_,rfl,rfl,rfl,fun j _ hj=>by omega⟩ ?_
 rintro i env hp hi ⟨x3,x5,x6,x7,x8,x9,x10,x11,x12,x13,x14,h,rfl,rfl,hv,hall⟩
 by_cases hlt:i<p.vars.length
 ·rw[zm hlt,eD] at hv
  simp[hlt,z19,z6a]
  by_cases g1':(8:Int)<p.vars[i].leaves.length
  ·have g1 : ¬ p.vars[i].leaves.length<=8:=by omega
   simp only[y9k,g1,decide_false,gj] at hv
   simp[g1',<- hv]
  by_cases g2':(8:Int)<p.vars[i].choices.length
  ·have g2 : ¬ p.vars[i].choices.length<=8:=by omega
   simp only[y9k,g2,decide_false,gj,lH] at hv
   simp[g1',g2',<- hv]
  have g1:p.vars[i].leaves.length<=8:=by omega
  have g2:p.vars[i].choices.length<=8:=by omega
  simp[g1',g2']
  refine zr p.vars[i].choices.length (fun k env hp=>∃(x3 x7 x8 x9 x10 x11 x12 x13 x14:D),env=[y19 p,.loc 0 0,.bool false,x3,dI i,.loc (h.length+1) 0,dI k,x7,x8,x9,x10,x11,x12,x13,x14] /\
   hp=.cells (y19 p).cellsL::(h++[.cells (y4y p.vars[i]).cellsL]) /\
   ((p.vars[i].choices.drop k).all fun c=>decide (c.uses.length<=12))=(p.vars[i].choices.all fun c=>decide (c.uses.length<=12))) 0 (by omega) ⟨_,_,_,_,_,_,_,_,_,rfl,rfl,rfl⟩ ?_
  rintro k env hp hk ⟨x3,x7,x8,x9,x10,x11,x12,x13,x14,rfl,rfl,hc⟩
  by_cases hlt2:k<p.vars[i].choices.length
  ·rw[zm hlt2,eD] at hc
   simp[hlt,hlt2,z19]
   by_cases g3':(12:Int)<p.vars[i].choices[k].uses.length
   ·have g3 : ¬ p.vars[i].choices[k].uses.length<=12:=by omega
    simp only[g3,decide_false,gj] at hc
    simp only[y9k,<- hc,lH,gj] at hv
    simp[g3']
    intro hh
    rw[ax.2 hh] at hv;cases hv
   ·have g3:p.vars[i].choices[k].uses.length<=12:=by omega
    simp only[g3,decide_true,gJ] at hc
    simp[g3',zb hlt2 (by omega),hc]
  ·have:k=p.vars[i].choices.length:=by omega
   subst this
   simp only[cu,hO] at hc
   have hf:y9k p.vars[i]=true:=by simp[y9k,g1,g2,<- hc]
   rw[hf,gJ] at hv
   simp[z19,zb hlt (by omega),hlt,hv]
   intro j hj hj'
   rcases eV.1 hj' with h' | rfl
   ·exact hall j hj h'
   ·exact hf
 ·have:i=p.vars.length:=by omega
  subst this
  simp only[cu,hO] at hv
  have h61:=r61 p 2000 (fun v hv=>by
   obtain⟨j,hj,rfl⟩:=fH hv
   have:=hall j hj hj
   simp only[y9k,ai,decide_eq_true_eq] at this
   exact this.1.2) (by omega) h3
  simp[<- hv,h61]

section
variable{E:Env}{Q:Ex->List D->List Obj->Prop}{env:List D}{hp:List Obj}

theorem wT_chk{a:TC}(n:Nat)(P:Nat->Prop)(I:Nat->List D->List Obj->Prop)(h0:I 0 env hp)
  (good:∀ i env hp,i<n->I i env hp->P i->(∀ j,j<i->P j)->wT E a (fun ex env' hp'=>match ex with
   |.normal=>I (i+1) env' hp'
   |_=>False) env hp)
  (bad:∀ i env hp,i<n->I i env hp -> ¬ P i->wT E a (fun ex env' hp'=>match ex with
   |.normal=>False
   |ex=>Q ex env' hp') env hp)
  (last:∀ env hp,I n env hp->(∀ j,j<n->P j)->wT E a (fun ex env' hp'=>match ex with
   |.normal=>False
   |ex=>Q ex env' hp') env hp):wT E (.loop a) Q env hp:=by
 refine zr n (fun i env hp=>I i env hp /\ ∀ j,j<i->P j) 0 (cH _) ⟨h0,fun j hj=>by omega⟩ ?_
 rintro i env hp hi ⟨hI,hP⟩
 by_cases hlt:i<n
 ·by_cases hp':P i
  ·refine z7k ?_ (good i env hp hlt hI hp' hP)
   intro ex env' hp'' h
   cases ex with
   |normal=>
    refine⟨hlt,h,fun j hj=>?_⟩
    rcases eV.1 hj with h1 | rfl
    ·exact hP j h1
    ·exact hp'
   |exit _=>exact h.elim
   |ret=>exact h.elim
  ·refine z7k ?_ (bad i env hp hlt hI hp')
   intro ex env' hp'' h
   cases ex with
   |normal=>exact h.elim
   |exit _=>exact h
   |ret=>exact h
 ·have:i=n:=by omega
  subst this
  refine z7k ?_ (last env hp hI hP)
  intro ex env' hp'' h
  cases ex with
  |normal=>exact h.elim
  |exit _=>exact h
  |ret=>exact h

theorem z4x{a:TC}(n:Nat)(P:Nat->Prop)(I:Nat->List D->List Obj->Prop)(h0:I 0 env hp)
  (step:∀ i env hp,i<n->I i env hp->(∀ j,j<i->P j)->wT E a (fun ex env' hp'=>match ex with
   |.normal=>P i/\I (i+1) env' hp'
   |ex=>Q ex env' hp') env hp)
  (last:∀ env hp,I n env hp->(∀ j,j<n->P j)->wT E a (fun ex env' hp'=>match ex with
   |.normal=>False
   |ex=>Q ex env' hp') env hp):wT E (.loop a) Q env hp:=by
 refine zr n (fun i env hp=>I i env hp /\ ∀ j,j<i->P j) 0 (cH _) ⟨h0,fun j hj=>by omega⟩ ?_
 rintro i env hp hi ⟨hI,hP⟩
 by_cases hlt:i<n
 ·refine z7k ?_ (step i env hp hlt hI hP)
  intro ex env' hp'' h
  cases ex with
  |normal=>
   refine⟨hlt,h.2,fun j hj=>?_⟩
   rcases eV.1 hj with h1 | rfl
   ·exact hP j h1
   ·exact h.1
  |exit _=>exact h
  |ret=>exact h
 ·have:i=n:=by omega
  subst this
  refine z7k ?_ (last env hp hI hP)
  intro ex env' hp'' h
  cases ex with
  |normal=>exact h.elim
  |exit _=>exact h
  |ret=>exact h
end

theorem z33{i:Nat}(h0:0<i)(h:i<=1000000000000):aC.wrap ((i:Int) - 1)=((i - 1:Nat):Int):=by
 rw[za ⟨by omega,by omega⟩];omega

def wi(n lo hi:Int):Prop:=lo<=n/\n<=hi
instance{n lo hi:Int}:Decidable (wi n lo hi):=inferInstanceAs (Decidable (_/\_))

structure y90(p:y4j)(u:Use):Prop where
 known:u.cell ∈ p.cells
 places:wi u.places 1 8

structure y4u(p:y4j)(c:y7p):Prop where
 delay:wi c.delay 0 1048576
 cost:wi c.cost 0 1048576
 changes:wi c.changes 0 1048576
 uses:∀ u,u ∈ c.uses->y90 p u
 incr:∀(i:Nat) (h:i+1<c.uses.length),ltC c.uses[i].cell c.uses[i+1].cell=true

structure y6x(p:y4j)(v:Var):Prop where
 some:1<=v.leaves.length
 one:1<=v.choices.length
 most:v.choices.length<=96
 leaves:∀ n,n ∈ v.leaves->wi n 0 (p.capacity.length - 1)
 incr:∀(i:Nat) (h:i+1<v.leaves.length),v.leaves[i]<v.leaves[i+1]
 choices:∀ c,c ∈ v.choices->y4u p c

theorem zh7{c:Cell}:∀{l:List Cell} {i:Nat},(atS c l i<0) ↔ c ∉ l
 |[],i=>by simp[atS]
 |x::l,i=>by
  unfold atS
  by_cases h:x=c
  ·simp[h]
  ·have h' : ¬ c=x:=fun e=>h e.symm
   simp[h,h',zh7 (l:=l)]

theorem z2d{A:Type}{l:List A}{P:A->Prop}:(∀ x,x ∈ l->P x) ↔ ∀(i:Nat) (h:i<l.length),P l[i]:=by
 constructor
 ·intro h i hi;exact h _ (aF hi)
 ·intro h x hx
  obtain⟨i,hi,rfl⟩:=fH hx
  exact h i hi

open Classical in
theorem r82(p:y4j)(v:Var)(hc:p.cells.length<=12)(hcap:p.capacity.length<=4)(hl:v.leaves.length<=8)(hch:v.choices.length<=8)(hu:∀ c,c ∈ v.choices->c.uses.length<=12) :
  y17 E (dL E) 82 [y19 p,y4y v]=some (.bool (decide (y6x p v))):=by
 refine zg c82 (by simp) ?_
 generalize hB:decide (y6x p v)=B
 simp[t82,n82]
 by_cases h1:(v.leaves.length:Int)<1
 ·have:B=false:=by rw[<- hB];simp;intro h;have:=h.some;omega
  simp[h1,this]
 by_cases h2:(v.choices.length:Int)<1
 ·have:B=false:=by rw[<- hB];simp;intro h;have:=h.one;omega
  simp[h1,h2,this]
 have h3 : ¬ (96:Int)<v.choices.length:=by omega
 simp[h1,h2,h3]
 have hBf : ¬ y6x p v->B=false:=by intro h;rw[<- hB];simp[h]
 have hBt:y6x p v->B=true:=by intro h;rw[<- hB];simp[h]
 have hcw:=za (n:=(p.capacity.length:Int) - 1) ⟨by omega,by omega⟩
 obtain⟨P,hP⟩:∃ P:Nat->Prop,P=fun i=>∀(h:i<v.leaves.length),wi v.leaves[i] 0 (p.capacity.length - 1)/\(0<i->v.leaves[i - 1]<v.leaves[i]):=⟨_,rfl⟩
 refine z4x v.leaves.length P
  (fun i env hp=>∃(x6 x7 x8 x9 x10 x11 x12 x13 x14 x15 x16 x17 x18:D) (h:List Obj),env=[y19 p,y4y v,.loc 0 0,.loc 1 0,.bool false,dI i,x6,x7,x8,x9,x10,x11,x12,x13,x14,x15,x16,x17,x18]/\hp=.cells (y19 p).cellsL :: .cells (y4y v).cellsL::h)
  ⟨_,_,_,_,_,_,_,_,_,_,_,_,_,_,rfl,rfl⟩ ?_ ?_
 ·rintro i env hp hi ⟨x6,x7,x8,x9,x10,x11,x12,x13,x14,x15,x16,x17,x18,h,rfl,rfl⟩ hall
  by_cases hw:wi v.leaves[i] 0 (p.capacity.length - 1)
  ·have hw' : ¬ (v.leaves[i]<0\/(p.capacity.length:Int) - 1<v.leaves[i]):=by unfold wi at hw;omega
   by_cases h0:0<i
   ·have hi1:i - 1<v.leaves.length:=by omega
    by_cases hlt:v.leaves[i - 1]<v.leaves[i]
    ·have hlt' : ¬ v.leaves[i]<=v.leaves[i - 1]:=by omega
     have hPi:P i:=by rw[hP];exact fun _=>⟨hw,fun _=>hlt⟩
     simp[hi,hi1,h0,r79,hcw,hw',z33 h0 (by omega),hlt',zb hi (by omega),hPi]
    ·have hB':=hBf (fun ok=>hlt (by
      have:=ok.incr (i - 1) (by omega)
      simpa[show i - 1+1=i from by omega] using this))
     have hlt':v.leaves[i]<=v.leaves[i - 1]:=by omega
     simp[hi,hi1,h0,r79,hcw,hw',z33 h0 (by omega),hlt',hB']
   ·have hPi:P i:=by rw[hP];exact fun _=>⟨hw,fun h=>absurd h h0⟩
    simp[hi,h0,r79,hcw,hw',zb hi (by omega),hPi]
  ·have hw':(v.leaves[i]<0\/(p.capacity.length:Int) - 1<v.leaves[i]):=by unfold wi at hw;omega
   have hB':=hBf (fun ok=>hw (ok.leaves _ (aF hi)))
   simp[hi,r79,hcw,hw',hB']
 rintro env hp ⟨x6,x7,x8,x9,x10,x11,x12,x13,x14,x15,x16,x17,x18,h,rfl,rfl⟩ hleaves
 rw[hP] at hleaves
 simp
 clear hP P
 obtain⟨P,hP⟩:∃ P:Nat->Prop,P=fun i=>∀(h:i<v.choices.length),y4u p v.choices[i]:=⟨_,rfl⟩
 refine z4x v.choices.length P
  (fun i env hp=>∃(x5 x7 x8 x9 x10 x11 x12 x13 x14 x15 x16 x17 x18:D) (h:List Obj),env=[y19 p,y4y v,.loc 0 0,.loc 1 0,.bool false,x5,dI i,x7,x8,x9,x10,x11,x12,x13,x14,x15,x16,x17,x18]/\hp=.cells (y19 p).cellsL :: .cells (y4y v).cellsL::h)
  ⟨_,_,_,_,_,_,_,_,_,_,_,_,_,_,rfl,rfl⟩ ?_ ?_
 ·rintro i env hp hi ⟨x5,x7,x8,x9,x10,x11,x12,x13,x14,x15,x16,x17,x18,h,rfl,rfl⟩ hall
  have hBc : ¬ y4u p v.choices[i]->B=false:=fun hn=>hBf (fun ok=>hn (ok.choices _ (aF hi)))
  simp[hi,z19,z6a]
  by_cases hw1:wi v.choices[i].delay 0 1048576
  rotate_left
  ·have hw':(v.choices[i].delay<0\/(1048576:Int)<v.choices[i].delay):=by unfold wi at hw1;omega
   simp[r79,hw',hBc (fun ok=>hw1 ok.delay)]
  have hw1' : ¬ (v.choices[i].delay<0\/(1048576:Int)<v.choices[i].delay):=by unfold wi at hw1;omega
  by_cases hw2:wi v.choices[i].cost 0 1048576
  rotate_left
  ·have hw':(v.choices[i].cost<0\/(1048576:Int)<v.choices[i].cost):=by unfold wi at hw2;omega
   simp[r79,hw1',hw',hBc (fun ok=>hw2 ok.cost)]
  have hw2' : ¬ (v.choices[i].cost<0\/(1048576:Int)<v.choices[i].cost):=by unfold wi at hw2;omega
  by_cases hw3:wi v.choices[i].changes 0 1048576
  rotate_left
  ·have hw':(v.choices[i].changes<0\/(1048576:Int)<v.choices[i].changes):=by unfold wi at hw3;omega
   simp[r79,hw1',hw2',hw',hBc (fun ok=>hw3 ok.changes)]
  have hw3' : ¬ (v.choices[i].changes<0\/(1048576:Int)<v.choices[i].changes):=by unfold wi at hw3;omega
  simp[r79,hw1',hw2',hw3']
  have hul:=hu _ (aF hi)
  obtain⟨P2,hP2⟩:∃ P:Nat->Prop,P=fun k=>∀(h:k<v.choices[i].uses.length),y90 p v.choices[i].uses[k]/\(0<k->ltC v.choices[i].uses[k - 1].cell v.choices[i].uses[k].cell=true):=⟨_,rfl⟩
  refine z4x v.choices[i].uses.length P2
   (fun k env hp=>∃(x5 x9 x10 x11 x12 x13 x14 x15 x16 x17 x18:D) (h2:List Obj),env=[y19 p,y4y v,.loc 0 0,.loc 1 0,.bool false,x5,dI i,.loc (h.length+2) 0,dI k,x9,x10,x11,x12,x13,x14,x15,x16,x17,x18] /\
    hp=.cells (y19 p).cellsL :: .cells (y4y v).cellsL::(h ++ .cells (y2g v.choices[i]).cellsL::h2))
   ⟨_,_,_,_,_,_,_,_,_,_,_,_,rfl,rfl⟩ ?_ ?_
  ·rintro k env hp hk ⟨x5,x9,x10,x11,x12,x13,x14,x15,x16,x17,x18,h2,rfl,rfl⟩ hall2
   have hBu:(¬ y90 p v.choices[i].uses[k])->B=false:=fun hn=>hBc (fun ok=>hn (ok.uses _ (aF hk)))
   have hat:=r109 p.cells v.choices[i].uses[k].cell (by omega)
   simp at hat
   simp[hk,z19,z6a,hat]
   by_cases hm:v.choices[i].uses[k].cell ∈ p.cells
   rotate_left
   ·have ha:atS v.choices[i].uses[k].cell p.cells 0<0:=zh7.2 hm
    simp[ha,hBu (fun ok=>hm ok.known)]
   have ha : ¬ atS v.choices[i].uses[k].cell p.cells 0<0:=fun h=>zh7.1 h hm
   by_cases hw:wi v.choices[i].uses[k].places 1 8
   rotate_left
   ·have hw':(v.choices[i].uses[k].places<1\/(8:Int)<v.choices[i].uses[k].places):=by unfold wi at hw;omega
    simp[ha,r79,hw',hBu (fun ok=>hw ok.places)]
   have hw' : ¬ (v.choices[i].uses[k].places<1\/(8:Int)<v.choices[i].uses[k].places):=by unfold wi at hw;omega
   have hu1:y90 p v.choices[i].uses[k]:=⟨hm,hw⟩
   by_cases h0:0<k
   ·have hk1:k - 1<v.choices[i].uses.length:=by omega
    have h81:=r81 v.choices[i].uses[k - 1].cell v.choices[i].uses[k].cell
    simp at h81
    cases hlt:ltC v.choices[i].uses[k - 1].cell v.choices[i].uses[k].cell with
    |true=>
     have hPk:P2 k:=by rw[hP2];exact fun _=>⟨hu1,fun _=>hlt⟩
     simp[ha,r79,hw',h0,hk,hk1,z19,h81,hlt,z33 h0 (by omega),zb hk (by omega),hPk]
    |false=>
     have hB':=hBc (fun ok=>by
      have:=ok.incr (k - 1) (by omega)
      simp[show k - 1+1=k from by omega,hlt] at this)
     simp[ha,r79,hw',h0,hk,hk1,z19,h81,hlt,z33 h0 (by omega),hB']
   ·have hPk:P2 k:=by rw[hP2];exact fun _=>⟨hu1,fun h=>absurd h h0⟩
    simp[ha,r79,hw',h0,hk,z19,zb hk (by omega),hPk]
  ·rintro env hp ⟨x5,x9,x10,x11,x12,x13,x14,x15,x16,x17,x18,h2,rfl,rfl⟩ hall2
   have hPi:P i:=by
    rw[hP]
    intro _
    rw[hP2] at hall2
    exact⟨hw1,hw2,hw3,z2d.2 fun k hk=>(hall2 k hk hk).1,fun k hk=>by
     have:=(hall2 (k+1) hk hk).2 (by omega)
     simpa using this⟩
   simp[z19,zb hi (by omega),hPi]
 rintro env hp ⟨x5,x7,x8,x9,x10,x11,x12,x13,x14,x15,x16,x17,x18,h,rfl,rfl⟩ hch2
 rw[hP] at hch2
 have:B=true:=hBt ⟨by omega,by omega,by omega,z2d.2 fun i hi=>(hleaves i hi hi).1,fun i hi=>by
  have:=(hleaves (i+1) hi hi).2 (by omega)
  simpa using this,z2d.2 fun i hi=>hch2 i hi hi⟩
 simp[this]

structure y8y(p:y4j):Prop where
 cells:p.cells.length<=12
 cap:p.capacity.length<=4
 rows:∀ l,l ∈ p.capacity->l.length<=16
 vars:p.vars.length<=6
 leaves:∀ v,v ∈ p.vars->v.leaves.length<=8
 choices:∀ v,v ∈ p.vars->v.choices.length<=8
 uses:∀ v,v ∈ p.vars->∀ c,c ∈ v.choices->c.uses.length<=12

theorem zok{p:y4j}(h:yby p=true):y8y p:=by
 simp only[yby,ai,decide_eq_true_eq,ax] at h
 obtain⟨⟨⟨⟨⟨h1,h2⟩,h3⟩,h4⟩,h5⟩,_⟩:=h
 have h6:∀ v,v ∈ p.vars->v.leaves.length<=8/\v.choices.length<=8 /\ ∀ c,c ∈ v.choices->c.uses.length<=12:=fun v hv=>by
  have:=h5 v hv
  simp only[y9k,ai,decide_eq_true_eq,ax] at this
  exact⟨this.1.1,this.1.2,this.2⟩
 exact⟨h1,h2,h4,h3,fun v hv=>(h6 v hv).1,fun v hv=>(h6 v hv).2.1,fun v hv=>(h6 v hv).2.2⟩

structure OkP(p:y4j):Prop where
 some:1<=p.capacity.length
 nonneg:∀ c,c ∈ p.cells->0<=c.index/\0<=c.minute
 incr:∀(i:Nat) (h:i+1<p.cells.length),ltC p.cells[i] p.cells[i+1]=true
 cap:∀ l,l ∈ p.capacity->l.length=p.cells.length /\ ∀ n,n ∈ l->wi n 0 4096
 vars:∀ v,v ∈ p.vars->y6x p v

open Classical in
noncomputable def ck(p:y4j):Int:=if OkP p then 0 else 270

theorem r19(p:y4j)(S:y8y p):y17 E (dL E) 19 [y19 p]=some (dI (ck p)):=by
 refine zg c19 (by simp) ?_
 generalize hB:ck p=B
 have hBf : ¬ OkP p->B=270:=by intro h;rw[<- hB];simp[ck,h]
 have hBt:OkP p->B=0:=by intro h;rw[<- hB];simp[ck,h]
 have s1:=S.cells
 have s2:=S.cap
 have s3:=S.vars
 simp[t19,n19]
 have h1 : ¬ (4096:Int)<p.cells.length:=by omega
 by_cases h2:(p.capacity.length:Int)<1
 ·simp[h1,h2,hBf (fun ok=>by have:=ok.some;omega)]
 have h3 : ¬ (32:Int)<p.capacity.length:=by omega
 have h4 : ¬ (64:Int)<p.vars.length:=by omega
 simp[h1,h2,h3,h4]
 obtain⟨P,hP⟩:∃ P:Nat->Prop,P=fun i=>∀(h:i<p.cells.length),(0<=p.cells[i].index/\0<=p.cells[i].minute)/\(0<i->ltC p.cells[i - 1] p.cells[i]=true):=⟨_,rfl⟩
 refine z4x p.cells.length P
  (fun i env hp=>∃(x4 x5 x6 x7 x8 x9 x10 x11 x12 x13 x14 x15:D) (h:List Obj),env=[y19 p,.loc 0 0,dI 0,dI i,x4,x5,x6,x7,x8,x9,x10,x11,x12,x13,x14,x15]/\hp=.cells (y19 p).cellsL::h)
  ⟨_,_,_,_,_,_,_,_,_,_,_,_,_,rfl,rfl⟩ ?_ ?_
 ·rintro i env hp hi ⟨x4,x5,x6,x7,x8,x9,x10,x11,x12,x13,x14,x15,h,rfl,rfl⟩ hall
  have hBc : ¬ (0<=p.cells[i].index/\0<=p.cells[i].minute)->B=270:=fun hn=>hBf (fun ok=>hn (ok.nonneg _ (aF hi)))
  simp[hi]
  by_cases g1:p.cells[i].index<0
  ·simp[g1,hBc (by omega)]
  by_cases g2:p.cells[i].minute<0
  ·simp[g1,g2,hBc (by omega)]
  by_cases h0:0<i
  ·have hi1:i - 1<p.cells.length:=by omega
   have h81:=r81 p.cells[i - 1] p.cells[i]
   simp at h81
   cases hlt:ltC p.cells[i - 1] p.cells[i] with
   |true=>
    have hPi:P i:=by rw[hP];exact fun _=>⟨⟨by omega,by omega⟩,fun _=>hlt⟩
    simp[hi,hi1,g1,g2,h0,h81,hlt,z33 h0 (by omega),zb hi (by omega),hPi]
   |false=>
    have hB':=hBf (fun ok=>by
     have:=ok.incr (i - 1) (by omega)
     simp[show i - 1+1=i from by omega,hlt] at this)
    simp[hi,hi1,g1,g2,h0,h81,hlt,z33 h0 (by omega),hB']
  ·have hPi:P i:=by rw[hP];exact fun _=>⟨⟨by omega,by omega⟩,fun h=>absurd h h0⟩
   simp[g1,g2,h0,zb hi (by omega),hPi]
 rintro env hp ⟨x4,x5,x6,x7,x8,x9,x10,x11,x12,x13,x14,x15,h,rfl,rfl⟩ hcells
 rw[hP] at hcells
 simp
 clear hP P
 obtain⟨P,hP⟩:∃ P:Nat->Prop,P=fun i=>∀(h:i<p.capacity.length),p.capacity[i].length=p.cells.length /\ ∀ n,n ∈ p.capacity[i]->wi n 0 4096:=⟨_,rfl⟩
 refine z4x p.capacity.length P
  (fun i env hp=>∃(x3 x5 x6 x7 x8 x9 x10 x11 x12 x13 x14 x15:D) (h:List Obj),env=[y19 p,.loc 0 0,dI 0,x3,dI i,x5,x6,x7,x8,x9,x10,x11,x12,x13,x14,x15]/\hp=.cells (y19 p).cellsL::h)
  ⟨_,_,_,_,_,_,_,_,_,_,_,_,_,rfl,rfl⟩ ?_ ?_
 ·rintro i env hp hi ⟨x3,x5,x6,x7,x8,x9,x10,x11,x12,x13,x14,x15,h,rfl,rfl⟩ hall
  have hBc : ¬ (p.capacity[i].length=p.cells.length /\ ∀ n,n ∈ p.capacity[i]->wi n 0 4096)->B=270:=fun hn=>hBf (fun ok=>hn (ok.cap _ (aF hi)))
  simp[hi]
  by_cases g1:p.capacity[i].length=p.cells.length
  rotate_left
  ·have g1' : ¬ (p.capacity[i].length:Int)=p.cells.length:=by omega
   simp[g1,g1',hBc (fun h=>g1 h.1)]
  simp[g1]
  obtain⟨P2,hP2⟩:∃ P:Nat->Prop,P=fun k=>∀(h:k<p.capacity[i].length),wi p.capacity[i][k] 0 4096:=⟨_,rfl⟩
  refine z4x p.cells.length P2
   (fun k env hp=>∃(x3 x6 x7 x8 x9 x10 x11 x12 x13 x14 x15:D) (h:List Obj),env=[y19 p,.loc 0 0,dI 0,x3,dI i,dI k,x6,x7,x8,x9,x10,x11,x12,x13,x14,x15]/\hp=.cells (y19 p).cellsL::h)
   ⟨_,_,_,_,_,_,_,_,_,_,_,_,rfl,rfl⟩ ?_ ?_
  ·rintro k env hp hk ⟨x3,x6,x7,x8,x9,x10,x11,x12,x13,x14,x15,h,rfl,rfl⟩ hall2
   have hk':k<p.capacity[i].length:=by omega
   by_cases hw:wi p.capacity[i][k] 0 4096
   ·have hw' : ¬ (p.capacity[i][k]<0\/(4096:Int)<p.capacity[i][k]):=by unfold wi at hw;omega
    have hPk:P2 k:=by rw[hP2];exact fun _=>hw
    simp[hi,hk,hk',r79,hw',zb hk (by omega),hPk]
   ·have hw':(p.capacity[i][k]<0\/(4096:Int)<p.capacity[i][k]):=by unfold wi at hw;omega
    simp[hi,hk,hk',r79,hw',hBc (fun h=>hw (h.2 _ (aF hk')))]
  ·rintro env hp ⟨x3,x6,x7,x8,x9,x10,x11,x12,x13,x14,x15,h,rfl,rfl⟩ hall2
   rw[hP2] at hall2
   have hPi:P i:=by rw[hP];exact fun _=>⟨g1,z2d.2 fun k hk=>hall2 k (by omega) hk⟩
   simp[zb hi (by omega),hPi]
 rintro env hp ⟨x3,x5,x6,x7,x8,x9,x10,x11,x12,x13,x14,x15,h,rfl,rfl⟩ hcap
 rw[hP] at hcap
 simp
 clear hP P
 obtain⟨P,hP⟩:∃ P:Nat->Prop,P=fun i=>∀(h:i<p.vars.length),y6x p p.vars[i]:=⟨_,rfl⟩
 refine z4x p.vars.length P
  (fun i env hp=>∃(x3 x4 x5 x7 x8 x9 x10 x11 x12 x13 x14 x15:D) (h:List Obj),env=[y19 p,.loc 0 0,dI 0,x3,x4,x5,dI i,x7,x8,x9,x10,x11,x12,x13,x14,x15]/\hp=.cells (y19 p).cellsL::h)
  ⟨_,_,_,_,_,_,_,_,_,_,_,_,_,rfl,rfl⟩ ?_ ?_
 ·rintro i env hp hi ⟨x3,x4,x5,x7,x8,x9,x10,x11,x12,x13,x14,x15,h,rfl,rfl⟩ hall
  have hmem:=aF hi
  have h82:=r82 p p.vars[i] s1 s2 (S.leaves _ hmem) (S.choices _ hmem) (S.uses _ hmem)
  simp at h82
  by_cases hv:y6x p p.vars[i]
  ·have hPi:P i:=by rw[hP];exact fun _=>hv
   simp[hi,h82,hv,zb hi (by omega),hPi]
  ·simp[hi,h82,hv,hBf (fun ok=>hv (ok.vars _ hmem))]
 rintro env hp ⟨x3,x4,x5,x7,x8,x9,x10,x11,x12,x13,x14,x15,h,rfl,rfl⟩ hvars
 rw[hP] at hvars
 have:B=0:=hBt ⟨by omega,z2d.2 fun i hi=>(hcells i hi hi).1,fun i hi=>by
  have:=(hcells (i+1) hi hi).2 (by omega)
  simpa using this,z2d.2 fun i hi=>hcap i hi hi,z2d.2 fun i hi=>hvars i hi hi⟩
 simp[this]

def y94(c:Cell):D × D:=(y2c c,.bool true)

theorem zf2{c:Cell}:∀{es:List Cell},y16 (y2c c) (es.map y94)=some (if c ∈ es then some (.bool true) else none)
 |[]=>rfl
 |x::es=>by
  have hq:D.eqb (y2c c) (y2c x)=some (decide (c=x)):=by
   simp[D.eqb,eqL,y1u]
   cases c;cases x;simp[jF]
  simp only[au,y16,y94,hq]
  by_cases h:c=x
  ·simp[h]
  ·simp only[h,decide_false,aw,false_or]
   exact zf2

theorem zho{c:Cell}:∀{es:List Cell},y1j (y2c c) (.bool true) (es.map y94)=some ((if c ∈ es then es else es++[c]).map y94)
 |[]=>rfl
 |x::es=>by
  have hq:D.eqb (y2c c) (y2c x)=some (decide (c=x)):=by
   simp[D.eqb,eqL,y1u]
   cases c;cases x;simp[jF]
  simp only[au,y1j,y94,hq]
  by_cases h:c=x
  ·simp[h,y94]
  ·have ih:=zho (c:=c) (es:=es)
   simp only[h,decide_false,aw,false_or]
   rw[ih]
   by_cases hm:c ∈ es <;> simp[hm,y94]

theorem z3f{A:Type}{c:A->A->Int}:∀{l:List A},y2t c l=true ↔ ∀(i:Nat) (h:i+1<l.length),c l[i] l[i+1]<0
 |[]=>⟨fun _ i h=>by simp at h,fun _=>rfl⟩
 |[_]=>⟨fun _ i h=>by simp at h,fun _=>rfl⟩
 |a::b::r=>by
  have ih:=z3f (c:=c) (l:=b::r)
  simp only[y2t,ai,decide_eq_true_eq,ih]
  constructor
  ·rintro⟨h1,h2⟩ i hi
   cases i with
   |zero=>exact h1
   |succ i=>exact h2 i (by simpa using hi)
  ·intro h
   exact⟨h 0 (by simp),fun i hi=>h (i+1) (by simpa using hi)⟩

theorem zde{a b:Int}:y4p a b<0 ↔ a<b:=by
 unfold y4p
 (repeat' split) <;> omega

theorem zgp{l:List Int}(h:∀(i:Nat) (hi:i+1<l.length),l[i]<l[i+1]):∀(j i:Nat) (hj:j<l.length) (hij:i<=j),l[i]'(by omega)<=l[j]
 | 0,i,hj,hij=>by
  have:i=0:=by omega
  subst this;exact nY _
 |j+1,i,hj,hij=>by
  rcases eV.1 (Nat.lt_succ_of_le hij) with h1 | rfl
  ·have:=zgp h j i (by omega) (by omega)
   have:=h j hj
   omega
  ·exact nY _

theorem zhh{x lo hi:Int}(h:wi x lo hi):lo<=x/\x<=hi /\ ¬ x<lo /\ ¬ hi<x:=by unfold wi at h;omega
theorem zhi{x lo hi:Int}(h : ¬ wi x lo hi):(x<lo /\ ¬ lo<=x)\/(hi<x /\ ¬ x<=hi/\lo<=x /\ ¬ x<lo):=by unfold wi at h;omega

theorem r71w(l:List Int)(hl:l.length<=1000000):∃ q:Bool,(q=true ↔ ¬ ∀ n,n ∈ l->wi n 0 4096)/\y17 E (dL E) 71 [.imm .none (l.map dI),.fn 72 []]=some (.bool q):=by
 refine⟨_,?_,r71 l 72 (fun n=>!decide (0<=n/\n<=4096)) r72 hl⟩
 rw[List.any_eq_true]
 constructor
 ·rintro⟨n,hn,h⟩ hall
  have:=hall n hn
  unfold wi at this
  simp[this] at h
 ·intro h
  refine dH fun hn=>h fun n hm=>?_
  unfold wi
  refine dH fun hw=>hn ⟨n,hm,?_⟩
  simp only[hw,decide_false,Bool.not_false]

theorem r15(p:y4j)(S:y8y p):y17 E (dL E) 15 [y19 p]=some (dI (ck p)):=by
 refine zg c15 (by simp) ?_
 generalize hB:ck p=B
 have hBf : ¬ OkP p->B=270:=by intro h;rw[<- hB];simp[ck,h]
 have hBt:OkP p->B=0:=by intro h;rw[<- hB];simp[ck,h]
 have s1:=S.cells
 have s2:=S.cap
 have s3:=S.vars
 have h69:=r69 p.cells 70 y9n r70 (by omega)
 simp[t15,n15,r67,h69]
 have h1 : ¬ (4096:Int)<p.cells.length:=by omega
 by_cases h2:(p.capacity.length:Int)<1
 ·have h2':((p.capacity.length:Int)<1\/(32:Int)<p.capacity.length):=.inl h2
  simp[h1,h2',hBf (fun ok=>by have:=ok.some;omega)]
 have h2' : ¬ ((p.capacity.length:Int)<1\/(32:Int)<p.capacity.length):=by omega
 have h4 : ¬ (64:Int)<p.vars.length:=by omega
 cases hinc:y2t y9n p.cells with
 |false=>
  simp[h1,h2',h4,hBf (fun ok=>by
   have:y2t y9n p.cells=true:=z3f.2 fun i hi=>by
    have:=ok.incr i hi
    rw[<- zd0] at this;exact this
   rw[hinc] at this;cases this)]
 |true=>
 have hincr:=z3f.1 hinc
 simp[h1,h2',h4]
 obtain⟨P,hP⟩:∃ P:Nat->Prop,P=fun i=>∀(h:i<p.cells.length),0<=p.cells[i].index/\0<=p.cells[i].minute:=⟨_,rfl⟩
 refine z4x p.cells.length P
  (fun i env hp=>∃(x4 x5 x6 x7 x8 x9 x10 x11 x15 x16 x17 x18 x19 x20 x21 x22 x23 x24 x25 x26 x27 x28 x29 x30 x31 x32 x33 x34 x35 x36 x37 x38 x39 x40:D) (es:List Cell) (h:List Obj),env=[y19 p,.loc 0 0,dI 0,.map (some 1),x4,x5,x6,x7,x8,x9,x10,x11,.imm .none (p.cells.map y2c),dI p.cells.length,dI i,x15,x16,x17,x18,x19,x20,x21,x22,x23,x24,x25,x26,x27,x28,x29,x30,x31,x32,x33,x34,x35,x36,x37,x38,x39,x40]/\hp=.cells (y19 p).cellsL :: .map (es.map y94)::h /\ ∀ c,c ∈ es ↔ c ∈ p.cells.take i)
  ⟨_,_,_,_,_,_,_,_,_,_,_,_,_,_,_,_,_,_,_,_,_,_,_,_,_,_,_,_,_,_,_,_,_,_,[],_,rfl,rfl,by simp⟩ ?_ ?_
 ·rintro i env hp hi ⟨x4,x5,x6,x7,x8,x9,x10,x11,x15,x16,x17,x18,x19,x20,x21,x22,x23,x24,x25,x26,x27,x28,x29,x30,x31,x32,x33,x34,x35,x36,x37,x38,x39,x40,es,h,rfl,rfl,hes⟩ hall
  have hBc : ¬ (0<=p.cells[i].index/\0<=p.cells[i].minute)->B=270:=fun hn=>hBf (fun ok=>hn (ok.nonneg _ (aF hi)))
  simp[hi,z19,z6a]
  by_cases g1:p.cells[i].index<0
  ·simp[g1,hBc (by omega)]
  by_cases g2:p.cells[i].minute<0
  ·simp[g1,g2,hBc (by omega)]
  have hPi:P i:=by rw[hP];exact fun _=>⟨by omega,by omega⟩
  have hput:=zho (c:=p.cells[i]) (es:=es)
  simp at hput
  simp[g1,g2,z19,hput,zb hi (by omega),hPi]
  refine⟨_,rfl,fun c=>?_⟩
  have hts:p.cells.take (i+1)=p.cells.take i++[p.cells[i]]:=by simp
  rw[hts,aQ,<- hes c]
  by_cases hm:p.cells[i] ∈ es
  ·rw[if_pos hm]
   constructor
   ·exact .inl
   ·rintro(h | h)
    ·exact h
    ·simp at h;rw[h];exact hm
  ·rw[if_neg hm,aQ]
 rintro env hp ⟨x4,x5,x6,x7,x8,x9,x10,x11,x15,x16,x17,x18,x19,x20,x21,x22,x23,x24,x25,x26,x27,x28,x29,x30,x31,x32,x33,x34,x35,x36,x37,x38,x39,x40,es,h,rfl,rfl,hes⟩ hcells
 rw[hP] at hcells
 rw[aY] at hes
 simp
 clear hP P
 obtain⟨P,hP⟩:∃ P:Nat->Prop,P=fun i=>∀(h:i<p.capacity.length),p.capacity[i].length=p.cells.length /\ ∀ n,n ∈ p.capacity[i]->wi n 0 4096:=⟨_,rfl⟩
 refine z4x p.capacity.length P
  (fun i env hp=>∃(x4 x5 x6 x7 x8 x9 x10 x11 x12 x13 x14 x15 x16 x17 x21 x22 x23 x24 x25 x26 x27 x28 x29 x30 x31 x32 x33 x34 x35 x36 x37 x38 x39 x40:D) (h:List Obj),env=[y19 p,.loc 0 0,dI 0,.map (some 1),x4,x5,x6,x7,x8,x9,x10,x11,x12,x13,x14,x15,x16,x17,.imm .none (p.capacity.map y2k),dI p.capacity.length,dI i,x21,x22,x23,x24,x25,x26,x27,x28,x29,x30,x31,x32,x33,x34,x35,x36,x37,x38,x39,x40]/\hp=.cells (y19 p).cellsL :: .map (es.map y94)::h)
  ⟨_,_,_,_,_,_,_,_,_,_,_,_,_,_,_,_,_,_,_,_,_,_,_,_,_,_,_,_,_,_,_,_,_,_,_,rfl,rfl⟩ ?_ ?_
 ·rintro i env hp hi ⟨x4,x5,x6,x7,x8,x9,x10,x11,x12,x13,x14,x15,x16,x17,x21,x22,x23,x24,x25,x26,x27,x28,x29,x30,x31,x32,x33,x34,x35,x36,x37,x38,x39,x40,h,rfl,rfl⟩ hall
  have hBc : ¬ (p.capacity[i].length=p.cells.length /\ ∀ n,n ∈ p.capacity[i]->wi n 0 4096)->B=270:=fun hn=>hBf (fun ok=>hn (ok.cap _ (aF hi)))
  obtain⟨q,hq,h71⟩:=r71w p.capacity[i] (by have:=S.rows _ (aF hi);omega)
  simp[hi,h71]
  by_cases g1:p.capacity[i].length=p.cells.length
  rotate_left
  ·have g1' : ¬ (p.capacity[i].length:Int)=p.cells.length:=by omega
   simp[g1,g1',hBc (fun h=>g1 h.1)]
  simp[g1]
  cases q with
  |false=>
   have g2:∀ n,n ∈ p.capacity[i]->wi n 0 4096:=dH fun h=>by
    have:=hq.2 h;cases this
   have hPi:P i:=by rw[hP];exact fun _=>⟨g1,g2⟩
   simp[zb hi (by omega),hPi]
  |true=>simp[hBc (fun h=>hq.1 rfl h.2)]
 rintro env hp ⟨x4,x5,x6,x7,x8,x9,x10,x11,x12,x13,x14,x15,x16,x17,x21,x22,x23,x24,x25,x26,x27,x28,x29,x30,x31,x32,x33,x34,x35,x36,x37,x38,x39,x40,h,rfl,rfl⟩ hcap
 rw[hP] at hcap
 simp
 clear hP P
 obtain⟨P,hP⟩:∃ P:Nat->Prop,P=fun i=>∀(h:i<p.vars.length),y6x p p.vars[i]:=⟨_,rfl⟩
 refine z4x p.vars.length P
  (fun i env hp=>∃(x4 x5 x6 x7 x8 x9 x10 x11 x12 x13 x14 x15 x16 x17 x18 x19 x20 x21 x22 x26 x27 x28 x29 x30 x31 x32 x33 x34 x35 x36 x37 x38 x39 x40:D) (h:List Obj),env=[y19 p,.loc 0 0,dI 0,.map (some 1),x4,x5,x6,x7,x8,x9,x10,x11,x12,x13,x14,x15,x16,x17,x18,x19,x20,x21,x22,.imm .none (p.vars.map y4y),dI p.vars.length,dI i,x26,x27,x28,x29,x30,x31,x32,x33,x34,x35,x36,x37,x38,x39,x40]/\hp=.cells (y19 p).cellsL :: .map (es.map y94)::h)
  ⟨_,_,_,_,_,_,_,_,_,_,_,_,_,_,_,_,_,_,_,_,_,_,_,_,_,_,_,_,_,_,_,_,_,_,_,rfl,rfl⟩ ?_ ?_
 ·rintro i env hp hi ⟨x4,x5,x6,x7,x8,x9,x10,x11,x12,x13,x14,x15,x16,x17,x18,x19,x20,x21,x22,x26,x27,x28,x29,x30,x31,x32,x33,x34,x35,x36,x37,x38,x39,x40,h,rfl,rfl⟩ hall
  have hmem:=aF hi
  have hBv : ¬ y6x p p.vars[i]->B=270:=fun hn=>hBf (fun ok=>hn (ok.vars _ hmem))
  have l1:=S.leaves _ hmem
  have l2:=S.choices _ hmem
  have h73:=r73 p.vars[i].leaves 74 y4p r74 (by omega)
  have hcapw:=s2
  simp[hi,z19,z6a,r67,h73]
  by_cases g1:p.vars[i].leaves=[]
  ·simp[g1,hBv (fun ok=>by have:=ok.some;rw[g1] at this;simp at this)]
  have g1l:p.vars[i].leaves.length ≠ 0:=fun h=>g1 (List.length_eq_zero_iff.1 h)
  by_cases g2:(p.vars[i].choices.length:Int)<1
  ·have g2' : ¬ (1:Int)<=p.vars[i].choices.length:=by omega
   simp[g1,g2',hBv (fun ok=>by have:=ok.one;omega)]
  have g2':(1:Int)<=p.vars[i].choices.length:=by omega
  have g2'':(p.vars[i].choices.length:Int)<=96:=by omega
  cases g3:y2t y4p p.vars[i].leaves with
  |false=>
   simp[g1,g2',g2'',hBv (fun ok=>by
    have:y2t y4p p.vars[i].leaves=true:=z3f.2 fun k hk=>zde.2 (ok.incr k hk)
    rw[g3] at this;cases this)]
  |true=>
  have g3':=z3f.1 g3
  have hl0:0<p.vars[i].leaves.length:=by omega
  by_cases g4:p.vars[i].leaves[0]<0
  ·simp[g1,g2',g2'',hl0,z19,g4,hBv (fun ok=>by
    have:=ok.leaves _ (aF hl0)
    unfold wi at this;omega)]
  have hl1:p.vars[i].leaves.length - 1<p.vars[i].leaves.length:=by omega
  have hwp:aC.wrap ((p.vars[i].leaves.length:Int) - 1)=((p.vars[i].leaves.length - 1:Nat):Int):=z33 hl0 (by omega)
  by_cases g5:(p.capacity.length:Int)<=p.vars[i].leaves[p.vars[i].leaves.length - 1]
  ·simp[g1,g2',g2'',hl0,hl1,z19,g4,g5,hwp,hBv (fun ok=>by
    have:=ok.leaves _ (aF hl1)
    unfold wi at this;omega)]
  simp[g1,g2',g2'',hl0,hl1,z19,g4,g5,hwp]
  have hleaves:∀ n,n ∈ p.vars[i].leaves->wi n 0 (p.capacity.length - 1):=z2d.2 fun k hk=>by
   have e:∀(k:Nat) (hk:k+1<p.vars[i].leaves.length),p.vars[i].leaves[k]<p.vars[i].leaves[k+1]:=fun k hk=>zde.1 (g3' k hk)
   have e1:=zgp e k 0 hk (by omega)
   have e2:=zgp e (p.vars[i].leaves.length - 1) k hl1 (by omega)
   unfold wi;omega
  obtain⟨P2,hP2⟩:∃ P:Nat->Prop,P=fun k=>∀(h:k<p.vars[i].choices.length),y4u p p.vars[i].choices[k]:=⟨_,rfl⟩
  refine z4x p.vars[i].choices.length P2
   (fun k env hp=>∃(x4 x5 x7 x8 x9 x10 x11 x12 x13 x14 x15 x16 x17 x18 x19 x20 x21 x22 x26 x27 x28 x32 x33 x34 x35 x36 x37 x38 x39 x40:D) (G:List Obj),env=[y19 p,.loc 0 0,dI 0,.map (some 1),x4,x5,.loc (h.length+2) 0,x7,x8,x9,x10,x11,x12,x13,x14,x15,x16,x17,x18,x19,x20,x21,x22,.imm .none (p.vars.map y4y),dI p.vars.length,dI i,x26,x27,x28,.imm .none (p.vars[i].choices.map y2g),dI p.vars[i].choices.length,dI k,x32,x33,x34,x35,x36,x37,x38,x39,x40]/\hp=.cells (y19 p).cellsL :: .map (es.map y94)::G/\G[h.length]? = some (.cells (y4y p.vars[i]).cellsL))
   ⟨_,_,_,_,_,_,_,_,_,_,_,_,_,_,_,_,_,_,_,_,_,_,_,_,_,_,_,_,_,_,_,rfl,rfl,z19⟩ ?_ ?_
  ·rintro k env hp hk ⟨x4,x5,x7,x8,x9,x10,x11,x12,x13,x14,x15,x16,x17,x18,x19,x20,x21,x22,x26,x27,x28,x32,x33,x34,x35,x36,x37,x38,x39,x40,G,rfl,rfl,hG⟩ hall2
   have hBc : ¬ y4u p p.vars[i].choices[k]->B=270:=fun hn=>hBv (fun ok=>hn (ok.choices _ (aF hk)))
   have hmemk:=aF hk
   have l3:=S.uses _ hmem _ hmemk
   have h75:=r75 p.vars[i].choices[k].uses 76 (fun a b=>y9n a.cell b.cell) r76 (by omega)
   simp[hk,z19,z6a,r67,h75]
   by_cases k1:wi p.vars[i].choices[k].delay 0 1048576
   rotate_left
   ·rcases zhi k1 with⟨q1,q2⟩ | ⟨q1,q2,q3,q4⟩
    ·simp[q1,q2,hBc (fun ok=>k1 ok.delay)]
    ·simp[q1,q2,q3,q4,hBc (fun ok=>k1 ok.delay)]
   obtain⟨a1,a2,a3,a4⟩:=zhh k1
   by_cases k2:wi p.vars[i].choices[k].cost 0 1048576
   rotate_left
   ·rcases zhi k2 with⟨q1,q2⟩ | ⟨q1,q2,q3,q4⟩
    ·simp[a1,a2,a3,a4,q1,q2,hBc (fun ok=>k2 ok.cost)]
    ·simp[a1,a2,a3,a4,q1,q2,q3,q4,hBc (fun ok=>k2 ok.cost)]
   obtain⟨b1,b2,b3,b4⟩:=zhh k2
   by_cases k3:wi p.vars[i].choices[k].changes 0 1048576
   rotate_left
   ·rcases zhi k3 with⟨q1,q2⟩ | ⟨q1,q2,q3,q4⟩
    ·simp[a1,a2,a3,a4,b1,b2,b3,b4,q1,q2,hBc (fun ok=>k3 ok.changes)]
    ·simp[a1,a2,a3,a4,b1,b2,b3,b4,q1,q2,q3,q4,hBc (fun ok=>k3 ok.changes)]
   obtain⟨c1,c2,c3,c4⟩:=zhh k3
   cases k4:y2t (fun a b:Use=>y9n a.cell b.cell) p.vars[i].choices[k].uses with
   |false=>
    simp[a1,a2,a3,a4,b1,b2,b3,b4,c1,c2,c3,c4,hBc (fun ok=>by
     have:y2t (fun a b:Use=>y9n a.cell b.cell) p.vars[i].choices[k].uses=true:=z3f.2 fun q hq=>by
      have:=ok.incr q hq
      rw[<- zd0] at this;exact this
     rw[k4] at this;cases this)]
   |true=>
   have k4':=z3f.1 k4
   simp[a1,a2,a3,a4,b1,b2,b3,b4,c1,c2,c3,c4,z19]
   obtain⟨P3,hP3⟩:∃ P:Nat->Prop,P=fun q=>∀(h:q<p.vars[i].choices[k].uses.length),y90 p p.vars[i].choices[k].uses[q]:=⟨_,rfl⟩
   have hGa:∀ r,(G++r)[h.length]? = some (.cells (y4y p.vars[i]).cellsL):=fun r=>by
    rw[ay (ac.1 hG).1];exact hG
   refine z4x p.vars[i].choices[k].uses.length P3
    (fun q env hp=>∃(x4 x5 x9 x10 x11 x12 x13 x14 x15 x16 x17 x18 x19 x20 x21 x22 x26 x27 x28 x32 x33 x34 x38 x39 x40:D) (G2:List Obj),env=[y19 p,.loc 0 0,dI 0,.map (some 1),x4,x5,.loc (h.length+2) 0,.loc (G.length+2) 0,dI 1048576,x9,x10,x11,x12,x13,x14,x15,x16,x17,x18,x19,x20,x21,x22,.imm .none (p.vars.map y4y),dI p.vars.length,dI i,x26,x27,x28,.imm .none (p.vars[i].choices.map y2g),dI p.vars[i].choices.length,dI k,x32,x33,x34,.imm .none (p.vars[i].choices[k].uses.map y6l),dI p.vars[i].choices[k].uses.length,dI q,x38,x39,x40]/\hp=.cells (y19 p).cellsL :: .map (es.map y94)::G2/\G2[h.length]? = some (.cells (y4y p.vars[i]).cellsL))
    ⟨_,_,_,_,_,_,_,_,_,_,_,_,_,_,_,_,_,_,_,_,_,_,_,_,_,_,rfl,rfl,hGa _⟩ ?_ ?_
   ·rintro q env hp hq ⟨x4,x5,x9,x10,x11,x12,x13,x14,x15,x16,x17,x18,x19,x20,x21,x22,x26,x27,x28,x32,x33,x34,x38,x39,x40,G2,rfl,rfl,hG2⟩ hall3
    have hGb:∀ r,(G2++r)[h.length]? = some (.cells (y4y p.vars[i]).cellsL):=fun r=>by
     rw[ay (ac.1 hG2).1];exact hG2
    have hBu:(¬ y90 p p.vars[i].choices[k].uses[q])->B=270:=fun hn=>hBc (fun ok=>hn (ok.uses _ (aF hq)))
    have hfind:=zf2 (c:=p.vars[i].choices[k].uses[q].cell) (es:=es)
    simp at hfind
    simp[hq,z19,z6a,r67,hfind]
    by_cases m1:p.vars[i].choices[k].uses[q].cell ∈ es
    rotate_left
    ·simp[m1,hBu (fun ok=>m1 ((hes _).2 ok.known))]
    by_cases m2:wi p.vars[i].choices[k].uses[q].places 1 8
    rotate_left
    ·rcases zhi m2 with⟨q1,q2⟩ | ⟨q1,q2,q3,q4⟩
     ·simp[m1,q1,q2,hBu (fun ok=>m2 ok.places)]
     ·simp[m1,q1,q2,q3,q4,hBu (fun ok=>m2 ok.places)]
    obtain⟨d1,d2,d3,d4⟩:=zhh m2
    have hPq:P3 q:=by rw[hP3];exact fun _=>⟨(hes _).1 m1,m2⟩
    simp[m1,d1,d2,d3,d4,zb hq (by omega),hPq]
    simpa using hGb _
   ·rintro env hp ⟨x4,x5,x9,x10,x11,x12,x13,x14,x15,x16,x17,x18,x19,x20,x21,x22,x26,x27,x28,x32,x33,x34,x38,x39,x40,G2,rfl,rfl,hG2⟩ hall3
    rw[hP3] at hall3
    have hPk:P2 k:=by
     rw[hP2]
     exact fun _=>⟨k1,k2,k3,z2d.2 fun q hq=>hall3 q hq hq,fun q hq=>by
      have:=k4' q hq
      rw[zd0] at this;exact this⟩
    simp[zb hk (by omega),hPk]
    simpa using hG2
  ·rintro env hp ⟨x4,x5,x7,x8,x9,x10,x11,x12,x13,x14,x15,x16,x17,x18,x19,x20,x21,x22,x26,x27,x28,x32,x33,x34,x35,x36,x37,x38,x39,x40,G,rfl,rfl,hG⟩ hall2
   rw[hP2] at hall2
   have hPi:P i:=by
    rw[hP]
    exact fun _=>⟨by omega,by omega,by omega,hleaves,fun k hk=>zde.1 (g3' k hk),z2d.2 fun k hk=>hall2 k hk hk⟩
   simp[zb hi (by omega),hPi]
 rintro env hp ⟨x4,x5,x6,x7,x8,x9,x10,x11,x12,x13,x14,x15,x16,x17,x18,x19,x20,x21,x22,x26,x27,x28,x29,x30,x31,x32,x33,x34,x35,x36,x37,x38,x39,x40,h,rfl,rfl⟩ hvars
 rw[hP] at hvars
 have:B=0:=hBt ⟨by omega,z2d.2 fun i hi=>hcells i hi hi,fun i hi=>by
  have:=hincr i hi
  rw[zd0] at this;exact this,z2d.2 fun i hi=>hcap i hi hi,z2d.2 fun i hi=>hvars i hi hi⟩
 simp[this]

structure Bkg where
 prod:Int
 var:Int
 amt:Int
abbrev y80(b:Bkg):D:=.agg [dI b.prod,dI b.var,dI b.amt]
def nd(c:List Int)(i:Int):Int:=(c[i.toNat]?).getD 0
def nvA(p:y4j)(i:Int):Int:=((p.vars[i.toNat]?).map fun v=>v.a).getD 0
def bk4(p:y4j)(c:List Int)(k:Int)(b:Bkg):List Ent:=[⟨1,nd c b.var,b.amt⟩,⟨2,nvA p b.var,b.amt⟩,⟨3,b.prod,-b.amt⟩,⟨4,k,-b.amt⟩]
def y4x(p:y4j)(b:Bkg):Bool:=wib b.var 0 ((p.vars.length:Int) - 1) && (wib (nvA p b.var) 0 4095 && (wib b.prod (-1) 7 && wib b.amt (-1048576) 1048576))
def y6a(p:y4j)(c:List Int)(k:Int)(bs:List Bkg):List Ent:=bs.flatMap (bk4 p c k)
def y3m(p:y4j)(c:List Int)(k:Int)(bs:List Bkg):Bool:=decide (c.length=p.vars.length) && (c.all (fun n=>wib n 0 7) && (wib k 0 3 && (decide (bs.length<=1024) && bs.all (y4x p))))
noncomputable def enE(p:y4j)(c:List Int)(k:Int)(bs:List Bkg):Int:=if ck p ≠ 0 then ck p else if y3m p c k bs=true then 0 else 430
noncomputable def enD(p:y4j)(c:List Int)(k:Int)(bs:List Bkg):D:=.tup [.imm .none ((if enE p c k bs=0 then y6j (y6a p c k bs) else[]).map y18),dI (enE p c k bs)]

theorem r367(n:Int):y17 E (dL E) 367 [dI n]=some (.bool (!wib n 0 7)):=by
 have e:=ycy
 refine zg c367 (by simp) ?_
 simp[t367,n367,e]
theorem r369(b:Bkg)(n1 n2 k:Int):y17 E (dL E) 369 [y80 b,dI n1,dI n2,dI k]=some (.fn 385 [.iptr [dI n1],.iptr [dI b.prod,dI b.var,dI b.amt],.iptr [dI n2],.iptr [dI k]]):=by
 refine zg c369 (by simp) ?_
 simp[t369,n369]

theorem i385(b:Bkg)(n1 n2 k:Int)(hb:i64 (-b.amt))(L:Nat)(J:List Ent->List Obj->Prop)
  (hy:∀ x rem hp,J (x::rem) hp->∃ hp',y38 (dL E) L [y2v x.kind x.idx,dI x.amt] hp=some (.bool true,hp')/\J rem hp')
  {hp:List Obj} {rem:List Ent} (h0:J ([⟨1,n1,b.amt⟩,⟨2,n2,b.amt⟩,⟨3,b.prod,-b.amt⟩,⟨4,k,-b.amt⟩]++rem) hp) :
  ∃ d hp',y1n E (dL E) 385 [.yld L,.iptr [dI n1],.iptr [dI b.prod,dI b.var,dI b.amt],.iptr [dI n2],.iptr [dI k]] hp=some (d,hp')/\J rem hp':=by
 refine z2q c385 (R:=fun _ hp'=>J rem hp') (by simp) ?_
 obtain⟨H1,e1,h1⟩:=hy _ _ _ h0
 obtain⟨H2,e2,h2⟩:=hy _ _ _ h1
 obtain⟨H3,e3,h3⟩:=hy _ _ _ h2
 obtain⟨H4,e4,h4⟩:=hy _ _ _ h3
 have hw:aC.wrap (-b.amt) = -b.amt:=za hb
 simp only at e1 e2 e3 e4
 simp[t385,n385,e1,e2,e3,e4,hw]
 exact h4

theorem zh5{p:y4j}{c:List Int}{k:Int}:∀{bs:List Bkg},(y6a p c k bs).length=bs.length*4
 |[]=>rfl
 |b::r=>by
  have ih:=zh5 (p:=p) (c:=c) (k:=k) (bs:=r)
  have e:y6a p c k (b::r)=bk4 p c k b++y6a p c k r:=rfl
  rw[e,ar,ih,show(bk4 p c k b).length=4 from rfl,az];omega
theorem r340(p:y4j)(S:y8y p)(c:List Int)(hc:c.length<=1000000)(k:Int)(bs:List Bkg)(hbs:bs.length<=1000000):y17 E (dL E) 340 [y19 p,y2k c,dI k,.imm .none (bs.map y80)]=some (enD p c k bs):=by
 have e15:=r15 p S
 have e368:=ycy
 have e71:=r71 c 367 (fun n=>!wib n 0 7) r367 hc
 rw[<- List.not_all_eq_any_not] at e71
 refine zg c340 (by simp) ?_
 unfold enD
 have hnv:=S.vars
 by_cases h0:ck p=0
 rotate_left
 ·have hE:enE p c k bs=ck p:=by unfold enE;rw[if_pos h0]
  rw[hE,if_neg h0]
  simp[t340,n340,e15,h0]
 rw[h0] at e15
 have hE:enE p c k bs=if y3m p c k bs=true then 0 else 430:=by unfold enE;rw[if_neg (by simp[h0])]
 have bad:y3m p c k bs=false->(D.tup [.imm .none ((if enE p c k bs=0 then y6j (y6a p c k bs) else[]).map y18),dI (enE p c k bs)])=.tup [.imm .none [],dI 430]:=fun h=>by
  rw[hE,h];rfl
 by_cases h1:c.length=p.vars.length
 rotate_left
 ·have h1' : ¬ (c.length:Int)=p.vars.length:=by omega
  rw[bad (by unfold y3m;rw[decide_eq_false h1];rfl)]
  simp[t340,n340,e15,h1']
 by_cases h2:c.all (fun n=>wib n 0 7)=true
 rotate_left
 ·have h2:c.all (fun n=>wib n 0 7)=false:=by simpa using h2
  rw[bad (by unfold y3m;rw[decide_eq_true h1,h2];rfl)]
  rw[h2] at e71
  simp[t340,n340,e15,h1,e71]
 rw[h2] at e71
 by_cases h3:wib k 0 3=true
 rotate_left
 ·have h3:wib k 0 3=false:=by simpa using h3
  rw[bad (by unfold y3m;rw[decide_eq_true h1,h2,h3];rfl)]
  simp[t340,n340,e15,h1,e71,e368,h3]
 by_cases h4:bs.length<=1024
 rotate_left
 ·have h4':(1024:Int)<bs.length:=by omega
  rw[bad (by unfold y3m;rw[decide_eq_true h1,h2,h3,decide_eq_false h4];rfl)]
  simp[t340,n340,e15,h1,e71,e368,h3,h4']
 have h4' : ¬ (1024:Int)<bs.length:=by omega
 have hok:y3m p c k bs=bs.all (y4x p):=by unfold y3m;rw[decide_eq_true h1,h2,h3,decide_eq_true h4];rfl
 rw[hok] at bad
 obtain⟨F,hF⟩:∃ F,F=y6a p c k bs:=⟨_,rfl⟩
 have hFl:F.length=bs.length*4:=by
  rw[hF];exact zh5
 obtain⟨X,hX⟩:∃ X,X=(D.tup [.imm .none ((if enE p c k bs=0 then y6j (y6a p c k bs) else[]).map y18),dI (enE p c k bs)]):=⟨_,rfl⟩
 have good:bs.all (y4x p)=true->X=.tup [.imm .none ((y6j F).map y18),dI 0]:=fun h=>by
  rw[hX,hE,hok,h,if_pos rfl,if_pos rfl,hF]
 rw[<- hX] at bad ⊢
 simp[t340,n340,e15,h1,e71,e368,h3,h4']
 refine zr bs.length (fun i env h=>∃(x3 x7 x9 x10 x11 x12 x13 x14 x18 x19 x20 x21 x22 x23 x24 x25:D) (L:List Ent),env=[y19 p,y2k c,dI k,x3,.iptr (y19 p).cellsL,.imm .exact [],dI 0,x7,.loc 1 0,x9,x10,x11,x12,x13,x14,.imm .none (bs.map y80),dI bs.length,dI i,x18,x19,x20,x21,x22,x23,x24,x25]/\At h 0 (.map (y5f (y1k L [])))/\At h 1 (.cells [.map (some 0)])/\L++y6a p c k (bs.drop i)=F/\(∀ b,b ∈ bs.take i->y4x p b=true) /\ ∀ x,x ∈ L->bdE x) 0 (by omega) ⟨_,_,_,_,_,_,_,_,_,_,_,_,_,_,_,_,[],rfl,rfl,rfl,by rw[hF];rfl,by simp,by simp⟩ ?_
 rintro i env h hi ⟨x3,x7,x9,x10,x11,x12,x13,x14,x18,x19,x20,x21,x22,x23,x24,x25,L,rfl,A,A1,hLF,hgd,hbd⟩
 by_cases hlt:i<bs.length
 rotate_left
 ·have:i=bs.length:=by omega
  subst this
  rw[aY] at hgd
  rw[cu] at hLF
  have hLF:L=F:=by rw[<- hLF];simp[y6a]
  subst hLF
  have hm:(y1k L []).length<=1000000:=by
   have:=z5o (l:=L) (m:=[]);simp at this;omega
  obtain⟨d,hp',e,sp,rfl⟩:=s370 A hm
  have hX2:=good (ax.2 hgd)
  have hn:y9x (y1k L [])=y6j L:=rfl
  rw[hn] at e
  have y:yx E h 75 (.loc 1 0)=some (.map (some 0)):=by
   unfold yx
   simp only[A1.eq]
   rfl
  simp[-z10,y,e,y14,hX2,z13]
 have hup:=zb hlt (by omega)
 obtain⟨b,hb⟩:∃ b,b=bs[i]:=⟨_,rfl⟩
 have hbm:b ∈ bs:=by rw[hb];exact aF hlt
 have no:y4x p b=false->X=D.tup [.imm .none [],dI 430]:=fun h=>bad (by
  rw[<- Bool.not_eq_true,ax]
  intro h2
  rw[h2 b hbm] at h;cases h)
 rw[zm hlt,<- hb] at hLF
 obtain⟨R,hR⟩:∃ R,R=y6a p c k (bs.drop (i+1)):=⟨_,rfl⟩
 have hLF:L++(bk4 p c k b++R)=F:=by rw[hR];exact hLF
 obtain⟨pr,vr,am⟩:=b
 have hwn:aC.wrap ((p.vars.length:Int) - 1)=(p.vars.length:Int) - 1:=za ⟨by omega,by omega⟩
 by_cases a1:wib vr 0 ((p.vars.length:Int) - 1)=true
 rotate_left
 ·have a1:wib vr 0 ((p.vars.length:Int) - 1)=false:=by simpa using a1
  have hX2:=no (by unfold y4x;rw[a1];rfl)
  simp[hlt,<- hb,e368,hwn,a1,hX2]
 have a1':=z7j.1 a1
 obtain⟨v,rfl⟩:∃ v:Nat,vr=v:=⟨vr.toNat,by omega⟩
 have hv:v<p.vars.length:=by omega
 have hvc:v<c.length:=by omega
 have hnd:nd c (v:Int)=c[v]:=by unfold nd;simp[hvc]
 have hnv2:nvA p (v:Int)=p.vars[v].a:=by unfold nvA;simp[hv]
 obtain⟨n1,hn1⟩:∃ n1,n1=c[v]:=⟨_,rfl⟩
 obtain⟨w,hw⟩:∃ w,w=p.vars[v]:=⟨_,rfl⟩
 rw[<- hw] at hnv2
 rw[<- hn1] at hnd
 by_cases a2:wib w.a 0 4095=true
 rotate_left
 ·have a2:wib w.a 0 4095=false:=by simpa using a2
  have hX2:=no (by unfold y4x;simp only[a1,hnv2,a2];rfl)
  simp[hlt,<- hb,e368,hwn,a1,hv,<- hw,a2,hX2]
 by_cases a3:wib pr (-1) 7=true
 rotate_left
 ·have a3:wib pr (-1) 7=false:=by simpa using a3
  have hX2:=no (by unfold y4x;simp only[a1,hnv2,a2,a3];rfl)
  simp[hlt,<- hb,e368,hwn,a1,hv,<- hw,a2,a3,hX2]
 by_cases a4:wib am (-1048576) 1048576=true
 rotate_left
 ·have a4:wib am (-1048576) 1048576=false:=by simpa using a4
  have hX2:=no (by unfold y4x;simp only[a1,hnv2,a2,a3,a4];rfl)
  simp[hlt,<- hb,e368,hwn,a1,hv,<- hw,a2,a3,a4,hX2]
 have hgd2:y4x p ⟨pr,v,am⟩=true:=by unfold y4x;simp only[a1,hnv2,a2,a3,a4];rfl
 have e369:=r369 ⟨pr,v,am⟩ n1 w.a k
 simp only at e369
 have a4':=z7j.1 a4
 simp[hlt,<- hb,e368,hwn,a1,hv,<- hw,a2,a3,a4,hvc,<- hn1,e369]
 have A:=A.app (r:=.cells [dI pr,dI (v:Int),dI am]::ah 15 Obj.dead)
 have A1:=A1.app (r:=.cells [dI pr,dI (v:Int),dI am]::ah 15 Obj.dead)
 simp only[ah] at A A1
 generalize h ++ .cells [dI pr,dI (v:Int),dI am]::_=H0 at A A1
 refine⟨385,_,rfl,?_⟩
 intro Lf hLf hcb
 obtain⟨C,hC⟩:∃ C,C=H0.length:=⟨_,rfl⟩
 have hC2:2<=C:=by have:=A1.lt;omega
 obtain⟨F',hF'⟩:∃ F',F'=L++bk4 p c k ⟨pr,v,am⟩:=⟨_,rfl⟩
 have hFb:∀ x,x ∈ F'->bdE x:=by
  intro x hx
  rw[hF'] at hx
  rcases aQ.1 hx with hx | hx
  ·exact hbd x hx
  ·unfold bdE
   simp only[bk4,aw,eU,or_false] at hx
   rcases hx with rfl | rfl | rfl | rfl <;> simp only <;> omega
 have hFl2:F'.length<=2000000:=by
  have:=congrArg cG hLF
  rw[ar,ar] at this
  rw[hF',ar];omega
 obtain⟨J,hJ⟩:∃ J:List Ent->List Obj->Prop,J=fun rem H=>∃ Ls,At H 0 (.map (y5f (y1k Ls [])))/\At H 1 (.cells [.map (some 0)])/\At H C (Lf false none)/\Ls++rem=F':=⟨_,rfl⟩
 have key:=i385 ⟨pr,v,am⟩ n1 w.a k (by unfold i64;simp only;omega) C J (by
  intro x rem H hj
  rw[hJ] at hj
  obtain⟨Ls,b0,b1,b2,b3⟩:=hj
  obtain⟨t,hp2,e1,e2⟩:=hcb [y2v x.kind x.idx,dI x.amt] H (fun t hp'=>t=true/\J rem hp') rfl (by rw[<- hC];exact b2) (by
   rw[<- hC]
   obtain⟨H1,hH1⟩:∃ H1,H1=H.set C (Lf true none):=⟨_,rfl⟩
   have lC:=b2.lt
   have c0:At H1 0 (.map (y5f (y1k Ls []))):=by rw[hH1];exact b0.ne (by omega)
   have c1:At H1 1 (.cells [.map (some 0)]):=by rw[hH1];exact b1.ne (by omega)
   have c2:At H1 C (Lf true none):=by rw[hH1];exact At.self lC
   have y2:∀ r:List Obj,(H++r)[C]? = some (Lf false none):=fun r=>b2.app
   have y6:∀ r:List Obj,(H++r).set C (Lf true none)=H1++r:=fun r=>by rw[z1s lC,hH1]
   have y7:H.length=H1.length:=by rw[hH1,bl]
   have hw:=z9a hFb hFl2 b3
   obtain⟨hs1,hs2⟩:=z9f b3
   have y1:=fun r:List Obj=>yd3 (a:=x.kind) (b:=x.idx) (c0.app (r:=r))
   have y3:=fun(r:List Obj) (n:Int)=>yf2 (a:=x.kind) (b:=x.idx) (n:=n) (c0.app (r:=r))
   have y4:∀ r:List Obj,yx E (H1++r) 75 (.loc 1 0)=some (.map (some 0)):=fun r=>by
    unfold yx
    simp only[c1.appE]
    rfl
   have y5:∀ r:List Obj,yx E (H1 ++ .cells [dI x.kind,dI x.idx]::r) 65 (.loc H1.length 0)=some (y2v x.kind x.idx):=fun r=>by
    unfold yx
    simp only[z19]
    rfl
   simp[y2f,↓y2,↓y6,y7,-z10,y4,y5,-z1l,-z2s,y1,y3,hw,hs2]
   have l0:=c0.lt
   refine⟨(c2.app).ne (by omega),?_⟩
   rw[hJ]
   exact⟨Ls++[x],(At.self (by rw[ar];omega)).ne (by omega),((c1.app).ne (by omega)).ne (by omega),At.self (by rw[bl,ar,<- y7];omega),hs1⟩)
  rw[e2.1,<- hC] at e1
  exact⟨hp2,e1,e2.2⟩) (hp:=H0++[Lf false none]) (rem:=[]) (by
  rw[hJ]
  refine⟨L,A.app,A1.app,by rw[hC];simp[At],?_⟩
  rw[hF',bV]
  simp only[bk4,hnd,hnv2])
 obtain⟨d,hp',e,hj⟩:=key
 rw[hJ] at hj
 obtain⟨Ls,b0,b1,b2,b3⟩:=hj
 rw[bV] at b3
 subst b3
 rw[hC] at e b2
 refine⟨d,hp',e,.inl ⟨b2,?_⟩⟩
 rw[<- hC]
 simp[hup]
 refine⟨Ls,b0.ne (by omega),b1.ne (by omega),?_,?_,hFb⟩
 ·rw[hF',bC,<- hR];exact hLF
 ·intro b' hb'
  rw[aM hlt,<- hb] at hb'
  rcases aQ.1 hb' with hb' | hb'
  ·exact hgd b' hb'
  ·simp at hb';rw[hb'];exact hgd2

def pq0:y4j:=⟨[],[[]],[⟨7,0,[0],[⟨0,0,0,[]⟩]⟩]⟩
def eq0:List Ent:=[⟨1,3,10⟩,⟨2,7,10⟩,⟨3,2,-10⟩,⟨4,1,-10⟩]
def sq0:Stp:=⟨5,-1,eq0⟩
def pp0:Pst:=y7x tgB [] sq0
theorem zqj:y8y pq0:=by
 refine⟨by decide,by decide,?_,by decide,?_,?_,?_⟩
 ·intro l hl;simp[pq0] at hl;subst hl;simp
 ·intro v hv;simp[pq0] at hv;subst hv;simp
 ·intro v hv;simp[pq0] at hv;subst hv;simp
 ·intro v hv c hc;simp[pq0] at hv;subst hv;simp at hc;subst hc;simp
theorem yez:ck pq0=0:=by
 unfold ck
 rw[if_pos]
 refine⟨by decide,?_,?_,?_,?_⟩
 ·intro c hc;simp[pq0] at hc
 ·intro i h;simp[pq0] at h
 ·intro l hl;simp[pq0] at hl;subst hl;simp[pq0]
 ·intro v hv
  simp[pq0] at hv;subst hv
  refine⟨by simp,by simp,by simp,?_,?_,?_⟩
  ·intro n hn;simp at hn;subst hn;simp[wi,pq0]
  ·intro i h;simp at h
  ·intro c hc
   simp at hc;subst hc
   refine⟨by simp[wi],by simp[wi],by simp[wi],?_,?_⟩
   ·intro u hu;simp at hu
   ·intro i h;simp at h
theorem zgx:y3c eq0:=by unfold y3c;decide
theorem yfi:∀ e,e ∈ eq0->e.amt ≠ 0:=by
 intro e he
 simp only[eq0,aw,eU,or_false] at he
 rcases he with rfl | rfl | rfl | rfl <;> decide
theorem ztn:y6j eq0=eq0:=zcx zgx yfi fun _ _=>rfl
theorem ztm:∀ e,e ∈ eq0->okT e:=by
 intro e he
 simp only[eq0,aw,eU,or_false] at he
 rcases he with rfl | rfl | rfl | rfl <;> decide
theorem ztl:tgt eq0:=⟨ztm,ze8.1 zgx⟩
theorem zy5:y5a eq0=0:=by decide
theorem yfj:fmE eq0:=⟨by decide,by decide,fun x hx=>by
 have:=ztm x hx
 unfold okT at this
 unfold y6s
 omega,ze8.1 zgx⟩
theorem zmt:y3x tgB [] sq0=0:=by
 rw[zej z9c (by simp) (by simp)]
 exact z44.2 ⟨⟨by simp[y7x],by simp[y7x,sq0],by simp[y7x,sq0],yfj⟩,zy5⟩
theorem zms:vld tgB [pp0]:=(zqk zmt).2.2.1
theorem enD0:enD pq0 [3] 1 [⟨2,0,10⟩]=.tup [.imm .none (eq0.map y18),dI 0]:=by
 have h1:y3m pq0 [3] 1 [⟨2,0,10⟩]=true:=by decide
 have h2:enE pq0 [3] 1 [⟨2,0,10⟩]=0:=by unfold enE;rw[yez,h1];rfl
 have h3:y6a pq0 [3] 1 [⟨2,0,10⟩]=eq0:=rfl
 unfold enD
 rw[h2,h3,ztn]
 rfl
theorem bk0:bkN [] eq0=eq0:=by
 unfold bkN
 have:eq0++y5x (low (y50 []))=eq0:=rfl
 rw[this,ztn]
theorem bo0:Bok tgB [] 5 eq0:=⟨z9c,ztl,fun _=>by unfold bkS;rw[bk0];exact zmt⟩
theorem boD0:boD [] 5 eq0=.tup [y1r [pp0],dI 0]:=by
 unfold boD
 rw[z7i.2 bo0,zc9 bo0,bk0,if_neg (by decide)]
 unfold bkS
 rw[bk0]
 rfl
theorem bk1:bkN [pp0] eq0=[]:=by
 have:=bo0.again
 rw[zc9 bo0,bk0,if_neg (by decide)] at this
 unfold bkS at this
 rw[bk0] at this
 exact this
theorem bo1:Bok tgB [pp0] 9 eq0:=⟨zms,ztl,fun h=>absurd bk1 h⟩
theorem boD1:boD [pp0] 9 eq0=.tup [y1r [pp0],dI 0]:=by
 unfold boD
 rw[z7i.2 bo1,zc9 bo1,if_pos bk1]
theorem bk2:bkN [] []=[]:=zn2.2 fun _ _=>rfl
theorem bo2:Bok tgB [] 5 []:=⟨z9c,⟨by simp,fun i hi=>by simp at hi⟩,fun h=>absurd bk2 h⟩
theorem boD2:boD [] 5 []=.tup [y1r [],dI 0]:=by
 unfold boD
 rw[z7i.2 bo2,zc9 bo2,if_pos bk2]
theorem zmu:ya0 [pp0]=[(1,3),(2,7),(3,2),(4,1)]:=by
 have es:y1l [(1,3),(2,7),(3,2),(4,1)]=[(1,3),(2,7),(3,2),(4,1)]:=
  ze5 (z42 _) (z8g _) (by decide)
 unfold ya0
 have:yc2 [pp0]=[(1,3),(2,7),(3,2),(4,1)]:=rfl
 rw[this,es]
 decide
theorem stX0:stX [pp0] 3=0:=by unfold stX;rw[if_neg (by simp[z1q.2 zms]),if_pos (by decide)]
theorem stD0:stD [pp0] 3 5=.tup [.imm .none [y18 ⟨3,2,-10⟩],dI 0]:=by
 unfold stD
 rw[stX0,if_pos rfl]
 unfold stE
 rw[zmu]
 rfl
theorem stD1:stD [pp0] 3 4=.tup [.imm .none [y18 ⟨3,2,0⟩],dI 0]:=by
 unfold stD
 rw[stX0,if_pos rfl]
 unfold stE
 rw[zmu]
 rfl
theorem stD2:stD [] 0 5=.tup [.imm .none [],dI 430]:=by
 have:stX [] 0=430:=by unfold stX;rw[if_neg (by simp[z1q.2 z9c]),if_neg (by decide)]
 unfold stD
 rw[this,if_neg (by decide)]
 rfl

theorem zjk:y8i [pp0]:=⟨by simp,fun p hp=>by simp at hp;subst hp;exact⟨y68,by decide⟩⟩
theorem r339:y17 E (dL E) 339 []=some (.bool true):=by
 have a1:=r340 pq0 zqj [3] (by decide) 1 [⟨2,0,10⟩] (by decide)
 rw[enD0] at a1
 have b1:=yex [] 5 eq0 okn (by decide)
 have b2:=yex [pp0] 9 eq0 zjk (by decide)
 have b3:=yex [] 5 [] okn (by decide)
 rw[boD0] at b1
 rw[boD1] at b2
 rw[boD2] at b3
 have c1:=yew [pp0] zjk (by decide) 3 5
 have c2:=yew [pp0] zjk (by decide) 3 4
 have c3:=yew [] okn (by decide) 0 5
 rw[stD0] at c1
 rw[stD1] at c2
 rw[stD2] at c3
 have d1:=r350 [pp0] zjk
 have d2:=r350 [] okn
 rw[z1q.2 zms] at d1
 rw[z1q.2 z9c] at d2
 have e1:=ycb eq0 eq0 (by decide) (by decide)
 have e2:=ycb [⟨3,2,-10⟩] [⟨3,2,-10⟩] (by decide) (by decide)
 have e3:=ycb [⟨3,2,0⟩] [⟨3,2,0⟩] (by decide) (by decide)
 have f1:=r346 [pp0] [pp0] zjk zjk
 have n0:pp0.prev.length=32:=y68
 have pc:pp0.corrects = -1:=rfl
 simp only[y1r,au,aO,eq0,decide_true,y19,pq0,y2k,y2c,y4y,y2g,y80,y6l] at a1 b1 b2 b3 c1 c2 c3 d1 d2 e1 e2 e3 f1
 generalize pp0=p0 at *
 have l2i:∀(h:List Obj) (a:Int) (r:List D),yx E h 2 (.iptr (dI a::r))=some (dI a):=fun _ _ _=>rfl
 have bc:(p0.corrects == -1)=true:=by rw[pc];rfl
 refine zg c339 (by simp) ?_
 simp[t339,n339,a1,b1,b2,b3,c1,c2,c3,d1,d2,e1,e2,e3,f1,n0,bc,l2i,z27,zh,y14,-z12]

end Dv
