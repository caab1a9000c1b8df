/- Texts that a proof of this claim uses, joined: Lw.W223, Lw.W224, Lw.W225, Lw.W241, Lw.W261, Lw.W263, Lw.W264, Lw.W262, Lw.W265, Lw.W266, Lw.W267, Lw.W268, Lw.W269, Lw.W242, Lw.W243, Lw.W270, Lw.W271, Lw.W272, Lw.W273, Lw.W274, Lw.W275, Lw.W244, Lw.S41, Lw.Ty, Lw.W226, Lw.W227, Lw.W228, Lw.W245, Lw.W276, Lw.W246, Lw.W2, Lw.W3, Lw.W4, Lw.W5, Lw.W6, Lw.W7. -/
import Derived.Test.YtfagnjchgplecaaGreatDoorGa
import Derived.Test.YtfagnjchgplecaaGreatDoorLwa
import Derived.Test.YtfagnjchgplecaaGreatDoorDvd
import Derived.Test.YtfagnjchgplecaaGreatDoorWa
set_option linter.all false
open BitVec renaming eq_of_getLsbD_eq->jc,getLsbD_and->kp,getLsbD_xor->ko,toNat_add->ek,toNat_xor->fK
open Bool renaming and_eq_true->ar,beq_eq_decide_eq->jD
open Classical renaming byContradiction->dN
open Decidable renaming not_not->gy
open Exists renaming intro->ge
open Go.IntKind renaming i64->aw,u32->cg,u64->bd,u8->fo
open Int renaming le_refl->nU,negSucc_eq->ah,tmod_eq_emod_of_nonneg->eN
open List renaming all_eq_true->aD,append_assoc->a8,cons_append->aO,drop_append_of_le_length->fy,drop_length->bE,drop_zero->cn,ext_getElem?->cx,filter_append->iG,filter_cons->fL,getD_eq_getElem?_getD->aj,getElem?_append_left->aB,getElem?_append_right->aF,getElem?_eq_getElem->ae,getElem?_eq_none->be,getElem?_eq_some_iff->ac,getElem_mem->aC,getLast?_eq_getElem?->dO,length->cJ,length_append->ak,length_cons->aA,length_drop->cq,length_eq_zero_iff->bB,length_filter_le->eJ,length_map->ao,length_nil->ba,length_replicate->df,length_set->bu,length_take->aI,map_append->bm,map_cons->av,map_nil->aQ,map_replicate->bS,map_set->fh,mem_append->aN,mem_cons->az,mem_iff_getElem?->dJ,mem_map->aT,mem_of_getElem?->aX,nil_append->bh,pairwise_cons->bN,range->cO,replicate->af,replicate_succ->eh,set_append_right->cH,set_cons_zero->eA,sizeOf_lt_of_mem->eI,take_append_drop->bp,take_length->aS,take_of_length_le->bg,take_succ_eq_append_getElem->aH,take_zero->fD
open Nat renaming eq_zero_or_pos->bR,le_refl->ai,lt_or_ge->bU,lt_succ_iff_lt_or_eq->gg,min_eq_left->bq,sub_self->fc,zero_le->da
open Option.some renaming inj->co,injEq->aa
open Prod.mk renaming injEq->au
open UInt8 renaming ofNat->bi
set_option maxRecDepth 100000
set_option maxHeartbeats 16000000
namespace Dv
attribute [local simp] af depth y2x y6l y31 y2f y6k y3b y3p y1y Ret
attribute [local congr] z2r z2v z20 z1l z1d z24 z1c


def y3z(p:Int × Int):D:=y2j p.1 p.2
abbrev y74(l:List (Int × Int)):D:=.imm .none (l.map y3z)
theorem zbe{sz:Nat}{rest:List D}:∀(els:List D),(∀ x,x ∈ els->x.cellsL.length=sz/\yk true x.cellsL=some x)->y3a sz true els.length (yi els++rest)=some els
 |[],_=>rfl
 |x::els,h=>by
  obtain⟨h1,h2⟩:=h x (by simp)
  have ih:=zbe (rest:=rest) els fun y hy=>h y (by simp[hy])
  have ht:=z6x x.cellsL (yi els++rest) 0 [] rfl
  rw[bh,h1] at ht
  rw[aA,y3a,zy,a8,ht]
  simp only[h2]
  rw[show(x.cellsL++(yi els++rest)).drop sz=yi els++rest from by rw[<- h1];simp,ih]
theorem zg0:∀(l:List (Int × Int)),yi (l.map y3z)=ye l
 |[]=>rfl
 |p::l=>by rw[av,zy,zg0 l];rfl
theorem zt4{X:List Obj}{q n:Nat}{L:List (Int × Int)}{gr:Bool}{cs:List D}(h:At X q (.cells cs))(hc:cs.take (L.length*2)=ye L):frz X (n+3) (.sl q 0 L.length 2 true gr)=some (y74 L):=by
 have hr:yz X q=some cs:=by unfold yz;rw[h.eq]
 have hcs:cs=yi (L.map y3z)++cs.drop (L.length*2):=by rw[zg0,<- hc,bp]
 have hch:=zbe (sz:=2) (rest:=cs.drop (L.length*2)) (L.map y3z) (fun x hx=>by obtain⟨p,_,rfl⟩:=aT.1 hx;exact⟨rfl,rfl⟩)
 rw[<- hcs,ao] at hch
 show(match yz X q with | some cs=>(match y3a 2 true L.length (cs.drop 0) with | some els=>(y1p (frz X (n+2)) els).map (D.imm .none) | none=>none) | none=>none)=_
 rw[hr]
 simp only[cn]
 rw[hch]
 simp only[]
 rw[show y1p (frz X (n+2)) (L.map y3z)=some (L.map y3z) from z1e fun _ _=>rfl]
 rfl

theorem yf4(hp:List Obj):y1o E (dL E) 363 [.imm .exact []] hp=some (.imm .exact [],hp):=by
 have:∃ d hp',y1o E (dL E) 363 [.imm .exact []] hp=some (d,hp')/\(d=.imm .exact []/\hp'=hp):=by
  refine z30 c363 (args:=[.imm .exact []]) (hp:=hp) (R:=fun d hp'=>d=.imm .exact []/\hp'=hp) (by simp) ?_
  conv in t363=>reduce;dsimp[ah]
  simp[t363,n363]
 obtain⟨d,hp',e,rfl,rfl⟩:=this
 exact e

def y57(f:Nat)(H:List Obj)(acc:List (Int × Int))(d:D):Prop:=
 (acc=[]/\d=.imm .exact []) \/ ∃ k,d=.sl k 0 acc.length 2 true true/\2<=k/\k ≠ f/\At H k (.cells (ye acc))
theorem y57.app{f:Nat}{H r:List Obj}{acc:List (Int × Int)}{d:D}(h:y57 f H acc d):y57 f (H++r) acc d:=by
 rcases h with h | ⟨k,h1,h2,h3,h4⟩
 ·exact .inl h
 ·exact .inr ⟨k,h1,h2,h3,h4.app⟩
theorem y57.set{f j:Nat}{H:List Obj}{o:Obj}{acc:List (Int × Int)}{d:D}(h:y57 f H acc d)(hj:j<2):y57 f (H.set j o) acc d:=by
 rcases h with h | ⟨k,h1,h2,h3,h4⟩
 ·exact .inl h
 ·exact .inr ⟨k,h1,h2,h3,h4.ne (by omega)⟩
theorem y57.own{f:Nat}{H r:List Obj}{acc:List (Int × Int)}{d:D}(h:y57 f H acc d):y57 H.length (H++r) acc d:=by
 rcases h with h | ⟨k,h1,h2,h3,h4⟩
 ·exact .inl h
 ·exact .inr ⟨k,h1,h2,by have:=h4.lt;omega,h4.app⟩

theorem zui{f:Nat}{H:List Obj}{acc:List (Int × Int)}{d:D}{a b:Int}(h:y57 f H acc d)(hl:acc.length<=1000000)(hf:f<H.length)(h2:2<=H.length) :
  ∃ d' H',y33 E H 67 67 d (.imm .exact [y2j a b])=some (d',H')/\y57 f H' (acc++[(a,b)]) d'/\d'.storable=true/\d'.cellsL=[d'] /\ ∀ j o,j<2\/j=f->At H j o->At H' j o:=by
 have hlo:y12 H 2 true (.imm .exact [y2j a b])=some [y2j a b]:=rfl
 have e67:(E.ty 67).k=.slice 65:=rfl
 rcases h with⟨rfl,rfl⟩ | ⟨k,rfl,hk,hkf,hA⟩
 ·refine⟨.sl H.length 0 1 2 true true,H++[.cells (ye [(a,b)])],?_,.inr ⟨H.length,rfl,by omega,by omega,by simp[At]⟩,rfl,rfl,fun j o _ a=>a.app⟩
  have h5:(0+1)*((E.ty 65).bytes+1)<=yg/\(E.ty 65).bytes<=65536/\(y22 E 65).isSome=true/\y2u (E.ty 65).size ([]:List D)=true:=⟨by decide,by decide,rfl,rfl⟩
  unfold y33
  simp only[e67]
  rw[show y12 H (E.ty 65).size (E.ty 65).ag (.imm .exact [y2j a b])=some [y2j a b] from hlo]
  simp only[aA,ba]
  rw[if_neg (by simp),if_pos h5]
  rfl
 ·have hb:(E.ty 65).bytes=16:=rfl
  refine⟨.sl H.length 0 (acc.length+1) 2 true true,H.set k .dead++[.cells (ye (acc++[(a,b)]))],?_,.inr ⟨H.length,by rw[ak];rfl,by omega,by omega,by simp[At]⟩,rfl,rfl,fun j o hj a=>(a.ne (by omega)).app⟩
  have h5:(acc.length+1)*((E.ty 65).bytes+1)<=yg/\(E.ty 65).bytes<=65536/\(y22 E 65).isSome=true/\2=(E.ty 65).size/\(ye acc).length=acc.length*2:=⟨by rw[hb];simp[yg];omega,by decide,rfl,rfl,z4k acc⟩
  unfold y33
  simp only[e67]
  rw[show y12 H (E.ty 65).size (E.ty 65).ag (.imm .exact [y2j a b])=some [y2j a b] from hlo,hA.eq]
  simp only[aA,ba]
  rw[if_neg (by simp),if_pos h5,z9q]
  rfl

def ybf(x:Int × Ent):Int × Int:=(x.2.kind,x.2.idx)
theorem zd0:∀(l:List Pst),(y4k l).map ybf=y76 l
 |[]=>rfl
 |p::l=>by
  have ih:=zd0 l
  rw[z4y,bm,ih,List.map_map]
  rfl

def yax(H:List Obj)(A:List (Int × Int))(d:D):Prop:=
 (A=[]/\d=.imm .exact []) \/ ∃ k cs,d=.sl k 0 A.length 2 true true/\At H k (.cells cs)/\cs.take (A.length*2)=ye A

theorem s325(l:List Pst)(ok:y5m l)(hN:y3t l<=1000000):∃ d hp',y1o E (dL E) 325 [yy l] []=some (d,hp')/\yax hp' (y6n l) d:=by
 have e359:=r359 l
 refine z30 c325 (R:=fun d hp'=>yax hp' (y6n l) d) (by simp) ?_
 conv in t325=>reduce;dsimp[ah]
 obtain⟨AS,hAS⟩:∃ AS,AS=y76 l:=⟨_,rfl⟩
 have hasl:AS.length=y3t l:=by rw[hAS];exact z9i l
 have hLs:y6n l=y1b (y1m AS):=by rw[hAS];rfl
 rw[hLs]
 simp[t325,n325,za,e359]
 refine⟨380,_,rfl,?_⟩
 intro L hL hcb
 obtain⟨J,hJ⟩:∃ J:Nat->List (Int × Ent)->List Obj->Prop,J=fun f rem hp'=>2<=f /\ ∃ acc d,At hp' 0 (.cells [d])/\At hp' 1 (L false none)/\acc++rem.map ybf=AS/\y57 f hp' acc d:=⟨_,rfl⟩
 have key:=i380 l ok 1 J (fun _=>False) (by
   rw[hJ]
   rintro f rem hp' r ⟨hf,acc,d,a1,a2,a3,a4⟩
   exact⟨hf,acc,d,a1.app,a2.app,a3,a4.app⟩) (by
   rw[hJ]
   rintro f rem hp' r ⟨hf,acc,d,a1,a2,a3,a4⟩
   exact⟨by have:=a2.lt;omega,acc,d,a1.app,a2.app,a3,a4.own⟩) (by
   intro f x rem hp1 o hj ho
   rw[hJ] at hj
   obtain⟨hf,acc,d,a1,a2,a3,a4⟩:=hj
   have l1:=a2.lt
   obtain⟨mi,⟨kd,ix,am⟩⟩:=x
   have hal:acc.length<=1000000:=by
    have:=congrArg cJ a3
    rw[ak] at this
    omega
   obtain⟨H1,hH1⟩:∃ H1,H1=hp1.set 1 (L true none):=⟨_,rfl⟩
   have b0:At H1 0 (.cells [d]):=by rw[hH1];exact a1.ne (by omega)
   have b1:At H1 1 (L true none):=by rw[hH1];exact At.self l1
   have bf:At H1 f o:=by rw[hH1];exact ho.ne (by omega)
   have b4:y57 f H1 acc d:=by rw[hH1];exact a4.set (by omega)
   have l0:=b0.lt
   have lf:=bf.lt
   obtain⟨t,hp2,e1,e2⟩:=hcb [dI mi,y11 ⟨kd,ix,am⟩] hp1 (fun t hp'=>t=true/\J f rem hp'/\At hp' f o) rfl a2 (by
    rw[show[Obj.cells [D.imm y13.exact []]].length=1 from rfl]
    have y2:∀ r:List Obj,(hp1++r)[1]? = some (L false none):=fun r=>a2.app
    have y6:∀ r:List Obj,(hp1++r).set 1 (L true none)=H1++r:=fun r=>by rw[z1p l1,hH1]
    have y7:hp1.length=H1.length:=by rw[hH1,bu]
    have y0:∀ r:List Obj,(H1++r)[0]? = some (.cells [d]):=fun r=>b0.app
    have hda:d.atom=true:=by rcases a4 with⟨_,rfl⟩ | ⟨k,rfl,_⟩ <;> rfl
    obtain⟨d',H',g1,g2,g3,g4,g5⟩:=zui (a:=kd) (b:=ix) (b4.app (r:=[.cells [dI kd,dI ix,dI am]])) hal (by rw[ak];omega) (by rw[ak];omega)
    have c0:At H' 0 (.cells [d]):=g5 0 _ (.inl (by omega)) b0.app
    have c1:At H' 1 (L true none):=g5 1 _ (.inl (by omega)) b1.app
    have cf:At H' f o:=g5 f _ (.inr rfl) bf.app
    have c10:∀ o,(H'.set 0 o)[1]? = some (L true none):=fun o=>c1.ne (by omega)
    have fin:J f rem ((H'.set 0 (.cells [d'])).set 1 (L false none))/\At ((H'.set 0 (.cells [d'])).set 1 (L false none)) f o:=by
     have k0:=c0.lt
     have k1:=c1.lt
     rw[hJ]
     refine⟨⟨hf,acc++[(kd,ix)],d',(At.self k0).ne (by omega),At.self (by rw[bu];exact k1),by rw[<- a3];simp[ybf],(g2.set (by omega)).set (by omega)⟩,(cf.ne (by omega)).ne (by omega)⟩
    simp[y2c,↓y2,↓y6,y7,↓y0,hda,g1,g3,g4,c0.eq,↓c10]
    exact fin)
   exact⟨t,hp2,e1,fun _=>e2.2,fun h=>by rw[e2.1] at h;cases h⟩) (hp:=[.cells [.imm .exact []],L false none]) (f0:=2) (by
   rw[hJ]
   exact⟨ai _,[],.imm .exact [],rfl,rfl,by rw[zd0,hAS];rfl,.inl ⟨rfl,rfl⟩⟩)
 obtain⟨d,hp',h1,h2⟩:=key
 rcases h2 with⟨f,h2⟩ | h2
 ·rw[hJ] at h2
  obtain⟨_,acc,dd,a1,a2,a3,a4⟩:=h2
  rw[aQ,List.append_nil] at a3
  subst a3
  refine⟨d,hp',h1,.inl ⟨a2,?_⟩⟩
  have hal:acc.length<=1000000:=by omega
  obtain⟨H2,hH2⟩:∃ H2,H2=hp'.set 1 Obj.dead:=⟨_,rfl⟩
  have b0:At H2 0 (.cells [dd]):=by rw[hH2];exact a1.ne (by omega)
  have b4:y57 f H2 acc dd:=by rw[hH2];exact a4.set (by omega)
  have l0:=b0.lt
  rcases b4 with⟨rfl,rfl⟩ | ⟨k,rfl,hk2,hkf,b4⟩
  ·have e1:=yf5 (hp:=H2) (k:=362) (.inl rfl)
   have e2:=yf4 H2
   have c0:∀ o,(H2.set 0 o)[0]? = some o:=fun o=>At.self l0
   simp[<- hH2,b0.eq,e1,e2,y16,↓c0]
   exact .inl ⟨by simp[y1m,y1b],rfl⟩
  ·have e1:=s361 (k:=362) (gr:=true) (ag:=true) (.inl rfl) b4 hal
   obtain⟨H3,hH3⟩:∃ H3,H3=H2.set k (.cells (ye (y1m acc))):=⟨_,rfl⟩
   have g0:At H3 0 (.cells [.sl k 0 acc.length 2 true true]):=by rw[hH3];exact b0.ne (by omega)
   have g4:At H3 k (.cells (ye (y1m acc))):=by rw[hH3];exact At.self b4.lt
   obtain⟨d',H4,e2,cs,rfl,f4,f5,K⟩:=s363 g4 (by rw[z31];exact hal)
   rw[z31] at e2
   have f0:=K.2 0 _ (by omega) g0
   have c0:∀ o,(H4.set 0 o)[0]? = some o:=fun o=>At.self f0.lt
   simp[<- hH2,b0.eq,e1,<- hH3,g0.eq,e2,f0.eq,y16,↓c0]
   exact .inr ⟨k,cs,rfl,f4.ne (by omega),f5⟩
 ·exact h2.elim


theorem r325(l:List Pst)(ok:y5m l)(hN:y3t l<=1000000):yu E (dL E) 325 [yy l]=some (y74 (y6n l)):=by
 obtain⟨d,hp',e,h⟩:=s325 l ok hN
 have hk:E.keep 325=false:=rfl
 unfold yu
 simp only[e,hk]
 show frz hp' 12 d=_
 rcases h with⟨h1,rfl⟩ | ⟨k,cs,rfl,h2,h3⟩
 ·rw[h1];rfl
 ·exact zt4 (n:=9) h2 h3

end Dv

namespace Dv

theorem za0:∀{a b:List (Int × Int)},a.Perm b->a.Pairwise (fun x y=>y2o y x=false)->b.Pairwise (fun x y=>y2o y x=false)->a=b
 |[],b,hp,_,_=>by rw[List.nil_perm.1 hp]
 |x::a,[],hp,_,_=>by simp at hp
 |x::a,y::b,hp,ha,hb=>by
  obtain⟨a1,a2⟩:=bN.1 ha
  obtain⟨b1,b2⟩:=bN.1 hb
  have hxy:x=y:=by
   have h1:x ∈ y::b:=hp.mem_iff.1 (by simp)
   have h2:y ∈ x::a:=hp.mem_iff.2 (by simp)
   rcases az.1 h1 with h1 | h1
   ·exact h1
   ·rcases az.1 h2 with h2 | h2
    ·exact h2.symm
    ·have c1:=b1 x h1
     have c2:=a1 y h2
     rcases z3n c2 with h | h
     ·exact h
     ·rw[h] at c1;simp at c1
  subst hxy
  rw[za0 ((List.perm_cons x).1 hp) a2 b2]
end Dv

namespace Dv
attribute [local simp] af depth y2x y6l y31 y2f y6k y3b y3p y1y Ret
attribute [local congr] z2r z2v z20 z1l z1d z24 z1c


def y1k:y13->List Obj->List Obj
 |.tok q,h=>h.set q .dead
 |_,h=>h
theorem z21{sp:y13}{h:List Obj}:(y1k sp h).length=h.length:=by
 unfold y1k;split <;> simp
def y2b(h:List Obj)(sp:y13)(n sz:Nat):Prop:=sp=.exact \/ ∃ k,sp=.tok k/\At h k (.tok (n*sz) sz)
theorem y2b.app{h r:List Obj}{sp:y13}{n sz:Nat}(R:y2b h sp n sz):y2b (h++r) sp n sz:=by
 rcases R with R | ⟨k,R,a⟩
 ·exact .inl R
 ·exact .inr ⟨k,R,a.app⟩
theorem zas{h r:List Obj}{sp:y13}{n sz:Nat}(R:y2b h sp n sz):y1k sp (h++r)=y1k sp h++r:=by
 rcases R with rfl | ⟨k,rfl,a⟩
 ·rfl
 ·exact z1p a.lt
theorem zsn{h:List Obj}{sp:y13}{j:Nat}{o:Obj}(a:At h j o)(hj:∀ k,sp=.tok k->k ≠ j):At (y1k sp h) j o:=by
 cases sp with
 |tok k=>exact a.ne (hj k rfl)
 |exact=>exact a
 |none=>exact a
theorem z4h{hp:List Obj}{id t e sz:Nat}{sp sp':y13}{els new:List D}(hk:(E.ty t).k=.slice e)(hs:(E.ty e).size=sz)(hl:y12 hp (E.ty e).size (E.ty e).ag (.imm sp' new)=some new)(hap:y2y E e els new)(R:y2b hp sp els.length sz) :
  y4u E hp id t t (.imm sp els) (.imm sp' new)=some (.imm (.tok id) (els++new),y1y (y1k sp hp) id (.tok ((els.length+new.length)*sz) sz)):=by
 rw[hs] at hl
 rcases R with rfl | ⟨k,rfl,a⟩
 ·rw[zu]
  simp only[hk,hl,zf,hs]
  rw[if_pos hap]
  rfl
 ·rw[z14]
  simp only[hk,hl,zf,hs]
  rw[if_pos hap,a.eq,zd8,zf,if_pos ⟨rfl,rfl⟩]
  rfl
theorem z5z{hp:List Obj}{sp:y13}{sz:Nat}{ag:Bool}{els:List D}(h:∀ x,x ∈ els->x.storable=true/\x.cellsL.length=sz):y12 hp sz ag (.imm sp els)=some els:=by
 simp only[y12]
 rw[if_pos (by
  rw[aD]
  intro x hx
  rw[(h x hx).1,(h x hx).2];simp)]
theorem z98{sz:Nat}{els:List D}(h:∀ x,x ∈ els->x.storable=true/\x.cellsL.length=sz):y2u sz els=true:=by
 unfold y2u
 rw[aD]
 intro x hx
 rw[(h x hx).1,(h x hx).2];simp
theorem zjp{l:List Ent}:∀ x,x ∈ l.map y11->x.storable=true/\x.cellsL.length=3:=fun x hx=>by
 obtain⟨s,_,rfl⟩:=aT.1 hx
 exact⟨rfl,rfl⟩
theorem z5q{hp:List Obj}{id:Nat}{sp sp':y13}{l m:List Ent}(hl:l.length+m.length<=10000000)(R:y2b hp sp l.length 3) :
  y4u E hp id 66 66 (.imm sp (l.map y11)) (.imm sp' (m.map y11))=some (.imm (.tok id) (l.map y11++m.map y11),y1y (y1k sp hp) id (.tok ((l.length+m.length)*3) 3)):=by
 have:=z4h (hp:=hp) (id:=id) (t:=66) (e:=72) (sz:=3) (sp:=sp) (sp':=sp') (els:=l.map y11) (new:=m.map y11) rfl rfl (z5z zjp) ⟨by
  rw[ao,ao,show(E.ty 72).bytes=24 from rfl];simp[yg];omega,by decide,rfl,z98 zjp⟩ (by rw[ao];exact R)
 rw[ao,ao] at this
 exact this
theorem ycl{h r:List Obj}{j:Nat}{sp:y13}{l:List Ent}{a b c:Int}(hl:l.length<=1000000)(R:y2b h sp l.length 3)(hj:j<r.length) :
  y4u E (h++r) (h.length+j) 66 66 (.imm sp (l.map y11)) (.imm .exact [.agg [dI a,dI b,dI c]])=some (.imm (.tok (h.length+j)) (l.map y11++[y11 ⟨a,b,c⟩]),y1k sp h++r.set j (.tok ((l.length+1)*3) 3)):=by
 have e:=z5q (hp:=h++r) (id:=h.length+j) (sp:=sp) (sp':=.exact) (l:=l) (m:=[⟨a,b,c⟩]) (by simp;omega) R.app
 rw[zas R] at e
 have e2:y1y (y1k sp h++r) (h.length+j) (.tok ((l.length+1)*3) 3)=y1k sp h++r.set j (.tok ((l.length+1)*3) 3):=by
  unfold y1y
  rw[if_pos (by rw[ak,z21];omega)]
  have:=z72 (hp:=y1k sp h) (r:=r) (k:=j) (x:=.tok ((l.length+1)*3) 3)
  rwa [z21] at this
 rw[<- e2]
 exact e

theorem y2b.ne{h:List Obj}{sp:y13}{n sz q:Nat}{o:Obj}(R:y2b h sp n sz)(B:At h q o)(ho:∀ u s,o ≠ .tok u s):∀ k,sp=.tok k->k ≠ q:=by
 intro k hk e
 subst e
 rcases R with rfl | ⟨k',rfl,a⟩
 ·cases hk
 ·cases hk
  have:=a.eq.symm.trans B.eq
  cases this
  exact ho _ _ rfl
theorem yex{h r:List Obj}{sp:y13}{j u s:Nat}(hr:r[j]? = some (.tok u s)):At (y1k sp h++r) (h.length+j) (.tok u s):=by
 have:=z61 (hp:=y1k sp h) (r:=r) (k:=j)
 rw[z21] at this
 unfold At
 rw[this];exact hr
theorem z4c{h r:List Obj}{sp:y13}{n sz j:Nat}(hr:r[j]? = some (.tok (n*sz) sz)):y2b (y1k sp h++r) (.tok (h.length+j)) n sz:=.inr ⟨_,rfl,yex hr⟩

def y5o(m:y43):List (D × D):=m.map fun e=>(y2j e.1.1 e.1.2,dI e.2)
theorem zq4{a b:Key}:(y2j a.1 a.2).eqb (y2j b.1 b.2)=some (decide (a=b)):=by
 have h:(y2j a.1 a.2).eqb (y2j b.1 b.2)=some ((a.1 == b.1) && ((a.2 == b.2) && true)):=rfl
 rw[h]
 obtain⟨a1,a2⟩:=a
 obtain⟨b1,b2⟩:=b
 simp only[aa,au,Bool.and_true]
 by_cases h1:a1=b1 <;> by_cases h2:a2=b2 <;> simp[h1,h2]
theorem zv6{a:Key}:∀{m:y43},y18 (y2j a.1 a.2) (y5o m)=some ((y4p a m).map dI)
 |[]=>rfl
 |e::r=>by
  have ih:=zv6 (a:=a) (m:=r)
  have hc:y5o (e::r)=(y2j e.1.1 e.1.2,dI e.2)::y5o r:=rfl
  rw[hc,y18]
  simp only[zq4]
  unfold y4p
  by_cases h:a=e.1
  ·simp[h]
  ·simp only[h,decide_false,if_false];exact ih
theorem zz0{a:Key}{n:Int}:∀{m:y43},y1j (y2j a.1 a.2) (dI n) (y5o m)=some (y5o (y81 a n m))
 |[]=>rfl
 |e::r=>by
  have ih:=zz0 (a:=a) (n:=n) (m:=r)
  have hc:y5o (e::r)=(y2j e.1.1 e.1.2,dI e.2)::y5o r:=rfl
  rw[hc,y1j]
  simp only[zq4]
  unfold y81
  by_cases h:a=e.1
  ·simp only[h,decide_true,if_true];rfl
  ·simp only[h,decide_false,if_false,ih];rfl
theorem yd6{H:List Obj}{q:Nat}{m:y43}{a b:Int}(A:At H q (.map (y5o m))):y23 E H 75 (.map (some q)) (y2j a b) false=some (dI (y2t (a,b) m)):=by
 have hk:(E.ty 75).k=.map 65 2:=rfl
 have hz:y22 E 2=some (dI 0):=rfl
 have hf:y18 (y2j a b) (y5o m)=some ((y4p (a,b) m).map dI):=zv6 (a:=(a,b))
 have ho:y4d E 65 (y2j a b)=true:=rfl
 unfold y23
 simp only[hk,ho,if_true,A.eq,hf,hz]
 unfold y2t
 cases y4p (a,b) m <;> rfl
theorem yfj{H:List Obj}{q:Nat}{m:y43}{a b n:Int}(A:At H q (.map (y5o m))):y30 E H 75 (.map (some q)) (y2j a b) (dI n)=some (H.set q (.map (y5o (y81 (a,b) n m)))):=by
 have hk:(E.ty 75).k=.map 65 2:=rfl
 have hf:y1j (y2j a b) (dI n) (y5o m)=some (y5o (y81 (a,b) n m)):=zz0 (a:=(a,b))
 have ho:y4d E 65 (y2j a b)=true:=rfl
 unfold y30
 simp only[hk,A.eq,hf]
 rw[if_pos ⟨ho,rfl,rfl⟩]
 rfl
theorem zj7:∀{m:y43},y5u (y5o m)=some (y2i m)
 |[]=>rfl
 |e::r=>by
  have ih:=zj7 (m:=r)
  have hc:y5o (e::r)=(.agg [.int .i64 e.1.1,.int .i64 e.1.2],dI e.2)::y5o r:=rfl
  rw[hc,y5u,ih]
  rfl

theorem s387(d:D)(hp:List Obj)(hd:d.storable=true)(hc:d.cellsL=[d])(hm:yw d=false):y1o E (dL E) 387 [d] hp=some (.fn 409 [.iptr [d]],hp):=by
 obtain⟨x,y,e,rfl,rfl⟩:∃ x y,y1o E (dL E) 387 [d] hp=some (x,y)/\(x=.fn 409 [.iptr [d]]/\y=hp):=by
  refine z30 c387 (R:=fun x y=>x=.fn 409 [.iptr [d]]/\y=hp) (by simp) ?_
  conv in t387=>reduce;dsimp[ah]
  simp[t387,n387,hd,hc,hm]
 exact e
theorem s388{hp:List Obj}{q:Nat}{m:y43}(A:At hp q (.map (y5o m)))(hl:m.length<=1000000) :
  y1o E (dL E) (388) [.fn 409 [.iptr [.map (some q)]],.fn 386 []] hp=some (y74 (y1m (y2i m)),hp):=by
 have e:E.fn (388)=some f388:=rfl
 have e2:E.mp (388)=false:=rfl
 have e4:E.prim 1=y8u [409] [386]:=rfl
 have e5:y8u [409] [386] [.fn 409 [.iptr [.map (some q)]],.fn 386 []] hp=some (y74 (y1m (y2i m)),hp):=by
  unfold y8u
  have hc:([409].contains 409 && [386].contains 386)=true:=rfl
  simp only[hc,if_true,A.eq,zj7]
  rw[if_pos (by simp[y2i];omega)]
  rfl
 unfold y1o
 simp only[e,e2,f388,ym,z8t,z5n,zga,z51,z6d,y2e]
 simp[yf,yd,yj,y25,DOp.fin,yl,yb,yn,gOf,z6d,y1z,y5n,yh,y1y,z51,z89,yw,e4,e5,y2d]

theorem zq7{m:y43}{l:List Key}{i:Nat}(h:i<l.length):y5s m (l.take (i+1))=if y2t l[i] m=0 then y5s m (l.take i) else y5s m (l.take i)++[⟨l[i].1,l[i].2,y2t l[i] m⟩]:=by
 have key:∀(a:List Key) (x:Key),y5s m (a++[x])=if y2t x m=0 then y5s m a else y5s m a++[⟨x.1,x.2,y2t x m⟩]:=by
  intro a x
  induction a with
  |nil=>simp only[bh,y5s]
  |cons y a ih=>
   simp only[aO,y5s,ih]
   split <;> split <;> rfl
 rw[aH h,key]
theorem ztj{m:y43}{l:List Key}:(y5s m l).length<=l.length:=by
 have:=(z7r (m:=m) (l:=l)).length_le
 simpa using this

theorem s370{hp:List Obj}{q:Nat}{m:y43}(A:At hp q (.map (y5o m)))(hl:m.length<=1000000) :
  ∃ d hp',y1o E (dL E) 370 [.map (some q)] hp=some (d,hp') /\ ∃ sp,d=.imm sp ((y9z m).map y11):=by
 refine z30 c370 (args:=[.map (some q)]) (hp:=hp) (R:=fun d hp'=>∃ sp,d=.imm sp ((y9z m).map y11)) (by simp) ?_
 conv in t370=>reduce;dsimp[ah]
 obtain⟨KS,hKS⟩:∃ KS,KS=y1m (y2i m):=⟨_,rfl⟩
 have hkl:KS.length<=1000000:=by rw[hKS,z31];simp[y2i];omega
 have e1:=s387 (.map (some q)) hp rfl rfl rfl
 have e2:=s388 A hl
 rw[<- hKS] at e2
 have hM:y9z m=y5s m KS:=by rw[hKS];rfl
 rw[hM]
 simp[t370,n370,e1,e2,y16]
 refine zr KS.length (fun i env h=>∃(x3 x8 x9 x10 x11:D) (sp:y13),env=[.map (some q),.imm sp ((y5s m (KS.take i)).map y11),.fn 386 [],x3,.fn 409 [.iptr [.map (some q)]],y74 KS,dI KS.length,dI i,x8,x9,x10,x11] /\
  y2b h sp (y5s m (KS.take i)).length 3/\At h q (.map (y5o m))) 0 (by omega) ⟨_,_,_,_,_,.exact,rfl,.inl rfl,A⟩ ?_
 rintro i env h hi ⟨x3,x8,x9,x10,x11,sp,rfl,R,B⟩
 by_cases hlt:i<KS.length
 rotate_left
 ·have:i=KS.length:=by omega
  subst this
  rw[aS]
  simp
 have hup:=zg hlt (by omega)
 have y1:=fun r:List Obj=>yd6 (a:=KS[i].1) (b:=KS[i].2) (B.app (r:=r))
 have pA:y3z KS[i]=.agg [dI KS[i].1,dI KS[i].2]:=rfl
 have htk:=zq7 (m:=m) hlt
 have hln:=ztj (m:=m) (l:=KS.take i)
 rw[aI] at hln
 obtain⟨L,hL⟩:∃ L,L=y5s m (KS.take i):=⟨_,rfl⟩
 rw[<- hL] at htk hln R ⊢
 have y2:∀(r:List Obj) (c:Int),8<r.length->y4u E (h++r) (h.length+1+7) 66 66 (.imm sp (L.map y11)) (.imm .exact [.agg [dI KS[i].1,dI KS[i].2,dI c]])=some (.imm (.tok (h.length+8)) (L.map y11++[y11 ⟨KS[i].1,KS[i].2,c⟩]),y1k sp h++r.set 8 (.tok ((L.length+1)*3) 3)):=fun r c hr=>ycl (by omega) R hr
 by_cases h0:y2t KS[i] m=0
 ·have h0':y2t (KS[i].1,KS[i].2) m=0:=h0
  rw[if_pos h0] at htk
  simp[hlt,pA,-z1v,y1,h0',hup,htk]
  exact⟨_,_,_,_,_,_,⟨rfl,rfl,rfl,rfl,rfl,rfl⟩,R.app,B.app⟩
 ·have h0' : ¬ y2t (KS[i].1,KS[i].2) m=0:=h0
  rw[if_neg h0] at htk
  simp[hlt,pA,-z1v,y1,h0',hup,htk,y2]
  exact⟨_,_,_,_,_,_,⟨rfl,rfl,rfl,rfl,rfl,rfl⟩,z4c rfl,(zsn B (R.ne B (by simp))).app⟩

def yac:D:=.agg (y5i.map dW)
def y7t(n:Nat):Nat:=(119 - n % 64) % 64
theorem zoh{n:Nat}:(n+1+y7t n) % 64=56:=by unfold y7t;omega
theorem zog{n:Nat}:y7t n<=63:=by unfold y7t;omega
theorem zwp{n i:Nat}(h:i<y7t n) : ¬ (n+1+i) % 64=56:=by unfold y7t at h;omega
def y6t(n:Nat):List UInt8:=(cO 8).map fun j=>bi (n*8 / 2 ^ (8*(7 - j)))
theorem z27{n:Nat}:(y6t n).length=8:=by unfold y6t;simp
theorem zoz{n j:Nat}(h:j<8):(y6t n)[j]'(by rw[z27];exact h)=bi (n*8 / 2 ^ (8*(7 - j))):=by unfold y6t;simp
def y7a(b:List UInt8):List UInt8:=b++128::af (y7t b.length) 0++y6t b.length
theorem zs9{b:List UInt8}:(y7a b).length % 64=0:=by
 have:=zoh (n:=b.length)
 unfold y7a
 simp only[ak,aA,df,z27]
 omega

theorem zck{hp:List Obj}{sp:y13}{l:List UInt8}:y12 hp (E.ty 13).size (E.ty 13).ag (.imm sp (l.map ya))=some (l.map ya):=by
 simp only[y12,show(E.ty 13).size=1 from rfl]
 rw[if_pos z67]
theorem z9e{h:List Obj}{sp sp':y13}{l m:List UInt8}(hl:l.length+m.length<=100000000000)(R:y2b h sp l.length 1) :
  y4u E h h.length 30 30 (.imm sp (l.map ya)) (.imm sp' (m.map ya))=some (.imm (.tok h.length) ((l++m).map ya),y1k sp h++[.tok (l.length+m.length) 1]):=by
 have e:=z4h (hp:=h) (id:=h.length) (t:=30) (e:=13) (sz:=1) (sp:=sp) (sp':=sp') (els:=l.map ya) (new:=m.map ya) rfl rfl zck (zt (by simp;omega)) (by rw[ao];exact R)
 rw[e,bm]
 have e2:y1y (y1k sp h) h.length (.tok (((l.map ya).length+(m.map ya).length)*1) 1)=y1k sp h++[.tok (l.length+m.length) 1]:=by
  unfold y1y;rw[if_neg (by rw[z21];omega)];simp
 rw[e2]
theorem y2b.tok1{h:List Obj}{sp:y13}{n:Nat}:y2b (y1k sp h++[.tok n 1]) (.tok h.length) n 1:=by
 have:=z4c (h:=h) (r:=[.tok (n*1) 1]) (sp:=sp) (n:=n) (sz:=1) (j:=0) rfl
 rwa [Nat.mul_one] at this

theorem r418(b:List UInt8)(hb:b.length<=1000000000):yu E (dL E) 418 [dBy b]=some (dBy (y7a b)):=by
 refine ze c418 (by simp) ?_
 conv in t418=>reduce;dsimp[ah]
 have a1:=z9e (h:=[]) (sp:=.exact) (sp':=.none) (l:=[]) (m:=b) (by simp;omega) (.inl rfl)
 have a2:=z9e (h:=[.tok b.length 1]) (sp:=.tok 0) (sp':=.exact) (l:=b) (m:=[128]) (by simp;omega) (.inr ⟨0,rfl,by simp[At]⟩)
 have a1:y4u E [] 0 30 30 (.imm .exact []) (dBy b)=some (.imm (.tok 0) (b.map ya),[.tok b.length 1]):=by simpa[y1k] using a1
 obtain⟨P,hP⟩:∃ P,P=b++[128]:=⟨_,rfl⟩
 rw[<- hP] at a2
 have hPl:P.length=b.length+1:=by rw[hP];simp
 have a2:y4u E [.tok b.length 1] 1 30 30 (.imm (.tok 0) (b.map ya)) (.imm .exact [.int .u8 128])=some (.imm (.tok 1) (P.map ya),[.dead,.tok (b.length+1) 1]):=a2
 have hw:bd.wrap (bd.wrap (b.length:Int)*8)=((b.length*8:Nat):Int):=by rw[z1a,z1a];omega
 simp[t418,n418,-z14,-zu,a1,a2]
 have hz:P++af 0 (0:UInt8)=P:=by simp
 have hpl:=zog (n:=b.length)
 refine zr (y7t b.length) (fun i env h=>∃(x3 x4 x5 x6 x7 x8 x9 x10:D) (sp:y13),env=[dBy b,.imm .exact [],.imm sp ((P++af i 0).map ya),x3,x4,x5,x6,x7,x8,x9,x10]/\y2b h sp (P++af i (0:UInt8)).length 1) 0 (by omega) ⟨_,_,_,_,_,_,_,_,.tok 1,by rw[hz],.inr ⟨1,rfl,by simp[At,hPl]⟩⟩ ?_
 rintro i env h hi ⟨x3,x4,x5,x6,x7,x8,x9,x10,sp,rfl,R⟩
 obtain⟨Q,hQ⟩:∃ Q,Q=P++af i (0:UInt8):=⟨_,rfl⟩
 have hQl:Q.length=b.length+1+i:=by rw[hQ];simp[hPl]
 rw[<- hQ] at R ⊢
 by_cases hlt:i<y7t b.length
 ·have hne:=zwp hlt
  have hne' : ¬ ((Q.length:Int)).tmod 64=56:=by rw[eN (by omega)];omega
  have a3:=z9e (sp':=.exact) (m:=[0]) (by simp;omega) R
  have hQ2:Q++[0]=P++af (i+1) 0:=by rw[hQ,a8,<- List.replicate_succ']
  rw[hQ2] at a3
  have a3:y4u E h h.length 30 30 (.imm sp (Q.map ya)) (.imm .exact [.int .u8 0])=some (.imm (.tok h.length) ((P++af (i+1) 0).map ya),y1k sp h++[.tok (Q.length+1) 1]):=a3
  have hR:y2b (y1k sp h++[.tok (Q.length+1) 1]) (.tok h.length) (P++af (i+1) (0:UInt8)).length 1:=by
   rw[<- hQ2,ak];exact y2b.tok1
  generalize P++af (i+1) (0:UInt8)=Q' at *
  simp[-z14,-zu,hne',hlt,a3]
  exact⟨_,_,_,_,_,_,_,_,_,⟨rfl,rfl,rfl,rfl,rfl,rfl,rfl,rfl,rfl⟩,hR⟩
 have:i=y7t b.length:=by omega
 subst this
 have heq:=zoh (n:=b.length)
 have heq':((Q.length:Int)).tmod 64=56:=by rw[eN (by omega)];omega
 simp[heq',y2v,hw]
 have hz2:Q++(y6t b.length).take 0=Q:=by simp
 refine zr 8 (fun j env h=>∃(x5 x6 x7 x8 x9 x10:D) (sp:y13),env=[dBy b,.imm .exact [],.imm sp ((Q++(y6t b.length).take j).map ya),.int .u64 ((b.length*8:Nat):Int),dI (7 - (j:Int)),x5,x6,x7,x8,x9,x10]/\y2b h sp (Q++(y6t b.length).take j).length 1) 0 (by omega) ⟨_,_,_,_,_,_,sp,by rw[hz2];rfl,by rw[hz2];exact R⟩ ?_
 have hQ3:y7a b=Q++y6t b.length:=by rw[hQ,hP];unfold y7a;simp
 clear R
 clear h x4 x5 x6 x8 x9 x10 sp
 rintro j env h hj ⟨x5,x6,x7,x8,x9,x10,sp,rfl,R⟩
 by_cases hlt:j<8
 ·obtain⟨c,hc⟩:∃ c:Nat,7 - (j:Int)=c:=⟨7 - j,by omega⟩
  have hc2:c=7 - j:=by omega
  rw[hc]
  have hw8:aw.wrap (8*(c:Int))=((8*c:Nat):Int):=by rw[z7 ⟨by omega,by omega⟩];omega
  have hw9:aw.wrap ((c:Int) - 1)=7 - (((j+1:Nat)):Int):=by rw[z7 ⟨by omega,by omega⟩];omega
  have pb:=ziv (v:=b.length*8) (i:=c) (by omega)
  have hll:((Q++(y6t b.length).take j)).length<=2000000000:=by rw[ak,aI,z27];omega
  have htk:(y6t b.length).take (j+1)=(y6t b.length).take j++[bi (b.length*8 / 2 ^ (8*c))]:=by
   rw[aH (by rw[z27];exact hlt),zoz hlt,hc2]
  have a3:=z9e (sp':=.exact) (m:=[bi (b.length*8 / 2 ^ (8*c))]) (by simp at hll ⊢;omega) R
  rw[a8,<- htk] at a3
  have hR:y2b (y1k sp h++[.tok ((Q++(y6t b.length).take j).length+1) 1]) (.tok h.length) (Q++(y6t b.length).take (j+1)).length 1:=by
   rw[htk,<- a8,ak (bs:=[_])];exact y2b.tok1
  generalize Q++(y6t b.length).take (j+1)=Q1 at *
  generalize Q++(y6t b.length).take j=Q0 at *
  simp only[av,aQ,aA,ba] at a3
  have h08:(0:Int)<=8*(c:Int):=by omega
  have htn:(8*(c:Int)).toNat=8*c:=by omega
  have pb:fo.wrap (((b.length:Int)*8).fdiv (2 ^ min (8*c) 64))=((bi (b.length*8 / 2 ^ (8*c))).toNat:Nat):=by rw[<- pb];rfl
  generalize bi (b.length*8 / 2 ^ (8*c))=u at *
  simp[-z14,-zu,hw8,hw9,y2v,h08,htn,z3c,pb,a3]
  exact⟨hlt,_,_,_,_,_,_,_,⟨rfl,rfl,rfl,rfl,rfl,rfl,rfl⟩,hR⟩
 ·have:j=8:=by omega
  subst this
  have ht:(y6t b.length).take 8=y6t b.length:=bg (by rw[z27];omega)
  rw[ht,<- hQ3]
  simp[z8]

end Dv

namespace Dv

theorem yg5(e f g:Wd):(e &&& f) ^^^ (~~~e &&& g)=g ^^^ (e &&& (f ^^^ g)):=by
 apply jc
 intro i hi
 simp only[ko,kp,BitVec.getLsbD_not,hi,decide_true,Bool.true_and]
 cases e.getLsbD i <;> cases f.getLsbD i <;> cases g.getLsbD i <;> rfl
theorem zz7(a b c:Wd):(a &&& b) ^^^ (a &&& c) ^^^ (b &&& c)=(a &&& b) ||| (c &&& (a ||| b)):=by
 apply jc
 intro i hi
 simp only[ko,kp,BitVec.getLsbD_or]
 cases a.getLsbD i <;> cases b.getLsbD i <;> cases c.getLsbD i <;> rfl

end Dv

namespace Dv

theorem zh3{m:List UInt8}{off n v:Nat}:∀{i x:Nat},i<=n->off+n<=m.length->x<m.length->(y5q m off n v i)[x]? = if off+n<=x+i/\x<off+n then some (bi (v / 2 ^ (8*(off+n - 1 - x)))) else m[x]?
 | 0,x,_,_,hx=>by rw[y5q,if_neg (by omega)]
 |i+1,x,hi,ho,hx=>by
  rw[y5q,List.getElem?_set,z40,zh3 (by omega) ho hx]
  by_cases h:off+(n - 1 - i)=x
  ·rw[if_pos h,if_pos (by omega),if_pos (by omega),show off+n - 1 - x=i from by omega]
  ·rw[if_neg h]
   by_cases h2:off+n<=x+i/\x<off+n
   ·rw[if_pos h2,if_pos (by omega)]
   ·rw[if_neg h2,if_neg (by omega)]
theorem zfe{m:List UInt8}{off n:Nat}(h:off+8<=m.length):y5q m off 8 (n*8) 8=m.take off++y6t n++m.drop (off+8):=by
 apply cx
 intro x
 by_cases hx:x<m.length
 ·rw[zh3 (by omega) h hx]
  by_cases h1:x<off
  ·rw[if_neg (by omega),a8,aB (by simp;omega),List.getElem?_take_of_lt h1]
  ·by_cases h2:x<off+8
   ·rw[if_pos (by omega),aB (by simp[z27];omega),aF (by simp;omega)]
    rw[aI,bq (by omega),ae (by rw[z27];omega),zoz (by omega),show off+8 - 1 - x=7 - (x - off) from by omega]
   ·rw[if_neg (by omega),aF (by simp[z27];omega),List.getElem?_drop]
    congr 1;simp[z27];omega
 ·rw[be (by rw[z40];omega),be (by simp[z27];omega)]

theorem z9c{b c:List UInt8}{s:List Wd}:∀{k:Nat},64*k<=b.length->y3u (b++c) k s=y3u b k s
 | 0,_=>rfl
 |k+1,h=>by
  rw[y3u,y3u,z9c (by omega),fy (by omega),List.take_append_of_le_length (by simp;omega)]
theorem zeg{b:List UInt8}{s:List Wd}{k:Nat}:∀{j:Nat},y3u b (k+j) s=y3u (b.drop (64*k)) j (y3u b k s)
 | 0=>rfl
 |j+1=>by
  rw[show k+(j+1)=(k+j)+1 from rfl,y3u,zeg,y3u,List.drop_drop,show 64*(k+j)=64*k+64*j from by omega]

theorem zyw{r:List UInt8}(h:r.length<64):tl1 r=r++128::af (127 - r.length) 0:=by
 unfold tl1 tl0
 rw[show 128 - r.length=(127 - r.length)+1 from by omega,eh,cH _ _ (ai _),fc,eA]
theorem zin{r:List UInt8}{n:Nat}(h:r.length<64)(hn:r.length<n)(hn2:n<=128):(tl1 r).take n=r++128::af (n - 1 - r.length) 0:=by
 rw[zyw h,List.take_append,bg (by omega)]
 congr 1
 rw[show n - r.length=(n - 1 - r.length)+1 from by omega,List.take_succ_cons,List.take_replicate,bq (by omega)]

def yf2(b:List UInt8):List UInt8:=y4j (y3u (y7a b) ((y7a b).length / 64) y5t) 8
theorem zwh(b:List UInt8):yf2 b=y6b b:=by
 obtain⟨q,hq⟩:∃ q,q=b.length / 64:=⟨_,rfl⟩
 obtain⟨r,hr⟩:∃ r,r=rst b q:=⟨_,rfl⟩
 have hrl:r.length=b.length - 64*q:=by rw[hr,zdg]
 have hr64:r.length<64:=by omega
 obtain⟨T,hT⟩:∃ T,T=r++128::af (y7t b.length) 0++y6t b.length:=⟨_,rfl⟩
 have hp:y7a b=b.take (64*q)++T:=by
  have:b=b.take (64*q)++r:=by rw[hr];unfold rst;rw[bp]
  unfold y7a
  rw[hT]
  conv=>lhs;arg 1;arg 1;rw[this]
  simp only[a8]
 have htl:(b.take (64*q)).length=64*q:=by rw[aI];omega
 have hd:(y7a b).drop (64*q)=T:=by rw[hp,fy (by omega),List.drop_of_length_le (by omega),bh]
 have hb0:y3u (y7a b) q y5t=y3u b q y5t:=by
  unfold y7a
  rw[a8]
  exact z9c (by omega)
 have hTl:T.length=r.length+1+y7t b.length+8:=by rw[hT];simp[z27];omega
 have hpl:(y7a b).length=64*q+T.length:=by rw[hp,ak,htl]
 unfold yf2 y6b
 rw[<- hq,<- hr]
 by_cases h:55<r.length
 ·rw[if_pos h]
  have hz:y7t b.length=120 - 1 - r.length:=by unfold y7t;omega
  rw[show(y7a b).length / 64=q+2 from by omega,zeg,hd,hb0,zfe (by rw[z9u (by omega)];omega),zin hr64 (by omega) (by omega),<- hz,<- hT,z9c (by omega)]
 ·rw[if_neg h]
  have hz:y7t b.length=56 - 1 - r.length:=by unfold y7t;omega
  rw[show(y7a b).length / 64=q+1 from by omega,zeg,hd,hb0,zfe (by rw[z9u (by omega)];omega),zin hr64 (by omega) (by omega),<- hz,<- hT,z9c (by omega)]

def y83(v:List Wd):List UInt8:=(cO 32).map fun i=>bi ((v.getD (i / 4) 0).toNat / 2 ^ (8*(3 - i % 4)))
theorem z79{v:List Wd}:(y83 v).length=32:=by unfold y83;simp
theorem zoi{v:List Wd}{x:Nat}(h:x<32):(y83 v)[x]? = some (bi ((v.getD (x / 4) 0).toNat / 2 ^ (8*(3 - x % 4)))):=by
 unfold y83
 rw[List.getElem?_map,List.getElem?_range h];rfl
theorem zoj{v:List Wd}:∀{i x:Nat},i<=8->x<32->(y4j v i)[x]? = if x<4*i then(y83 v)[x]? else some 0
 | 0,x,_,hx=>by
  rw[y4j,if_neg (by omega)]
  unfold z32
  rw[List.getElem?_replicate,if_pos hx]
 |i+1,x,hi,hx=>by
  rw[y4j,zh3 (by omega) (by rw[z2g];omega) (by rw[z2g];exact hx),zoj (by omega) hx,zoi hx]
  by_cases h1:x<4*i
  ·rw[if_neg (by omega),if_pos h1,if_pos (by omega)]
  ·by_cases h2:x<4*(i+1)
   ·rw[if_pos (by omega),if_pos h2,show x / 4=i from by omega,show 4*i+4 - 1 - x=3 - x % 4 from by omega]
   ·rw[if_neg (by omega),if_neg h1,if_neg h2]
theorem zwr{v:List Wd}:y4j v 8=y83 v:=by
 apply cx
 intro x
 by_cases hx:x<32
 ·rw[zoj (by omega) hx,if_pos (by omega)]
 ·rw[be (by rw[z2g];omega),be (by rw[z79];omega)]

end Dv

namespace Dv
attribute [local simp] af depth y2x y6l y31 y2f y6k y3b y3p y1y Ret
attribute [local congr] z2r z2v z20 z1l z1d z24 z1c


def kXp:Xp:=.n (.build 80 (((cO 64).zip y5i).map fun p=>(p.1,.c (dW p.2)))) .nil
theorem zwa:t423=.seq (.run 0 [.eff none (some 0) (.alloc 80) .nil none]) (.seq (.run 0 [.eff none none (.store 80 (.t 0) (.t 1)) (.cons 0 (.v 0) (.cons 1 kXp .nil)) none]) .ret):=by kernel_rfl
theorem zx2{cP:Nat->List D->Option D}{env:List D}{hp:List Obj}:xv E cP env hp kXp=some yac:=by
 have h:y6u E 80 ((((cO 64).zip y5i).map fun p=>(p.1,(Opd.c (dW p.2)))).map fun p=>(p.1,gOf [] p.2))=some yac:=by kernel_rfl
 exact h
theorem r423:yu E (dL E) 423 []=some yac:=by
 refine ze c423 (by simp) ?_
 have st:y39 E [.cells (af 64 (.int .u32 0))] 80 (.loc 0 0) yac=some [.cells (y5i.map dW)]:=by rfl
 have ld:yo E [.cells (y5i.map dW)] 80 (.loc 0 0)=some yac:=by rfl
 have fz:frz [.cells (y5i.map dW)] 12 yac=some yac:=by rfl
 simp only[af] at st
 rw[zwa]
 simp[n423,zx2,st,ld,fz,-zl,-z5u]

theorem zux{b:List UInt8}{i j:Nat}(h1:i<=j)(h2:j<=b.length):y15 E 30 (.imm .none (b.map ya)) (some (dI i)) (some (dI j)) none=some (.imm .none (((b.drop i).take (j - i)).map ya)):=by
 unfold y15
 simp[bnd]
 exact⟨⟨h1,h2,ze1⟩,by unfold y1c;simp⟩
theorem zni{b:List UInt8}:y6y (b.take 4) 4=y6y b 4:=by unfold y6y;rw[List.take_take];rfl
def w8:List Wd:=af 8 0
theorem ydf{a:Wd}:y8c .u32 (if cg.signed=true then -1 else cg.max) (a.toNat:Int)=((~~~a).toNat:Nat):=by
 have h:=zkf (a:=BitVec.allOnes 32) (b:=a)
 rw[BitVec.allOnes_xor] at h
 rw[<- h];rfl
theorem zzk{a b c d e f g h:D}:y29 E 76 (.iptr [a,b,c,d,e,f,g,h]) (.int .i64 0)=some (.iptr [a,b,c,d,e,f,g,h]):=rfl
theorem zzj{a b c d e f g h:D}:y29 E 76 (.iptr [a,b,c,d,e,f,g,h]) (.int .i64 1)=some (.iptr [b,c,d,e,f,g,h]):=rfl
theorem zzi{a b c d e f g h:D}:y29 E 76 (.iptr [a,b,c,d,e,f,g,h]) (.int .i64 2)=some (.iptr [c,d,e,f,g,h]):=rfl
theorem zzh{a b c d e f g h:D}:y29 E 76 (.iptr [a,b,c,d,e,f,g,h]) (.int .i64 3)=some (.iptr [d,e,f,g,h]):=rfl
theorem zzg{a b c d e f g h:D}:y29 E 76 (.iptr [a,b,c,d,e,f,g,h]) (.int .i64 4)=some (.iptr [e,f,g,h]):=rfl
theorem zzf{a b c d e f g h:D}:y29 E 76 (.iptr [a,b,c,d,e,f,g,h]) (.int .i64 5)=some (.iptr [f,g,h]):=rfl
theorem zze{a b c d e f g h:D}:y29 E 76 (.iptr [a,b,c,d,e,f,g,h]) (.int .i64 6)=some (.iptr [g,h]):=rfl
theorem zzd{a b c d e f g h:D}:y29 E 76 (.iptr [a,b,c,d,e,f,g,h]) (.int .i64 7)=some (.iptr [h]):=rfl
theorem il78{n:Int}{r:List D}:y5j E 78 (.iptr (.int .u32 n::r))=some (.int .u32 n):=rfl
def bkS8(s v:List Wd):List Wd:=match s,v with
 |[s0,s1,s2,s3,s4,s5,s6,s7],[a,b,c,d,e,f,g,h]=>[s0+a,s1+b,s2+c,s3+d,s4+e,s5+f,s6+g,s7+h]
 |s,_=>s
theorem ygb{s v:List Wd}(hs:s.length=8)(hv:v.length=8):y7x s v 8=bkS8 s v:=by
 obtain⟨s0,s1,s2,s3,s4,s5,s6,s7,rfl⟩:=y9x hs
 obtain⟨a,b,c,d,e,f,g,h,rfl⟩:=y9x hv
 rfl

theorem r419(s:List Wd)(b:List UInt8)(hs:s.length=8)(hb:b.length=64):yu E (dL E) 419 [.agg (s.map dW),dBy b]=some (.agg ((y34 s b).map dW)):=by
 obtain⟨s0,s1,s2,s3,s4,s5,s6,s7,rfl⟩:=y9x hs
 refine ze c419 (by simp) ?_
 conv in t419=>reduce;dsimp[ah]
 simp[t419,n419]
 refine zr 16 (fun i env h=>∃(x6 x7 x8 x9 x10 x11 x12 x13 x14 x15 x16 x17 x18 x19 x20 x21 x22 x23:D) ,env=[.agg [dW s0,dW s1,dW s2,dW s3,dW s4,dW s5,dW s6,dW s7],dBy b,.iptr [dW s0,dW s1,dW s2,dW s3,dW s4,dW s5,dW s6,dW s7],.loc 0 0,.loc 1 0,dI i,x6,x7,x8,x9,x10,x11,x12,x13,x14,x15,x16,x17,x18,x19,x20,x21,x22,x23]/\Wds h 1 (y7z b i)/\Wds h 0 w8) 0 (by omega) ?_ ?_
 ·refine⟨_,_,_,_,_,_,_,_,_,_,_,_,_,_,_,_,_,_,rfl,?_,?_⟩ <;> rfl
 rintro i env h hi ⟨x6,x7,x8,x9,x10,x11,x12,x13,x14,x15,x16,x17,x18,x19,x20,x21,x22,x23,rfl,w1,w2⟩
 by_cases hlt:i<16
 ·have hi16:(i:Int)<16:=by omega
  have hi64:(i:Int)<64:=by omega
  have hup:=zg hlt (by omega)
  have hw4:aw.wrap (4*(i:Int))=4*(i:Int):=z7 ⟨by omega,by omega⟩
  have hw5:aw.wrap (4*(i:Int)+4)=4*(i:Int)+4:=z7 ⟨by omega,by omega⟩
  have hy:y15 E 30 (.imm .none (b.map ya)) (some (.int .i64 (4*(i:Int)))) (some (.int .i64 (4*(i:Int)+4))) none=some (.imm .none (((b.drop (4*i)).take 4).map ya)):=by
   have:=zux (b:=b) (i:=4*i) (j:=4*i+4) (by omega) (by omega)
   rw[show 4*i+4 - 4*i=4 from by omega] at this
   exact this
  have e:=r421 ((b.drop (4*i)).take 4) (by rw[aI,cq];omega)
  rw[zni] at e
  have hst:y7z b (i+1)=(y7z b i).set i (y6y (b.drop (4*i)) 4):=rfl
  generalize hbb:(b.drop (4*i)).take 4=bb at hy e
  generalize y6y (b.drop (4*i)) 4=wv at e hst
  have w1':h[1]? = some (.cells ((y7z b i).map dW)):=w1
  have hl63:i<64:=by omega
  have hl65:i+1<=64:=by omega
  have hh1:=w1.lt
  simp[hi16,hup,hw4,hw5,hy,e,hi64,w1',z6w,hl63,hl65,z4i,z8]
  refine⟨hlt,?_,w2.ne (by omega)⟩
  unfold Wds
  rw[hst,fh]
  exact At.self hh1
 have:i=16:=by omega
 subst this
 simp
 refine zr 48 (fun k env h=>∃(x5 x7 x8 x9 x10 x11 x12 x13 x14 x15 x16 x17 x18 x19 x20 x21 x22 x23:D) ,env=[.agg [dW s0,dW s1,dW s2,dW s3,dW s4,dW s5,dW s6,dW s7],dBy b,.iptr [dW s0,dW s1,dW s2,dW s3,dW s4,dW s5,dW s6,dW s7],.loc 0 0,.loc 1 0,x5,dI ((k:Int)+16),x7,x8,x9,x10,x11,x12,x13,x14,x15,x16,x17,x18,x19,x20,x21,x22,x23]/\Wds h 1 (y35 b k)/\Wds h 0 w8) 0 (by omega) ⟨_,_,_,_,_,_,_,_,_,_,_,_,_,_,_,_,_,_,rfl,w1,w2⟩ ?_
 clear hi hlt w1 w2 h
 rintro k env h hi ⟨x5,x7,x8,x9,x10,x11,x12,x13,x14,x15,x16,x17,x18,x19,x20,x21,x22,x23,rfl,w1,w2⟩
 have hhl:1<h.length:=w1.lt
 have w1':h[1]? = some (.cells ((y35 b k).map dW)):=w1
 by_cases hlt:k<48
 ·have hk64:(k:Int)+16<64:=by omega
  have i15:aw.wrap ((k:Int)+16 - 15)=(k:Int)+1:=by rw[z7 ⟨by omega,by omega⟩];omega
  have i2:aw.wrap ((k:Int)+16 - 2)=(k:Int)+14:=by rw[z7 ⟨by omega,by omega⟩];omega
  have i16:aw.wrap ((k:Int)+16 - 16)=(k:Int):=by rw[z7 ⟨by omega,by omega⟩];omega
  have i7:aw.wrap ((k:Int)+16 - 7)=(k:Int)+9:=by rw[z7 ⟨by omega,by omega⟩];omega
  have i1:aw.wrap ((k:Int)+16+1)=(k:Int)+1+16:=by rw[z7 ⟨by omega,by omega⟩];omega
  have hst:y35 b (k+1)=(y35 b k).set (k+16) ((y35 b k).getD k 0+sg0 ((y35 b k).getD (k+1) 0)+(y35 b k).getD (k+9) 0+sg1 ((y35 b k).getD (k+14) 0)):=rfl
  have hgd:∀ j,j<64->(y35 b k)[j]? = some ((y35 b k).getD j 0):=fun j hj=>by rw[aj,ae (by rw[z3y];exact hj)];rfl
  have g0:=hgd k (by omega)
  have g1:=hgd (k+1) (by omega)
  have g9:=hgd (k+9) (by omega)
  have g14:=hgd (k+14) (by omega)
  have hlen:(y35 b k).length=64:=z3y
  clear hgd
  generalize (y35 b k).getD k 0=v0 at g0 hst
  generalize (y35 b k).getD (k+1) 0=v1 at g1 hst
  generalize (y35 b k).getD (k+9) 0=v9 at g9 hst
  generalize (y35 b k).getD (k+14) 0=v14 at g14 hst
  generalize y35 b k=W at g0 g1 g9 g14 hst hlen w1 w1'
  have b1:(0:Int)<=(k:Int)+1:=by omega
  have d1:(k:Int)+1<64:=by omega
  have t1:((k:Int)+1).toNat=k+1:=by omega
  have b14:(0:Int)<=(k:Int)+14:=by omega
  have d14:(k:Int)+14<64:=by omega
  have t14:((k:Int)+14).toNat=k+14:=by omega
  have b9:(0:Int)<=(k:Int)+9:=by omega
  have d9:(k:Int)+9<64:=by omega
  have t9:((k:Int)+9).toNat=k+9:=by omega
  have b16:(0:Int)<=(k:Int)+16:=by omega
  have d16:(k:Int)+16<64:=by omega
  have t16:((k:Int)+16).toNat=k+16:=by omega
  have d0:(k:Int)<64:=by omega
  have n16:k+16<64:=by omega
  have n17:k+16+1<=64:=by omega
  have wA:∀ r:List Obj,(h++r)[1]? = some (.cells (W.map dW)):=fun r=>w1.app (r:=r)
  have r1:yu E (dL E) 422 [dW v1,dI 7]=some (dW (y59 v1 25)):=y9w v1 7 (by decide)
  have r2:yu E (dL E) 422 [dW v1,dI 18]=some (dW (y59 v1 14)):=y9w v1 18 (by decide)
  have r3:yu E (dL E) 422 [dW v14,dI 17]=some (dW (y59 v14 15)):=y9w v14 17 (by decide)
  have r4:yu E (dL E) 422 [dW v14,dI 19]=some (dW (y59 v14 13)):=y9w v14 19 (by decide)
  have i0:aw.wrap (k:Int)=(k:Int):=z7 ⟨by omega,by omega⟩
  have sh3:∀ x:Wd,(x.toNat:Int).fdiv 8=((x >>> 3).toNat:Nat):=fun x=>zkg (a:=x) (n:=3) (by omega)
  have sh10:∀ x:Wd,(x.toNat:Int).fdiv 1024=((x >>> 10).toNat:Nat):=fun x=>zkg (a:=x) (n:=10) (by omega)
  simp[hk64,i0,i15,i2,i16,i7,i1,w1',↓wA,g0,g1,g9,g14,hlen,r1,r2,r3,r4,b1,d1,t1,b14,d14,t14,b9,d9,t9,b16,t16,d0,n16,n17,z56,sh3,sh10,zkf,zki,-fK,-ek,-BitVec.toNat_ushiftRight]
  refine⟨hlt,?_,w2.app.ne (by omega)⟩
  unfold Wds
  rw[hst,fh]
  exact At.self (by first | (simp;done) | (simp;omega))
 have:k=48:=by omega
 subst this
 obtain⟨W,hW⟩:∃ W,W=y35 b 48:=⟨_,rfl⟩
 have hWl:W.length=64:=by rw[hW];exact z3y
 have e423:=r423
 rw[<- hW] at w1
 have st:y39 E (h++[.cells (af 64 (.int .u32 0))]) 80 (.loc h.length 0) yac=some (h++[.cells (y5i.map dW)]):=by
  have e:(h++[Obj.cells (af 64 (.int .u32 0))])[h.length]? = some (.cells (af 64 (.int .u32 0))):=by simp
  unfold y39
  simp only[e]
  rw[if_pos ⟨rfl,rfl,by decide⟩]
  have e2:setCells (af 64 (D.int .u32 0)) 0 yac.cellsL=y5i.map dW:=by rfl
  rw[e2]
  simp
 simp only[af] at st
 have hk0:At (h ++ .cells (y5i.map dW)::af 24 Obj.dead) h.length (.cells (y5i.map dW)):=by simp[At]
 have w1:=w1.app (r:=.cells (y5i.map dW)::af 24 Obj.dead)
 have w2:=w2.app (r:=.cells (y5i.map dW)::af 24 Obj.dead)
 simp only[af] at hk0 w1 w2
 simp[e423,-z5u,st,zzk,zzj,zzi,zzh,zzg,zzf,zze,zzd,il78]
 generalize h++Obj.cells (y5i.map dW)::_=H at hk0 w1 w2 ⊢
 generalize h.length=C at hk0 ⊢
 refine zr 64 (fun i env h'=>∃(x5 x6 x7 x8 x19 x20 x21 x22 x23:D) (a b' c d e f g g':Wd),env=[.agg [dW s0,dW s1,dW s2,dW s3,dW s4,dW s5,dW s6,dW s7],dBy b,.iptr [dW s0,dW s1,dW s2,dW s3,dW s4,dW s5,dW s6,dW s7],.loc 0 0,.loc 1 0,x5,x6,x7,x8,.loc C 0,dW a,dW b',dW c,dW d,dW e,dW f,dW g,dW g',dI i,x19,x20,x21,x22,x23]/\y91 W [s0,s1,s2,s3,s4,s5,s6,s7] i=[a,b',c,d,e,f,g,g']/\At h' C (.cells (y5i.map dW))/\Wds h' 1 W/\Wds h' 0 w8) 0 (by omega) ⟨_,_,_,_,_,_,_,_,_,_,_,_,_,_,_,_,_,rfl,rfl,hk0,w1,w2⟩ ?_
 clear hi hlt hk0 w1 w2 w1' st hhl
 rintro i env h' hi ⟨x5,x6,x7,x8,x19,x20,x21,x22,x23,a,b',c,d,e,f,g,g',rfl,hr,hk0,w1,w2⟩
 by_cases hlt:i<64
 ·have hi64:(i:Int)<64:=by omega
  have hup:=zg hlt (by omega)
  have hst:y91 W [s0,s1,s2,s3,s4,s5,s6,s7] (i+1)=rnd W i (y91 W [s0,s1,s2,s3,s4,s5,s6,s7] i):=rfl
  rw[hr] at hst
  have kA:∀ r:List Obj,(h'++r)[C]? = some (.cells (y5i.map dW)):=fun r=>hk0.app (r:=r)
  have wA:∀ r:List Obj,(h'++r)[1]? = some (.cells (W.map dW)):=fun r=>w1.app (r:=r)
  have hw:W[i]? = some (W.getD i 0):=by rw[aj,ae (by omega)];rfl
  have hk:y5i[i]? = some (y5i.getD i 0):=by rw[aj,ae (by rw[z95];exact hlt)];rfl
  have hkl:=z95
  simp only[rnd] at hst
  generalize W.getD i 0=wi at hw hst
  generalize y5i.getD i 0=ki at hk hst
  rw[<- yg5,<- zz7] at hst
  generalize y5i=KT at hk kA hkl hk0 ⊢
  have q1:yu E (dL E) 422 [dW e,dI 6]=some (dW (y59 e 26)):=y9w e 6 (by decide)
  have q2:yu E (dL E) 422 [dW e,dI 11]=some (dW (y59 e 21)):=y9w e 11 (by decide)
  have q3:yu E (dL E) 422 [dW e,dI 25]=some (dW (y59 e 7)):=y9w e 25 (by decide)
  have q4:yu E (dL E) 422 [dW a,dI 2]=some (dW (y59 a 30)):=y9w a 2 (by decide)
  have q5:yu E (dL E) 422 [dW a,dI 13]=some (dW (y59 a 19)):=y9w a 13 (by decide)
  have q6:yu E (dL E) 422 [dW a,dI 22]=some (dW (y59 a 10)):=y9w a 22 (by decide)
  simp[hi64,hup,↓wA,↓kA,hw,hk,hkl,hWl,q1,q2,q3,q4,q5,q6,zkf,zki,zyk,yai,ydf,-fK,-ek,-BitVec.toNat_and,-BitVec.toNat_or,-BitVec.toNat_not]
  refine⟨hlt,?_⟩
  repeat apply ge
  exact⟨by and_intros <;> rfl,hst,hk0.app,w1.app,w2.app⟩
 have:i=64:=by omega
 subst this
 have hV:y34 [s0,s1,s2,s3,s4,s5,s6,s7] b=[s0+a,s1+b',s2+c,s3+d,s4+e,s5+f,s6+g,s7+g']:=by
  unfold y34
  rw[<- hW,hr,ygb rfl rfl];rfl
 rw[hV]
 have w2':h'[0]? = some (.cells [.int .u32 0,.int .u32 0,.int .u32 0,.int .u32 0,.int .u32 0,.int .u32 0,.int .u32 0,.int .u32 0]):=w2
 have h0:=w2.lt
 have hs0:∀ o:Obj,(h'.set 0 o)[0]? = some o:=fun o=>At.self h0
 simp[zzk,zzj,zzi,zzh,zzg,zzf,zze,zzd,il78,w2',↓hs0,zki,-ek]
 try trace_state

theorem zl1{v j:Nat}(h:j<4):fo.wrap ((v:Int).fdiv (2 ^ (min (8*j) 32)))=((bi (v / 2 ^ (8*j))).toNat:Nat):=by
 rw[zgs,bq (by omega),Int.fdiv_eq_ediv_of_nonneg _ (Int.pow_nonneg (by decide)),UInt8.toNat_ofNat']
 have e:(v:Int) / 2 ^ (8*j)=((v / 2 ^ (8*j):Nat):Int):=by rw[Int.natCast_ediv,Int.natCast_pow];rfl
 rw[e]
 omega
def y9c(v:List Wd)(i:Nat):List UInt8:=(y83 v).take i++af (32 - i) 0
theorem zsb{v:List Wd}{i:Nat}(h:i<=32):(y9c v i).length=32:=by unfold y9c;simp[z79];omega
theorem zz2{v:List Wd}{i:Nat}(h:i<32):y9c v (i+1)=(y9c v i).set i (bi ((v.getD (i / 4) 0).toNat / 2 ^ (8*(3 - i % 4)))):=by
 have hl:(y83 v).length=32:=z79
 have e:(y83 v)[i]'(by omega)=bi ((v.getD (i / 4) 0).toNat / 2 ^ (8*(3 - i % 4))):=by
  have:=zoi (v:=v) h
  rw[ae (by omega)] at this
  exact co this
 unfold y9c
 rw[aH (by omega),e,show 32 - i=(32 - (i+1))+1 from by omega,eh,cH _ _ (by simp;omega),aI,bq (by omega),fc,eA,a8]
 rfl
theorem zok{v:List Wd}:y9c v 32=y83 v:=by unfold y9c;rw[bg (by rw[z79];omega)];simp

theorem r410(b:List UInt8)(hb:b.length<=1000000000):yu E (dL E) 410 [dBy b]=some (y4w (y6b b)):=by
 have e418:=r418 b hb
 rw[<- zwh]
 refine ze c410 (by simp) ?_
 conv in t410=>reduce;dsimp[ah]
 have hm:=zs9 (b:=b)
 have hpz:=zog (n:=b.length)
 have hPl:(y7a b).length<=1000000100:=by unfold y7a;simp only[ak,aA,df,z27];omega
 unfold yf2
 generalize y7a b=P at *
 obtain⟨m,hm2⟩:∃ m,m=P.length / 64:=⟨_,rfl⟩
 rw[<- hm2]
 have hP:P.length=64*m:=by omega
 simp[t410,n410,z8,e418]
 refine zr m (fun k env h=>∃(x5 x6 x7 x8:D) ,env=[dBy b,.loc 0 0,.loc 1 0,dBy P,dI (64*(k:Int)),x5,x6,x7,x8]/\Bys h 0 z32/\Wds h 1 (y3u P k y5t)) 0 (by omega) ⟨_,_,_,_,rfl,rfl,rfl⟩ ?_
 rintro k env h hi ⟨x5,x6,x7,x8,rfl,B,W⟩
 by_cases hlt:k<m
 ·have hcmp:64*(k:Int)<P.length:=by omega
  have hw:aw.wrap (64*(k:Int)+64)=64*((k:Int)+1):=by rw[z7 ⟨by omega,by omega⟩];omega
  have hw2:(64*((k:Int)+1))=((64*(k+1):Nat):Int):=by omega
  have sl:y15 E 30 (dBy P) (some (.int .i64 (64*(k:Int)))) (some (.int .i64 (64*((k:Int)+1)))) none=some (dBy ((P.drop (64*k)).take 64)):=by
   have:=zux (b:=P) (i:=64*k) (j:=64*(k+1)) (by omega) (by omega)
   rw[show 64*(k+1) - 64*k=64 from by omega] at this
   rw[hw2];exact this
  have e419:=r419 (y3u P k y5t) ((P.drop (64*k)).take 64) (z2i rfl) (by rw[aI,cq];omega)
  have hst:y3u P (k+1) y5t=y34 (y3u P k y5t) ((P.drop (64*k)).take 64):=rfl
  rw[<- hst] at e419
  obtain⟨a0,a1,a2,a3,a4,a5,a6,a7,hS⟩:=y9x (z2i (b:=P) (s:=y5t) rfl (k:=k))
  obtain⟨d0,d1,d2,d3,d4,d5,d6,d7,hT⟩:=y9x (z2i (b:=P) (s:=y5t) rfl (k:=k+1))
  generalize (P.drop (64*k)).take 64=X at *
  rw[hS,hT] at e419
  rw[hS] at W
  rw[hT]
  have wA:∀ r:List Obj,(h++r)[1]? = some (.cells [dW a0,dW a1,dW a2,dW a3,dW a4,dW a5,dW a6,dW a7]):=fun r=>W.app (r:=r)
  have hl1:=W.lt
  simp at e419
  simp[hcmp,hw,z4i,sl,z8,↓wA,e419]
  exact⟨hlt,B.app.ne (by decide),At.self (by simp)⟩
 have:k=m:=by omega
 subst this
 have hcmp : ¬ 64*(k:Int)<P.length:=by omega
 obtain⟨V,hV⟩:∃ V,V=y3u P k y5t:=⟨_,rfl⟩
 have hVl:V.length=8:=by rw[hV];exact z2i rfl
 rw[zwr,<- hV]
 rw[<- hV] at W
 have hz:z32.map ya=af 32 (D.int .u8 0):=by unfold z32;rw[bS];rfl
 have hsz:setCells (af 32 (D.int .u8 0)) 0 (af 32 (D.int .u8 0))=af 32 (D.int .u8 0):=by rfl
 have B1:Bys (h++[.cells (af 32 (D.int .u8 0))]) h.length z32:=by unfold Bys;rw[hz];simp[At]
 have B0:=B.app (r:=[.cells (af 32 (D.int .u8 0))])
 have W1:=W.app (r:=[.cells (af 32 (D.int .u8 0))])
 simp only[af] at hsz B1 B0 W1
 simp[hcmp,↓hsz]
 have hC1:1<h.length:=W.lt
 generalize h++_=H at B1 B0 W1 ⊢
 generalize h.length=C at B1 hC1 ⊢
 clear B W hcmp hlt hi hsz
 clear h
 have e0:y9c V 0=z32:=by unfold y9c;simp[z32]
 refine zr 32 (fun i env h=>∃(x3 x4 x7 x8:D) ,env=[dBy b,.loc 0 0,.loc 1 0,x3,x4,.loc C 0,dI i,x7,x8]/\Bys h 0 z32/\Wds h 1 V/\Bys h C (y9c V i)) 0 (by omega) ⟨_,_,_,_,rfl,B0,W1,by rw[e0];exact B1⟩ ?_
 clear B0 W1 B1
 clear H x5 x6 x7 x8
 rintro i env h hi ⟨x3,x4,x7,x8,rfl,B0,W1,B1⟩
 by_cases hlt:i<32
 ·have hi32:(i:Int)<32:=by omega
  have hup:=zg hlt (by omega)
  have q1:aw.wrap ((i:Int) / 4)=(i:Int) / 4:=z7 ⟨by omega,by omega⟩
  have t0:(0:Int)<=(i:Int) / 4:=by omega
  have t1:(i:Int) / 4<8:=by omega
  have t2:((i:Int) / 4).toNat=i / 4:=by omega
  have q2:(i:Int).tmod 4=(i:Int) % 4:=eN (by omega)
  have h31:i<=31:=by omega
  have q3:aw.wrap (8*((i:Int) % 4))=8*((i:Int) % 4):=z7 ⟨by omega,by omega⟩
  obtain⟨c,hc⟩:∃ c:Nat,c=8*(3 - i % 4):=⟨_,rfl⟩
  have q4:aw.wrap (24 - 8*((i:Int) % 4))=(c:Int):=by rw[z7 ⟨by omega,by omega⟩];omega
  have hn4:i / 4<8:=by omega
  have hv:V[i / 4]? = some (V.getD (i / 4) 0):=by rw[aj,ae (by omega)];rfl
  have hp:=zl1 (v:=(V.getD (i / 4) 0).toNat) (j:=3 - i % 4) (by omega)
  have hst:=zz2 (v:=V) hlt
  have hol:=zsb (v:=V) (i:=i) (by omega)
  have hBl:=B1.lt
  rw[<- hc] at hp hst
  have eV:V.getD (i / 4) 0=V[i / 4]'(by omega):=by rw[aj,ae (by omega)];rfl
  rw[eV] at hp hst hv
  generalize bi ((V[i / 4]'(by omega)).toNat / 2 ^ c)=ub at hp hst
  have w':h[1]? = some (.cells (V.map dW)):=W1
  have b':h[C]? = some (.cells ((y9c V i).map ya)):=B1
  simp[hi32,hup,q1,t0,t1,t2,hn4,h31,q2,q3,q4,hp,hVl,hol,w',b',z56,y2v]
  refine⟨hlt,B0.ne (by omega),W1.ne (by omega),?_⟩
  unfold Bys
  rw[hst,fh]
  exact At.self hBl
 have:i=32:=by omega
 subst this
 rw[zok] at B1
 have hol:(y83 V).length=32:=z79
 have l1:=z7y B1 hol
 have z2:h[0]? = some (.cells (z32.map ya)):=B0
 have z5:z32.length=32:=rfl
 have y4:setCells (z32.map ya) 0 ((y83 V).map ya)=(y83 V).map ya:=zh (by rw[ao,ao,hol];rfl)
 have y5:Bys (h.set 0 (.cells ((y83 V).map ya))) 0 (y83 V):=At.self B0.lt
 have y6:=z34 y5 hol
 simp[l1,z2,y4,↓y6,z5,hol,z8]
 try trace_state

theorem zll{hp:List Obj}{k n:Nat}{g:Bool}{T:List UInt8}(B:Bys hp k T)(h:T.length=n):y12 hp 1 false (.sl k 0 n 1 false g)=some (T.map ya):=by
 have e:hp[k]? = some (.cells (T.map ya)):=B
 unfold y12
 simp only[yz,e,cn,z52 n T (by omega),bg (Nat.le_of_eq h)]
 simp
theorem zei{l:List UInt8}{m:List UInt8}(h:l.length+m.length<=100000000000):y2y E 13 (l.map ya) (m.map ya):=zt (by simp;omega)

theorem yf8(t b:List UInt8)(ht:t.length<=1000)(hb:b.length<=900000000):yu E (dL E) 390 [.str t,dBy b]=some (y4w (tgB t b)):=by
 have e1:=r410 t (by omega)
 have e3:=r410 (y6b t++b) (by rw[ak,z1o];omega)
 have hl:=z1o (b:=t)
 refine ze c390 (by simp) ?_
 conv in t390=>reduce;dsimp[ah]
 have hl3:=z1o (b:=y6b t++b)
 unfold tgB
 generalize y6b t=T at e1 e3 hl hl3 ⊢
 generalize y6b (T++b)=U at e3 hl3 ⊢
 have hsl:y15 E 73 (.loc 1 0) none none none=some (.sl 1 0 32 1 false false):=rfl
 have hsc:setCells (z32.map ya) 0 (T.map ya)=T.map ya:=zh (by rw[ao,ao,hl];rfl)
 have hz:z32.map ya=af 32 (D.int .u8 0):=by unfold z32;rw[bS];rfl
 rw[hz] at hsc
 simp only[af] at hsc
 have hsc2:setCells (z32.map ya) 0 (U.map ya)=U.map ya:=zh (by rw[ao,ao,hl3];rfl)
 rw[hz] at hsc2
 simp only[af] at hsc2
 have hlo:=fun(A:Obj) (r:List Obj)=>zll (hp:=A :: .cells (T.map ya)::r) (k:=1) (g:=false) (T:=T) (by rfl) hl
 have a1:=zei (l:=[]) (m:=T) (by simp;omega)
 have a2:=zei (l:=T) (m:=b) (by omega)
 have hfa:y1p (frz [] 11) (T.map ya++b.map ya)=some (T.map ya++b.map ya):=by rw[<- bm];exact z8
 have e3':yu E (dL E) 410 [.imm .none (T.map ya++b.map ya)]=some (y4w U):=by rw[<- bm];exact e3
 have hld:∀ r:List Obj,yo E (.cells (U.map ya)::r) 73 (.loc 0 0)=some (.agg (U.map ya)):=fun r=>z34 rfl hl3
 simp at a1
 simp[t390,n390,e1,e3',z8,hl,hl3,hsl,↓hsc,↓hsc2,hlo,a1,a2,hfa,↓hld]
 try trace_state

theorem r392(a b:List UInt8)(ha:a.length=32)(hb:b.length=32):yu E (dL E) 392 [y4w a,y4w b]=some (y4w (tgB [99,104,97,105,110] (a++b))):=by
 have e2:=yf8 [99,104,97,105,110] (a++b) (by simp) (by simp;omega)
 have hl:(tgB [99,104,97,105,110] (a++b)).length=32:=z1o
 have s1:=z4a ha
 have s2:=z4a hb
 refine ze c392 (by simp) ?_
 conv in t392=>reduce;dsimp[ah]
 generalize tgB [99,104,97,105,110] (a++b)=U at e2 hl ⊢
 have e2':yu E (dL E) 390 [.str [99,104,97,105,110],.imm .none (a.map ya++b.map ya)]=some (y4w U):=by rw[<- bm];exact e2
 have hfa:y1p (frz [] 11) (a.map ya++b.map ya)=some (a.map ya++b.map ya):=by rw[<- bm];exact z8
 have hsc2:setCells (z32.map ya) 0 (U.map ya)=U.map ya:=zh (by rw[ao,ao,hl];rfl)
 have hz:z32.map ya=af 32 (D.int .u8 0):=by unfold z32;rw[bS];rfl
 rw[hz] at hsc2
 simp only[af] at hsc2
 have hld:∀ r:List Obj,yo E (.cells (U.map ya)::r) 73 (.loc 0 0)=some (.agg (U.map ya)):=fun r=>z34 rfl hl
 have hfz:frz [] 11 (.str [99,104,97,105,110])=some (.str [99,104,97,105,110]):=rfl
 have hfz2:frz [] 12 (.str [99,104,97,105,110])=some (.str [99,104,97,105,110]):=rfl
 have a1:=zei (l:=[]) (m:=a) (by simp;omega)
 have a2:=zei (l:=a) (m:=b) (by omega)
 simp at a1
 have f1:(a.map ya).all (fun d=>d.storable && d.cellsL.length == 1)=true:=z67
 have f2:(b.map ya).all (fun d=>d.storable && d.cellsL.length == 1)=true:=z67
 simp[t392,n392,e2',z8,ha,hb,hl,s1,s2,↓hsc2,hfa,↓hld,hfz,hfz2,a1,a2,f1,f2]
 try trace_state

theorem zyp{n:Int}(h:i64 n)(h0:0<=n):bd.wrap (2*bd.wrap n)=(uns n:Nat):=by
 obtain⟨h1,h2⟩:=h
 unfold uns
 rw[if_pos h0,z1a,z1a];omega
theorem zvy{n:Int}(h:i64 n)(h0 : ¬ 0<=n):bd.wrap (bd.wrap (2*bd.wrap (-(n+1)))+1)=(uns n:Nat):=by
 obtain⟨h1,h2⟩:=h
 unfold uns
 rw[if_neg h0,z1a,z1a,z1a];omega
theorem r303{n:Int}(h:i64 n):yu E (dL E) 303 [dI n]=some (.int .u64 (uns n:Nat)):=by
 refine ze c303 (by simp) ?_
 conv in t303=>reduce;dsimp[ah]
 by_cases h0:0<=n
 ·have e:=zyp h h0
  simp[t303,n303,h0,y2v,e]
 ·have e:=zvy h h0
  obtain⟨h1,h2⟩:=h
  have w1:aw.wrap (n+1)=n+1:=z7 ⟨by omega,by omega⟩
  have w2:aw.wrap (-(n+1)) = -(n+1):=z7 ⟨by omega,by omega⟩
  simp[t303,n303,h0,y2v,w1,w2,e]

theorem yff:∀(m u:Nat) (_:u<m) (_:u<18446744073709551616),yu E (dL E) 304 [.int .u64 (u:Int)]=some (dBy (num u)):=by
 intro m
 induction m with
 |zero=>intro u hm;omega
 |succ m ih=>
  intro u hm hu
  have hd:u<128 \/ ¬ u<128:=by omega
  rcases hd with h | h
  ·refine ze c304 (by simp) ?_
   conv in t304=>reduce;dsimp[ah]
   have h':(u:Int)<128:=by omega
   have e0:=z9l (n:=u)
   rw[show u % 256=u from by omega] at e0
   have e3:=mk8 (n:=u) (by omega)
   rw[zae h]
   simp only[ya] at e3
   simp[t304,n304,h,h',y2v,e0,e3]
  ·have h' : ¬ (u:Int)<128:=by omega
   have e:=ih (u / 128) (by omega) (by omega)
   have hlen:=z5w (u:=u / 128) (by omega)
   rw[zfm h]
   have q1:bd.wrap ((u:Int).tmod 128+128)=((u % 128+128:Nat):Int):=by rw[z1a,eN (by omega)];omega
   have q2:=z9l (n:=u % 128+128)
   rw[show(u % 128+128) % 256=u % 128+128 from by omega] at q2
   have q3:bd.wrap ((u:Int) / 128)=((u / 128:Nat):Int):=by rw[z1a];omega
   obtain⟨c,hc⟩:∃ c,c=u % 128+128:=⟨_,rfl⟩
   have e3:=mk8 (n:=c) (by omega)
   rw[<- hc] at q1 q2 ⊢
   obtain⟨v,hv⟩:∃ v,v=u / 128:=⟨_,rfl⟩
   rw[<- hv] at q3 e hlen ⊢
   simp only[ya] at e3
   have a1:=zt (l:=[bi c]) (new:=(num v).map ya) (by simp;omega)
   generalize bi c=cb at *
   generalize num v=N at *
   simp at a1
   have a2:y2y E 13 [.int .u8 cb.toNat] (N.map ya):=a1
   have fz:∀ hp n,y1p (frz hp (n+1)) (D.int .u8 cb.toNat::N.map ya)=some (D.int .u8 cb.toNat::N.map ya):=fun hp n=>z8 (l:=cb::N)
   refine ze c304 (by simp) ?_
   conv in t304=>reduce;dsimp[ah]
   simp[t304,n304,h',y2v,q1,q2,q3,e,e3,a2,fz,z8]
theorem yfg{u:Nat}(h:u<18446744073709551616):yu E (dL E) 304 [.int .u64 (u:Int)]=some (dBy (num u)):=yff (u+1) u (by omega) h

theorem r301:∀(m:Nat) (v:CV),sizeOf v<=m->y4r v->yu E (dL E) 301 [dV v]=some (.bool true):=by
 intro m
 induction m with
 |zero=>intro v hm;cases v;simp at hm
 |succ m ih=>
  intro v hm hf
  obtain⟨k,n,s,l⟩:=v
  have hf':=hf.f
  have hz:=z3u (hp:=[]) hf
  refine ze c301 (by simp) ?_
  conv in t301=>reduce;dsimp[ah]
  rw[fmd] at hf'
  rw[z1n]
  rcases hf' with⟨rfl,hn,rfl,rfl⟩ | ⟨rfl,rfl,rfl⟩ | ⟨rfl,rfl,rfl,hl⟩
  ·simp[t301,n301]
  ·simp[t301,n301]
  ·have hln:=hf.len.2
   simp[t301,n301]
   refine zr l.length (fun i env h=>∃(x0 x4 x5 x6 x7 x8 x9:D) ,env=[x0,.iptr [dI 3,dI 0,.str [],.imm .none (l.map dV)],.bool false,dI i,x4,x5,x6,x7,x8,x9]) 0 (by omega) ⟨_,_,_,_,_,_,_,rfl⟩ ?_
   rintro i env h hi ⟨x0,x4,x5,x6,x7,x8,x9,rfl⟩
   by_cases hlt:i<l.length
   ·have hv:=hf.sub (aC hlt)
    have e:=ih l[i] (by have:=eI (aC hlt);rw[CV.mk.sizeOf_spec] at hm;omega) hv
    have hz':=z3u (hp:=[]) hv
    have hup:=zg hlt (by omega)
    obtain⟨k,n,s,l',hq⟩:∃ k n s l',l[i]=CV.mk k n s l':=by
     cases h:l[i] with
     |mk k n s l'=>exact⟨k,n,s,l',rfl⟩
    rw[hq] at e hz'
    rw[z1n] at e hz'
    simp[hlt,hq,z1n,e,hz',hup]
   ·have:i=l.length:=by omega
    subst this
    simp
    try trace_state

theorem r302:∀(m:Nat) (v:CV),sizeOf v<=m->y4r v->yu E (dL E) 302 [dV v]=some (dI (dep v)):=by
 intro m
 induction m with
 |zero=>intro v hm;cases v;simp at hm
 |succ m ih=>
  intro v hm hf
  obtain⟨k,n,s,l⟩:=v
  have hf':=hf.f
  have hz:=z3u (hp:=[]) hf
  refine ze c302 (by simp) ?_
  conv in t302=>reduce;dsimp[ah]
  rw[fmd] at hf'
  rw[z1n]
  rcases hf' with⟨rfl,hn,rfl,rfl⟩ | ⟨rfl,rfl,rfl⟩ | ⟨rfl,rfl,rfl,hl⟩
  ·simp[t302,n302,dep]
  ·simp[t302,n302,dep]
  ·have hln:=hf.len.2
   have hd:y63 l<=3:=by have:=hf.d;rw[dep,if_pos rfl] at this;omega
   have hdw:aw.wrap ((y63 l:Int)+1)=(y63 l:Int)+1:=z7 ⟨by omega,by omega⟩
   simp[t302,n302,dep]
   refine zr l.length (fun i env h=>∃(x0 x2 x5 x6:D) ,env=[x0,.iptr [dI 3,dI 0,.str [],.imm .none (l.map dV)],x2,dI (y63 (l.take i)),dI i,x5,x6]) 0 (by omega) ⟨_,_,_,_,rfl⟩ ?_
   rintro i env h hi ⟨x0,x2,x5,x6,rfl⟩
   by_cases hlt:i<l.length
   ·have hv:=hf.sub (aC hlt)
    have e:=ih l[i] (by have:=eI (aC hlt);rw[CV.mk.sizeOf_spec] at hm;omega) hv
    have hz':=z3u (hp:=[]) hv
    have hup:=zg hlt (by omega)
    obtain⟨k,n,s,l',hq⟩:∃ k n s l',l[i]=CV.mk k n s l':=by
     cases h:l[i] with
     |mk k n s l'=>exact⟨k,n,s,l',rfl⟩
    have hdt:=zg8 hlt
    rw[hq] at e hz' hdt
    rw[z1n] at e hz'
    simp[hlt,hq,z1n,e,hz',hup]
    rw[hdt]
    simp only[Nat.max_def]
    split <;> split <;> omega
   ·have:i=l.length:=by omega
    subst this
    simp[hdw]

theorem r286{v:CV}(h:y4r v):yu E (dL E) 286 [dV v]=some (dI 0):=by
 have e:=r301 (sizeOf v) v (ai _) h
 have e2:=r302 (sizeOf v) v (ai _) h
 have hz:=z3u (hp:=[]) h
 have hd:=h.d
 obtain⟨k,n,s,l⟩:=v
 refine ze c286 (by simp) ?_
 conv in t286=>reduce;dsimp[ah]
 have hd' : ¬ (16:Int)<(dep (.mk k n s l):Int):=by omega
 rw[z1n] at e e2 hz ⊢
 simp[t286,n286,e,e2,hz,hd']

theorem zr6{h:List Obj}{sp sp':y13}{l m:List UInt8}(hl:l.length+m.length<=900000000000)(R:y2b h sp l.length 1) :
  y4u E h h.length 30 30 (.imm sp (l.map ya)) (.imm sp' (m.map ya))=some (.imm (.tok h.length) ((l++m).map ya),y1k sp h++[.tok (l.length+m.length) 1]):=by
 have e:=z4h (hp:=h) (id:=h.length) (t:=30) (e:=13) (sz:=1) (sp:=sp) (sp':=sp') (els:=l.map ya) (new:=m.map ya) rfl rfl zck (zt (by simp;omega)) (by rw[ao];exact R)
 rw[e,bm]
 have e2:y1y (y1k sp h) h.length (.tok (((l.map ya).length+(m.map ya).length)*1) 1)=y1k sp h++[.tok (l.length+m.length) 1]:=by
  unfold y1y;rw[if_neg (by rw[z21];omega)];simp
 rw[e2]

theorem r287:∀(m:Nat) (v:CV),sizeOf v<=m->y4r v->yu E (dL E) 287 [dV v]=some (dBy (enc v)):=by
 intro m
 induction m with
 |zero=>intro v hm;cases v;simp at hm
 |succ m ih=>
  intro v hm hf
  obtain⟨k,n,s,l⟩:=v
  have hf':=hf.f
  have hn:=hf.n
  rw[fmd] at hf'
  rcases hf' with⟨rfl,hi,rfl,rfl⟩ | ⟨rfl,rfl,rfl⟩ | ⟨rfl,rfl,rfl,hl⟩
  ·have e1:=r303 hi
   have e2:=yfg (zep hi)
   have hlen:=z5w (zep hi)
   rw[enc,if_pos rfl]
   generalize num (uns n)=N at *
   have a1:y2y E 13 [.int .u8 1] (N.map ya):=zt (l:=[1]) (by simp;omega)
   have fz:∀ hp n,y1p (frz hp (n+1)) (D.int .u8 1::N.map ya)=some (D.int .u8 1::N.map ya):=fun hp n=>z8 (l:=1::N)
   refine ze c287 (by simp) ?_
   conv in t287=>reduce;dsimp[ah]
   rw[z1n]
   simp[t287,n287,e1,e2,a1,fz,z67]
  ·have hsl:=hf.len.1
   have e2:=yfg (u:=s.length) (by omega)
   have hlen:=z5w (u:=s.length) (by omega)
   have hw:=z8y (n:=s.length) (by omega)
   rw[enc,if_neg (by decide),if_pos rfl]
   generalize num s.length=N at *
   have a1:y2y E 13 [.int .u8 2] (N.map ya):=zt (l:=[2]) (by simp;omega)
   have a2:y2y E 13 (.int .u8 2::N.map ya) (s.map ya):=zt (l:=2::N) (by simp;omega)
   have fz:∀ hp n,y1p (frz hp (n+1)) (D.int .u8 2::(N.map ya++s.map ya))=some (D.int .u8 2::(N.map ya++s.map ya)):=fun hp n=>by
    have:=z8 (hp:=hp) (n:=n) (l:=2::(N++s))
    rw[av,bm] at this
    exact this
   have hc:1+N.length=N.length+1:=Nat.add_comm _ _
   refine ze c287 (by simp) ?_
   conv in t287=>reduce;dsimp[ah]
   rw[z1n]
   simp[t287,n287,y2v,hw,e2,a1,a2,fz,hc]
  ·have hln:=hf.len.2
   have e2:=yfg (u:=l.length) (by omega)
   have hlen:=z5w (u:=l.length) (by omega)
   have hw:=z8y (n:=l.length) (by omega)
   rw[enc,if_neg (by decide),if_neg (by decide)] at hn ⊢
   generalize num l.length=N at *
   have a1:y2y E 13 [.int .u8 3] (N.map ya):=zt (l:=[3]) (by simp;omega)
   refine ze c287 (by simp) ?_
   conv in t287=>reduce;dsimp[ah]
   rw[z1n]
   simp[t287,n287,y2v,hw,e2,a1,z67]
   refine zr l.length (fun i env h=>∃(x0 x2 x5 x6 x7 x8 x9 x10 x11 x12 x13:D) (sp:y13) (O:List UInt8),env=[x0,.iptr [dI 3,dI 0,.str [],.imm .none (l.map dV)],x2,.imm sp (O.map ya),dI i,x5,x6,x7,x8,x9,x10,x11,x12,x13]/\O=3::(N++y3x (l.take i))/\y2b h sp O.length 1) 0 (by omega) ⟨_,_,_,_,_,_,_,_,_,_,_,.tok 0,3::N,by rfl,by simp[y3x],.inr ⟨0,rfl,by simp[At];omega⟩⟩ ?_
   rintro i env h hi ⟨x0,x2,x5,x6,x7,x8,x9,x10,x11,x12,x13,sp,O,rfl,hO,R⟩
   by_cases hlt:i<l.length
   ·have hv:=hf.sub (aC hlt)
    have e:=ih l[i] (by have:=eI (aC hlt);rw[CV.mk.sizeOf_spec] at hm;omega) hv
    have hz':=z3u (hp:=[]) hv
    have hup:=zg hlt (by omega)
    have hsp:y3x (l.take (i+1))=y3x (l.take i)++enc l[i]:=by
     rw[aH hlt,z3v];simp[y3x]
    have htk:y3x l=y3x (l.take (i+1))++y3x (l.drop (i+1)):=by rw[<- z3v,bp]
    have hO2:O++enc l[i]=3::(N++y3x (l.take (i+1))):=by rw[hO,hsp];simp
    have hol:O.length+(enc l[i]).length<=900000000000:=by
     have:=congrArg cJ hO2
     rw[htk] at hn
     simp only[ak,aA] at this hn
     omega
    have ap:=zr6 (sp':=.none) hol R
    obtain⟨k,n,s,l',hq⟩:∃ k n s l',l[i]=CV.mk k n s l':=by
     cases h:l[i] with
     |mk k n s l'=>exact⟨k,n,s,l',rfl⟩
    rw[hq] at e hz' hO2 ap
    rw[z1n] at e hz'
    generalize enc (.mk k n s l')=X at *
    have hR:y2b (y1k sp h++[.tok (O.length+X.length) 1]) (.tok h.length) (O++X).length 1:=by
     rw[ak];exact y2b.tok1
    generalize O++X=Q at *
    simp[-z14,-zu,hlt,hq,z1n,e,hz',hup,ap]
    exact⟨_,_,_,_,_,_,_,_,_,_,_,_,Q,⟨rfl,rfl,⟨rfl,rfl⟩,rfl,rfl,rfl,rfl,rfl,rfl,rfl,rfl,rfl⟩,hO2,hR⟩
   ·have:i=l.length:=by omega
    subst this
    rw[aS] at hO
    rw[<- hO]
    simp[z8]

theorem r270{v:CV}(h:y4r v):yu E (dL E) 270 [dV v]=some (.tup [dBy (enc v),dI 0]):=by
 have e:=r286 h
 have e2:=r287 (sizeOf v) v (ai _) h
 have hz:=z3u (hp:=[]) h
 obtain⟨k,n,s,l⟩:=v
 refine ze c270 (by simp) ?_
 conv in t270=>reduce;dsimp[ah]
 rw[z1n] at e e2 hz ⊢
 simp[t270,n270,e,e2,hz,z8]

end Dv

namespace Dv

def okT(x:Ent):Prop:=(1<=x.kind/\x.kind<=4)/\(-1<=x.idx/\x.idx<=4095)/\(-1099511627776<=x.amt/\x.amt<=1099511627776)/\x.amt ≠ 0
instance(x:Ent):Decidable (okT x):=inferInstanceAs (Decidable (_/\_))
def tgt(t:List Ent):Prop:=(∀ x,x ∈ t->okT x)/\yd5 t
def y49(l:List Pst):List Ent:=l.flatMap fun p=>p.ents
def low(l:List Ent):List Ent:=l.filter fun x=>decide (x.kind<=4)
def bkN(l:List Pst)(t:List Ent):List Ent:=y7g (t++y4o (low (y49 l)))
def bkS(l:List Pst)(m:Int)(t:List Ent):Stp:=⟨m,(l.length:Int) - 1,bkN l t⟩
open Classical in
noncomputable def boE(tg:Tag)(l:List Pst)(m:Int)(t:List Ent):Int:=
 if rdE tg l ≠ 0 then rdE tg l else if ¬ tgt t then 430 else if bkN l t=[] then 0 else y2z tg l (bkS l m t)
open Classical in
noncomputable def boL(tg:Tag)(l:List Pst)(m:Int)(t:List Ent):List Pst:=
 if boE tg l m t=0 then(if bkN l t=[] then l else l++[y72 tg l (bkS l m t)]) else[]

theorem zif(a b:List Pst):y49 (a++b)=y49 a++y49 b:=List.flatMap_append
theorem zch(a b:List Ent):low (a++b)=low a++low b:=iG ..
theorem zej:∀(l:List Pst),(y49 l).length=y3t l
 |[]=>rfl
 |p::l=>by
  have:=zej l
  simp only[y49,List.flatMap_cons,ak,y3t] at this ⊢
  omega
theorem zie{k i:Int}:∀{l:List Ent},yr k i (low l)=if k<=4 then yr k i l else 0
 |[]=>by simp[low,yr]
 |x::l=>by
  have ih:=zie (k:=k) (i:=i) (l:=l)
  unfold low at ih ⊢
  rw[fL]
  by_cases h:x.kind<=4
  ·rw[if_pos (by simpa using h)]
   simp only[yr,ih]
   by_cases hk:k<=4
   ·simp[hk]
   ·have : ¬ (x.kind=k/\x.idx=i):=fun e=>hk (by omega)
    simp[hk,this]
  ·rw[if_neg (by simpa using h)]
   simp only[yr,ih]
   by_cases hk:k<=4
   ·have : ¬ (x.kind=k/\x.idx=i):=fun e=>h (by omega)
    simp[this]
   ·simp[hk]
theorem zio{t:List Ent}(h:tgt t){k i:Int}(hk : ¬ k<=4):yr k i t=0:=by
 refine z9f fun hm=>?_
 obtain⟨x,hx,e⟩:=aT.1 hm
 have:=(h.1 x hx).1.2
 have e1:x.kind=k:=congrArg Prod.fst e
 omega
theorem zxu{l:List Pst}{t:List Ent}{k i:Int}:yr k i (bkN l t)=yr k i t - if k<=4 then yr k i (y49 l) else 0:=by
 unfold bkN
 rw[zhd,z44,zbp,zie];omega
structure Bok(tg:Tag)(l:List Pst)(m:Int)(t:List Ent):Prop where
 v:vld tg l
 ok:tgt t
 post:bkN l t ≠ []->y2z tg l (bkS l m t)=0
open Classical in
theorem z65{tg:Tag}{l:List Pst}{m:Int}{t:List Ent}:boE tg l m t=0 ↔ Bok tg l m t:=by
 unfold boE
 constructor
 ·intro h
  split at h
  ·rename_i h1;exact absurd h h1
  ·rename_i h1
   split at h
   ·simp at h
   ·rename_i h2
    refine⟨z17.1 (gy.1 h1),gy.1 h2,fun h3=>?_⟩
    rw[if_neg h3] at h;exact h
 ·intro ⟨h1,h2,h3⟩
  rw[if_neg (by simp[z17.2 h1]),if_neg (by simp[h2])]
  split
  ·rfl
  ·rename_i h4;exact h3 h4
theorem zbg{tg:Tag}{l:List Pst}{m:Int}{t:List Ent}(b:Bok tg l m t):boL tg l m t=if bkN l t=[] then l else l++[y72 tg l (bkS l m t)]:=by
 unfold boL
 rw[if_pos (z65.2 b)]
theorem Bok.all{tg:Tag}{l:List Pst}{m:Int}{t:List Ent}(b:Bok tg l m t)(k i:Int):yr k i (y49 (boL tg l m t))=if k<=4 then yr k i t else yr k i (y49 l):=by
 have e:yr k i (y49 (boL tg l m t))=yr k i (y49 l)+yr k i (bkN l t):=by
  rw[zbg b]
  split
  ·rename_i h;rw[h];simp[yr]
  ·rw[zif,z44]
   have:y49 [y72 tg l (bkS l m t)]=bkN l t:=by simp[y49,y72,bkS]
   rw[this]
 rw[e,zxu]
 split
 ·omega
 ·rename_i hk;rw[zio b.ok hk];omega
theorem Bok.again{tg:Tag}{l:List Pst}{m:Int}{t:List Ent}(b:Bok tg l m t):bkN (boL tg l m t) t=[]:=by
 unfold bkN
 refine zoq.2 fun k i=>?_
 rw[z44,zbp,zie,b.all]
 by_cases hk:k<=4
 ·rw[if_pos hk,if_pos hk];omega
 ·rw[if_neg hk,zio b.ok hk];rfl
theorem zi7{l:List Pst}{t:List Ent}:(bkN l t).length<=t.length+y3t l:=by
 unfold bkN
 have h1:=zws (l:=t++y4o (low (y49 l)))
 have h2:(low (y49 l)).length<=(y49 l).length:=eJ ..
 rw[zej] at h2
 rw[ak,zj0] at h1
 omega
def stE(l:List Pst)(k m:Int):List Ent:=((y6n l).filter fun a=>decide (a.1=k)).map fun a=>⟨a.1,a.2,y4t a.1 a.2 m l⟩
end Dv

namespace Dv
attribute [local simp] af depth y2x y6l y31 y2f y6k y3b y3p y1y Ret
attribute [local congr] z2r z2v z20 z1l z1d z24 z1c


def wib(x a b:Int):Bool:=decide (a<=x) && decide (x<=b)
theorem zgq{x a b:Int}:wib x a b=true ↔ a<=x/\x<=b:=by unfold wib;simp
theorem yd1(x a b:Int):yu E (dL E) 368 [dI x,dI a,dI b]=some (.bool (wib x a b)):=by
 refine ze c368 (by simp) ?_
 conv in t368=>reduce;dsimp[ah]
 by_cases h:a<=x <;> simp[t368,n368,wib,h]
theorem r371(x a b:Int):yu E (dL E) 371 [dI x,dI a,dI b]=some (.bool (wib x a b)):=by
 refine ze c371 (by simp) ?_
 conv in t371=>reduce;dsimp[ah]
 by_cases h:a<=x <;> simp[t371,n371,wib,h]

def okB(x:Ent):Bool:=wib x.kind 1 4 && (wib x.idx (-1) 4095 && (wib x.amt (-1099511627776) 1099511627776 && !decide (x.amt=0)))
theorem zdn{x:Ent}:okB x=true ↔ okT x:=by
 unfold okB okT
 simp only[ar,zgq,Bool.not_eq_true',decide_eq_false_iff_not]
def ycz(t:List Ent)(j:Nat):Prop:=∃ x,t[j]? = some x/\okT x /\ ∀ i y,i+1=j->t[i]? = some y->ltA y x
theorem zc0{t:List Ent}:tgt t ↔ ∀ j,j<t.length->ycz t j:=by
 constructor
 ·intro h j hj
  refine⟨t[j],ae hj,h.1 _ (aC hj),fun i y e hy=>?_⟩
  subst e
  have hi:=(ac.1 hy)
  obtain⟨h1,rfl⟩:=hi
  exact h.2 i hj
 ·intro h
  refine⟨fun x hx=>?_,fun i hi=>?_⟩
  ·obtain⟨j,hj⟩:=dJ.1 hx
   obtain⟨y,hy,ok,_⟩:=h j (ac.1 hj).1
   rw[hj] at hy;cases hy;exact ok
  ·obtain⟨y,hy,_,o⟩:=h (i+1) hi
   rw[ae hi] at hy
   cases hy
   exact o i _ rfl (ae (by omega))

open Classical in
theorem r375(t:List Ent)(hl:t.length<=1000000):yu E (dL E) 375 [.imm .none (t.map y11)]=some (.bool (decide (tgt t))):=by
 have e368:=yd1
 refine ze c375 (by simp) ?_
 conv in t375=>reduce;dsimp[ah]
 obtain⟨B,hB⟩:∃ B,B=decide (tgt t):=⟨_,rfl⟩
 have hBf : ¬ tgt t->B=false:=fun h=>by rw[hB];simp[h]
 have hBt:tgt t->B=true:=fun h=>by rw[hB];simp[h]
 rw[<- hB]
 simp[t375,n375]
 refine zr t.length (fun i env h=>∃(x2 x3 x4 x5 x9 x10 x11 x12 x13 x14 x15:D) ,env=[.imm .none (t.map y11),.bool false,x2,x3,x4,x5,.imm .none (t.map y11),dI t.length,dI i,x9,x10,x11,x12,x13,x14,x15] /\ ∀ j,j<i->ycz t j) 0 (by omega) ⟨_,_,_,_,_,_,_,_,_,_,_,rfl,fun j hj=>by omega⟩ ?_
 rintro i env h hi ⟨x2,x3,x4,x5,x9,x10,x11,x12,x13,x14,x15,rfl,ht⟩
 by_cases hlt:i<t.length
 rotate_left
 ·have:i=t.length:=by omega
  subst this
  have:=hBt (zc0.2 ht)
  simp[this]
 have hup:=zg hlt (by omega)
 obtain⟨x,hx⟩:∃ x,x=t[i]:=⟨_,rfl⟩
 have hx2:t[i]? = some x:=by rw[hx];exact ae hlt
 have no:okB x=false->B=false:=fun h=>hBf fun h2=>by
  obtain⟨y,hy,ok,_⟩:=zc0.1 h2 i hlt
  rw[hx2] at hy;cases hy
  rw[zdn.2 ok] at h;cases h
 by_cases h1:wib x.kind 1 4=true
 rotate_left
 ·have h1:wib x.kind 1 4=false:=by simpa using h1
  have:=no (by unfold okB;rw[h1];rfl)
  simp[hlt,e368,<- hx,h1,this]
 by_cases h2:wib x.idx (-1) 4095=true
 rotate_left
 ·have h2:wib x.idx (-1) 4095=false:=by simpa using h2
  have:=no (by unfold okB;rw[h1,h2];rfl)
  simp[hlt,e368,<- hx,h1,h2,this]
 by_cases h3:wib x.amt (-1099511627776) 1099511627776=true
 rotate_left
 ·have h3:wib x.amt (-1099511627776) 1099511627776=false:=by simpa using h3
  have:=no (by unfold okB;rw[h1,h2,h3];rfl)
  simp[hlt,e368,<- hx,h1,h2,h3,this]
 by_cases h4:x.amt=0
 ·have:=no (by unfold okB;rw[h1,h2,h3,decide_eq_true h4];rfl)
  simp[hlt,e368,<- hx,h1,h2,h3,h4,this]
 have ok:okT x:=zdn.1 (by unfold okB;rw[h1,h2,h3,decide_eq_false h4];rfl)
 rcases bR i with h0 | h0
 ·subst h0
  simp[hlt,e368,<- hx,h1,h2,h3,h4]
  exact⟨rfl,x,hx2,ok,fun i y e=>by omega⟩
 ·have hw:aw.wrap ((i:Int) - 1)=((i - 1:Nat):Int):=by
   rw[z7 ⟨by omega,by omega⟩];omega
  have hlt':i - 1<t.length:=by omega
  obtain⟨y,hy⟩:∃ y,y=t[i - 1]:=⟨_,rfl⟩
  have hy2:t[i - 1]? = some y:=by rw[hy];exact ae hlt'
  have no2 : ¬ ltA y x->B=false:=fun h=>hBf fun h2=>by
   obtain⟨x',hx',_,o⟩:=zc0.1 h2 i hlt
   rw[hx2] at hx';cases hx'
   exact h (o (i - 1) y (by omega) hy2)
  have yes:ltA y x->∀ j,j<i+1->ycz t j:=fun h j hj=>by
   rcases bU j i with h5 | h5
   ·exact ht j h5
   ·have:j=i:=by omega
    subst this
    refine⟨x,hx2,ok,fun k z e hz=>?_⟩
    have:k=j - 1:=by omega
    subst this
    rw[hy2] at hz;cases hz;exact h
  by_cases ha:x.kind<y.kind
  ·have:=no2 (by unfold ltA;omega)
   simp[hlt,e368,<- hx,h1,h2,h3,h4,h0,hw,hlt',<- hy,ha,this]
  by_cases hb:y.kind=x.kind
  ·by_cases hc:x.idx<=y.idx
   ·have:=no2 (by unfold ltA;omega)
    simp[hlt,e368,<- hx,h1,h2,h3,h4,h0,hw,hlt',<- hy,ha,hb,hc,this]
   ·have:=yes (by unfold ltA;omega)
    simp[hlt,e368,<- hx,h1,h2,h3,h4,h0,hw,hlt',<- hy,ha,hb,hc,hup]
    exact this
  ·have:=yes (by unfold ltA;omega)
   simp[hlt,e368,<- hx,h1,h2,h3,h4,h0,hw,hlt',<- hy,ha,hb,hup]
   exact this

theorem r393(e x:Ent):yu E (dL E) 393 [y2j e.kind e.idx,y2j x.kind x.idx]=some (.bool (decide (ltA e x))):=by
 refine ze c393 (by simp) ?_
 conv in t393=>reduce;dsimp[ah]
 by_cases h1:e.kind<x.kind
 ·have:ltA e x:=.inl h1
  simp[t393,n393,h1,this]
 ·by_cases h2:e.kind=x.kind
  ·by_cases h3:e.idx<x.idx
   ·have:ltA e x:=.inr ⟨h2,h3⟩
    simp[t393,n393,h1,h2,h3,this]
   ·have : ¬ ltA e x:=by unfold ltA;omega
    simp[t393,n393,h1,h2,h3,this]
  ·have : ¬ ltA e x:=by unfold ltA;omega
   simp[t393,n393,h1,h2,this]

def fmAt(t:List Ent)(j:Nat):Prop:=∃ x,t[j]? = some x/\y51 x /\ ∀ i y,i+1=j->t[i]? = some y->ltA y x
theorem zpw{t:List Ent}:fmE t ↔ (2<=t.length/\t.length<=4096) /\ ∀ j,j<t.length->fmAt t j:=by
 constructor
 ·intro h
  refine⟨⟨h.two,h.most⟩,fun j hj=>⟨t[j],ae hj,h.ok _ (aC hj),fun i y e hy=>?_⟩⟩
  subst e
  obtain⟨h1,rfl⟩:=ac.1 hy
  exact h.ord i hj
 ·intro ⟨⟨h1,h2⟩,h⟩
  refine⟨h1,h2,fun x hx=>?_,fun i hi=>?_⟩
  ·obtain⟨j,hj⟩:=dJ.1 hx
   obtain⟨y,hy,ok,_⟩:=h j (ac.1 hj).1
   rw[hj] at hy;cases hy;exact ok
  ·obtain⟨y,hy,_,o⟩:=h (i+1) hi
   rw[ae hi] at hy
   cases hy
   exact o i _ rfl (ae (by omega))

open Classical in
theorem r378(t:List Ent)(hl:t.length<=1000000):yu E (dL E) 378 [.imm .none (t.map y11)]=some (.bool (decide (fmE t))):=by
 have e393:=r393
 obtain⟨B,hB⟩:∃ B,B=decide (fmE t):=⟨_,rfl⟩
 have hBf : ¬ fmE t->B=false:=fun h=>by rw[hB];simp[h]
 have hBt:fmE t->B=true:=fun h=>by rw[hB];simp[h]
 rw[<- hB]
 refine ze c378 (by simp) ?_
 conv in t378=>reduce;dsimp[ah]
 by_cases h2:t.length<2
 ·have h2':(t.length:Int)<2:=by omega
  have:=hBf fun h=>by have:=h.two;omega
  simp[t378,n378,h2',this]
 have h2' : ¬ (t.length:Int)<2:=by omega
 by_cases h4:4096<t.length
 ·have h4':(4096:Int)<t.length:=by omega
  have:=hBf fun h=>by have:=h.most;omega
  simp[t378,n378,h2',h4',this]
 have h4' : ¬ (4096:Int)<t.length:=by omega
 simp[t378,n378,h2',h4']
 refine zr t.length (fun i env h=>∃(x3 x4 x5 x6 x7 x8:D) ,env=[.imm .none (t.map y11),.bool false,dI i,x3,x4,x5,x6,x7,x8] /\ ∀ j,j<i->fmAt t j) 0 (by omega) ⟨_,_,_,_,_,_,rfl,fun j hj=>by omega⟩ ?_
 rintro i env h hi ⟨x3,x4,x5,x6,x7,x8,rfl,ht⟩
 by_cases hlt:i<t.length
 rotate_left
 ·have:i=t.length:=by omega
  subst this
  have:=hBt (zpw.2 ⟨⟨by omega,by omega⟩,ht⟩)
  simp[this]
 have hup:=zg hlt (by omega)
 obtain⟨x,hx⟩:∃ x,x=t[i]:=⟨_,rfl⟩
 have hx2:t[i]? = some x:=by rw[hx];exact ae hlt
 have no : ¬ y51 x->B=false:=fun h=>hBf fun h2=>by
  obtain⟨y,hy,ok,_⟩:=(zpw.1 h2).2 i hlt
  rw[hx2] at hy;cases hy
  exact h ok
 by_cases c1:x.kind<1
 ·have:=no fun h=>by have:=h.1;omega
  simp[hlt,<- hx,c1,this]
 by_cases c2:5<x.kind
 ·have:=no fun h=>by have:=h.1;omega
  simp[hlt,<- hx,c1,c2,this]
 by_cases c3:x.idx < -1
 ·have:=no fun h=>by have:=h.2.1;omega
  simp[hlt,<- hx,c1,c2,c3,this]
 by_cases c4:4095<x.idx
 ·have:=no fun h=>by have:=h.2.1;omega
  simp[hlt,<- hx,c1,c2,c3,c4,this]
 by_cases c5:x.amt=0
 ·have:=no fun h=>h.2.2.1 c5
  simp[hlt,<- hx,c1,c2,c3,c4,c5,this]
 by_cases c6:x.amt < -1099511627776
 ·have:=no fun h=>by have:=h.2.2.2;omega
  simp[hlt,<- hx,c1,c2,c3,c4,c5,c6,this]
 by_cases c7:1099511627776<x.amt
 ·have:=no fun h=>by have:=h.2.2.2;omega
  simp[hlt,<- hx,c1,c2,c3,c4,c5,c6,c7,this]
 have ok:y51 x:=⟨⟨by omega,by omega⟩,⟨by omega,by omega⟩,c5,by omega,by omega⟩
 rcases bR i with h0 | h0
 ·subst h0
  simp[hlt,<- hx,c1,c2,c3,c4,c5,c6,c7]
  exact⟨rfl,x,hx2,ok,fun i y e=>by omega⟩
 ·have hw:aw.wrap ((i:Int) - 1)=((i - 1:Nat):Int):=by
   rw[z7 ⟨by omega,by omega⟩];omega
  have hlt':i - 1<t.length:=by omega
  obtain⟨y,hy⟩:∃ y,y=t[i - 1]:=⟨_,rfl⟩
  have hy2:t[i - 1]? = some y:=by rw[hy];exact ae hlt'
  have no2 : ¬ ltA y x->B=false:=fun h=>hBf fun h2=>by
   obtain⟨x',hx',_,o⟩:=(zpw.1 h2).2 i hlt
   rw[hx2] at hx';cases hx'
   exact h (o (i - 1) y (by omega) hy2)
  have e393:=e393 y x
  by_cases hxy:ltA y x
  ·rw[decide_eq_true hxy] at e393
   simp[hlt,<- hx,c1,c2,c3,c4,c5,c6,c7,h0,hw,hlt',<- hy,e393,hup]
   intro j hj
   rcases bU j i with h5 | h5
   ·exact ht j h5
   ·have:j=i:=by omega
    subst this
    refine⟨x,hx2,ok,fun k z e hz=>?_⟩
    have:k=j - 1:=by omega
    subst this
    rw[hy2] at hz;cases hz;exact hxy
  ·rw[decide_eq_false hxy] at e393
   have:=no2 hxy
   simp[hlt,<- hx,c1,c2,c3,c4,c5,c6,c7,h0,hw,hlt',<- hy,e393,this]

theorem r379(t:List Ent)(h:fmE t):yu E (dL E) 379 [.imm .none (t.map y11)]=some (dI (y4g t)):=by
 refine ze c379 (by simp) ?_
 conv in t379=>reduce;dsimp[ah]
 have hm:=h.most
 obtain⟨S,hS⟩:∃ S,S=y4g t:=⟨_,rfl⟩
 rw[<- hS]
 simp[t379,n379]
 refine zr t.length (fun i env h=>∃(x4:D) (c:Int),env=[.imm .none (t.map y11),dI 0,dI c,dI i,x4]/\c+y4g (t.drop i)=S /\ -(1099511627776*(i:Int))<=c/\c<=1099511627776*(i:Int)) 0 (by omega) ⟨_,(0:Int),by rfl,by simp[hS],by simp,by simp⟩ ?_
 rintro i env hp hi ⟨x4,c,rfl,b1,b2,b3⟩
 by_cases hlt:i<t.length
 rotate_left
 ·have:i=t.length:=by omega
  subst this
  rw[bE] at b1
  have hc:c=S:=by simpa[y4g] using b1
  subst hc
  simp
 have hup:=zg hlt (by omega)
 obtain⟨x,hx⟩:∃ x,x=t[i]:=⟨_,rfl⟩
 have okx:=(h.ok x (by rw[hx];exact aC hlt)).2.2.2
 rw[zk hlt,<- hx] at b1
 simp only[y4g] at b1
 have hw:aw.wrap (c+x.amt)=c+x.amt:=z7 ⟨by omega,by omega⟩
 simp[hlt,<- hx,hup,hw]
 exact⟨_,_,⟨rfl,rfl⟩,by omega,by omega,by omega⟩

open Classical in
theorem yfb(p:Pst)(h32:p.prev.length=32)(hl:p.ents.length<=1000000):yu E (dL E) 358 [y3n p]=some (dI (y4a p)):=by
 have e378:=r378 p.ents hl
 have e379:=r379 p.ents
 refine ze c358 (by simp) ?_
 conv in t358=>reduce;dsimp[ah]
 obtain⟨X,hX⟩:∃ X,X=y4a p:=⟨_,rfl⟩
 have no : ¬ fmP p->X=410:=fun h=>by rw[hX];unfold y4a;rw[if_neg h]
 rw[<- hX]
 by_cases c1:p.no<0
 ·have:=no fun h=>by have:=h.no;omega
  simp[t358,n358,h32,c1,this]
 by_cases c2:65535<p.no
 ·have:=no fun h=>by have:=h.no;omega
  simp[t358,n358,h32,c1,c2,this]
 by_cases c3:p.minute<0
 ·have:=no fun h=>by have:=h.minute;omega
  simp[t358,n358,h32,c1,c2,c3,this]
 by_cases c4:1440<=p.minute
 ·have:=no fun h=>by have:=h.minute;omega
  simp[t358,n358,h32,c1,c2,c3,c4,this]
 by_cases c5:p.corrects < -1
 ·have:=no fun h=>by have:=h.corrects;omega
  simp[t358,n358,h32,c1,c2,c3,c4,c5,this]
 by_cases c6:p.no<=p.corrects
 ·have:=no fun h=>by have:=h.corrects;omega
  simp[t358,n358,h32,c1,c2,c3,c4,c5,c6,this]
 by_cases c7:fmE p.ents
 rotate_left
 ·have:=no fun h=>c7 h.ents
  rw[decide_eq_false c7] at e378
  simp[t358,n358,h32,c1,c2,c3,c4,c5,c6,zq,e378,this]
 have hg:fmP p:=⟨⟨by omega,by omega⟩,⟨by omega,by omega⟩,⟨by omega,by omega⟩,c7⟩
 have e379:=e379 c7
 rw[decide_eq_true c7] at e378
 by_cases c8:y4g p.ents=0
 ·have:X=0:=by rw[hX];exact z1t.2 ⟨hg,c8⟩
  simp[t358,n358,h32,c1,c2,c3,c4,c5,c6,zq,e378,e379,c8,this]
 ·have:X=411:=by rw[hX];unfold y4a;rw[if_pos hg,if_neg c8]
  simp[t358,n358,h32,c1,c2,c3,c4,c5,c6,zq,e378,e379,c8,this]

theorem r411(n:Int):yu E (dL E) 411 [dI n]=some (.agg [dI 1,dI n,.str [],.imm .none []]):=by
 refine ze c411 (by simp) ?_
 conv in t411=>reduce;dsimp[ah]
 have hst:∀ H n s,frz H (n+1) (.str s)=some (.str s):=fun _ _ _=>rfl
 simp[t411,n411,hst]

abbrev vI(n:Int):D:=.agg [dI 1,dI n,.str [],.imm .none []]
abbrev dE3(x:Ent):D:=.agg [dI 3,dI 0,.str [],.imm .exact [vI x.kind,vI x.idx,vI x.amt]]
theorem zv5{l:List Ent}:∀ x,x ∈ l.map dE3->x.storable=true/\x.cellsL.length=4:=fun x hx=>by
 obtain⟨s,_,rfl⟩:=aT.1 hx
 exact⟨rfl,rfl⟩
theorem yg8{h r:List Obj}{j:Nat}{sp:y13}{l:List Ent}{x:Ent}(hl:l.length<=1000000)(R:y2b h sp l.length 4)(hj:j<r.length) :
  y4u E (h++r) (h.length+j) 56 56 (.imm sp (l.map dE3)) (.imm .exact [dE3 x])=some (.imm (.tok (h.length+j)) ((l++[x]).map dE3),y1k sp h++r.set j (.tok ((l.length+1)*4) 4)):=by
 have e:=z4h (hp:=h++r) (id:=h.length+j) (t:=56) (e:=55) (sz:=4) (sp:=sp) (sp':=.exact) (els:=l.map dE3) (new:=[x].map dE3) rfl rfl (z5z zv5) ⟨by
  rw[ao,ao,show(E.ty 55).bytes=56 from rfl];simp[yg];omega,by decide,rfl,z98 zv5⟩ (by rw[ao];exact R.app)
 rw[ao,ao,zas R] at e
 have e2:y1y (y1k sp h++r) (h.length+j) (.tok ((l.length+[x].length)*4) 4)=y1k sp h++r.set j (.tok ((l.length+1)*4) 4):=by
  unfold y1y
  rw[if_pos (by rw[ak,z21];omega)]
  have:=z72 (hp:=y1k sp h) (r:=r) (k:=j) (x:=.tok ((l.length+1)*4) 4)
  rwa [z21] at this
 rw[e2,<- bm] at e
 exact e
theorem zzq{hp:List Obj}{n:Nat}{x:Ent}:frz hp (n+4) (dE3 x)=some (dV (y5b x)):=by
 have hs:∀ n s,frz hp (n+1) (.str s)=some (.str s):=fun _ _=>rfl
 have e:dV (y5b x)=.agg [dI 3,dI 0,.str [],.imm .none [vI x.kind,vI x.idx,vI x.amt]]:=by
  unfold y5b cL
  rw[z1n]
  simp only[av,aQ,zg9]
 rw[e]
 simp[hs]
theorem r391(p:Pst)(h32:p.prev.length=32)(hl:p.ents.length<=1000000):yu E (dL E) 391 [y3n p]=some (ybr p):=by
 have e358:=yfb p h32 hl
 unfold ybr
 have hil:=zdz h32
 refine ze c391 (by simp) ?_
 conv in t391=>reduce;dsimp[ah]
 by_cases hg:y4a p=0
 rotate_left
 ·rw[if_neg hg]
  simp[t391,n391,h32,↓hil,zq,z8,e358,hg]
 rw[if_pos hg]
 rw[hg] at e358
 have g1:=(z1t.1 hg).fm
 have hln:p.ents.length<=4096:=g1.ents.most
 have e411:=r411
 simp[t391,n391,h32,↓hil,zq,z8,e358]
 refine zr p.ents.length (fun i env h=>∃(x0 x4 x7 x8 x9 x10 x11 x12 x13:D) (sp:y13),env=[x0,.iptr (pC p),.imm .exact [],dI 0,x4,.imm sp ((p.ents.take i).map dE3),dI i,x7,x8,x9,x10,x11,x12,x13]/\y2b h sp i 4) 0 (by omega) ⟨_,_,_,_,_,_,_,_,_,.exact,by rfl,.inl rfl⟩ ?_
 rintro i env h hi ⟨x0,x4,x7,x8,x9,x10,x11,x12,x13,sp,rfl,R⟩
 by_cases hlt:i<p.ents.length
 ·have hup:=zg hlt (by omega)
  have htl:(p.ents.take i).length=i:=by rw[aI];omega
  obtain⟨x,hx⟩:∃ x,x=p.ents[i]:=⟨_,rfl⟩
  have hsp:p.ents.take (i+1)=p.ents.take i++[x]:=by rw[aH hlt,hx]
  have R':y2b (h++[.cells [dI x.kind,dI x.idx,dI x.amt]]) sp (p.ents.take i).length 4:=by rw[htl];exact R.app
  have ap:=yg8 (x:=x) (r:=af 17 .dead) (j:=15) (by rw[htl];omega) R' (by simp)
  have hR:y2b (y1k sp (h++[.cells [dI x.kind,dI x.idx,dI x.amt]])++(af 17 Obj.dead).set 15 (.tok ((i+1)*4) 4)) (.tok ((h++[Obj.cells [dI x.kind,dI x.idx,dI x.amt]]).length+15)) (i+1) 4:=z4c (j:=15) rfl
  rw[<- hsp,htl] at ap
  generalize p.ents.take (i+1)=L1 at *
  generalize p.ents.take i=L0 at *
  generalize y1k sp (h++[.cells [dI x.kind,dI x.idx,dI x.amt]])++(af 17 Obj.dead).set 15 (.tok ((i+1)*4) 4)=G at *
  rw[a8,ak] at ap
  rw[ak] at hR
  simp only[af,aA,ba,Nat.zero_add,aO,bh,dE3] at ap hR
  simp[hlt,<- hx,hup,e411,-z14,-zu,ap]
  repeat apply ge
  exact⟨by and_intros <;> rfl,hR⟩
 have:i=p.ents.length:=by omega
 subst this
 rw[aS]
 have hsl:=z4a h32
 have e270:=r270 (zfz (ze0 g1) hl h32)
 have hb:y62 p=enc (y9b p):=rfl
 rw[hb]
 rw[zva,zg9,zg9,zg9] at e270
 have hE:∀ hp,y1p (frz hp 8) (p.ents.map dE3)=some (p.ents.map fun x=>dV (y5b x)):=fun hp=>ze3 fun x _=>zzq
 have hst:∀ H n s,frz H (n+1) (.str s)=some (.str s):=fun _ _ _=>rfl
 generalize enc (y9b p)=O at *
 generalize p.ents.map dE3=EE at *
 generalize (p.ents.map fun x=>dV (y5b x))=FF at *
 simp[e411,hsl,z9d,h32,hE,hst,e270,z8]
 try trace_state

theorem r376:yu E (dL E) 376 []=some (y4w (y3g tgB)):=by
 have e:=yf8 y4f [] (by decide) (by simp)
 have hl:(y3g tgB).length=32:=y3q (l:=[])
 have e:yu E (dL E) 390 [.str [112,111,115,116,105,110,103,115],.imm .none []]=some (y4w (y3g tgB)):=e
 refine ze c376 (by simp) ?_
 conv in t376=>reduce;dsimp[ah]
 generalize y3g tgB=U at e hl ⊢
 have hz:z32.map ya=af 32 (D.int .u8 0):=by unfold z32;rw[bS];rfl
 have hsc2:setCells (z32.map ya) 0 (U.map ya)=U.map ya:=zh (by rw[ao,ao,hl];rfl)
 rw[hz] at hsc2
 simp only[af] at hsc2
 have hld:∀ r:List Obj,yo E (.cells (U.map ya)::r) 73 (.loc 0 0)=some (.agg (U.map ya)):=fun r=>z34 rfl hl
 have hst:∀ H n s,frz H (n+1) (.str s)=some (.str s):=fun _ _ _=>rfl
 simp[t376,n376,e,hl,hst,↓hsc2,↓hld,z8]

theorem zx8{d:List UInt8}(hd:d.length=32):y5j E 73 (.iptr (d.map ya))=some (.agg (d.map ya)):=by
 have e:=z1x 32 0 (d.map ya) (by simp[hd])
 unfold y5j
 simp only[show(E.ty 73).size=32 from rfl,e]
 rfl
theorem zx0{h:List Obj}{d:List UInt8}(hd:d.length=32):yo E h 73 (.iptr (d.map ya))=some (.agg (d.map ya)):=by
 have e:=z1x 32 0 (d.map ya) (by simp[hd])
 unfold yo
 simp only[show(E.ty 73).size=32 from rfl,e]
 rfl

theorem r377(d:List UInt8)(p:Pst)(hd:d.length=32)(h32:p.prev.length=32)(hl:p.ents.length<=1000000)(hc:y4a p=0):yu E (dL E) 377 [y4w d,y3n p]=some (y4w (y6z tgB d p)):=by
 have e391:=r391 p h32 hl
 unfold ybr at e391
 rw[if_pos hc] at e391
 have hgp:=z1t.1 hc
 have hen:(y62 p).length<=900000000:=by
  have:=ze8 (ze0 hgp.fm) hl (by omega)
  omega
 have e390:=yf8 y2a (y62 p) (by decide) hen
 have hT32:(tgB y2a (y62 p)).length=32:=z1o
 have e392:=r392 d (tgB y2a (y62 p)) hd hT32
 have hN:tgB [99,104,97,105,110] (d++tgB y2a (y62 p))=y6z tgB d p:=rfl
 rw[hN] at e392
 have e390:yu E (dL E) 390 [.str [112,111,115,116,105,110,103],dBy (y62 p)]=some (y4w (tgB y2a (y62 p))):=e390
 have hN32:(y6z tgB d p).length=32:=z1o
 have ild:=zdz h32
 have ild2:=zx8 hd
 have hst:∀ H n s,frz H (n+1) (.str s)=some (.str s):=fun _ _ _=>rfl
 generalize tgB y2a (y62 p)=Tp at e390 e392 hT32 hN ⊢
 generalize y6z tgB d p=N at e392 hN32 ⊢
 generalize y62 p=O at *
 refine ze c377 (by simp) ?_
 conv in t377=>reduce;dsimp[ah]
 have hz:z32.map ya=af 32 (D.int .u8 0):=by unfold z32;rw[bS];rfl
 have hsc2:setCells (z32.map ya) 0 (N.map ya)=N.map ya:=zh (by rw[ao,ao,hN32];rfl)
 rw[hz] at hsc2
 simp only[af] at hsc2
 have hld:∀ r:List Obj,yo E (.cells (N.map ya)::r) 73 (.loc 0 0)=some (.agg (N.map ya)):=fun r=>z34 rfl hN32
 simp[t377,n377,hd,h32,hT32,hN32,↓ild,ild2,-z6o,zq,z8,e391,hst,e390,e392,↓hsc2,↓hld]
 try trace_state

theorem yc3(l:List Pst)(ok:y5m l):yu E (dL E) 360 [yy l]=some (dI (rdE tgB l)):=by
 have e376:=r376
 obtain⟨hl,hp⟩:=ok
 refine ze c360 (by simp) ?_
 conv in t360=>reduce;dsimp[ah]
 obtain⟨X,hX⟩:∃ X,X=rdE tgB l:=⟨_,rfl⟩
 rw[<- hX]
 by_cases hlen:65536<l.length
 ·have hE:X=2:=by rw[hX];unfold rdE;rw[if_pos hlen]
  have hln:(65536:Int)<l.length:=by omega
  simp[t360,n360,hln,hE]
 have hln : ¬ (65536:Int)<l.length:=by omega
 simp[t360,n360,hln]
 refine zr l.length (fun i env h=>∃(x3 x4 x5 x6 x7 x8 x9 x10:D) ,env=[yy l,dI 0,dI i,x3,x4,x5,x6,x7,x8,x9,x10]/\h=[]/\y2q (l.take i)=0) 0 (by omega) ⟨_,_,_,_,_,_,_,_,rfl,rfl,rfl⟩ ?_
 rintro i env h hi ⟨x3,x4,x5,x6,x7,x8,x9,x10,rfl,rfl,F⟩
 by_cases hlt:i<l.length
 ·obtain⟨p,hpi⟩:∃ p,p=l[i]:=⟨_,rfl⟩
  have hp2:=hp p (by rw[hpi];exact aC hlt)
  have e358:=yfb p hp2.1 hp2.2
  have hup:=zg hlt (by omega)
  have q1:=fun h:List Obj=>zft (h:=h) hp2.1
  by_cases hpc:y4a p=0
  ·rw[hpc] at e358
   have hF:=zjr hlt F (by rw[<- hpi];exact hpc)
   simp[hlt,hup,<- hpi,hp2.1,↓q1,zq,z8,e358]
   exact hF
  ·have hf:=zg3 hlt F (by rw[<- hpi];exact hpc)
   rw[<- hpi] at hf
   have hE:X=y4a p:=by rw[hX];unfold rdE;rw[if_neg hlen,if_pos (by rw[hf];exact hpc),hf]
   simp[hlt,hup,<- hpi,hp2.1,↓q1,zq,z8,e358,hpc,hE]
 have:i=l.length:=by omega
 subst this
 rw[aS] at F
 have hTl:(y3g tgB).length=32:=y3q (l:=[])
 have hd0:y3g tgB=y40 tgB (l.take 0):=by rw[fD];rfl
 generalize y3g tgB=d0 at e376 hTl hd0
 have hsc2:setCells (z32.map ya) 0 (d0.map ya)=d0.map ya:=zh (by rw[ao,ao,hTl];rfl)
 have hz:z32.map ya=af 32 (D.int .u8 0):=by unfold z32;rw[bS];rfl
 rw[hz] at hsc2
 simp only[af] at hsc2
 simp[e376,hTl,↓hsc2]
 refine zr l.length (fun i env h'=>∃(x2 x3 x6 x7 x8 x9 x10:D) ,env=[yy l,dI 0,x2,x3,.loc 0 0,dI i,x6,x7,x8,x9,x10]/\Bys h' 0 (y40 tgB (l.take i)) /\ ∀ j p,j<i->l[j]? = some p->atP tgB l j p) 0 (by omega) ⟨_,_,_,_,_,_,_,rfl,by rw[<- hd0];rfl,fun j p hj=>absurd hj (by omega)⟩ ?_
 clear hlt hi
 clear x3 x4 x5 x6 x7 x8 x9 x10
 rintro i env h hi ⟨x2,x3,x6,x7,x8,x9,x10,rfl,BC,V⟩
 by_cases hlt:i<l.length
 rotate_left
 ·have:i=l.length:=by omega
  subst this
  have hv:vld tgB l:=⟨by omega,fun p hp=>z2p.1 F p hp,fun i p hi=>V i p (ac.1 hi).1 hi⟩
  have hE:X=0:=by rw[hX];exact z17.2 hv
  simp[hE]
 obtain⟨p,hpi⟩:∃ p,p=l[i]:=⟨_,rfl⟩
 have hp2:=hp p (by rw[hpi];exact aC hlt)
 have hgp:gdP p:=z2p.1 F p (by rw[hpi];exact aC hlt)
 have hup:=zg hlt (by omega)
 have hli:l[i]? = some p:=by rw[hpi];simp[hlt]
 have q1:=fun h:List Obj=>zft (h:=h) hp2.1
 have q4:=fun h:List Obj=>zx0 (h:=h) hp2.1
 obtain⟨Z,hZ⟩:∃ Z,Z=y40 tgB (l.take i):=⟨_,rfl⟩
 rw[<- hZ] at BC
 have hZ32:Z.length=32:=by rw[hZ];exact y3q
 have y1:∀ r:List Obj,yo E (h++r) 73 (.loc 0 0)=some (.agg (Z.map ya)):=fun r=>z7y BC.app hZ32
 have y1':∀ r r2:List Obj,yo E (h++r++r2) 73 (.loc 0 0)=some (.agg (Z.map ya)):=fun r r2=>by rw[a8];exact y1 _
 have y2:∀ r:List Obj,(h++r)[0]? = some (.cells (Z.map ya)):=fun r=>BC.app
 have y3:=zdr hp2.1 hZ32
 have e377:=r377 Z p hZ32 hp2.1 hp2.2 (z1t.2 hgp)
 have hN:y6z tgB Z p=y40 tgB (l.take (i+1)):=by rw[zba hlt,<- hZ,<- hpi]
 rw[hN] at e377
 have hN32:=y3q (l:=l.take (i+1))
 obtain⟨N,hNe⟩:∃ N,N=y40 tgB (l.take (i+1)):=⟨_,rfl⟩
 rw[<- hNe] at e377 hN32
 have y5:setCells (Z.map ya) 0 (N.map ya)=N.map ya:=zh (by rw[ao,ao,hZ32,hN32])
 have h0l:=At.lt BC
 have y6:∀ r:List Obj,(h++r).set 0 (.cells (N.map ya))=h.set 0 (.cells (N.map ya))++r:=fun r=>z1p h0l
 have fin:∀ r:List Obj,Bys (h.set 0 (.cells (N.map ya))++r) 0 (y40 tgB (l.take (i+1)))/\(p.no=i->p.prev=Z->(∀ q,0<i->l[i - 1]? = some q->q.minute<=p.minute)->∀ j p,j<i+1->l[j]? = some p->atP tgB l j p):=by
  intro r
  refine⟨by rw[<- hNe];exact(At.self h0l).app,fun h1 h2 h3 j p' hj hp'=>?_⟩
  by_cases hji:j<i
  ·exact V j p' hji hp'
  ·have:j=i:=by omega
   subst this
   rw[hli] at hp'
   cases hp'
   exact⟨h1,by rw[h2,hZ],fun k q hk hq=>h3 q (by omega) (by rw[show j - 1=k from by omega];exact hq)⟩
 have bad:(¬ p.no=i\/(∃ q,l[i - 1]? = some q/\0<i/\p.minute<q.minute) \/ ¬ p.prev=Z)->X=410:=by
  intro hb
  have hv : ¬ vld tgB l:=by
   intro v
   have a:=v.2.2 i p hli
   rcases hb with h1 | ⟨q,h1,h2,h3⟩ | h1
   ·exact h1 a.no
   ·have:=a.minute (i - 1) q (by omega) h1
    omega
   ·exact h1 (by rw[hZ];exact a.prev)
  rw[hX];unfold rdE;rw[if_neg hlen,if_neg (by simp[F]),if_neg hv]
 have hw1:0<i->aw.wrap ((i:Int) - 1)=((i - 1:Nat):Int):=fun h0=>by
  rw[z7 ⟨by omega,by omega⟩];omega
 by_cases hno:p.no=(i:Int)
 rotate_left
 ·have hE:=bad (.inl hno)
  simp[hlt,<- hpi,hp2.1,↓q1,↓q4,↓y1,y3,hno,hE]
 have hno':=eq_true hno
 by_cases hpv:p.prev=Z
 ·have hpv':=eq_true hpv
  rcases bR i with h0 | h0
  ·have h0' : ¬ 0<i:=by omega
   simp[h0',hlt,<- hpi,hp2.1,↓q1,↓q4,↓y1,↓y1',-zl,y3,hno',hpv',hup,zq,z8,e377,hZ32,hN32,y5,↓y2,↓y6]
   exact⟨(fin _).1,(fin []).2 hno hpv fun q' h0 _=>absurd h0 h0'⟩
  ·obtain⟨q,hq⟩:∃ q,l[i - 1]? = some q:=⟨_,ae (by omega)⟩
   have hq32:q.prev.length=32:=(hp q (aX hq)).1
   by_cases hm:p.minute<q.minute
   ·have hE:=bad (.inr (.inl ⟨q,hq,h0,hm⟩))
    simp[hlt,<- hpi,hp2.1,↓q1,↓q4,↓y1,y3,hno',h0,hw1 h0,hq,hq32,hm,hE]
   ·simp[hlt,<- hpi,hp2.1,↓q1,↓q4,↓y1,y3,hno',h0,hw1 h0,hq,hq32,hm,-zl,↓y1',hpv',hup,zq,z8,e377,hZ32,hN32,y5,↓y2,↓y6]
    exact⟨(fin _).1,(fin []).2 hno hpv fun q' _ hq'=>by rw[hq] at hq';cases hq';omega⟩
 ·have hE:=bad (.inr (.inr hpv))
  rcases bR i with h0 | h0
  ·have h0' : ¬ 0<i:=by omega
   simp[h0',hlt,<- hpi,hp2.1,↓q1,↓q4,↓y1,y3,hno',hpv,hE]
  ·obtain⟨q,hq⟩:∃ q,l[i - 1]? = some q:=⟨_,ae (by omega)⟩
   have hq32:q.prev.length=32:=(hp q (aX hq)).1
   by_cases hm:p.minute<q.minute
   ·simp[hlt,<- hpi,hp2.1,↓q1,↓q4,↓y1,y3,hno',h0,hw1 h0,hq,hq32,hm,hE]
   ·simp[hlt,<- hpi,hp2.1,↓q1,↓q4,↓y1,y3,hno',h0,hw1 h0,hq,hq32,hm,hpv,hE]

theorem r357(l:List Pst)(ok:y5m l):yu E (dL E) 357 [yy l]=some (rdD l):=by
 have e360:=yc3 l ok
 have e376:=r376
 obtain⟨hl,hp⟩:=ok
 have hz:z32.map ya=af 32 (D.int .u8 0):=by unfold z32;rw[bS];rfl
 have z5:z32.length=32:=rfl
 unfold rdD
 by_cases h0:rdE tgB l=0
 rotate_left
 ·rw[if_neg h0]
  have z3:setCells (z32.map ya) 0 (z32.map ya)=z32.map ya:=zh rfl
  have hzz:y4w z32=.agg (af 32 (D.int .u8 0)):=by show D.agg _=_;rw[hz]
  rw[hz] at z3
  rw[hzz]
  have hld:∀ r:List Obj,yo E (.cells (z32.map ya)::r) 73 (.loc 0 0)=some (.agg (z32.map ya)):=fun r=>z34 rfl z5
  have fz:∀ hp n,y1p (frz hp (n+1)) (z32.map ya)=some (z32.map ya):=fun _ _=>z8
  rw[hz] at hld fz
  refine ze c357 (by simp) ?_
  conv in t357=>reduce;dsimp[ah]
  simp only[af] at z3 hld fz ⊢
  simp[t357,n357,e360,za,h0,↓z3,↓hld,fz]
 rw[if_pos h0,h0]
 rw[h0] at e360
 have v:=z17.1 h0
 have hlen:=v.1
 have hTl:(y3g tgB).length=32:=y3q (l:=[])
 have hd0:y3g tgB=y40 tgB (l.take 0):=by rw[fD];rfl
 generalize y3g tgB=d0 at e376 hTl hd0
 have hsc2:setCells (z32.map ya) 0 (d0.map ya)=d0.map ya:=zh (by rw[ao,ao,hTl];rfl)
 rw[hz] at hsc2
 simp only[af] at hsc2
 refine ze c357 (by simp) ?_
 conv in t357=>reduce;dsimp[ah]
 simp[t357,n357,e360,za,e376,hTl,↓hsc2]
 refine zr l.length (fun i env h'=>∃(x3 x6 x7:D) ,env=[yy l,.loc 0 0,dI 0,x3,.loc 1 0,dI i,x6,x7]/\Bys h' 0 z32/\Bys h' 1 (y40 tgB (l.take i))) 0 (by omega) ⟨_,_,_,rfl,rfl,by rw[<- hd0];rfl⟩ ?_
 rintro i env h hi ⟨x3,x6,x7,rfl,B0,BC⟩
 by_cases hlt:i<l.length
 ·obtain⟨p,hpi⟩:∃ p,p=l[i]:=⟨_,rfl⟩
  have hpm:p ∈ l:=by rw[hpi];exact aC hlt
  have hp2:=hp p hpm
  have hup:=zg hlt (by omega)
  have q1:=fun h:List Obj=>zft (h:=h) hp2.1
  obtain⟨Z,hZ⟩:∃ Z,Z=y40 tgB (l.take i):=⟨_,rfl⟩
  rw[<- hZ] at BC
  have hZ32:Z.length=32:=by rw[hZ];exact y3q
  have y1:∀ r:List Obj,yo E (h++r) 73 (.loc 1 0)=some (.agg (Z.map ya)):=fun r=>z7y BC.app hZ32
  have y2:∀ r:List Obj,(h++r)[1]? = some (.cells (Z.map ya)):=fun r=>BC.app
  have e377:=r377 Z p hZ32 hp2.1 hp2.2 (z1t.2 (v.2.1 p hpm))
  have hN:y6z tgB Z p=y40 tgB (l.take (i+1)):=by rw[zba hlt,<- hZ,<- hpi]
  rw[hN] at e377
  have hN32:=y3q (l:=l.take (i+1))
  obtain⟨N,hNe⟩:∃ N,N=y40 tgB (l.take (i+1)):=⟨_,rfl⟩
  rw[<- hNe] at e377 hN32 ⊢
  have y5:setCells (Z.map ya) 0 (N.map ya)=N.map ya:=zh (by rw[ao,ao,hZ32,hN32])
  have h1l:=At.lt BC
  have y6:∀ r:List Obj,(h++r).set 1 (.cells (N.map ya))=h.set 1 (.cells (N.map ya))++r:=fun r=>z1p h1l
  simp[hlt,<- hpi,hp2.1,↓q1,↓y1,-zl,hup,zq,z8,e377,hZ32,hN32,y5,↓y2,↓y6]
  exact⟨(B0.ne (by decide)).app,(At.self h1l).app⟩
 have:i=l.length:=by omega
 subst this
 rw[aS] at BC
 have y1:=z7y BC y3q
 have z2:h[0]? = some (.cells (z32.map ya)):=B0
 have y4:setCells (z32.map ya) 0 ((y40 tgB l).map ya)=(y40 tgB l).map ya:=zh (by rw[ao,ao,y3q];rfl)
 have y5:Bys (h.set 0 (.cells ((y40 tgB l).map ya))) 0 (y40 tgB l):=At.self (At.lt B0)
 have y6:=z34 y5 y3q
 have d32:=y3q (l:=l)
 simp[y1,z2,y4,↓y6,d32,z5,z8]

theorem zjo{l:List Pst}(h:∀ p,p ∈ l->p.prev.length=32):∀ x,x ∈ l.map y3n->x.storable=true/\x.cellsL.length=36:=fun x hx=>by
 obtain⟨p,hp,rfl⟩:=aT.1 hx
 exact⟨zuv,zcb (h p hp)⟩
theorem zr5{hp:List Obj}{id:Nat}{sp sp':y13}{l m:List Pst}(hl:l.length+m.length<=1000000)(h1:∀ p,p ∈ l->p.prev.length=32)(h2:∀ p,p ∈ m->p.prev.length=32)(R:y2b hp sp l.length 36) :
  y4u E hp id 70 70 (.imm sp (l.map y3n)) (.imm sp' (m.map y3n))=some (.imm (.tok id) (l.map y3n++m.map y3n),y1y (y1k sp hp) id (.tok ((l.length+m.length)*36) 36)):=by
 have:=z4h (hp:=hp) (id:=id) (t:=70) (e:=71) (sz:=36) (sp:=sp) (sp':=sp') (els:=l.map y3n) (new:=m.map y3n) rfl rfl (z5z (zjo h2)) ⟨by
  rw[ao,ao,show(E.ty 71).bytes=80 from rfl];simp[yg];omega,by decide,rfl,z98 (zjo h1)⟩ (by rw[ao];exact R)
 rw[ao,ao] at this
 exact this

theorem r317(l:List Pst)(s:Stp)(h:y5m l)(hs:s.ents.length<=900000)(hl9:l.length<=900000):yu E (dL E) 317 [yy l,dI s.minute,dI s.corrects,.imm .none (s.ents.map y11)]=some (poD l s):=by
 have e357:=r357 l h
 unfold rdD at e357
 obtain⟨d,hd⟩:∃ d,d=(if rdE tgB l=0 then y40 tgB l else z32):=⟨_,rfl⟩
 have h32:d.length=32:=by rw[hd];split;exact y3q;rfl
 rw[<- hd] at e357
 have hsc:=zh (a:=af 32 (D.int .u8 0)) (vs:=d.map ya) (by simp[h32])
 simp only[af] at hsc
 unfold poD
 by_cases h0:rdE tgB l=0
 rotate_left
 ·have hE:y2z tgB l s=rdE tgB l:=by unfold y2z;rw[if_pos h0]
  rw[hE,if_neg h0]
  refine ze c317 (by simp) ?_
  conv in t317=>reduce;dsimp[ah]
  simp[t317,n317,e357,za,h32,hsc,h0]
 have v:=z17.1 h0
 rw[if_pos h0] at hd
 have hl:l.length<=65536:=v.1
 rw[h0] at e357
 by_cases hmax:l.length=65536
 ·have hm:(65536:Int)<=l.length:=by omega
  have hE:y2z tgB l s=2:=by unfold y2z;rw[if_neg (by simp[h0]),if_pos hmax]
  rw[hE,if_neg (by decide)]
  refine ze c317 (by simp) ?_
  conv in t317=>reduce;dsimp[ah]
  simp[t317,n317,e357,za,h32,hsc,hm]
 have hm : ¬ (65536:Int)<=l.length:=by omega
 have hw1:0<l.length->aw.wrap ((l.length:Int) - 1)=((l.length - 1:Nat):Int):=fun h0=>by
  rw[z7 ⟨by omega,by omega⟩];omega
 obtain⟨p,hp⟩:∃ p:Pst,p=y72 tgB l s:=⟨_,rfl⟩
 have hp2:p=⟨l.length,s.minute,s.corrects,s.ents,d⟩:=by rw[hp,hd];rfl
 have p32:p.prev.length=32:=by rw[hp2];exact h32
 have hpE:(∀ q,l.getLast? = some q -> ¬ s.minute<q.minute)->y2z tgB l s=y4a p:=fun hq=>by
  rw[hp];exact zac v (by omega) fun q h=>by have:=hq q h;omega
 have q4:setCells (dI (l.length:Int)::dI s.minute::dI s.corrects :: .imm .none (s.ents.map y11)::af 32 (D.int .u8 0)) 4 (d.map ya)=pC p:=by
  rw[hp2];exact stP (p:=⟨l.length,s.minute,s.corrects,s.ents,d⟩) h32
 have q2:∀(x:Obj) (r:List Obj),yo E (x :: .cells (pC p)::r) 71 (.loc 1 0)=some (y3n p):=fun x r=>zsm (h:=[x]) (r:=r) p32
 have q3:∀(vs:List D),vs.length=36->setCells vs 0 (pC p)=pC p:=fun vs hv=>zh (by rw[zcb p32,hv])
 have q5:setCells (dI 0::dI 0::dI 0 :: .imm .exact []::af 32 (D.int .u8 0)) 0 (pC p)=pC p:=q3 _ (by simp)
 simp only[af] at q4 q5
 have hld:∀ r:List Obj,yo E (.cells (d.map ya)::r) 73 (.loc 0 0)=some (.agg (d.map ya)):=fun r=>z34 (m:=d) (by simp[Bys,At]) h32
 have e358:=yfb p p32 (by rw[hp2];simp only;omega)
 have hpl:=zcb p32
 have hpa:∀ x,x ∈ pC p->x.atom=true:=zz1
 have q6:=stP p32
 simp only[af] at q6
 have hl32:∀ q,q ∈ l->q.prev.length=32:=fun q hq=>(h.2 q hq).1
 have a1:∀ hp id,y4u E hp id 70 70 (.imm .exact []) (yy l)=some (.imm (.tok id) (l.map y3n),y1y hp id (.tok (l.length*36) 36)):=fun hp id=>by
  have:=zr5 (hp:=hp) (id:=id) (sp:=.exact) (sp':=.none) (l:=[]) (m:=l) (by simp;omega) (by simp) hl32 (.inl rfl)
  simpa[y1k] using this
 have a2:∀ hp id k,hp[k]? = some (.tok (l.length*36) 36)->y4u E hp id 70 70 (.imm (.tok k) (l.map y3n)) (.imm .exact [y3n p])=some (.imm (.tok id) ((l++[p]).map y3n),y1y (hp.set k .dead) id (.tok ((l.length+1)*36) 36)):=fun hp id k hk=>by
  have:=zr5 (hp:=hp) (id:=id) (sp:=.tok k) (sp':=.exact) (l:=l) (m:=[p]) (by simp;omega) hl32 (by simp[p32]) (.inr ⟨k,rfl,hk⟩)
  rw[<- bm] at this
  exact this
 obtain⟨P,hP⟩:∃ P,P=l++[p]:=⟨_,rfl⟩
 rw[<- hP] at a2
 rw[<- hp,<- hP]
 refine ze c317 (by simp) ?_
 conv in t317=>reduce;dsimp[ah]
 have key:∀ X,X=y4a p->True:=fun _ _=>trivial
 by_cases hbad:∃ q,l.getLast? = some q/\s.minute<q.minute
 ·obtain⟨q,hql,hmn⟩:=hbad
  have hE:y2z tgB l s=410:=by unfold y2z;rw[if_neg (by simp[h0]),if_neg hmax,if_pos ⟨q,hql,hmn⟩]
  rw[hE,if_neg (by decide)]
  have h1:0<l.length:=by
   rcases bR l.length with h1 | h1
   ·have:=bB.1 h1;subst this;simp at hql
   ·exact h1
  have hq:l[l.length - 1]? = some q:=by rw[<- hql,dO]
  have hq32:=hl32 q (aX hq)
  by_cases h410:y4a p=410
  ·rw[h410] at e358
   simp[t317,n317,e357,za,h32,hsc,hm,-zl,hld,↓q4,↓q5,↓q6,p32,q2,zq,z8,e358]
  ·simp[t317,n317,e357,za,h32,hsc,hm,-zl,hld,↓q4,↓q5,↓q6,p32,q2,zq,z8,e358,h410,h1,hw1 h1,hq,hq32,hmn]
 have hE:=hpE fun q h1 h2=>hbad ⟨q,h1,h2⟩
 rw[hE]
 by_cases h410:y4a p=410
 ·rw[h410,if_neg (by decide)]
  rw[h410] at e358
  simp[t317,n317,e357,za,h32,hsc,hm,-zl,hld,↓q4,↓q5,↓q6,p32,q2,zq,z8,e358]
 have hmid:(0<l.length /\ ∃ q,l[l.length - 1]? = some q/\q.prev.length=32 /\ ¬ s.minute<q.minute) \/ ¬ 0<l.length:=by
  rcases bR l.length with h1 | h1
  ·exact .inr (by omega)
  ·refine .inl ⟨h1,l[l.length - 1],ae (by omega),hl32 _ (aC _),fun hm=>hbad ⟨_,?_,hm⟩⟩
   rw[dO,ae (by omega)]
 by_cases hz:y4a p=0
 ·rw[hz] at e358 ⊢
  rw[if_pos rfl]
  rcases hmid with⟨h1,q,hq,hq32,hmn⟩ | h1
  ·simp[t317,n317,e357,za,h32,hsc,hm,-zl,hld,↓q4,↓q5,↓q6,p32,q2,zq,z8,e358,h1,hw1 h1,hq,hq32,hmn,-zu,-z14,a1,a2]
   try trace_state
  ·have h1' : ¬ (0:Int)<l.length:=by omega
   simp[t317,n317,e357,za,h32,hsc,hm,-zl,hld,↓q4,↓q5,↓q6,p32,q2,zq,z8,e358,h1,h1',-zu,-z14,a1,a2]
   try trace_state
 ·rw[if_neg hz]
  rcases hmid with⟨h1,q,hq,hq32,hmn⟩ | h1
  ·simp[t317,n317,e357,za,h32,hsc,hm,-zl,hld,↓q4,↓q5,↓q6,p32,q2,zq,z8,e358,h1,hw1 h1,hq,hq32,hmn,h410,hz]
  ·have h1' : ¬ (0:Int)<l.length:=by omega
   simp[t317,n317,e357,za,h32,hsc,hm,-zl,hld,↓q4,↓q5,↓q6,p32,q2,zq,z8,e358,h1,h1',h410,hz]

theorem zw{hp:List Obj}{n:Nat}{l:List Ent}:y1p (frz hp (n+2)) (l.map y11)=some (l.map y11):=z1e fun _ _=>rfl
noncomputable def boD(l:List Pst)(m:Int)(t:List Ent):D:=.tup [yy (boL tgB l m t),dI (boE tgB l m t)]

def bdE(x:Ent):Prop:=-1099511627776<=x.amt/\x.amt<=1099511627776
theorem z9m{L r F:List Ent}{x:Ent}(hF:∀ x,x ∈ F->bdE x)(hl:F.length<=2000000)(e:L++x::r=F):aw.wrap (y2t (x.kind,x.idx) (y1l L [])+x.amt)=y2t (x.kind,x.idx) (y1l L [])+x.amt:=by
 have h1:=z6g (k:=x.kind) (i:=x.idx) (l:=L) (m:=[])
 have h2:=zk7 (k:=x.kind) (i:=x.idx) (l:=L) (B:=1099511627776) (fun y hy=>hF y (by rw[<- e];simp[hy])) (by omega)
 have h3:=hF x (by rw[<- e];simp)
 have h4:L.length<=2000000:=by
  have:=congrArg cJ e
  rw[ak] at this;omega
 rw[h1]
 unfold bdE at h3
 have h5:y2t (x.kind,x.idx) []=0:=rfl
 rw[h5]
 rw[z7 ⟨by omega,by omega⟩]
theorem z9v{L r F:List Ent}{x:Ent}(e:L++x::r=F):(L++[x])++r=F/\y81 (x.kind,x.idx) (y2t (x.kind,x.idx) (y1l L [])+x.amt) (y1l L [])=y1l (L++[x]) []:=by
 refine⟨by rw[<- e];simp,?_⟩
 rw[zd9];rfl
theorem zj3{x:Ent}{l:List Ent}:low (x::l)=if x.kind<=4 then x::low l else low l:=by
 unfold low;rw[fL];by_cases h:x.kind<=4 <;> simp[h]
theorem zah(a b:List Ent):y4o (a++b)=y4o a++y4o b:=bm ..
theorem zfo(x:Ent)(a:List Ent):y4o (x::a)=y7h x::y4o a:=rfl
theorem zi8{l:List Pst}{t:List Ent}(v:vld tgB l)(ht:tgt t):∀ x,x ∈ t++y4o (low (y49 l))->bdE x:=by
 intro x hx
 rcases aN.1 hx with hx | hx
 ·exact(ht.1 x hx).2.2.1
 ·obtain⟨y,hy,rfl⟩:=aT.1 hx
  have hy:=(List.mem_filter.1 hy).1
  obtain⟨p,hp,hy⟩:=List.mem_flatMap.1 hy
  have:=((v.2.1 p hp).fm.ents.ok y hy).2.2
  unfold bdE y7h
  simp only
  omega
theorem zjh{l:List Pst}{t:List Ent}:(t++y4o (low (y49 l))).length<=t.length+y3t l:=by
 have h2:(low (y49 l)).length<=(y49 l).length:=eJ ..
 rw[zej] at h2
 rw[ak,zj0];omega

theorem yd3(l:List Pst)(m:Int)(t:List Ent)(ok:y5m l)(hN:t.length+y3t l<=1000000):yu E (dL E) 345 [yy l,dI m,.imm .none (t.map y11)]=some (boD l m t):=by
 have e324:=yc5 l ok
 have e375:=r375 t (by omega)
 refine ze c345 (by simp) ?_
 conv in t345=>reduce;dsimp[ah]
 unfold boD
 by_cases h0:rdE tgB l=0
 rotate_left
 ·have hE:boE tgB l m t=rdE tgB l:=by unfold boE;rw[if_pos h0]
  have hL:boL tgB l m t=[]:=by unfold boL;rw[if_neg (by rw[hE];exact h0)]
  rw[hE,hL]
  simp[t345,n345,za,zw,e324,h0]
 have v:=z17.1 h0
 rw[h0] at e324
 by_cases ht:tgt t
 rotate_left
 ·have hE:boE tgB l m t=430:=by unfold boE;rw[if_neg (by simp[h0]),if_pos ht]
  have hL:boL tgB l m t=[]:=by unfold boL;rw[if_neg (by rw[hE];decide)]
  rw[hE,hL]
  simp[t345,n345,za,zw,e324,e375,ht]
 have hl:=ok.1
 obtain⟨F,hF⟩:∃ F,F=t++y4o (low (y49 l)):=⟨_,rfl⟩
 have hFb:∀ x,x ∈ F->bdE x:=by rw[hF];exact zi8 v ht
 have hFl:F.length<=1000000:=by rw[hF];have:=zjh (l:=l) (t:=t);omega
 have hbk:bkN l t=y7g F:=by rw[hF];rfl
 obtain⟨X,hX⟩:∃ X,X=D.tup [yy (boL tgB l m t),dI (boE tgB l m t)]:=⟨_,rfl⟩
 rw[<- hX]
 simp[t345,n345,za,zw,e324,e375,ht]
 refine zr t.length (fun i env h=>∃(x3 x4 x6 x7 x8 x9 x10 x11 x12 x16 x17 x18 x19 x20 x21 x22 x23 x24 x25 x26 x27 x28 x29 x30 x31 x32 x33:D) (L:List Ent),env=[yy l,dI m,.imm .none (t.map y11),x3,x4,.map (some 0),x6,x7,x8,x9,x10,x11,x12,.imm .none (t.map y11),dI t.length,dI i,x16,x17,x18,x19,x20,x21,x22,x23,x24,x25,x26,x27,x28,x29,x30,x31,x32,x33]/\At h 0 (.map (y5o (y1l L [])))/\L++(t.drop i++y4o (low (y49 l)))=F) 0 (by omega) ⟨_,_,_,_,_,_,_,_,_,_,_,_,_,_,_,_,_,_,_,_,_,_,_,_,_,_,_,[],rfl,rfl,by rw[hF];simp⟩ ?_
 rintro i env h hi ⟨x3,x4,x6,x7,x8,x9,x10,x11,x12,x16,x17,x18,x19,x20,x21,x22,x23,x24,x25,x26,x27,x28,x29,x30,x31,x32,x33,L,rfl,A,hLF⟩
 by_cases hlt:i<t.length
 ·have hup:=zg hlt (by omega)
  obtain⟨x,hx⟩:∃ x,x=t[i]:=⟨_,rfl⟩
  rw[zk hlt,aO,<- hx] at hLF
  have hw:=z9m hFb (by omega) hLF
  obtain⟨hs1,hs2⟩:=z9v hLF
  have y1:=fun r:List Obj=>yd6 (a:=x.kind) (b:=x.idx) (A.app (r:=r))
  have y2:=fun(r:List Obj) (n:Int)=>yfj (a:=x.kind) (b:=x.idx) (n:=n) (A.app (r:=r))
  simp[hlt,<- hx,-z1v,-z33,y1,y2,hw,hs2,hup]
  exact⟨L++[x],At.self (A.app.lt),hs1⟩
 ·have:i=t.length:=by omega
  subst this
  rw[bE,bh] at hLF
  simp
  refine zr l.length (fun j env h=>∃(x3 x4 x6 x7 x8 x9 x10 x11 x12 x13 x14 x15 x16 x17 x18 x22 x23 x24 x25 x26 x27 x28 x29 x30 x31 x32 x33:D) (L:List Ent),env=[yy l,dI m,.imm .none (t.map y11),x3,x4,.map (some 0),x6,x7,x8,x9,x10,x11,x12,x13,x14,x15,x16,x17,x18,yy l,dI l.length,dI j,x22,x23,x24,x25,x26,x27,x28,x29,x30,x31,x32,x33]/\At h 0 (.map (y5o (y1l L [])))/\L++y4o (low (y49 (l.drop j)))=F) 0 (by omega) ⟨_,_,_,_,_,_,_,_,_,_,_,_,_,_,_,_,_,_,_,_,_,_,_,_,_,_,_,L,rfl,A,by rw[<- hLF];rfl⟩ ?_
  clear A hLF
  clear L h x3 x4 x6 x7 x8 x9 x10 x11 x12 x16 x17 x18 x19 x20 x21 x22 x23 x24 x25 x26 x27 x28 x29 x30 x31 x32 x33
  rintro j env h hj ⟨x3,x4,x6,x7,x8,x9,x10,x11,x12,x13,x14,x15,x16,x17,x18,x22,x23,x24,x25,x26,x27,x28,x29,x30,x31,x32,x33,L,rfl,A,hLF⟩
  by_cases hlt:j<l.length
  rotate_left
  ·have:j=l.length:=by omega
   subst this
   rw[bE] at hLF
   have hLF:L=F:=by rw[<- hLF];simp[y49,low,y4o]
   subst hLF
   have hm:(y1l L []).length<=1000000:=by
    have:=z5t (l:=L) (m:=[]);simp at this;omega
   obtain⟨d,hp',e,sp,rfl⟩:=s370 A hm
   have hbk2:bkN l t=y9z (y1l L []):=hbk
   have hbl:=zi7 (l:=l) (t:=t)
   rw[<- hbk2] at e
   by_cases hb:bkN l t=[]
   ·rw[hb] at e
    have b:Bok tgB l m t:=⟨v,ht,fun h=>absurd hb h⟩
    have hE:boE tgB l m t=0:=z65.2 b
    have hL:boL tgB l m t=l:=by rw[zbg b,if_pos hb]
    rw[hE,hL] at hX
    simp[e,y16,hX,za]
   ·have e316:=r316 l (bkS l m t) ok (by unfold bkS;simp only;omega)
    have hw:aw.wrap ((l.length:Int) - 1)=(l.length:Int) - 1:=z7 ⟨by omega,by omega⟩
    have hE:boE tgB l m t=y2z tgB l (bkS l m t):=by
     unfold boE;rw[if_neg (by simp[h0]),if_neg (by simp[ht]),if_neg hb]
    have hL:boL tgB l m t=if y2z tgB l (bkS l m t)=0 then l++[y72 tgB l (bkS l m t)] else[]:=by
     unfold boL;rw[hE,if_neg hb]
    have hX2:X=poD l (bkS l m t):=by rw[hX,hE,hL];rfl
    have e316':yu E (dL E) 316 [yy l,dI m,dI ((l.length:Int) - 1),.imm .none ((bkN l t).map y11)]=some X:=by rw[hX2];exact e316
    have hn : ¬ (((bkN l t).length:Int)=0):=by
     have:=List.length_pos_iff.2 hb;omega
    obtain⟨P,hP⟩:∃ P,P=boL tgB l m t:=⟨_,rfl⟩
    obtain⟨Q,hQ⟩:∃ Q,Q=boE tgB l m t:=⟨_,rfl⟩
    rw[<- hP,<- hQ] at hX
    subst hX
    simp[e,y16,za,zw,hb,hw,e316']
  have hup:=zg hlt (by omega)
  obtain⟨p,hpi⟩:∃ p,p=l[j]:=⟨_,rfl⟩
  have hp2:=ok.2 p (by rw[hpi];exact aC hlt)
  obtain⟨R,hR⟩:∃ R,R=y4o (low (y49 (l.drop (j+1)))):=⟨_,rfl⟩
  rw[zk hlt,<- hpi,show y49 (p::l.drop (j+1))=p.ents++y49 (l.drop (j+1)) from rfl,zch,zah,<- hR] at hLF
  have q1:=fun h:List Obj=>zft (h:=h) hp2.1
  have q3:=stP hp2.1
  simp only[af] at q3
  have hA1:At (h++[.cells (pC p)]) h.length (.cells (pC p)):=by simp[At]
  have A2:=A.app (r:=[.cells (pC p)])
  have y1:=yfp hA1
  simp[hlt,<- hpi,hp2.1,-zl,q1,↓q3,y1]
  generalize h++[Obj.cells (pC p)]=H0 at A2 hA1
  generalize h.length=C at hA1
  have hel:=hp2.2
  refine zr p.ents.length (fun i env h=>∃(x3 x4 x6 x7 x8 x9 x10 x11 x12 x13 x14 x15 x16 x17 x18 x22 x23 x27 x28 x29 x30 x31 x32 x33:D) (L:List Ent),env=[yy l,dI m,.imm .none (t.map y11),x3,x4,.map (some 0),x6,x7,x8,x9,x10,x11,x12,x13,x14,x15,x16,x17,x18,yy l,dI l.length,dI j,x22,x23,.imm .none (p.ents.map y11),dI p.ents.length,dI i,x27,x28,x29,x30,x31,x32,x33]/\At h 0 (.map (y5o (y1l L [])))/\L++(y4o (low (p.ents.drop i))++R)=F) 0 (by omega) ⟨_,_,_,_,_,_,_,_,_,_,_,_,_,_,_,_,_,_,_,_,_,_,_,_,L,rfl,A2,hLF⟩ ?_
  clear A A2 hLF y1 hA1 q1 q3
  clear L h x3 x4 x6 x7 x8 x9 x10 x11 x12 x13 x14 x15 x16 x17 x18 x22 x23 x24 x25 x26 x27 x28 x29 x30 x31 x32 x33
  rintro i env h hi ⟨x3,x4,x6,x7,x8,x9,x10,x11,x12,x13,x14,x15,x16,x17,x18,x22,x23,x27,x28,x29,x30,x31,x32,x33,L,rfl,A,hLF⟩
  by_cases hlt2:i<p.ents.length
  rotate_left
  ·have:i=p.ents.length:=by omega
   subst this
   rw[bE] at hLF
   have hLF:L++R=F:=by rw[<- hLF];simp[low,y4o]
   simp[hlt,hup]
   exact⟨L,A,by rw[<- hR];exact hLF⟩
  have hup2:=zg hlt2 (by omega)
  obtain⟨x,hx⟩:∃ x,x=p.ents[i]:=⟨_,rfl⟩
  rw[zk hlt2,zj3,<- hx] at hLF
  have y1:=fun r:List Obj=>yd6 (a:=x.kind) (b:=x.idx) (A.app (r:=r))
  have y2:=fun(r:List Obj) (n:Int)=>yfj (a:=x.kind) (b:=x.idx) (n:=n) (A.app (r:=r))
  by_cases hk:x.kind<=4
  ·rw[if_pos hk,zfo,aO] at hLF
   have hw:=z9m hFb (by omega) hLF
   obtain⟨hs1,hs2⟩:=z9v hLF
   have hw:aw.wrap (y2t (x.kind,x.idx) (y1l L []) - x.amt)=y2t (x.kind,x.idx) (y1l L []) - x.amt:=hw
   have hs2:y81 (x.kind,x.idx) (y2t (x.kind,x.idx) (y1l L []) - x.amt) (y1l L [])=y1l (L++[y7h x]) []:=hs2
   simp[hlt2,<- hx,-z1v,-z33,y1,y2,hw,hs2,hup2,hk]
   exact⟨L++[y7h x],At.self (A.app.lt),hs1⟩
  ·rw[if_neg hk] at hLF
   simp[hlt2,<- hx,-z1v,-z33,hup2,hk]
   exact⟨L,A.app,hLF⟩

theorem zzu{a b:List UInt8}(ha:a.length=32)(hb:b.length=32):y2l E .eql 73 (.agg (a.map ya)) (.agg (b.map ya))=some (.bool (decide (a=b))):=by
 have h1:(E.ty 73).eqc=true:=rfl
 have h2:(E.ty 73).zero=af a.length (D.int .u8 0):=by rw[ha];rfl
 unfold y2l
 simp only[]
 rw[if_pos ⟨h1,by rw[h2];exact z6n⟩,zb9 (by rw[ha,hb])]
theorem okn:y5m []:=⟨by simp,by simp⟩

end Dv

namespace Dv

theorem znn{x:D}{c:Nat}(h:y65 E c x)(hk:(E.ty c).k=.int .i64):∃ n,x=dI n/\i64 n:=by
 have ha:(E.ty c).ag=false:=by unfold TI.ag;rw[hk]
 obtain⟨n,h3,ho⟩:=z9t (z9r h ha) hk
 simp only[List.cons.injEq,and_true] at h3
 exact⟨n,h3,ho⟩

end Dv

namespace Dv
attribute [local simp] af depth y2x y6l y31 y2f y6k y3b y3p y1y Ret
attribute [local congr] z2r z2v z20 z1l z1d z24 z1c


def okE(e:Ent):Prop:=i64 e.kind/\i64 e.idx/\i64 e.amt
theorem two{A:Type}{l:List A}(h:l.length=2):∃ a b,l=[a,b]:=by
 match l,h with
 |[a,b],_=>exact⟨a,b,rfl⟩
theorem zqj{ds:List D}(h:DTc E 65 ds):∃ k i,ds=[dI k,dI i]/\i64 k/\i64 i:=by
 obtain⟨hl,hf⟩:=z9s h (fs:=[(0,2),(1,2)]) rfl
 obtain⟨x,y,rfl⟩:=two hl
 obtain⟨a,h2,o2⟩:=z9t (hf 0 _ rfl) rfl
 obtain⟨b,h3,o3⟩:=z9t (hf 1 _ rfl) rfl
 simp[E,ya3] at h2 h3
 subst h2 h3
 exact⟨a,b,rfl,o2,o3⟩
theorem zuq{x:D}(h:y65 E 72 x):∃ e,x=y11 e/\okE e:=by
 obtain⟨ds,rfl,h1⟩:=zeq h rfl
 obtain⟨hl,hf⟩:=z9s h1 (fs:=[(0,65),(2,2)]) rfl
 obtain⟨x,y,z,rfl⟩:=yey hl
 obtain⟨a,b,h2,o1,o2⟩:=zqj (hf 0 _ rfl)
 obtain⟨c,h3,o3⟩:=z9t (hf 1 _ rfl) rfl
 simp[E,ya3] at h2 h3
 obtain⟨rfl,rfl⟩:=h2
 subst h3
 exact⟨⟨a,b,c⟩,rfl,o1,o2,o3⟩

theorem z9j{l:List Pst}:(y6n l).length<=y3t l:=by
 unfold y6n
 exact Nat.le_trans z5o (by rw[z31,z9i];exact ai _)

theorem zz5{a b:Ent}:y2l E .neq 72 (y11 a) (y11 b)=some (.bool (!decide (a=b))):=by
 obtain⟨a1,a2,a3⟩:=a
 obtain⟨b1,b2,b3⟩:=b
 have e:(decide ((⟨a1,a2,a3⟩:Ent)=⟨b1,b2,b3⟩))=(a1 == b1 && (a2 == b2 && a3 == b3)):=by
  by_cases h1:a1=b1 <;> by_cases h2:a2=b2 <;> by_cases h3:a3=b3 <;> simp[h1,h2,h3]
 rw[e]
 simp[y2l,E,ya3,y1r,eqL,y20]
theorem zcs{A:Type}{a b:List A}(hl:a.length=b.length)(h:∀ i,∀ h:i<a.length,a[i]=b[i]'(by omega)):a=b:=
 List.ext_getElem hl fun i h1 _=>h i h1

theorem yc4(a b:List Ent)(ha:a.length<=1000000)(hb:b.length<=1000000):yu E (dL E) 342 [.imm .none (a.map y11),.imm .none (b.map y11)]=some (.bool (decide (a=b))):=by
 refine ze c342 (by simp) ?_
 conv in t342=>reduce;dsimp[ah]
 by_cases hl:a.length=b.length
 rotate_left
 ·have h1 : ¬ (a.length:Int)=b.length:=by omega
  have h2 : ¬ a=b:=fun h=>hl (by rw[h])
  simp[t342,n342,h1,h2]
 have h1:(a.length:Int)=b.length:=by omega
 obtain⟨B,hB⟩:∃ B,B=decide (a=b):=⟨_,rfl⟩
 rw[<- hB]
 simp[t342,n342,h1]
 refine zr a.length (fun i env h=>∃(x4 x5 x6:D) ,env=[.imm .none (a.map y11),.imm .none (b.map y11),.bool false,dI i,x4,x5,x6] /\ ∀ j,(hj:j<a.length)->j<i->a[j]=b[j]'(by omega)) 0 (by omega) ⟨_,_,_,rfl,fun _ _ h=>absurd h (by omega)⟩ ?_
 rintro i env h hi ⟨x4,x5,x6,rfl,F⟩
 by_cases hlt:i<a.length
 rotate_left
 ·have hge : ¬ (i:Int)<a.length:=by omega
  have:i=a.length:=by omega
  have hB2:B=true:=by
   rw[hB,decide_eq_true_eq]
   exact zcs hl fun j hj=>F j hj (by omega)
  simp[hge,hB2,this]
 have hup:=zg hlt (by omega)
 have hlt2:i<b.length:=by omega
 obtain⟨x,hx⟩:∃ x,x=a[i]:=⟨_,rfl⟩
 obtain⟨y,hy⟩:∃ y,y=b[i]:=⟨_,rfl⟩
 have n1:=zz5 (a:=x) (b:=y)
 have l72:∀(h:List Obj) (x:Ent),yo E h 72 (.iptr [dI x.kind,dI x.idx,dI x.amt])=some (y11 x):=fun _ _=>rfl
 by_cases hxy:x=y
 ·have hd:decide (x=y)=true:=by simpa using hxy
  rw[hd] at n1
  simp[hlt,hlt2,<- hx,<- hy,hup,n1,l72,-zz,-zbj]
  intro j hj hji
  by_cases hje:j<i
  ·exact F j hj hje
  ·have:j=i:=by omega
   subst this
   rw[<- hx,<- hy];exact hxy
 ·have hd:decide (x=y)=false:=by simpa using hxy
  rw[hd] at n1
  have hB2:B=false:=by
   rw[hB,decide_eq_false_iff_not]
   intro h
   subst h
   exact hxy (by rw[hx,hy])
  simp[hlt,hlt2,<- hx,<- hy,hup,n1,l72,hB2,-zz,-zbj]


def y60(l:List Pst):Bool:=l.all (fun p=>decide (p.ents.length<=40)) && decide (l.length<=20)
theorem zjs:∀{l:List Pst},(∀ p,p ∈ l->p.ents.length<=40)->y3t l<=40*l.length
 |[],_=>by simp[y3t]
 |p::l,h=>by
  have:=zjs (l:=l) fun q hq=>h q (by simp[hq])
  have:=h p (by simp)
  simp only[y3t,aA];omega
theorem z7q{l:List Pst}:y60 l=true ↔ (∀ p,p ∈ l->p.ents.length<=40)/\l.length<=20:=by
 unfold y60;simp
theorem zq1{l:List Pst}(h:y60 l=true):y3t l<=800:=by
 obtain⟨h1,h2⟩:=z7q.1 h
 have:=zjs h1;omega
theorem zjt{l:List Pst}(h:y60 l=true)(h32:∀ p,p ∈ l->p.prev.length=32):y5m l:=by
 obtain⟨h1,h2⟩:=z7q.1 h
 exact⟨by omega,fun p hp=>⟨h32 p hp,by have:=h1 p hp;omega⟩⟩
theorem yan{h:List Obj}{es r:List D}:yo E h 66 (.iptr (.imm .none es::r))=some (.imm .none es):=rfl
theorem il2{h:List Obj}{a:Int}{r:List D}:yo E h 2 (.iptr (dI a::r))=some (dI a):=rfl
theorem il73{h:List Obj}{p:Pst}(hp:p.prev.length=32):yo E h 73 (.iptr (p.prev.map ya))=some (y4w p.prev):=by
 have e:=z1x 32 0 (p.prev.map ya) (by simp[hp])
 unfold yo
 simp only[show(E.ty 73).size=32 from rfl,e]
 rfl

theorem r344(l:List Pst)(hl:l.length<=9223372036854775807)(h32:∀ p,p ∈ l->p.prev.length=32):yu E (dL E) 344 [yy l]=some (.bool (y60 l)):=by
 refine ze c344 (by simp) ?_
 conv in t344=>reduce;dsimp[ah]
 obtain⟨B,hB⟩:∃ B,B=y60 l:=⟨_,rfl⟩
 rw[<- hB]
 simp[t344,n344]
 refine zr l.length (fun i env h=>∃(x3 x4:D) ,env=[yy l,.bool false,dI i,x3,x4] /\ ∀ p,p ∈ l.take i->p.ents.length<=40) 0 (by omega) ⟨_,_,rfl,by simp⟩ ?_
 rintro i env h hi ⟨x3,x4,rfl,F⟩
 by_cases hlt:i<l.length
 rotate_left
 ·have:i=l.length:=by omega
  subst this
  rw[aS] at F
  have hB2:B=decide (l.length<=20):=by
   rw[hB];unfold y60
   rw[aD.2 (by simpa using F)];rfl
  simp[hB2]
  omega
 have hup:aw.wrap ((i:Int)+1)=(i:Int)+1:=z7 ⟨by omega,by omega⟩
 obtain⟨p,hp⟩:∃ p,p=l[i]:=⟨_,rfl⟩
 have ho:=h32 p (by rw[hp];exact aC hlt)
 by_cases h40:p.ents.length<=40
 ·have h41 : ¬ (40:Int)<p.ents.length:=by omega
  simp[hlt,<- hp,ho,hup,yan,-zz,h41]
  intro q hq
  rw[aH hlt,<- hp] at hq
  rcases aN.1 hq with hq | hq
  ·exact F q hq
  ·simp at hq;rw[hq];exact h40
 ·have h41:(40:Int)<p.ents.length:=by omega
  have hB2:B=false:=by
   rw[hB,<- Bool.not_eq_true,z7q]
   exact fun h=>h40 (h.1 p (by rw[hp];exact aC hlt))
  simp[hlt,<- hp,ho,hup,yan,-zz,h41,hB2]

theorem r346(a b:List Pst)(ha:y5m a)(hb:y5m b):yu E (dL E) 346 [yy a,yy b]=some (.bool (decide (a=b))):=by
 refine ze c346 (by simp) ?_
 conv in t346=>reduce;dsimp[ah]
 obtain⟨ha1,ha2⟩:=ha
 obtain⟨hb1,hb2⟩:=hb
 by_cases hl:a.length=b.length
 rotate_left
 ·have h1 : ¬ (a.length:Int)=b.length:=by omega
  have h2 : ¬ a=b:=fun h=>hl (by rw[h])
  simp[t346,n346,h1,h2]
 have h1:(a.length:Int)=b.length:=by omega
 obtain⟨B,hB⟩:∃ B,B=decide (a=b):=⟨_,rfl⟩
 rw[<- hB]
 simp[t346,n346,h1]
 refine zr a.length (fun i env h=>∃(x4 x5 x6:D) ,env=[yy a,yy b,.bool false,dI i,x4,x5,x6] /\ ∀ j,(hj:j<a.length)->j<i->a[j]=b[j]'(by omega)) 0 (by omega) ⟨_,_,_,rfl,fun _ _ h=>absurd h (by omega)⟩ ?_
 rintro i env h hi ⟨x4,x5,x6,rfl,F⟩
 by_cases hlt:i<a.length
 rotate_left
 ·have hge : ¬ (i:Int)<a.length:=by omega
  have:i=a.length:=by omega
  have hB2:B=true:=by
   rw[hB,decide_eq_true_eq]
   exact zcs hl fun j hj=>F j hj (by omega)
  simp[hge,hB2,this]
 have hup:=zg hlt (by omega)
 have hlt2:i<b.length:=by omega
 obtain⟨x,hx⟩:∃ x,x=a[i]:=⟨_,rfl⟩
 obtain⟨y,hy⟩:∃ y,y=b[i]:=⟨_,rfl⟩
 have px:=ha2 x (by rw[hx];exact aC hlt)
 have py:=hb2 y (by rw[hy];exact aC hlt2)
 have n1:=yc4 x.ents y.ents px.2 py.2
 have q1:=fun h:List Obj=>il73 (h:=h) px.1
 have q2:=fun h:List Obj=>il73 (h:=h) py.1
 have eqd:=zzu px.1 py.1
 have no : ¬ x=y->B=false:=fun h=>by
  rw[hB,decide_eq_false_iff_not]
  intro h2
  subst h2
  exact h (by rw[hx,hy])
 have hpq:(x=y) ↔ ((((x.no=y.no/\x.minute=y.minute)/\x.corrects=y.corrects)/\x.prev=y.prev)/\x.ents=y.ents):=by
  clear n1 q1 q2 eqd no hx hy px py
  obtain⟨a,b,c,d,e⟩:=x
  obtain⟨a',b',c',d',e'⟩:=y
  simp only[Pst.mk.injEq]
  constructor
  ·rintro⟨rfl,rfl,rfl,rfl,rfl⟩;exact⟨⟨⟨⟨rfl,rfl⟩,rfl⟩,rfl⟩,rfl⟩
  ·rintro⟨⟨⟨⟨rfl,rfl⟩,rfl⟩,rfl⟩,rfl⟩;exact⟨rfl,rfl,rfl,rfl,rfl⟩
 by_cases h2:x.no=y.no
 rotate_left
 ·have hB2:=no fun h=>h2 (by rw[h])
  simp[hlt,hlt2,<- hx,<- hy,px.1,py.1,il2,yan,↓q1,↓q2,-zz,h2,hB2]
 by_cases h3:x.minute=y.minute
 rotate_left
 ·have hB2:=no fun h=>h3 (by rw[h])
  simp[hlt,hlt2,<- hx,<- hy,px.1,py.1,il2,yan,↓q1,↓q2,-zz,h2,h3,hB2]
 by_cases h4:x.corrects=y.corrects
 rotate_left
 ·have hB2:=no fun h=>h4 (by rw[h])
  simp[hlt,hlt2,<- hx,<- hy,px.1,py.1,il2,yan,↓q1,↓q2,-zz,h2,h3,h4,hB2]
 by_cases h5:x.prev=y.prev
 rotate_left
 ·have hB2:=no fun h=>h5 (by rw[h])
  rw[decide_eq_false h5] at eqd
  have ned:y2l E .neq 73 (y4w x.prev) (y4w y.prev)=some (.bool true):=by
   have:=zdr px.1 py.1
   rwa [decide_eq_false h5] at this
  simp[hlt,hlt2,<- hx,<- hy,px.1,py.1,il2,yan,↓q1,↓q2,-zz,h2,h3,h4,ned,hB2]
 have ned:y2l E .neq 73 (y4w y.prev) (y4w y.prev)=some (.bool false):=by
  have:=zdr py.1 py.1
  rwa [decide_eq_true rfl] at this
 rw[h5] at q1
 by_cases h6:x.ents=y.ents
 ·have hxy:x=y:=hpq.2 ⟨⟨⟨⟨h2,h3⟩,h4⟩,h5⟩,h6⟩
  rw[decide_eq_true h6] at n1
  rw[h6] at n1
  simp[hlt,hlt2,<- hx,<- hy,px.1,py.1,il2,yan,↓q1,↓q2,-zz,h2,h3,h4,h5,h6,ned,zq,n1,hup]
  intro j hj hji
  by_cases hje:j<i
  ·exact F j hj hje
  ·have:j=i:=by omega
   subst this
   rw[<- hx,<- hy];exact hxy
 ·have hB2:=no fun h=>h6 (by rw[h])
  rw[decide_eq_false h6] at n1
  simp[hlt,hlt2,<- hx,<- hy,px.1,py.1,il2,yan,↓q1,↓q2,-zz,h2,h3,h4,h5,ned,zq,n1,hup,hB2]

theorem zqy{k i m:Int}{p:Pst}{l:List Pst}:y4t k i m (p::l)=(if p.minute<=m then yr k i p.ents else 0)+y4t k i m l:=rfl
theorem r319(l:List Pst)(ok:y5m l)(hN:y3t l<=1000000)(k i m:Int):yu E (dL E) 319 [yy l,y2j k i,dI m]=some (blD l k i m):=by
 have e360:=yc3 l ok
 unfold blD
 obtain⟨B,hB⟩:∃ B,B=y4t k i m l:=⟨_,rfl⟩
 rw[<- hB]
 refine ze c319 (by simp) ?_
 conv in t319=>reduce;dsimp[ah]
 by_cases h0:rdE tgB l=0
 rotate_left
 ·rw[if_neg h0]
  simp[t319,n319,za,e360,h0]
 have v:=z17.1 h0
 rw[h0] at e360 ⊢
 rw[if_pos rfl]
 have hl:=ok.1
 simp[t319,n319,za,e360]
 refine zr l.length (fun j env h=>∃(x6 x9 x10 x11 x12 x13:D) (c:Int) (N:Nat),env=[yy l,y2j k i,dI m,.iptr [dI k,dI i],dI 0,dI 0,x6,dI c,dI j,x9,x10,x11,x12,x13]/\c+y4t k i m (l.drop j)=B/\N+y3t (l.drop j)<=1000000 /\ -(1099511627776*(N:Int))<=c/\c<=1099511627776*(N:Int)) 0 (by omega) ⟨_,_,_,_,_,_, (0:Int),0,by rfl,by simp[hB],by simpa using hN,by simp,by simp⟩ ?_
 rintro j env h hj ⟨x6,x9,x10,x11,x12,x13,c,N,rfl,b1,b2,b3,b4⟩
 by_cases hltj:j<l.length
 rotate_left
 ·have:j=l.length:=by omega
  subst this
  rw[bE] at b1
  have hc:c=B:=by simpa[y4t] using b1
  subst hc
  simp
 have hupj:=zg hltj (by omega)
 obtain⟨p,hp⟩:∃ p,p=l[j]:=⟨_,rfl⟩
 have hpm:p ∈ l:=by rw[hp];exact aC hltj
 have hp2:=ok.2 p hpm
 have g:=v.2.1 p hpm
 rw[zk hltj,<- hp,zqy] at b1
 rw[zk hltj,<- hp] at b2
 simp only[y3t] at b2
 obtain⟨R,hR⟩:∃ R,R=y4t k i m (l.drop (j+1)):=⟨_,rfl⟩
 rw[<- hR] at b1
 simp[hltj]
 refine zr p.ents.length (fun e env h=>∃(x6 x10 x11 x12 x13:D) (c:Int) (N:Nat),env=[yy l,y2j k i,dI m,.iptr [dI k,dI i],dI 0,dI 0,x6,dI c,dI j,dI e,x10,x11,x12,x13]/\c+((if p.minute<=m then yr k i (p.ents.drop e) else 0)+R)=B/\N+(p.ents.length - e)+y3t (l.drop (j+1))<=1000000 /\ -(1099511627776*(N:Int))<=c/\c<=1099511627776*(N:Int)) 0 (by omega) ⟨_,_,_,_,_, c,N,by rfl,by simpa using b1,by omega,b3,b4⟩ ?_
 clear b1 b2 b3 b4
 clear h c N x6 x9 x10 x11 x12 x13
 rintro e env h he ⟨x6,x10,x11,x12,x13,c,N,rfl,b1,b2,b3,b4⟩
 by_cases hlt:e<p.ents.length
 rotate_left
 ·have:e=p.ents.length:=by omega
  subst this
  rw[bE] at b1
  have hc:c+R=B:=by
   have:(if p.minute<=m then yr k i ([]:List Ent) else 0)=0:=by simp[yr]
   rw[this] at b1;omega
  simp[hltj,<- hp,hp2.1,hupj]
  exact⟨_,_,_,_,_,_,c,⟨rfl,rfl,rfl,rfl,rfl,rfl,rfl⟩,by rw[<- hR];exact hc,N,by omega,b3,b4⟩
 have hup:=zg hlt (by omega)
 obtain⟨x,hx⟩:∃ x,x=p.ents[e]:=⟨_,rfl⟩
 have okx:=(g.fm.ents.ok x (by rw[hx];exact aC hlt)).2.2.2
 rw[zk hlt,<- hx] at b1
 simp only[yr] at b1
 have eqa:=zju (a:=(x.kind,x.idx)) (b:=(k,i))
 simp only[au] at eqa
 by_cases hm:p.minute<=m
 rotate_left
 ·rw[if_neg hm] at b1
  simp[hltj,hlt,<- hp,<- hx,hp2.1,hup,hm]
  exact⟨_,_,_,_,_,c,⟨rfl,rfl,rfl,rfl,rfl,rfl⟩,by omega,N+1,by omega,by omega,by omega⟩
 rw[if_pos hm] at b1
 by_cases ha:x.kind=k/\x.idx=i
 ·rw[decide_eq_true ha] at eqa
  rw[if_pos ha] at b1
  have hw:aw.wrap (c+x.amt)=c+x.amt:=z7 ⟨by omega,by omega⟩
  simp[hltj,hlt,<- hp,<- hx,hp2.1,hup,hm,eqa,-z3x,hw]
  exact⟨_,_,_,_,_,c+x.amt,⟨rfl,rfl,rfl,rfl,rfl,rfl⟩,by omega,N+1,by omega,by omega,by omega⟩
 ·rw[decide_eq_false ha] at eqa
  rw[if_neg ha] at b1
  simp[hltj,hlt,<- hp,<- hx,hp2.1,hup,hm,eqa,-z3x]
  exact⟨_,_,_,_,_,c,⟨rfl,rfl,rfl,rfl,rfl,rfl⟩,by omega,N+1,by omega,by omega,by omega⟩

def stF(l:List Pst)(k m:Int)(as:List Key):List Ent:=(as.filter fun a=>decide (a.1=k)).map fun a=>⟨a.1,a.2,y4t a.1 a.2 m l⟩
theorem zir{l:List Pst}{k m:Int}{as:List Key}{i:Nat}(h:i<as.length):stF l k m (as.take (i+1))=if as[i].1=k then stF l k m (as.take i)++[⟨as[i].1,as[i].2,y4t as[i].1 as[i].2 m l⟩] else stF l k m (as.take i):=by
 unfold stF
 rw[aH h,iG,bm]
 by_cases hk:as[i].1=k <;> simp[hk]
theorem znx{l:List Pst}{k m:Int}{as:List Key}:(stF l k m as).length<=as.length:=by
 unfold stF;rw[ao];exact eJ ..
theorem zy3{h:List Obj}{c:Obj}{sp:y13}{l:List Ent}{a b n:Int}(hl:l.length<=1000000)(R:y2b h sp l.length 3) :
  y4u E (h++[c]) (h.length+1) 66 66 (.imm sp (l.map y11)) (.imm .exact [.agg [dI a,dI b,dI n]])=some (.imm (.tok (h.length+1)) (l.map y11++[y11 ⟨a,b,n⟩]),y1k sp h++[c,.tok ((l.length+1)*3) 3]):=by
 have e:=z5q (hp:=h++[c]) (id:=h.length+1) (sp:=sp) (sp':=.exact) (l:=l) (m:=[⟨a,b,n⟩]) (by simp;omega) R.app
 rw[zas R] at e
 have e2:y1y (y1k sp h++[c]) (h.length+1) (.tok ((l.length+1)*3) 3)=y1k sp h++[c,.tok ((l.length+1)*3) 3]:=by
  unfold y1y
  rw[if_neg (by rw[ak,z21];simp),a8];rfl
 rw[<- e2]
 exact e
open Classical in
noncomputable def stX(l:List Pst)(k:Int):Int:=if rdE tgB l ≠ 0 then rdE tgB l else if wib k 1 5=true then 0 else 430
open Classical in
noncomputable def stD(l:List Pst)(k m:Int):D:=.tup [.imm .none ((if stX l k=0 then stE l k m else[]).map y11),dI (stX l k)]

theorem yd2(l:List Pst)(ok:y5m l)(hN:y3t l<=1000000)(k m:Int):yu E (dL E) 352 [yy l,dI k,dI m]=some (stD l k m):=by
 have e324:=yc5 l ok
 have e325:=r325 l ok hN
 have e368:=yd1
 refine ze c352 (by simp) ?_
 conv in t352=>reduce;dsimp[ah]
 unfold stD
 by_cases h0:rdE tgB l=0
 rotate_left
 ·have hX:stX l k=rdE tgB l:=by unfold stX;rw[if_pos h0]
  rw[hX,if_neg h0]
  simp[t352,n352,za,e324,h0]
 by_cases hk:wib k 1 5=true
 rotate_left
 ·have hk2:wib k 1 5=false:=by simpa using hk
  have hX:stX l k=430:=by unfold stX;rw[if_neg (by simp[h0]),if_neg hk]
  rw[hX,if_neg (by decide)]
  rw[h0] at e324
  simp[t352,n352,za,e324,e368,hk2]
 have hX:stX l k=0:=by unfold stX;rw[if_neg (by simp[h0]),if_pos hk]
 rw[hX,if_pos rfl]
 have e318:=fun a b=>r318 l ok hN a b m
 unfold blD at e318
 rw[h0] at e324 e318
 simp only[if_true] at e318
 have hal:=z9j (l:=l)
 obtain⟨AS,hAS⟩:∃ AS,AS=y6n l:=⟨_,rfl⟩
 have hst:stE l k m=stF l k m AS:=by rw[hAS];rfl
 rw[<- hAS] at e325 hal
 rw[hst]
 simp[t352,n352,za,e324,e368,hk,e325]
 refine zr AS.length (fun i env h=>∃(x5 x6 x7 x8 x9 x13 x14 x15 x16 x17 x18:D) (sp:y13),env=[yy l,dI k,dI m,.imm sp ((stF l k m (AS.take i)).map y11),dI 0,x5,x6,x7,x8,x9,y74 AS,dI AS.length,dI i,x13,x14,x15,x16,x17,x18]/\y2b h sp (stF l k m (AS.take i)).length 3) 0 (by omega) ⟨_,_,_,_,_,_,_,_,_,_,_,.exact,rfl,.inl rfl⟩ ?_
 rintro i env h hi ⟨x5,x6,x7,x8,x9,x13,x14,x15,x16,x17,x18,sp,rfl,R⟩
 by_cases hlt:i<AS.length
 rotate_left
 ·have:i=AS.length:=by omega
  subst this
  rw[aS]
  simp[zw]
 have hup:=zg hlt (by omega)
 have pA:y3z AS[i]=.agg [dI AS[i].1,dI AS[i].2]:=rfl
 have e318:=e318 AS[i].1 AS[i].2
 have htk:=zir (l:=l) (k:=k) (m:=m) hlt
 have hln:=znx (l:=l) (k:=k) (m:=m) (as:=AS.take i)
 rw[aI] at hln
 obtain⟨L,hL⟩:∃ L,L=stF l k m (AS.take i):=⟨_,rfl⟩
 rw[<- hL] at htk hln R ⊢
 have y2:∀(c:Obj) (n:Int),y4u E (h++[c]) (h.length+1) 66 66 (.imm sp (L.map y11)) (.imm .exact [.agg [dI AS[i].1,dI AS[i].2,dI n]])=some (.imm (.tok (h.length+1)) (L.map y11++[y11 ⟨AS[i].1,AS[i].2,n⟩]),y1k sp h++[c,.tok ((L.length+1)*3) 3]):=fun c n=>zy3 (by omega) R
 by_cases h0:AS[i].1=k
 ·rw[if_pos h0] at htk
  subst h0
  simp[hlt,pA,hup,htk,za,e318,y2]
  exact⟨_,_,_,_,_,_,_,_,_,_,_,_,⟨rfl,rfl,rfl,rfl,rfl,rfl,rfl,rfl,rfl,rfl,rfl,rfl⟩,z4c (j:=1) rfl⟩
 ·rw[if_neg h0] at htk
  simp[hlt,pA,h0,hup,htk]
  exact⟨_,_,_,_,_,_,_,_,_,_,_,_,⟨rfl,rfl,rfl,rfl,rfl,rfl,rfl,rfl,rfl,rfl,rfl,rfl⟩,R.app⟩

theorem yfd(l:List Pst)(ok:y5m l):yu E (dL E) 350 [yy l]=some (.tup [.bool (decide (rdE tgB l=0)),dI (rdE tgB l)]):=by
 have e324:=yc5 l ok
 refine ze c350 (by simp) ?_
 conv in t350=>reduce;dsimp[ah]
 by_cases h0:rdE tgB l=0
 rotate_left
 ·simp[t350,n350,za,e324,h0]
 have v:=z17.1 h0
 rw[h0] at e324 ⊢
 have hl:=ok.1
 simp[t350,n350,za,e324]
 refine zr l.length (fun j env h=>∃(x3 x4 x5 x6 x7 x10 x11 x12 x13 x14 x15 x16 x17 x18 x19 x20 x21 x22:D) ,env=[yy l,.bool false,dI 0,x3,x4,x5,x6,x7,dI l.length,dI j,x10,x11,x12,x13,x14,x15,x16,x17,x18,x19,x20,x21,x22]) 0 (by omega) ⟨_,_,_,_,_,_,_,_,_,_,_,_,_,_,_,_,_,_,rfl⟩ ?_
 rintro j env h hj ⟨x3,x4,x5,x6,x7,x10,x11,x12,x13,x14,x15,x16,x17,x18,x19,x20,x21,x22,rfl⟩
 by_cases hltj:j<l.length
 rotate_left
 ·have:j=l.length:=by omega
  subst this
  simp
 have hupj:=zg hltj (by omega)
 obtain⟨z,hz⟩:∃ z,z=l[j]:=⟨_,rfl⟩
 have hz2:=ok.2 z (by rw[hz];exact aC hltj)
 simp[hltj]
 refine zr l.length (fun i env h=>∃(x5 x6 x7 x10 x14 x15 x16 x17 x18 x19 x20 x21 x22:D) ,env=[yy l,.bool false,dI 0,dI j,dI 0,x5,x6,x7,dI l.length,dI j,x10,yy l,dI l.length,dI i,x14,x15,x16,x17,x18,x19,x20,x21,x22]) 0 (by omega) ⟨_,_,_,_,_,_,_,_,_,_,_,_,_,rfl⟩ ?_
 clear h x3 x4 x5 x6 x7 x10 x11 x12 x13 x14 x15 x16 x17 x18 x19 x20 x21 x22
 rintro i env h hi ⟨x5,x6,x7,x10,x14,x15,x16,x17,x18,x19,x20,x21,x22,rfl⟩
 by_cases hlt:i<l.length
 rotate_left
 ·have:i=l.length:=by omega
  subst this
  simp[hltj,hupj]
 have hup:=zg hlt (by omega)
 obtain⟨p,hpi⟩:∃ p,p=l[i]:=⟨_,rfl⟩
 have hpm:p ∈ l:=by rw[hpi];exact aC hlt
 have hp2:=ok.2 p hpm
 have g:=v.2.1 p hpm
 have q1:=fun h:List Obj=>zft (h:=h) hp2.1
 have q3:=stP hp2.1
 simp only[af] at q3
 have hA1:∀ r,At (h ++ .cells (pC p)::r) h.length (.cells (pC p)):=fun r=>by simp[At]
 have y1:=fun r:List Obj=>yfp (hA1 r)
 have y2:=fun r:List Obj=>ld2 (hA1 r)
 by_cases hm:p.minute<=z.minute
 rotate_left
 ·have hm':z.minute<p.minute:=by omega
  simp[hlt,hltj,<- hpi,<- hz,hp2.1,hz2.1,-zl,-zz,q1,↓q3,y1,y2,il2,hm,hm',hup]
 simp[hlt,hltj,<- hpi,<- hz,hp2.1,hz2.1,-zl,-zz,q1,↓q3,y1,y2,il2,hm,hup]
 generalize h ++ .cells (pC p)::_=H0
 generalize h.length=C
 clear q1 q3 hA1 y1 y2
 have hel:=hp2.2
 have hz0:y4g p.ents=0:=g.sum
 have hmost:=g.fm.ents.most
 refine zr p.ents.length (fun e env h=>∃(x5 x6 x7 x10 x14 x15 x16 x20 x21 x22:D) (c:Int),env=[yy l,.bool false,dI 0,dI j,dI c,x5,x6,x7,dI l.length,dI j,x10,yy l,dI l.length,dI i,x14,x15,x16,.imm .none (p.ents.map y11),dI p.ents.length,dI e,x20,x21,x22]/\c+y4g (p.ents.drop e)=0 /\ -(1099511627776*(e:Int))<=c/\c<=1099511627776*(e:Int)) 0 (by omega) ⟨_,_,_,_,_,_,_,_,_,_,0,rfl,by simp[hz0],by simp,by simp⟩ ?_
 clear h x5 x6 x7 x10 x14 x15 x16 x17 x18 x19 x20 x21 x22
 rintro e env h he ⟨x5,x6,x7,x10,x14,x15,x16,x20,x21,x22,c,rfl,b1,b2,b3⟩
 by_cases hlt2:e<p.ents.length
 rotate_left
 ·have:e=p.ents.length:=by omega
  subst this
  rw[bE] at b1
  have hc:c=0:=by simpa[y4g] using b1
  subst hc
  simp[hup]
 have hup2:=zg hlt2 (by omega)
 obtain⟨x,hx⟩:∃ x,x=p.ents[e]:=⟨_,rfl⟩
 have okx:=(g.fm.ents.ok x (by rw[hx];exact aC hlt2)).2.2.2
 rw[zk hlt2,<- hx] at b1
 simp only[y4g] at b1
 have hw:aw.wrap (c+x.amt)=c+x.amt:=z7 ⟨by omega,by omega⟩
 simp[hlt2,<- hx,hup2,hw]
 exact⟨_,_,_,_,_,_,_,_,_,_,_,⟨rfl,rfl,rfl,rfl,rfl,rfl,rfl,rfl,rfl,rfl,rfl⟩,by omega,by omega,by omega⟩

theorem z5r{n:Nat}(h:n<=1000000000000):aw.wrap (n:Int)=(n:Int):=z7 ⟨by omega,by omega⟩

def y2w{A:Type}(c:A->A->Int):List A->Bool
 |a::b::r=>decide (c a b<0) && y2w c (b::r)
 |_=>true

theorem zax{A:Type}{c:A->A->Int}{l:List A}(h:l.length<=1):y2w c l=true:=by
 match l,h with
 |[],_=>rfl
 |[_],_=>rfl

theorem r69(l:List Cell)(k:Nat)(c:Cell->Cell->Int)(hc:∀ a b,yu E (dL E) k [y2x a,y2x b]=some (dI (c a b)))(hl:l.length<=1000000) :
  yu E (dL E) 69 [.imm .none (l.map y2x),.fn k []]=some (.bool (y2w c l)):=by
 refine ze c69 (by simp) ?_
 conv in t69=>reduce;dsimp[ah]
 simp[t69,n69]
 refine zr (l.length+1) (fun i env hp=>∃ c4 c5:D,env=[.imm .none (l.map y2x),.fn k [],.bool false,dI i,c4,c5] /\ ∃ j,i=j+1/\y2w c (l.drop j)=y2w c l) 1 (by omega) ⟨_,_,rfl,0,rfl,rfl⟩ ?_
 rintro i env hp hi ⟨c4,c5,rfl,j,rfl,hm⟩
 by_cases hlt:j+1<l.length
 ·have hj:j<l.length:=by omega
  rw[zk hj,zk hlt] at hm
  have hk:=hc l[j] l[j+1]
  have hlt':(j:Int)+1<l.length:=by omega
  have hnn:(0:Int)<=(j:Int)+1:=by omega
  by_cases h0:c l[j] l[j+1]<0
  ·simp[y2w,h0] at hm
   have h0' : ¬ 0<=c l[j] l[j+1]:=by omega
   simp[hlt,hlt',hj,hnn,z5r (n:=j) (by omega),z7 (n:=(j:Int)+1) ⟨by omega,by omega⟩,z7 (n:=(j:Int)+1+1) ⟨by omega,by omega⟩,hk,h0',hm]
  ·simp[y2w,h0] at hm
   have h0':0<=c l[j] l[j+1]:=by omega
   simp[hlt,hlt',hj,hnn,z5r (n:=j) (by omega),z7 (n:=(j:Int)+1) ⟨by omega,by omega⟩,hk,h0',hm]
 ·have he:y2w c (l.drop j)=true:=zax (by simp;omega)
  have hlt' : ¬ (j:Int)+1<l.length:=by omega
  rw[he] at hm
  simp[hlt,hlt',<- hm]

theorem r73(l:List Int)(k:Nat)(c:Int->Int->Int)(hc:∀ a b,yu E (dL E) k [dI a,dI b]=some (dI (c a b)))(hl:l.length<=1000000) :
  yu E (dL E) 73 [.imm .none (l.map dI),.fn k []]=some (.bool (y2w c l)):=by
 refine ze c73 (by simp) ?_
 conv in t73=>reduce;dsimp[ah]
 simp[t73,n73]
 refine zr (l.length+1) (fun i env hp=>∃ c4 c5:D,env=[.imm .none (l.map dI),.fn k [],.bool false,dI i,c4,c5] /\ ∃ j,i=j+1/\y2w c (l.drop j)=y2w c l) 1 (by omega) ⟨_,_,rfl,0,rfl,rfl⟩ ?_
 rintro i env hp hi ⟨c4,c5,rfl,j,rfl,hm⟩
 by_cases hlt:j+1<l.length
 ·have hj:j<l.length:=by omega
  rw[zk hj,zk hlt] at hm
  have hk:=hc l[j] l[j+1]
  have hlt':(j:Int)+1<l.length:=by omega
  have hnn:(0:Int)<=(j:Int)+1:=by omega
  by_cases h0:c l[j] l[j+1]<0
  ·simp[y2w,h0] at hm
   have h0' : ¬ 0<=c l[j] l[j+1]:=by omega
   simp[hlt,hlt',hj,hnn,z5r (n:=j) (by omega),z7 (n:=(j:Int)+1) ⟨by omega,by omega⟩,z7 (n:=(j:Int)+1+1) ⟨by omega,by omega⟩,hk,h0',hm]
  ·simp[y2w,h0] at hm
   have h0':0<=c l[j] l[j+1]:=by omega
   simp[hlt,hlt',hj,hnn,z5r (n:=j) (by omega),z7 (n:=(j:Int)+1) ⟨by omega,by omega⟩,hk,h0',hm]
 ·have he:y2w c (l.drop j)=true:=zax (by simp;omega)
  have hlt' : ¬ (j:Int)+1<l.length:=by omega
  rw[he] at hm
  simp[hlt,hlt',<- hm]

theorem r75(l:List Use)(k:Nat)(c:Use->Use->Int)(hc:∀ a b,yu E (dL E) k [y6l a,y6l b]=some (dI (c a b)))(hl:l.length<=1000000) :
  yu E (dL E) 75 [.imm .none (l.map y6l),.fn k []]=some (.bool (y2w c l)):=by
 refine ze c75 (by simp) ?_
 conv in t75=>reduce;dsimp[ah]
 simp[t75,n75]
 refine zr (l.length+1) (fun i env hp=>∃ c4 c5:D,env=[.imm .none (l.map y6l),.fn k [],.bool false,dI i,c4,c5] /\ ∃ j,i=j+1/\y2w c (l.drop j)=y2w c l) 1 (by omega) ⟨_,_,rfl,0,rfl,rfl⟩ ?_
 rintro i env hp hi ⟨c4,c5,rfl,j,rfl,hm⟩
 by_cases hlt:j+1<l.length
 ·have hj:j<l.length:=by omega
  rw[zk hj,zk hlt] at hm
  have hk:=hc l[j] l[j+1]
  have hlt':(j:Int)+1<l.length:=by omega
  have hnn:(0:Int)<=(j:Int)+1:=by omega
  by_cases h0:c l[j] l[j+1]<0
  ·simp[y2w,h0] at hm
   have h0' : ¬ 0<=c l[j] l[j+1]:=by omega
   simp[hlt,hlt',hj,hnn,z5r (n:=j) (by omega),z7 (n:=(j:Int)+1) ⟨by omega,by omega⟩,z7 (n:=(j:Int)+1+1) ⟨by omega,by omega⟩,hk,h0',hm]
  ·simp[y2w,h0] at hm
   have h0':0<=c l[j] l[j+1]:=by omega
   simp[hlt,hlt',hj,hnn,z5r (n:=j) (by omega),z7 (n:=(j:Int)+1) ⟨by omega,by omega⟩,hk,h0',hm]
 ·have he:y2w c (l.drop j)=true:=zax (by simp;omega)
  have hlt' : ¬ (j:Int)+1<l.length:=by omega
  rw[he] at hm
  simp[hlt,hlt',<- hm]

def yaa{A:Type}(f:A->Bool):List A->Nat->Int
 |[],_=>-1
 |x::r,i=>if f x then i else yaa f r (i+1)

theorem zjc{A:Type}{f:A->Bool}:∀{l:List A} {i:Nat},decide (0<=yaa f l i)=l.any f
 |[],i=>rfl
 |x::r,i=>by
  simp only[yaa,List.any_cons]
  by_cases h:f x=true
  ·simp[h]
  ·have h2:=zjc (f:=f) (l:=r) (i:=i+1)
   simp at h
   simpa[h] using h2

theorem r106(l:List Int)(k:Nat)(f:Int->Bool)(hf:∀ x,yu E (dL E) k [dI x]=some (.bool (f x)))(hl:l.length<=1000000) :
  yu E (dL E) 106 [y31 l,.fn k []]=some (dI (yaa f l 0)):=by
 refine ze c106 (by simp) ?_
 conv in t106=>reduce;dsimp[ah]
 simp[t106,n106]
 refine zr l.length (fun i env hp=>∃ c3 c6 c7:D,env=[y31 l,.fn k [],dI 0,c3,dI l.length,dI i,c6,c7]/\yaa f (l.drop i) i=yaa f l 0) 0 (by omega) ⟨_,_,_,rfl,rfl⟩ ?_
 rintro i env hp hi ⟨c3,c6,c7,rfl,hm⟩
 by_cases hlt:i<l.length
 ·rw[zk hlt] at hm
  have hk:=hf l[i]
  cases h0:f l[i] with
  |true=>
   simp[yaa,h0] at hm
   simp[hlt,hk,h0,<- hm]
  |false=>
   simp[yaa,h0] at hm
   simp[hlt,hk,h0,zg hlt (by omega),hm]
 ·have:i=l.length:=by omega
  subst this
  simp[yaa] at hm
  simp[<- hm]

theorem r71(l:List Int)(k:Nat)(f:Int->Bool)(hf:∀ x,yu E (dL E) k [dI x]=some (.bool (f x)))(hl:l.length<=1000000) :
  yu E (dL E) 71 [y31 l,.fn k []]=some (.bool (l.any f)):=by
 refine ze c71 (by simp) ?_
 conv in t71=>reduce;dsimp[ah]
 simp[t71,n71,r106 l k f hf hl,zjc]

theorem z3t{A:Type}{h r:List A}{x:A}:(h++x::r)[h.length]? = some x:=by simp
theorem zdd{A:Type}{h r:List A}{x y:A}:(h++x::r).set h.length y=h++y::r:=by simp

section
variable{E:Env}{Q:Ex->List D->List Obj->Prop}{env:List D}{hp:List Obj}

theorem wT_chk{a:TC}(n:Nat)(P:Nat->Prop)(I:Nat->List D->List Obj->Prop)(h0:I 0 env hp)
  (good:∀ i env hp,i<n->I i env hp->P i->(∀ j,j<i->P j)->wT E a (fun ex env' hp'=>match ex with
   |.normal=>I (i+1) env' hp'
   |_=>False) env hp)
  (bad:∀ i env hp,i<n->I i env hp -> ¬ P i->wT E a (fun ex env' hp'=>match ex with
   |.normal=>False
   |ex=>Q ex env' hp') env hp)
  (last:∀ env hp,I n env hp->(∀ j,j<n->P j)->wT E a (fun ex env' hp'=>match ex with
   |.normal=>False
   |ex=>Q ex env' hp') env hp):wT E (.loop a) Q env hp:=by
 refine zr n (fun i env hp=>I i env hp /\ ∀ j,j<i->P j) 0 (da _) ⟨h0,fun j hj=>by omega⟩ ?_
 rintro i env hp hi ⟨hI,hP⟩
 by_cases hlt:i<n
 ·by_cases hp':P i
  ·refine z7u ?_ (good i env hp hlt hI hp' hP)
   intro ex env' hp'' h
   cases ex with
   |normal=>
    refine⟨hlt,h,fun j hj=>?_⟩
    rcases gg.1 hj with h1 | rfl
    ·exact hP j h1
    ·exact hp'
   |exit _=>exact h.elim
   |ret=>exact h.elim
  ·refine z7u ?_ (bad i env hp hlt hI hp')
   intro ex env' hp'' h
   cases ex with
   |normal=>exact h.elim
   |exit _=>exact h
   |ret=>exact h
 ·have:i=n:=by omega
  subst this
  refine z7u ?_ (last env hp hI hP)
  intro ex env' hp'' h
  cases ex with
  |normal=>exact h.elim
  |exit _=>exact h
  |ret=>exact h

theorem zeo{a:TC}(n:Nat)(P:Nat->Prop)(I:Nat->List D->List Obj->Prop)(h0:I 0 env hp)
  (step:∀ i env hp,i<n->I i env hp->(∀ j,j<i->P j)->wT E a (fun ex env' hp'=>match ex with
   |.normal=>P i/\I (i+1) env' hp'
   |ex=>Q ex env' hp') env hp)
  (last:∀ env hp,I n env hp->(∀ j,j<n->P j)->wT E a (fun ex env' hp'=>match ex with
   |.normal=>False
   |ex=>Q ex env' hp') env hp):wT E (.loop a) Q env hp:=by
 refine zr n (fun i env hp=>I i env hp /\ ∀ j,j<i->P j) 0 (da _) ⟨h0,fun j hj=>by omega⟩ ?_
 rintro i env hp hi ⟨hI,hP⟩
 by_cases hlt:i<n
 ·refine z7u ?_ (step i env hp hlt hI hP)
  intro ex env' hp'' h
  cases ex with
  |normal=>
   refine⟨hlt,h.2,fun j hj=>?_⟩
   rcases gg.1 hj with h1 | rfl
   ·exact hP j h1
   ·exact h.1
  |exit _=>exact h
  |ret=>exact h
 ·have:i=n:=by omega
  subst this
  refine z7u ?_ (last env hp hI hP)
  intro ex env' hp'' h
  cases ex with
  |normal=>exact h.elim
  |exit _=>exact h
  |ret=>exact h
end

theorem znj{i:Nat}(h0:0<i)(h:i<=1000000000000):aw.wrap ((i:Int) - 1)=((i - 1:Nat):Int):=by
 rw[z7 ⟨by omega,by omega⟩];omega

def wi(n lo hi:Int):Prop:=lo<=n/\n<=hi
instance{n lo hi:Int}:Decidable (wi n lo hi):=inferInstanceAs (Decidable (_/\_))

structure ybk(p:y7c)(u:Use):Prop where
 known:u.cell ∈ p.cells
 places:wi u.places 1 8

structure y77(p:y7c)(c:y8n):Prop where
 delay:wi c.delay 0 1048576
 cost:wi c.cost 0 1048576
 changes:wi c.changes 0 1048576
 uses:∀ u,u ∈ c.uses->ybk p u
 incr:∀(i:Nat) (h:i+1<c.uses.length),ltC c.uses[i].cell c.uses[i+1].cell=true

structure ybj(p:y7c)(v:Var):Prop where
 some:1<=v.leaves.length
 one:1<=v.choices.length
 most:v.choices.length<=96
 leaves:∀ n,n ∈ v.leaves->wi n 0 (p.capacity.length - 1)
 incr:∀(i:Nat) (h:i+1<v.leaves.length),v.leaves[i]<v.leaves[i+1]
 choices:∀ c,c ∈ v.choices->y77 p c

theorem z7x{A:Type}{l:List A}{P:A->Prop}:(∀ x,x ∈ l->P x) ↔ ∀(i:Nat) (h:i<l.length),P l[i]:=by
 constructor
 ·intro h i hi;exact h _ (aC hi)
 ·intro h x hx
  obtain⟨i,hi,rfl⟩:=List.getElem_of_mem hx
  exact h i hi

structure ybg(p:y7c):Prop where
 cells:p.cells.length<=12
 cap:p.capacity.length<=4
 rows:∀ l,l ∈ p.capacity->l.length<=16
 vars:p.vars.length<=6
 leaves:∀ v,v ∈ p.vars->v.leaves.length<=8
 choices:∀ v,v ∈ p.vars->v.choices.length<=8
 uses:∀ v,v ∈ p.vars->∀ c,c ∈ v.choices->c.uses.length<=12

structure OkP(p:y7c):Prop where
 some:1<=p.capacity.length
 nonneg:∀ c,c ∈ p.cells->0<=c.index/\0<=c.minute
 incr:∀(i:Nat) (h:i+1<p.cells.length),ltC p.cells[i] p.cells[i+1]=true
 cap:∀ l,l ∈ p.capacity->l.length=p.cells.length /\ ∀ n,n ∈ l->wi n 0 4096
 vars:∀ v,v ∈ p.vars->ybj p v

open Classical in
noncomputable def ck(p:y7c):Int:=if OkP p then 0 else 270

def y93(c:Cell):D × D:=(y2x c,.bool true)

theorem zg5{c:Cell}:∀{es:List Cell},y18 (y2x c) (es.map y93)=some (if c ∈ es then some (.bool true) else none)
 |[]=>rfl
 |x::es=>by
  have hq:D.eqb (y2x c) (y2x x)=some (decide (c=x)):=by
   simp[D.eqb,eqL,y20]
   cases c;cases x;simp[jD]
  simp only[av,y18,y93,hq]
  by_cases h:c=x
  ·simp[h]
  ·simp only[h,decide_false,az,false_or]
   exact zg5

theorem ziu{c:Cell}:∀{es:List Cell},y1j (y2x c) (.bool true) (es.map y93)=some ((if c ∈ es then es else es++[c]).map y93)
 |[]=>rfl
 |x::es=>by
  have hq:D.eqb (y2x c) (y2x x)=some (decide (c=x)):=by
   simp[D.eqb,eqL,y20]
   cases c;cases x;simp[jD]
  simp only[av,y1j,y93,hq]
  by_cases h:c=x
  ·simp[h,y93]
  ·have ih:=ziu (c:=c) (es:=es)
   simp only[h,decide_false,az,false_or]
   rw[ih]
   by_cases hm:c ∈ es <;> simp[hm,y93]

theorem z3r{A:Type}{c:A->A->Int}:∀{l:List A},y2w c l=true ↔ ∀(i:Nat) (h:i+1<l.length),c l[i] l[i+1]<0
 |[]=>⟨fun _ i h=>by simp at h,fun _=>rfl⟩
 |[_]=>⟨fun _ i h=>by simp at h,fun _=>rfl⟩
 |a::b::r=>by
  have ih:=z3r (c:=c) (l:=b::r)
  simp only[y2w,ar,decide_eq_true_eq,ih]
  constructor
  ·rintro⟨h1,h2⟩ i hi
   cases i with
   |zero=>exact h1
   |succ i=>exact h2 i (by simpa using hi)
  ·intro h
   exact⟨h 0 (by simp),fun i hi=>h (i+1) (by simpa using hi)⟩

theorem zed{a b:Int}:y54 a b<0 ↔ a<b:=by
 unfold y54
 (repeat' split) <;> omega

theorem zhq{l:List Int}(h:∀(i:Nat) (hi:i+1<l.length),l[i]<l[i+1]):∀(j i:Nat) (hj:j<l.length) (hij:i<=j),l[i]'(by omega)<=l[j]
 | 0,i,hj,hij=>by
  have:i=0:=by omega
  subst this;exact nU _
 |j+1,i,hj,hij=>by
  rcases gg.1 (Nat.lt_succ_of_le hij) with h1 | rfl
  ·have:=zhq h j i (by omega) (by omega)
   have:=h j hj
   omega
  ·exact nU _

theorem zik{x lo hi:Int}(h:wi x lo hi):lo<=x/\x<=hi /\ ¬ x<lo /\ ¬ hi<x:=by unfold wi at h;omega
theorem zil{x lo hi:Int}(h : ¬ wi x lo hi):(x<lo /\ ¬ lo<=x)\/(hi<x /\ ¬ x<=hi/\lo<=x /\ ¬ x<lo):=by unfold wi at h;omega

theorem r71w(l:List Int)(hl:l.length<=1000000):∃ q:Bool,(q=true ↔ ¬ ∀ n,n ∈ l->wi n 0 4096)/\yu E (dL E) 71 [.imm .none (l.map dI),.fn 72 []]=some (.bool q):=by
 refine⟨_,?_,r71 l 72 (fun n=>!decide (0<=n/\n<=4096)) r72 hl⟩
 rw[List.any_eq_true]
 constructor
 ·rintro⟨n,hn,h⟩ hall
  have:=hall n hn
  unfold wi at this
  simp[this] at h
 ·intro h
  refine dN fun hn=>h fun n hm=>?_
  unfold wi
  refine dN fun hw=>hn ⟨n,hm,?_⟩
  simp only[hw,decide_false,Bool.not_false]

theorem r15(p:y7c)(S:ybg p):yu E (dL E) 15 [y3b p]=some (dI (ck p)):=by
 refine ze c15 (by simp) ?_
 conv in t15=>reduce;dsimp[ah]
 generalize hB:ck p=B
 have hBf : ¬ OkP p->B=270:=by intro h;rw[<- hB];simp[ck,h]
 have hBt:OkP p->B=0:=by intro h;rw[<- hB];simp[ck,h]
 have s1:=S.cells
 have s2:=S.cap
 have s3:=S.vars
 have h69:=r69 p.cells 70 y9n r70 (by omega)
 simp[t15,n15,r67,h69]
 have h1 : ¬ (4096:Int)<p.cells.length:=by omega
 by_cases h2:(p.capacity.length:Int)<1
 ·have h2':((p.capacity.length:Int)<1\/(32:Int)<p.capacity.length):=.inl h2
  simp[h1,h2',hBf (fun ok=>by have:=ok.some;omega)]
 have h2' : ¬ ((p.capacity.length:Int)<1\/(32:Int)<p.capacity.length):=by omega
 have h4 : ¬ (64:Int)<p.vars.length:=by omega
 cases hinc:y2w y9n p.cells with
 |false=>
  simp[h1,h2',h4,hBf (fun ok=>by
   have:y2w y9n p.cells=true:=z3r.2 fun i hi=>by
    have:=ok.incr i hi
    rw[<- zdu] at this;exact this
   rw[hinc] at this;cases this)]
 |true=>
 have hincr:=z3r.1 hinc
 simp[h1,h2',h4]
 obtain⟨P,hP⟩:∃ P:Nat->Prop,P=fun i=>∀(h:i<p.cells.length),0<=p.cells[i].index/\0<=p.cells[i].minute:=⟨_,rfl⟩
 refine zeo p.cells.length P
  (fun i env hp=>∃(x4 x5 x6 x7 x8 x9 x10 x11 x15 x16 x17 x18 x19 x20 x21 x22 x23 x24 x25 x26 x27 x28 x29 x30 x31 x32 x33 x34 x35 x36 x37 x38 x39 x40:D) (es:List Cell) (h:List Obj),env=[y3b p,.loc 0 0,dI 0,.map (some 1),x4,x5,x6,x7,x8,x9,x10,x11,.imm .none (p.cells.map y2x),dI p.cells.length,dI i,x15,x16,x17,x18,x19,x20,x21,x22,x23,x24,x25,x26,x27,x28,x29,x30,x31,x32,x33,x34,x35,x36,x37,x38,x39,x40]/\hp=.cells (y3b p).cellsL :: .map (es.map y93)::h /\ ∀ c,c ∈ es ↔ c ∈ p.cells.take i)
  ⟨_,_,_,_,_,_,_,_,_,_,_,_,_,_,_,_,_,_,_,_,_,_,_,_,_,_,_,_,_,_,_,_,_,_,[],_,rfl,rfl,by simp⟩ ?_ ?_
 ·rintro i env hp hi ⟨x4,x5,x6,x7,x8,x9,x10,x11,x15,x16,x17,x18,x19,x20,x21,x22,x23,x24,x25,x26,x27,x28,x29,x30,x31,x32,x33,x34,x35,x36,x37,x38,x39,x40,es,h,rfl,rfl,hes⟩ hall
  have hBc : ¬ (0<=p.cells[i].index/\0<=p.cells[i].minute)->B=270:=fun hn=>hBf (fun ok=>hn (ok.nonneg _ (aC hi)))
  simp[hi,z3t,zdd]
  by_cases g1:p.cells[i].index<0
  ·simp[g1,hBc (by omega)]
  by_cases g2:p.cells[i].minute<0
  ·simp[g1,g2,hBc (by omega)]
  have hPi:P i:=by rw[hP];exact fun _=>⟨by omega,by omega⟩
  have hput:=ziu (c:=p.cells[i]) (es:=es)
  simp at hput
  simp[g1,g2,z3t,hput,zg hi (by omega),hPi]
  refine⟨_,rfl,fun c=>?_⟩
  have hts:p.cells.take (i+1)=p.cells.take i++[p.cells[i]]:=by simp
  rw[hts,aN,<- hes c]
  by_cases hm:p.cells[i] ∈ es
  ·rw[if_pos hm]
   constructor
   ·exact .inl
   ·rintro(h | h)
    ·exact h
    ·simp at h;rw[h];exact hm
  ·rw[if_neg hm,aN]
 rintro env hp ⟨x4,x5,x6,x7,x8,x9,x10,x11,x15,x16,x17,x18,x19,x20,x21,x22,x23,x24,x25,x26,x27,x28,x29,x30,x31,x32,x33,x34,x35,x36,x37,x38,x39,x40,es,h,rfl,rfl,hes⟩ hcells
 rw[hP] at hcells
 rw[aS] at hes
 simp
 clear hP P
 obtain⟨P,hP⟩:∃ P:Nat->Prop,P=fun i=>∀(h:i<p.capacity.length),p.capacity[i].length=p.cells.length /\ ∀ n,n ∈ p.capacity[i]->wi n 0 4096:=⟨_,rfl⟩
 refine zeo p.capacity.length P
  (fun i env hp=>∃(x4 x5 x6 x7 x8 x9 x10 x11 x12 x13 x14 x15 x16 x17 x21 x22 x23 x24 x25 x26 x27 x28 x29 x30 x31 x32 x33 x34 x35 x36 x37 x38 x39 x40:D) (h:List Obj),env=[y3b p,.loc 0 0,dI 0,.map (some 1),x4,x5,x6,x7,x8,x9,x10,x11,x12,x13,x14,x15,x16,x17,.imm .none (p.capacity.map y31),dI p.capacity.length,dI i,x21,x22,x23,x24,x25,x26,x27,x28,x29,x30,x31,x32,x33,x34,x35,x36,x37,x38,x39,x40]/\hp=.cells (y3b p).cellsL :: .map (es.map y93)::h)
  ⟨_,_,_,_,_,_,_,_,_,_,_,_,_,_,_,_,_,_,_,_,_,_,_,_,_,_,_,_,_,_,_,_,_,_,_,rfl,rfl⟩ ?_ ?_
 ·rintro i env hp hi ⟨x4,x5,x6,x7,x8,x9,x10,x11,x12,x13,x14,x15,x16,x17,x21,x22,x23,x24,x25,x26,x27,x28,x29,x30,x31,x32,x33,x34,x35,x36,x37,x38,x39,x40,h,rfl,rfl⟩ hall
  have hBc : ¬ (p.capacity[i].length=p.cells.length /\ ∀ n,n ∈ p.capacity[i]->wi n 0 4096)->B=270:=fun hn=>hBf (fun ok=>hn (ok.cap _ (aC hi)))
  obtain⟨q,hq,h71⟩:=r71w p.capacity[i] (by have:=S.rows _ (aC hi);omega)
  simp[hi,h71]
  by_cases g1:p.capacity[i].length=p.cells.length
  rotate_left
  ·have g1' : ¬ (p.capacity[i].length:Int)=p.cells.length:=by omega
   simp[g1,g1',hBc (fun h=>g1 h.1)]
  simp[g1]
  cases q with
  |false=>
   have g2:∀ n,n ∈ p.capacity[i]->wi n 0 4096:=dN fun h=>by
    have:=hq.2 h;cases this
   have hPi:P i:=by rw[hP];exact fun _=>⟨g1,g2⟩
   simp[zg hi (by omega),hPi]
  |true=>simp[hBc (fun h=>hq.1 rfl h.2)]
 rintro env hp ⟨x4,x5,x6,x7,x8,x9,x10,x11,x12,x13,x14,x15,x16,x17,x21,x22,x23,x24,x25,x26,x27,x28,x29,x30,x31,x32,x33,x34,x35,x36,x37,x38,x39,x40,h,rfl,rfl⟩ hcap
 rw[hP] at hcap
 simp
 clear hP P
 obtain⟨P,hP⟩:∃ P:Nat->Prop,P=fun i=>∀(h:i<p.vars.length),ybj p p.vars[i]:=⟨_,rfl⟩
 refine zeo p.vars.length P
  (fun i env hp=>∃(x4 x5 x6 x7 x8 x9 x10 x11 x12 x13 x14 x15 x16 x17 x18 x19 x20 x21 x22 x26 x27 x28 x29 x30 x31 x32 x33 x34 x35 x36 x37 x38 x39 x40:D) (h:List Obj),env=[y3b p,.loc 0 0,dI 0,.map (some 1),x4,x5,x6,x7,x8,x9,x10,x11,x12,x13,x14,x15,x16,x17,x18,x19,x20,x21,x22,.imm .none (p.vars.map y6k),dI p.vars.length,dI i,x26,x27,x28,x29,x30,x31,x32,x33,x34,x35,x36,x37,x38,x39,x40]/\hp=.cells (y3b p).cellsL :: .map (es.map y93)::h)
  ⟨_,_,_,_,_,_,_,_,_,_,_,_,_,_,_,_,_,_,_,_,_,_,_,_,_,_,_,_,_,_,_,_,_,_,_,rfl,rfl⟩ ?_ ?_
 ·rintro i env hp hi ⟨x4,x5,x6,x7,x8,x9,x10,x11,x12,x13,x14,x15,x16,x17,x18,x19,x20,x21,x22,x26,x27,x28,x29,x30,x31,x32,x33,x34,x35,x36,x37,x38,x39,x40,h,rfl,rfl⟩ hall
  have hmem:=aC hi
  have hBv : ¬ ybj p p.vars[i]->B=270:=fun hn=>hBf (fun ok=>hn (ok.vars _ hmem))
  have l1:=S.leaves _ hmem
  have l2:=S.choices _ hmem
  have h73:=r73 p.vars[i].leaves 74 y54 r74 (by omega)
  have hcapw:=s2
  simp[hi,z3t,zdd,r67,h73]
  by_cases g1:p.vars[i].leaves=[]
  ·simp[g1,hBv (fun ok=>by have:=ok.some;rw[g1] at this;simp at this)]
  have g1l:p.vars[i].leaves.length ≠ 0:=fun h=>g1 (bB.1 h)
  by_cases g2:(p.vars[i].choices.length:Int)<1
  ·have g2' : ¬ (1:Int)<=p.vars[i].choices.length:=by omega
   simp[g1,g2',hBv (fun ok=>by have:=ok.one;omega)]
  have g2':(1:Int)<=p.vars[i].choices.length:=by omega
  have g2'':(p.vars[i].choices.length:Int)<=96:=by omega
  cases g3:y2w y54 p.vars[i].leaves with
  |false=>
   simp[g1,g2',g2'',hBv (fun ok=>by
    have:y2w y54 p.vars[i].leaves=true:=z3r.2 fun k hk=>zed.2 (ok.incr k hk)
    rw[g3] at this;cases this)]
  |true=>
  have g3':=z3r.1 g3
  have hl0:0<p.vars[i].leaves.length:=by omega
  by_cases g4:p.vars[i].leaves[0]<0
  ·simp[g1,g2',g2'',hl0,z3t,g4,hBv (fun ok=>by
    have:=ok.leaves _ (aC hl0)
    unfold wi at this;omega)]
  have hl1:p.vars[i].leaves.length - 1<p.vars[i].leaves.length:=by omega
  have hwp:aw.wrap ((p.vars[i].leaves.length:Int) - 1)=((p.vars[i].leaves.length - 1:Nat):Int):=znj hl0 (by omega)
  by_cases g5:(p.capacity.length:Int)<=p.vars[i].leaves[p.vars[i].leaves.length - 1]
  ·simp[g1,g2',g2'',hl0,hl1,z3t,g4,g5,hwp,hBv (fun ok=>by
    have:=ok.leaves _ (aC hl1)
    unfold wi at this;omega)]
  simp[g1,g2',g2'',hl0,hl1,z3t,g4,g5,hwp]
  have hleaves:∀ n,n ∈ p.vars[i].leaves->wi n 0 (p.capacity.length - 1):=z7x.2 fun k hk=>by
   have e:∀(k:Nat) (hk:k+1<p.vars[i].leaves.length),p.vars[i].leaves[k]<p.vars[i].leaves[k+1]:=fun k hk=>zed.1 (g3' k hk)
   have e1:=zhq e k 0 hk (by omega)
   have e2:=zhq e (p.vars[i].leaves.length - 1) k hl1 (by omega)
   unfold wi;omega
  obtain⟨P2,hP2⟩:∃ P:Nat->Prop,P=fun k=>∀(h:k<p.vars[i].choices.length),y77 p p.vars[i].choices[k]:=⟨_,rfl⟩
  refine zeo p.vars[i].choices.length P2
   (fun k env hp=>∃(x4 x5 x7 x8 x9 x10 x11 x12 x13 x14 x15 x16 x17 x18 x19 x20 x21 x22 x26 x27 x28 x32 x33 x34 x35 x36 x37 x38 x39 x40:D) (G:List Obj),env=[y3b p,.loc 0 0,dI 0,.map (some 1),x4,x5,.loc (h.length+2) 0,x7,x8,x9,x10,x11,x12,x13,x14,x15,x16,x17,x18,x19,x20,x21,x22,.imm .none (p.vars.map y6k),dI p.vars.length,dI i,x26,x27,x28,.imm .none (p.vars[i].choices.map y2f),dI p.vars[i].choices.length,dI k,x32,x33,x34,x35,x36,x37,x38,x39,x40]/\hp=.cells (y3b p).cellsL :: .map (es.map y93)::G/\G[h.length]? = some (.cells (y6k p.vars[i]).cellsL))
   ⟨_,_,_,_,_,_,_,_,_,_,_,_,_,_,_,_,_,_,_,_,_,_,_,_,_,_,_,_,_,_,_,rfl,rfl,z3t⟩ ?_ ?_
  ·rintro k env hp hk ⟨x4,x5,x7,x8,x9,x10,x11,x12,x13,x14,x15,x16,x17,x18,x19,x20,x21,x22,x26,x27,x28,x32,x33,x34,x35,x36,x37,x38,x39,x40,G,rfl,rfl,hG⟩ hall2
   have hBc : ¬ y77 p p.vars[i].choices[k]->B=270:=fun hn=>hBv (fun ok=>hn (ok.choices _ (aC hk)))
   have hmemk:=aC hk
   have l3:=S.uses _ hmem _ hmemk
   have h75:=r75 p.vars[i].choices[k].uses 76 (fun a b=>y9n a.cell b.cell) r76 (by omega)
   simp[hk,z3t,zdd,r67,h75]
   by_cases k1:wi p.vars[i].choices[k].delay 0 1048576
   rotate_left
   ·rcases zil k1 with⟨q1,q2⟩ | ⟨q1,q2,q3,q4⟩
    ·simp[q1,q2,hBc (fun ok=>k1 ok.delay)]
    ·simp[q1,q2,q3,q4,hBc (fun ok=>k1 ok.delay)]
   obtain⟨a1,a2,a3,a4⟩:=zik k1
   by_cases k2:wi p.vars[i].choices[k].cost 0 1048576
   rotate_left
   ·rcases zil k2 with⟨q1,q2⟩ | ⟨q1,q2,q3,q4⟩
    ·simp[a1,a2,a3,a4,q1,q2,hBc (fun ok=>k2 ok.cost)]
    ·simp[a1,a2,a3,a4,q1,q2,q3,q4,hBc (fun ok=>k2 ok.cost)]
   obtain⟨b1,b2,b3,b4⟩:=zik k2
   by_cases k3:wi p.vars[i].choices[k].changes 0 1048576
   rotate_left
   ·rcases zil k3 with⟨q1,q2⟩ | ⟨q1,q2,q3,q4⟩
    ·simp[a1,a2,a3,a4,b1,b2,b3,b4,q1,q2,hBc (fun ok=>k3 ok.changes)]
    ·simp[a1,a2,a3,a4,b1,b2,b3,b4,q1,q2,q3,q4,hBc (fun ok=>k3 ok.changes)]
   obtain⟨c1,c2,c3,c4⟩:=zik k3
   cases k4:y2w (fun a b:Use=>y9n a.cell b.cell) p.vars[i].choices[k].uses with
   |false=>
    simp[a1,a2,a3,a4,b1,b2,b3,b4,c1,c2,c3,c4,hBc (fun ok=>by
     have:y2w (fun a b:Use=>y9n a.cell b.cell) p.vars[i].choices[k].uses=true:=z3r.2 fun q hq=>by
      have:=ok.incr q hq
      rw[<- zdu] at this;exact this
     rw[k4] at this;cases this)]
   |true=>
   have k4':=z3r.1 k4
   simp[a1,a2,a3,a4,b1,b2,b3,b4,c1,c2,c3,c4,z3t]
   obtain⟨P3,hP3⟩:∃ P:Nat->Prop,P=fun q=>∀(h:q<p.vars[i].choices[k].uses.length),ybk p p.vars[i].choices[k].uses[q]:=⟨_,rfl⟩
   have hGa:∀ r,(G++r)[h.length]? = some (.cells (y6k p.vars[i]).cellsL):=fun r=>by
    rw[aB (ac.1 hG).1];exact hG
   refine zeo p.vars[i].choices[k].uses.length P3
    (fun q env hp=>∃(x4 x5 x9 x10 x11 x12 x13 x14 x15 x16 x17 x18 x19 x20 x21 x22 x26 x27 x28 x32 x33 x34 x38 x39 x40:D) (G2:List Obj),env=[y3b p,.loc 0 0,dI 0,.map (some 1),x4,x5,.loc (h.length+2) 0,.loc (G.length+2) 0,dI 1048576,x9,x10,x11,x12,x13,x14,x15,x16,x17,x18,x19,x20,x21,x22,.imm .none (p.vars.map y6k),dI p.vars.length,dI i,x26,x27,x28,.imm .none (p.vars[i].choices.map y2f),dI p.vars[i].choices.length,dI k,x32,x33,x34,.imm .none (p.vars[i].choices[k].uses.map y6l),dI p.vars[i].choices[k].uses.length,dI q,x38,x39,x40]/\hp=.cells (y3b p).cellsL :: .map (es.map y93)::G2/\G2[h.length]? = some (.cells (y6k p.vars[i]).cellsL))
    ⟨_,_,_,_,_,_,_,_,_,_,_,_,_,_,_,_,_,_,_,_,_,_,_,_,_,_,rfl,rfl,hGa _⟩ ?_ ?_
   ·rintro q env hp hq ⟨x4,x5,x9,x10,x11,x12,x13,x14,x15,x16,x17,x18,x19,x20,x21,x22,x26,x27,x28,x32,x33,x34,x38,x39,x40,G2,rfl,rfl,hG2⟩ hall3
    have hGb:∀ r,(G2++r)[h.length]? = some (.cells (y6k p.vars[i]).cellsL):=fun r=>by
     rw[aB (ac.1 hG2).1];exact hG2
    have hBu:(¬ ybk p p.vars[i].choices[k].uses[q])->B=270:=fun hn=>hBc (fun ok=>hn (ok.uses _ (aC hq)))
    have hfind:=zg5 (c:=p.vars[i].choices[k].uses[q].cell) (es:=es)
    simp at hfind
    simp[hq,z3t,zdd,r67,hfind]
    by_cases m1:p.vars[i].choices[k].uses[q].cell ∈ es
    rotate_left
    ·simp[m1,hBu (fun ok=>m1 ((hes _).2 ok.known))]
    by_cases m2:wi p.vars[i].choices[k].uses[q].places 1 8
    rotate_left
    ·rcases zil m2 with⟨q1,q2⟩ | ⟨q1,q2,q3,q4⟩
     ·simp[m1,q1,q2,hBu (fun ok=>m2 ok.places)]
     ·simp[m1,q1,q2,q3,q4,hBu (fun ok=>m2 ok.places)]
    obtain⟨d1,d2,d3,d4⟩:=zik m2
    have hPq:P3 q:=by rw[hP3];exact fun _=>⟨(hes _).1 m1,m2⟩
    simp[m1,d1,d2,d3,d4,zg hq (by omega),hPq]
    simpa using hGb _
   ·rintro env hp ⟨x4,x5,x9,x10,x11,x12,x13,x14,x15,x16,x17,x18,x19,x20,x21,x22,x26,x27,x28,x32,x33,x34,x38,x39,x40,G2,rfl,rfl,hG2⟩ hall3
    rw[hP3] at hall3
    have hPk:P2 k:=by
     rw[hP2]
     exact fun _=>⟨k1,k2,k3,z7x.2 fun q hq=>hall3 q hq hq,fun q hq=>by
      have:=k4' q hq
      rw[zdu] at this;exact this⟩
    simp[zg hk (by omega),hPk]
    simpa using hG2
  ·rintro env hp ⟨x4,x5,x7,x8,x9,x10,x11,x12,x13,x14,x15,x16,x17,x18,x19,x20,x21,x22,x26,x27,x28,x32,x33,x34,x35,x36,x37,x38,x39,x40,G,rfl,rfl,hG⟩ hall2
   rw[hP2] at hall2
   have hPi:P i:=by
    rw[hP]
    exact fun _=>⟨by omega,by omega,by omega,hleaves,fun k hk=>zed.1 (g3' k hk),z7x.2 fun k hk=>hall2 k hk hk⟩
   simp[zg hi (by omega),hPi]
 rintro env hp ⟨x4,x5,x6,x7,x8,x9,x10,x11,x12,x13,x14,x15,x16,x17,x18,x19,x20,x21,x22,x26,x27,x28,x29,x30,x31,x32,x33,x34,x35,x36,x37,x38,x39,x40,h,rfl,rfl⟩ hvars
 rw[hP] at hvars
 have:B=0:=hBt ⟨by omega,z7x.2 fun i hi=>hcells i hi hi,fun i hi=>by
  have:=hincr i hi
  rw[zdu] at this;exact this,z7x.2 fun i hi=>hcap i hi hi,z7x.2 fun i hi=>hvars i hi hi⟩
 simp[this]

end Dv
