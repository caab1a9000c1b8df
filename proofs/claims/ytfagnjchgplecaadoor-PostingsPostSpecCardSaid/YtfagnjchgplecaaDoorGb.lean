/- Texts that a proof of this claim uses, joined: Lw.W223, Lw.W224, Lw.W225, Lw.W241, Lw.W261, Lw.W263, Lw.W264, Lw.W262, Lw.W265, Lw.W266, Lw.W267, Lw.W268, Lw.W269, Lw.W242, Lw.W243, Lw.W270, Lw.W271, Lw.W272, Lw.W273, Lw.W274, Lw.W275, Lw.W244, Lw.S41, Lw.Ty, Lw.W226, Lw.W227, Lw.W228, Lw.W245, Lw.W276, Lw.W246, Lw.W2, Lw.W3, Lw.W4. -/
import Derived.Test.YtfagnjchgplecaaDoorGa
import Derived.Test.YtfagnjchgplecaaDoorLwa
import Derived.Test.YtfagnjchgplecaaDoorDvd
import Derived.Test.YtfagnjchgplecaaDoorWa
set_option linter.all false
open BitVec renaming eq_of_getLsbD_eq->iN,getLsbD_and->jY,getLsbD_xor->jX,toNat_add->eg,toNat_xor->fJ
open Exists renaming intro->jV
open Go.IntKind renaming i64->av,u32->b6,u64->aV,u8->fh
open Int renaming tmod_eq_emod_of_nonneg->eM
open List renaming all_eq_true->az,append_assoc->bj,drop_append_of_le_length->fw,drop_length->fK,drop_zero->cK,ext_getElem?->cr,getD_eq_getElem?_getD->ah,getElem?_append_left->ay,getElem?_append_right->aA,getElem?_eq_getElem->af,getElem?_eq_none->aW,getElem?_eq_some_iff->ae,getElem_mem->aN,getLast?_eq_getElem?->dN,length->dz,length_append->aw,length_cons->aC,length_drop->cX,length_map->au,length_nil->bA,length_replicate->cV,length_set->bv,length_take->aP,map_append->bo,map_cons->ax,map_nil->aK,map_replicate->bN,map_set->fD,mem_cons->aB,mem_map->aX,mem_of_getElem?->ba,nil_append->bD,pairwise_cons->dJ,range->cm,replicate->ac,replicate_succ->dZ,set_append_right->dG,set_cons_zero->eu,sizeOf_lt_of_mem->eJ,take_append_drop->bq,take_length->bh,take_of_length_le->bl,take_succ_eq_append_getElem->aR,take_zero->fE
open Nat renaming eq_zero_or_pos->ci,le_refl->ai,min_eq_left->bu,sub_self->fB
open Option.some renaming inj->bZ
open UInt8 renaming ofNat->aY
set_option maxHeartbeats 16000000
namespace Dv
attribute [local simp] ac depth y4s y82 y3l y2r y81 y5v y3a y23 Ret
attribute [local congr] z2n z2r z1y z1j z18 z1z z17


def ya4(p:Int × Int):D:=y3k p.1 p.2
abbrev yaf(l:List (Int × Int)):D:=.imm .none (l.map ya4)
theorem za8{sz:Nat}{rest:List D}:∀(els:List D),(∀ x,x ∈ els->x.cellsL.length=sz/\yi true x.cellsL=some x)->y2y sz true els.length (yn els++rest)=some els
 |[],_=>rfl
 |x::els,h=>by
  obtain⟨h1,h2⟩:=h x (by simp)
  have ih:=za8 (rest:=rest) els fun y hy=>h y (by simp[hy])
  have ht:=z65 x.cellsL (yn els++rest) 0 [] rfl
  rw[bD,h1] at ht
  rw[aC,y2y,z1b,bj,ht]
  simp only[h2]
  rw[show(x.cellsL++(yn els++rest)).drop sz=yn els++rest from by rw[<- h1];simp,ih]
theorem zeg:∀(l:List (Int × Int)),yn (l.map ya4)=yf l
 |[]=>rfl
 |p::l=>by rw[ax,z1b,zeg l];rfl
theorem zph{X:List Obj}{q n:Nat}{L:List (Int × Int)}{gr:Bool}{cs:List D}(h:At X q (.cells cs))(hc:cs.take (L.length*2)=yf L):frz X (n+3) (.sl q 0 L.length 2 true gr)=some (yaf L):=by
 have hr:yx X q=some cs:=by unfold yx;rw[h.eq]
 have hcs:cs=yn (L.map ya4)++cs.drop (L.length*2):=by rw[zeg,<- hc,bq]
 have hch:=za8 (sz:=2) (rest:=cs.drop (L.length*2)) (L.map ya4) (fun x hx=>by obtain⟨p,_,rfl⟩:=aX.1 hx;exact⟨rfl,rfl⟩)
 rw[<- hcs,au] at hch
 show(match yx X q with | some cs=>(match y2y 2 true L.length (cs.drop 0) with | some els=>(y1j (frz X (n+2)) els).map (D.imm .none) | none=>none) | none=>none)=_
 rw[hr]
 simp only[cK]
 rw[hch]
 simp only[]
 rw[show y1j (frz X (n+2)) (L.map ya4)=some (L.map ya4) from z1d fun _ _=>rfl]
 rfl

theorem ydi(hp:List Obj):y1i E (dL E) 363 [.imm .exact []] hp=some (.imm .exact [],hp):=by
 have:∃ d hp',y1i E (dL E) 363 [.imm .exact []] hp=some (d,hp')/\(d=.imm .exact []/\hp'=hp):=by
  refine z3d c363 (args:=[.imm .exact []]) (hp:=hp) (R:=fun d hp'=>d=.imm .exact []/\hp'=hp) (by simp) ?_
  simp[t363,n363]
 obtain⟨d,hp',e,rfl,rfl⟩:=this
 exact e

def y4k(f:Nat)(H:List Obj)(acc:List (Int × Int))(d:D):Prop:=
 (acc=[]/\d=.imm .exact []) \/ ∃ k,d=.sl k 0 acc.length 2 true true/\2<=k/\k ≠ f/\At H k (.cells (yf acc))
theorem y4k.app{f:Nat}{H r:List Obj}{acc:List (Int × Int)}{d:D}(h:y4k f H acc d):y4k f (H++r) acc d:=by
 rcases h with h | ⟨k,h1,h2,h3,h4⟩
 ·exact .inl h
 ·exact .inr ⟨k,h1,h2,h3,h4.app⟩
theorem y4k.set{f j:Nat}{H:List Obj}{o:Obj}{acc:List (Int × Int)}{d:D}(h:y4k f H acc d)(hj:j<2):y4k f (H.set j o) acc d:=by
 rcases h with h | ⟨k,h1,h2,h3,h4⟩
 ·exact .inl h
 ·exact .inr ⟨k,h1,h2,h3,h4.ne (by omega)⟩
theorem y4k.own{f:Nat}{H r:List Obj}{acc:List (Int × Int)}{d:D}(h:y4k f H acc d):y4k H.length (H++r) acc d:=by
 rcases h with h | ⟨k,h1,h2,h3,h4⟩
 ·exact .inl h
 ·exact .inr ⟨k,h1,h2,by have:=h4.lt;omega,h4.app⟩

theorem zqw{f:Nat}{H:List Obj}{acc:List (Int × Int)}{d:D}{a b:Int}(h:y4k f H acc d)(hl:acc.length<=1000000)(hf:f<H.length)(h2:2<=H.length) :
  ∃ d' H',y2t E H 67 67 d (.imm .exact [y3k a b])=some (d',H')/\y4k f H' (acc++[(a,b)]) d'/\d'.storable=true/\d'.cellsL=[d'] /\ ∀ j o,j<2\/j=f->At H j o->At H' j o:=by
 have hlo:yz H 2 true (.imm .exact [y3k a b])=some [y3k a b]:=rfl
 have e67:(E.ty 67).k=.slice 65:=rfl
 rcases h with⟨rfl,rfl⟩ | ⟨k,rfl,hk,hkf,hA⟩
 ·refine⟨.sl H.length 0 1 2 true true,H++[.cells (yf [(a,b)])],?_,.inr ⟨H.length,rfl,by omega,by omega,by simp[At]⟩,rfl,rfl,fun j o _ a=>a.app⟩
  have h5:(0+1)*((E.ty 65).bytes+1)<=yj/\(E.ty 65).bytes<=65536/\(y1u E 65).isSome=true/\y31 (E.ty 65).size ([]:List D)=true:=⟨by decide,by decide,rfl,rfl⟩
  unfold y2t
  simp only[e67]
  rw[show yz H (E.ty 65).size (E.ty 65).ag (.imm .exact [y3k a b])=some [y3k a b] from hlo]
  simp only[aC,bA]
  rw[if_neg (by simp),if_pos h5]
  rfl
 ·have hb:(E.ty 65).bytes=16:=rfl
  refine⟨.sl H.length 0 (acc.length+1) 2 true true,H.set k .dead++[.cells (yf (acc++[(a,b)]))],?_,.inr ⟨H.length,by rw[aw];rfl,by omega,by omega,by simp[At]⟩,rfl,rfl,fun j o hj a=>(a.ne (by omega)).app⟩
  have h5:(acc.length+1)*((E.ty 65).bytes+1)<=yj/\(E.ty 65).bytes<=65536/\(y1u E 65).isSome=true/\2=(E.ty 65).size/\(yf acc).length=acc.length*2:=⟨by rw[hb];simp[yj];omega,by decide,rfl,rfl,z44 acc⟩
  unfold y2t
  simp only[e67]
  rw[show yz H (E.ty 65).size (E.ty 65).ag (.imm .exact [y3k a b])=some [y3k a b] from hlo,hA.eq]
  simp only[aC,bA]
  rw[if_neg (by simp),if_pos h5,z8s]
  rfl

def yai(x:Int × Ent):Int × Int:=(x.2.kind,x.2.idx)
theorem zbp:∀(l:List Pst),(y42 l).map yai=yaw l
 |[]=>rfl
 |p::l=>by
  have ih:=zbp l
  rw[z4i,bo,ih,List.map_map]
  rfl

def y9x(H:List Obj)(A:List (Int × Int))(d:D):Prop:=
 (A=[]/\d=.imm .exact []) \/ ∃ k cs,d=.sl k 0 A.length 2 true true/\At H k (.cells cs)/\cs.take (A.length*2)=yf A

theorem s325(l:List Pst)(ok:y6f l)(hN:entN l<=1000000):∃ d hp',y1i E (dL E) 325 [y1m l] []=some (d,hp')/\y9x hp' (yax l) d:=by
 have e359:=r359 l
 refine z3d c325 (R:=fun d hp'=>y9x hp' (yax l) d) (by simp) ?_
 obtain⟨AS,hAS⟩:∃ AS,AS=yaw l:=⟨_,rfl⟩
 have hasl:AS.length=entN l:=by rw[hAS];exact zhl l
 have hLs:yax l=y1e (y1s AS):=by rw[hAS];rfl
 rw[hLs]
 simp[t325,n325,zj,e359]
 refine⟨380,_,rfl,?_⟩
 intro L hL hcb
 obtain⟨J,hJ⟩:∃ J:Nat->List (Int × Ent)->List Obj->Prop,J=fun f rem hp'=>2<=f /\ ∃ acc d,At hp' 0 (.cells [d])/\At hp' 1 (L false none)/\acc++rem.map yai=AS/\y4k f hp' acc d:=⟨_,rfl⟩
 have key:=i380 l ok 1 J (fun _=>False) (by
   rw[hJ]
   rintro f rem hp' r ⟨hf,acc,d,a1,a2,a3,a4⟩
   exact⟨hf,acc,d,a1.app,a2.app,a3,a4.app⟩) (by
   rw[hJ]
   rintro f rem hp' r ⟨hf,acc,d,a1,a2,a3,a4⟩
   exact⟨by have:=a2.lt;omega,acc,d,a1.app,a2.app,a3,a4.own⟩) (by
   intro f x rem hp1 o hj ho
   rw[hJ] at hj
   obtain⟨hf,acc,d,a1,a2,a3,a4⟩:=hj
   have l1:=a2.lt
   obtain⟨mi,⟨kd,ix,am⟩⟩:=x
   have hal:acc.length<=1000000:=by
    have:=congrArg dz a3
    rw[aw] at this
    omega
   obtain⟨H1,hH1⟩:∃ H1,H1=hp1.set 1 (L true none):=⟨_,rfl⟩
   have b0:At H1 0 (.cells [d]):=by rw[hH1];exact a1.ne (by omega)
   have b1:At H1 1 (L true none):=by rw[hH1];exact At.self l1
   have bf:At H1 f o:=by rw[hH1];exact ho.ne (by omega)
   have b4:y4k f H1 acc d:=by rw[hH1];exact a4.set (by omega)
   have l0:=b0.lt
   have lf:=bf.lt
   obtain⟨t,hp2,e1,e2⟩:=hcb [dI mi,y3n ⟨kd,ix,am⟩] hp1 (fun t hp'=>t=true/\J f rem hp'/\At hp' f o) rfl a2 (by
    rw[show[Obj.cells [D.imm y17.exact []]].length=1 from rfl]
    have y2:∀ r:List Obj,(hp1++r)[1]? = some (L false none):=fun r=>a2.app
    have y6:∀ r:List Obj,(hp1++r).set 1 (L true none)=H1++r:=fun r=>by rw[z1u l1,hH1]
    have y7:hp1.length=H1.length:=by rw[hH1,bv]
    have y0:∀ r:List Obj,(H1++r)[0]? = some (.cells [d]):=fun r=>b0.app
    have hda:d.atom=true:=by rcases a4 with⟨_,rfl⟩ | ⟨k,rfl,_⟩ <;> rfl
    obtain⟨d',H',g1,g2,g3,g4,g5⟩:=zqw (a:=kd) (b:=ix) (b4.app (r:=[.cells [dI kd,dI ix,dI am]])) hal (by rw[aw];omega) (by rw[aw];omega)
    have c0:At H' 0 (.cells [d]):=g5 0 _ (.inl (by omega)) b0.app
    have c1:At H' 1 (L true none):=g5 1 _ (.inl (by omega)) b1.app
    have cf:At H' f o:=g5 f _ (.inr rfl) bf.app
    have c10:∀ o,(H'.set 0 o)[1]? = some (L true none):=fun o=>c1.ne (by omega)
    have fin:J f rem ((H'.set 0 (.cells [d'])).set 1 (L false none))/\At ((H'.set 0 (.cells [d'])).set 1 (L false none)) f o:=by
     have k0:=c0.lt
     have k1:=c1.lt
     rw[hJ]
     refine⟨⟨hf,acc++[(kd,ix)],d',(At.self k0).ne (by omega),At.self (by rw[bv];exact k1),by rw[<- a3];simp[yai],(g2.set (by omega)).set (by omega)⟩,(cf.ne (by omega)).ne (by omega)⟩
    simp[y2c,↓y2,↓y6,y7,↓y0,hda,g1,g3,g4,c0.eq,↓c10]
    exact fin)
   exact⟨t,hp2,e1,fun _=>e2.2,fun h=>by rw[e2.1] at h;cases h⟩) (hp:=[.cells [.imm .exact []],L false none]) (f0:=2) (by
   rw[hJ]
   exact⟨ai _,[],.imm .exact [],rfl,rfl,by rw[zbp,hAS];rfl,.inl ⟨rfl,rfl⟩⟩)
 obtain⟨d,hp',h1,h2⟩:=key
 rcases h2 with⟨f,h2⟩ | h2
 ·rw[hJ] at h2
  obtain⟨_,acc,dd,a1,a2,a3,a4⟩:=h2
  rw[aK,List.append_nil] at a3
  subst a3
  refine⟨d,hp',h1,.inl ⟨a2,?_⟩⟩
  have hal:acc.length<=1000000:=by omega
  obtain⟨H2,hH2⟩:∃ H2,H2=hp'.set 1 Obj.dead:=⟨_,rfl⟩
  have b0:At H2 0 (.cells [dd]):=by rw[hH2];exact a1.ne (by omega)
  have b4:y4k f H2 acc dd:=by rw[hH2];exact a4.set (by omega)
  have l0:=b0.lt
  rcases b4 with⟨rfl,rfl⟩ | ⟨k,rfl,hk2,hkf,b4⟩
  ·have e1:=ydj (hp:=H2) (k:=362) (.inl rfl)
   have e2:=ydi H2
   have c0:∀ o,(H2.set 0 o)[0]? = some o:=fun o=>At.self l0
   simp[<- hH2,b0.eq,e1,e2,y16,↓c0]
   exact .inl ⟨by simp[y1s,y1e],rfl⟩
  ·have e1:=s361 (k:=362) (gr:=true) (ag:=true) (.inl rfl) b4 hal
   obtain⟨H3,hH3⟩:∃ H3,H3=H2.set k (.cells (yf (y1s acc))):=⟨_,rfl⟩
   have g0:At H3 0 (.cells [.sl k 0 acc.length 2 true true]):=by rw[hH3];exact b0.ne (by omega)
   have g4:At H3 k (.cells (yf (y1s acc))):=by rw[hH3];exact At.self b4.lt
   obtain⟨d',H4,e2,cs,rfl,f4,f5,K⟩:=s363 g4 (by rw[z7u];exact hal)
   rw[z7u] at e2
   have f0:=K.2 0 _ (by omega) g0
   have c0:∀ o,(H4.set 0 o)[0]? = some o:=fun o=>At.self f0.lt
   simp[<- hH2,b0.eq,e1,<- hH3,g0.eq,e2,f0.eq,y16,↓c0]
   exact .inr ⟨k,cs,rfl,f4.ne (by omega),f5⟩
 ·exact h2.elim


theorem r325(l:List Pst)(ok:y6f l)(hN:entN l<=1000000):y14 E (dL E) 325 [y1m l]=some (yaf (yax l)):=by
 obtain⟨d,hp',e,h⟩:=s325 l ok hN
 have hk:E.keep 325=false:=rfl
 unfold y14
 simp only[e,hk]
 show frz hp' 12 d=_
 rcases h with⟨h1,rfl⟩ | ⟨k,cs,rfl,h2,h3⟩
 ·rw[h1];rfl
 ·exact zph (n:=9) h2 h3

structure y88(n:Nat)(l:List Pst):Prop where
 v:vld tgB l
 len:l.length<=n
 ents:∀ p,p ∈ l->p.prev.length=32/\p.ents.length<=12
theorem y88.ok{n:Nat}{l:List Pst}(h:y88 n l)(hn:n<=1000):y6f l:=⟨by have:=h.len;omega,fun p hp=>⟨(h.ents p hp).1,by have:=(h.ents p hp).2;omega⟩⟩
theorem zmy:∀{l:List Pst},(∀ p,p ∈ l->p.ents.length<=12)->entN l<=12*l.length
 |[],_=>by simp[entN]
 |p::l,h=>by
  have:=zmy (l:=l) fun q hq=>h q (by simp[hq])
  have:=h p (by simp)
  simp only[entN,aC];omega
theorem y88.entN{n:Nat}{l:List Pst}(h:y88 n l)(hn:n<=1000):Dv.entN l<=1000000:=by
 have:=zmy fun p hp=>(h.ents p hp).2
 have:=h.len
 omega

end Dv

namespace Dv

def pr(n:Int):List Ent:=[⟨1,3,n⟩,⟨4,0,-n⟩]
theorem zmo{a b:Ent}(ha:y4o a)(hb:y4o b)(h:ltA a b):fmE [a,b]:=by
 refine⟨by simp,by simp,fun x hx=>?_,fun i hi=>?_⟩
 ·simp only[aB,List.not_mem_nil,or_false] at hx
  rcases hx with rfl | rfl
  ·exact ha
  ·exact hb
 ·have:i=0:=by simp at hi;omega
  subst this
  exact h
theorem zvj{n:Int}(h0:n ≠ 0)(h1 : -1099511627776<=n/\n<=1099511627776):fmE (pr n):=by
 refine zmo ⟨by simp,by simp,h0,h1⟩ ⟨by simp,by simp,?_,?_⟩ (.inl (by simp))
 ·simp only[];omega
 ·simp only[];omega
theorem zrf{n:Int}:y4m (pr n)=0:=by simp[pr,y4m];omega

def sx0:Stp:=⟨5,-1,pr 7⟩
def sx1:Stp:=⟨9,0,pr (-2)⟩
def px0:Pst:=y4f tgB [] sx0
def px1:Pst:=y4f tgB [px0] sx1
theorem zre:y2j tgB [] sx0=0:=by
 rw[z3z zbu (by simp) (by simp)]
 exact z1f.2 ⟨⟨by simp[y4f],by simp[y4f,sx0],by simp[y4f,sx0],zvj (by decide) (by decide)⟩,zrf⟩
theorem vx0:vld tgB [px0]:=(zca zre).2.2.1
theorem zgn:y2j tgB [px0] sx1=0:=by
 rw[z3z vx0 (by simp) (by simp[px0,y4f,sx0,sx1])]
 exact z1f.2 ⟨⟨by simp[y4f],by simp[y4f,sx1],by simp[y4f,sx1],zvj (by decide) (by decide)⟩,zrf⟩
theorem vx1:vld tgB [px0,px1]:=(zca zgn).2.2.1
theorem zvg:y2j tgB [] ⟨5,0,pr 7⟩=410:=by
 rw[z3z zbu (by simp) (by simp)]
 unfold y3o
 rw[if_neg fun h=>by have:=h.corrects.2;simp[y4f] at this]
theorem zvf:y2j tgB [] ⟨5,-1,[⟨1,3,3⟩,⟨4,0,-2⟩]⟩=411:=by
 rw[z3z zbu (by simp) (by simp)]
 unfold y3o
 rw[if_pos ⟨by simp[y4f],by simp[y4f],by simp[y4f],zmo ⟨by simp,by simp,by simp,by simp⟩ ⟨by simp,by simp,by simp,by simp⟩ (.inl (by simp))⟩,if_neg (by simp[y4f,y4m])]
theorem zoa:y2j tgB [px0] ⟨4,0,pr 1⟩=410:=by
 unfold y2j
 rw[if_neg (by simp[z1w.2 vx0]),if_neg (by simp),if_pos ⟨px0,rfl,by simp[px0,y4f,sx0]⟩]
theorem zsu:y76 1 3 8 [px0,px1]=7:=by
 simp[y76,px0,px1,y4f,sx0,sx1,pr,y54]
theorem zst:y76 1 3 9 [px0,px1]=5:=by
 simp[y76,px0,px1,y4f,sx0,sx1,pr,y54]
theorem zss:rdE tgB [px1]=410:=by
 have h1:=zgn
 have hg:=(zca zgn).2.2.2.2
 have hf:y2e [px1]=0:=z24.2 fun p hp=>by simp at hp;rw[hp];exact hg
 unfold rdE
 rw[if_neg (by simp),if_neg (by simp[hf]),if_neg fun v=>by
  have:=(v.2.2 0 px1 rfl).no
  simp[px1,y4f] at this]
theorem zsr:y3o ⟨0,0,0,[],z32⟩=410:=by
 unfold y3o
 rw[if_neg fun h=>by have:=h.ents.two;simp at this]
theorem zdn:∀{a b:List (Int × Int)},a.Perm b->a.Pairwise (fun x y=>y4y y x=false)->b.Pairwise (fun x y=>y4y y x=false)->a=b
 |[],b,hp,_,_=>by rw[List.nil_perm.1 hp]
 |x::a,[],hp,_,_=>by simp at hp
 |x::a,y::b,hp,ha,hb=>by
  obtain⟨a1,a2⟩:=dJ.1 ha
  obtain⟨b1,b2⟩:=dJ.1 hb
  have hxy:x=y:=by
   have h1:x ∈ y::b:=hp.mem_iff.1 (by simp)
   have h2:y ∈ x::a:=hp.mem_iff.2 (by simp)
   rcases aB.1 h1 with h1 | h1
   ·exact h1
   ·rcases aB.1 h2 with h2 | h2
    ·exact h2.symm
    ·have c1:=b1 x h1
     have c2:=a1 y h2
     rcases zl8 c2 with h | h
     ·exact h
     ·rw[h] at c1;simp at c1
  subst hxy
  rw[zdn ((List.perm_cons x).1 hp) a2 b2]
theorem zsv:yax [px0,px1]=[(1,3),(4,0)]:=by
 have e:yaw [px0,px1]=[(1,3),(4,0),(1,3),(4,0)]:=rfl
 have es:y1s [(1,3),(4,0),(1,3),(4,0)]=[(1,3),(1,3),(4,0),(4,0)]:=by
  refine zdn ((zay _).trans ?_) (zdw _) (by decide)
  exact(List.Perm.refl [((1:Int),(3:Int))]).append (List.Perm.swap (1,3) (4,0) [(4,0)])
 unfold yax
 rw[e,es]
 decide

end Dv

namespace Dv
attribute [local simp] ac depth y4s y82 y3l y2r y81 y5v y3a y23 Ret
attribute [local congr] z2n z2r z1y z1j z18 z1z z17


def y2l:y17->List Obj->List Obj
 |.tok q,h=>h.set q .dead
 |_,h=>h
theorem z51{sp:y17}{h:List Obj}:(y2l sp h).length=h.length:=by
 unfold y2l;split <;> simp
def y39(h:List Obj)(sp:y17)(n sz:Nat):Prop:=sp=.exact \/ ∃ k,sp=.tok k/\At h k (.tok (n*sz) sz)
theorem y39.app{h r:List Obj}{sp:y17}{n sz:Nat}(R:y39 h sp n sz):y39 (h++r) sp n sz:=by
 rcases R with R | ⟨k,R,a⟩
 ·exact .inl R
 ·exact .inr ⟨k,R,a.app⟩
theorem zlx{h r:List Obj}{sp:y17}{n sz:Nat}(R:y39 h sp n sz):y2l sp (h++r)=y2l sp h++r:=by
 rcases R with rfl | ⟨k,rfl,a⟩
 ·rfl
 ·exact z1u a.lt
theorem z6z{hp:List Obj}{id t e sz:Nat}{sp sp':y17}{els new:List D}(hk:(E.ty t).k=.slice e)(hs:(E.ty e).size=sz)(hl:yz hp (E.ty e).size (E.ty e).ag (.imm sp' new)=some new)(hap:y2o E e els new)(R:y39 hp sp els.length sz) :
  y77 E hp id t t (.imm sp els) (.imm sp' new)=some (.imm (.tok id) (els++new),y23 (y2l sp hp) id (.tok ((els.length+new.length)*sz) sz)):=by
 rw[hs] at hl
 rcases R with rfl | ⟨k,rfl,a⟩
 ·rw[zt]
  simp only[hk,hl,za,hs]
  rw[if_pos hap]
  rfl
 ·rw[z12]
  simp only[hk,hl,za,hs]
  rw[if_pos hap,a.eq,zby,za,if_pos ⟨rfl,rfl⟩]
  rfl
theorem zb7{hp:List Obj}{sp:y17}{sz:Nat}{ag:Bool}{els:List D}(h:∀ x,x ∈ els->x.storable=true/\x.cellsL.length=sz):yz hp sz ag (.imm sp els)=some els:=by
 simp only[yz]
 rw[if_pos (by
  rw[az]
  intro x hx
  rw[(h x hx).1,(h x hx).2];simp)]
theorem zh8{sz:Nat}{els:List D}(h:∀ x,x ∈ els->x.storable=true/\x.cellsL.length=sz):y31 sz els=true:=by
 unfold y31
 rw[az]
 intro x hx
 rw[(h x hx).1,(h x hx).2];simp
theorem ydb{h r:List Obj}{sp:y17}{j u s:Nat}(hr:r[j]? = some (.tok u s)):At (y2l sp h++r) (h.length+j) (.tok u s):=by
 have:=zcn (hp:=y2l sp h) (r:=r) (k:=j)
 rw[z51] at this
 unfold At
 rw[this];exact hr
theorem zds{h r:List Obj}{sp:y17}{n sz j:Nat}(hr:r[j]? = some (.tok (n*sz) sz)):y39 (y2l sp h++r) (.tok (h.length+j)) n sz:=.inr ⟨_,rfl,ydb hr⟩

def y9e:D:=.agg (y50.map dW)
def y73(n:Nat):Nat:=(119 - n % 64) % 64
theorem zla{n:Nat}:(n+1+y73 n) % 64=56:=by unfold y73;omega
theorem zl9{n:Nat}:y73 n<=63:=by unfold y73;omega
theorem zt9{n i:Nat}(h:i<y73 n) : ¬ (n+1+i) % 64=56:=by unfold y73 at h;omega
def y63(n:Nat):List UInt8:=(cm 8).map fun j=>aY (n*8 / 2 ^ (8*(7 - j)))
theorem z21{n:Nat}:(y63 n).length=8:=by unfold y63;simp
theorem zlr{n j:Nat}(h:j<8):(y63 n)[j]'(by rw[z21];exact h)=aY (n*8 / 2 ^ (8*(7 - j))):=by unfold y63;simp
def y6j(b:List UInt8):List UInt8:=b++128::ac (y73 b.length) 0++y63 b.length
theorem zos{b:List UInt8}:(y6j b).length % 64=0:=by
 have:=zla (n:=b.length)
 unfold y6j
 simp only[aw,aC,cV,z21]
 omega

theorem zb8{hp:List Obj}{sp:y17}{l:List UInt8}:yz hp (E.ty 13).size (E.ty 13).ag (.imm sp (l.map ya))=some (l.map ya):=by
 simp only[yz,show(E.ty 13).size=1 from rfl]
 rw[if_pos z5i]
theorem z8l{h:List Obj}{sp sp':y17}{l m:List UInt8}(hl:l.length+m.length<=100000000000)(R:y39 h sp l.length 1) :
  y77 E h h.length 30 30 (.imm sp (l.map ya)) (.imm sp' (m.map ya))=some (.imm (.tok h.length) ((l++m).map ya),y2l sp h++[.tok (l.length+m.length) 1]):=by
 have e:=z6z (hp:=h) (id:=h.length) (t:=30) (e:=13) (sz:=1) (sp:=sp) (sp':=sp') (els:=l.map ya) (new:=m.map ya) rfl rfl zb8 (zq (by simp;omega)) (by rw[au];exact R)
 rw[e,bo]
 have e2:y23 (y2l sp h) h.length (.tok (((l.map ya).length+(m.map ya).length)*1) 1)=y2l sp h++[.tok (l.length+m.length) 1]:=by
  unfold y23;rw[if_neg (by rw[z51];omega)];simp
 rw[e2]
theorem y39.tok1{h:List Obj}{sp:y17}{n:Nat}:y39 (y2l sp h++[.tok n 1]) (.tok h.length) n 1:=by
 have:=zds (h:=h) (r:=[.tok (n*1) 1]) (sp:=sp) (n:=n) (sz:=1) (j:=0) rfl
 rwa [Nat.mul_one] at this

theorem r418(b:List UInt8)(hb:b.length<=1000000000):y14 E (dL E) 418 [dBy b]=some (dBy (y6j b)):=by
 refine zh c418 (by simp) ?_
 have a1:=z8l (h:=[]) (sp:=.exact) (sp':=.none) (l:=[]) (m:=b) (by simp;omega) (.inl rfl)
 have a2:=z8l (h:=[.tok b.length 1]) (sp:=.tok 0) (sp':=.exact) (l:=b) (m:=[128]) (by simp;omega) (.inr ⟨0,rfl,by simp[At]⟩)
 have a1:y77 E [] 0 30 30 (.imm .exact []) (dBy b)=some (.imm (.tok 0) (b.map ya),[.tok b.length 1]):=by simpa[y2l] using a1
 obtain⟨P,hP⟩:∃ P,P=b++[128]:=⟨_,rfl⟩
 rw[<- hP] at a2
 have hPl:P.length=b.length+1:=by rw[hP];simp
 have a2:y77 E [.tok b.length 1] 1 30 30 (.imm (.tok 0) (b.map ya)) (.imm .exact [.int .u8 128])=some (.imm (.tok 1) (P.map ya),[.dead,.tok (b.length+1) 1]):=a2
 have hw:aV.wrap (aV.wrap (b.length:Int)*8)=((b.length*8:Nat):Int):=by rw[z14,z14];omega
 simp[t418,n418,-z12,-zt,a1,a2]
 have hz:P++ac 0 (0:UInt8)=P:=by simp
 have hpl:=zl9 (n:=b.length)
 refine z13 (y73 b.length) (fun i env h=>∃(x3 x4 x5 x6 x7 x8 x9 x10:D) (sp:y17),env=[dBy b,.imm .exact [],.imm sp ((P++ac i 0).map ya),x3,x4,x5,x6,x7,x8,x9,x10]/\y39 h sp (P++ac i (0:UInt8)).length 1) 0 (by omega) ⟨_,_,_,_,_,_,_,_,.tok 1,by rw[hz],.inr ⟨1,rfl,by simp[At,hPl]⟩⟩ ?_
 rintro i env h hi ⟨x3,x4,x5,x6,x7,x8,x9,x10,sp,rfl,R⟩
 obtain⟨Q,hQ⟩:∃ Q,Q=P++ac i (0:UInt8):=⟨_,rfl⟩
 have hQl:Q.length=b.length+1+i:=by rw[hQ];simp[hPl]
 rw[<- hQ] at R ⊢
 by_cases hlt:i<y73 b.length
 ·have hne:=zt9 hlt
  have hne' : ¬ ((Q.length:Int)).tmod 64=56:=by rw[eM (by omega)];omega
  have a3:=z8l (sp':=.exact) (m:=[0]) (by simp;omega) R
  have hQ2:Q++[0]=P++ac (i+1) 0:=by rw[hQ,bj,<- List.replicate_succ']
  rw[hQ2] at a3
  have a3:y77 E h h.length 30 30 (.imm sp (Q.map ya)) (.imm .exact [.int .u8 0])=some (.imm (.tok h.length) ((P++ac (i+1) 0).map ya),y2l sp h++[.tok (Q.length+1) 1]):=a3
  have hR:y39 (y2l sp h++[.tok (Q.length+1) 1]) (.tok h.length) (P++ac (i+1) (0:UInt8)).length 1:=by
   rw[<- hQ2,aw];exact y39.tok1
  generalize P++ac (i+1) (0:UInt8)=Q' at *
  simp[-z12,-zt,hne',hlt,a3]
  exact⟨_,_,_,_,_,_,_,_,_,⟨rfl,rfl,rfl,rfl,rfl,rfl,rfl,rfl,rfl⟩,hR⟩
 have:i=y73 b.length:=by omega
 subst this
 have heq:=zla (n:=b.length)
 have heq':((Q.length:Int)).tmod 64=56:=by rw[eM (by omega)];omega
 simp[heq',y2k,hw]
 have hz2:Q++(y63 b.length).take 0=Q:=by simp
 refine z13 8 (fun j env h=>∃(x5 x6 x7 x8 x9 x10:D) (sp:y17),env=[dBy b,.imm .exact [],.imm sp ((Q++(y63 b.length).take j).map ya),.int .u64 ((b.length*8:Nat):Int),dI (7 - (j:Int)),x5,x6,x7,x8,x9,x10]/\y39 h sp (Q++(y63 b.length).take j).length 1) 0 (by omega) ⟨_,_,_,_,_,_,sp,by rw[hz2];rfl,by rw[hz2];exact R⟩ ?_
 have hQ3:y6j b=Q++y63 b.length:=by rw[hQ,hP];unfold y6j;simp
 clear R
 clear h x4 x5 x6 x8 x9 x10 sp
 rintro j env h hj ⟨x5,x6,x7,x8,x9,x10,sp,rfl,R⟩
 by_cases hlt:j<8
 ·obtain⟨c,hc⟩:∃ c:Nat,7 - (j:Int)=c:=⟨7 - j,by omega⟩
  have hc2:c=7 - j:=by omega
  rw[hc]
  have hw8:av.wrap (8*(c:Int))=((8*c:Nat):Int):=by rw[zc ⟨by omega,by omega⟩];omega
  have hw9:av.wrap ((c:Int) - 1)=7 - (((j+1:Nat)):Int):=by rw[zc ⟨by omega,by omega⟩];omega
  have pb:=zgp (v:=b.length*8) (i:=c) (by omega)
  have hll:((Q++(y63 b.length).take j)).length<=2000000000:=by rw[aw,aP,z21];omega
  have htk:(y63 b.length).take (j+1)=(y63 b.length).take j++[aY (b.length*8 / 2 ^ (8*c))]:=by
   rw[aR (by rw[z21];exact hlt),zlr hlt,hc2]
  have a3:=z8l (sp':=.exact) (m:=[aY (b.length*8 / 2 ^ (8*c))]) (by simp at hll ⊢;omega) R
  rw[bj,<- htk] at a3
  have hR:y39 (y2l sp h++[.tok ((Q++(y63 b.length).take j).length+1) 1]) (.tok h.length) (Q++(y63 b.length).take (j+1)).length 1:=by
   rw[htk,<- bj,aw (bs:=[_])];exact y39.tok1
  generalize Q++(y63 b.length).take (j+1)=Q1 at *
  generalize Q++(y63 b.length).take j=Q0 at *
  simp only[ax,aK,aC,bA] at a3
  have h08:(0:Int)<=8*(c:Int):=by omega
  have htn:(8*(c:Int)).toNat=8*c:=by omega
  have pb:fh.wrap (((b.length:Int)*8).fdiv (2 ^ min (8*c) 64))=((aY (b.length*8 / 2 ^ (8*c))).toNat:Nat):=by rw[<- pb];rfl
  generalize aY (b.length*8 / 2 ^ (8*c))=u at *
  simp[-z12,-zt,hw8,hw9,y2k,h08,htn,z33,pb,a3]
  exact⟨hlt,_,_,_,_,_,_,_,⟨rfl,rfl,rfl,rfl,rfl,rfl,rfl⟩,hR⟩
 ·have:j=8:=by omega
  subst this
  have ht:(y63 b.length).take 8=y63 b.length:=bl (by rw[z21];omega)
  rw[ht,<- hQ3]
  simp[z6]

end Dv

namespace Dv

theorem yec(e f g:Wd):(e &&& f) ^^^ (~~~e &&& g)=g ^^^ (e &&& (f ^^^ g)):=by
 apply iN
 intro i hi
 simp only[jX,jY,BitVec.getLsbD_not,hi,decide_true,Bool.true_and]
 cases e.getLsbD i <;> cases f.getLsbD i <;> cases g.getLsbD i <;> rfl
theorem zvu(a b c:Wd):(a &&& b) ^^^ (a &&& c) ^^^ (b &&& c)=(a &&& b) ||| (c &&& (a ||| b)):=by
 apply iN
 intro i hi
 simp only[jX,jY,BitVec.getLsbD_or]
 cases a.getLsbD i <;> cases b.getLsbD i <;> cases c.getLsbD i <;> rfl

end Dv

namespace Dv

theorem zfc{m:List UInt8}{off n v:Nat}:∀{i x:Nat},i<=n->off+n<=m.length->x<m.length->(y56 m off n v i)[x]? = if off+n<=x+i/\x<off+n then some (aY (v / 2 ^ (8*(off+n - 1 - x)))) else m[x]?
 | 0,x,_,_,hx=>by rw[y56,if_neg (by omega)]
 |i+1,x,hi,ho,hx=>by
  rw[y56,List.getElem?_set,z3n,zfc (by omega) ho hx]
  by_cases h:off+(n - 1 - i)=x
  ·rw[if_pos h,if_pos (by omega),if_pos (by omega),show off+n - 1 - x=i from by omega]
  ·rw[if_neg h]
   by_cases h2:off+n<=x+i/\x<off+n
   ·rw[if_pos h2,if_pos (by omega)]
   ·rw[if_neg h2,if_neg (by omega)]
theorem zdv{m:List UInt8}{off n:Nat}(h:off+8<=m.length):y56 m off 8 (n*8) 8=m.take off++y63 n++m.drop (off+8):=by
 apply cr
 intro x
 by_cases hx:x<m.length
 ·rw[zfc (by omega) h hx]
  by_cases h1:x<off
  ·rw[if_neg (by omega),bj,ay (by simp;omega),List.getElem?_take_of_lt h1]
  ·by_cases h2:x<off+8
   ·rw[if_pos (by omega),ay (by simp[z21];omega),aA (by simp;omega)]
    rw[aP,bu (by omega),af (by rw[z21];omega),zlr (by omega),show off+8 - 1 - x=7 - (x - off) from by omega]
   ·rw[if_neg (by omega),aA (by simp[z21];omega),List.getElem?_drop]
    congr 1;simp[z21];omega
 ·rw[aW (by rw[z3n];omega),aW (by simp[z21];omega)]

theorem z8j{b c:List UInt8}{s:List Wd}:∀{k:Nat},64*k<=b.length->y3f (b++c) k s=y3f b k s
 | 0,_=>rfl
 |k+1,h=>by
  rw[y3f,y3f,z8j (by omega),fw (by omega),List.take_append_of_le_length (by simp;omega)]
theorem zd0{b:List UInt8}{s:List Wd}{k:Nat}:∀{j:Nat},y3f b (k+j) s=y3f (b.drop (64*k)) j (y3f b k s)
 | 0=>rfl
 |j+1=>by
  rw[show k+(j+1)=(k+j)+1 from rfl,y3f,zd0,y3f,List.drop_drop,show 64*(k+j)=64*k+64*j from by omega]

theorem zve{r:List UInt8}(h:r.length<64):tl1 r=r++128::ac (127 - r.length) 0:=by
 unfold tl1 tl0
 rw[show 128 - r.length=(127 - r.length)+1 from by omega,dZ,dG _ _ (ai _),fB,eu]
theorem zgk{r:List UInt8}{n:Nat}(h:r.length<64)(hn:r.length<n)(hn2:n<=128):(tl1 r).take n=r++128::ac (n - 1 - r.length) 0:=by
 rw[zve h,List.take_append,bl (by omega)]
 congr 1
 rw[show n - r.length=(n - 1 - r.length)+1 from by omega,List.take_succ_cons,List.take_replicate,bu (by omega)]

def ydg(b:List UInt8):List UInt8:=y41 (y3f (y6j b) ((y6j b).length / 64) y58) 8
theorem zt1(b:List UInt8):ydg b=y5m b:=by
 obtain⟨q,hq⟩:∃ q,q=b.length / 64:=⟨_,rfl⟩
 obtain⟨r,hr⟩:∃ r,r=rst b q:=⟨_,rfl⟩
 have hrl:r.length=b.length - 64*q:=by rw[hr,zc5]
 have hr64:r.length<64:=by omega
 obtain⟨T,hT⟩:∃ T,T=r++128::ac (y73 b.length) 0++y63 b.length:=⟨_,rfl⟩
 have hp:y6j b=b.take (64*q)++T:=by
  have:b=b.take (64*q)++r:=by rw[hr];unfold rst;rw[bq]
  unfold y6j
  rw[hT]
  conv=>lhs;arg 1;arg 1;rw[this]
  simp only[bj]
 have htl:(b.take (64*q)).length=64*q:=by rw[aP];omega
 have hd:(y6j b).drop (64*q)=T:=by rw[hp,fw (by omega),List.drop_of_length_le (by omega),bD]
 have hb0:y3f (y6j b) q y58=y3f b q y58:=by
  unfold y6j
  rw[bj]
  exact z8j (by omega)
 have hTl:T.length=r.length+1+y73 b.length+8:=by rw[hT];simp[z21];omega
 have hpl:(y6j b).length=64*q+T.length:=by rw[hp,aw,htl]
 unfold ydg y5m
 rw[<- hq,<- hr]
 by_cases h:55<r.length
 ·rw[if_pos h]
  have hz:y73 b.length=120 - 1 - r.length:=by unfold y73;omega
  rw[show(y6j b).length / 64=q+2 from by omega,zd0,hd,hb0,zdv (by rw[z8v (by omega)];omega),zgk hr64 (by omega) (by omega),<- hz,<- hT,z8j (by omega)]
 ·rw[if_neg h]
  have hz:y73 b.length=56 - 1 - r.length:=by unfold y73;omega
  rw[show(y6j b).length / 64=q+1 from by omega,zd0,hd,hb0,zdv (by rw[z8v (by omega)];omega),zgk hr64 (by omega) (by omega),<- hz,<- hT,z8j (by omega)]

def y7b(v:List Wd):List UInt8:=(cm 32).map fun i=>aY ((v.getD (i / 4) 0).toNat / 2 ^ (8*(3 - i % 4)))
theorem z6e{v:List Wd}:(y7b v).length=32:=by unfold y7b;simp
theorem zlb{v:List Wd}{x:Nat}(h:x<32):(y7b v)[x]? = some (aY ((v.getD (x / 4) 0).toNat / 2 ^ (8*(3 - x % 4)))):=by
 unfold y7b
 rw[List.getElem?_map,List.getElem?_range h];rfl
theorem zlc{v:List Wd}:∀{i x:Nat},i<=8->x<32->(y41 v i)[x]? = if x<4*i then(y7b v)[x]? else some 0
 | 0,x,_,hx=>by
  rw[y41,if_neg (by omega)]
  unfold z32
  rw[List.getElem?_replicate,if_pos hx]
 |i+1,x,hi,hx=>by
  rw[y41,zfc (by omega) (by rw[z2c];omega) (by rw[z2c];exact hx),zlc (by omega) hx,zlb hx]
  by_cases h1:x<4*i
  ·rw[if_neg (by omega),if_pos h1,if_pos (by omega)]
  ·by_cases h2:x<4*(i+1)
   ·rw[if_pos (by omega),if_pos h2,show x / 4=i from by omega,show 4*i+4 - 1 - x=3 - x % 4 from by omega]
   ·rw[if_neg (by omega),if_neg h1,if_neg h2]
theorem ztb{v:List Wd}:y41 v 8=y7b v:=by
 apply cr
 intro x
 by_cases hx:x<32
 ·rw[zlc (by omega) hx,if_pos (by omega)]
 ·rw[aW (by rw[z2c];omega),aW (by rw[z6e];omega)]

end Dv

namespace Dv
attribute [local simp] ac depth y4s y82 y3l y2r y81 y5v y3a y23 Ret
attribute [local congr] z2n z2r z1y z1j z18 z1z z17


def kXp:Xp:=.n (.build 80 (((cm 64).zip y50).map fun p=>(p.1,.c (dW p.2)))) .nil
theorem zsq:t423=.seq (.run 0 [.eff none (some 0) (.alloc 80) .nil none]) (.seq (.run 0 [.eff none none (.store 80 (.t 0) (.t 1)) (.cons 0 (.v 0) (.cons 1 kXp .nil)) none]) .ret):=by kernel_rfl
theorem ztj{cP:Nat->List D->Option D}{env:List D}{hp:List Obj}:xv E cP env hp kXp=some y9e:=by
 have h:y64 E 80 ((((cm 64).zip y50).map fun p=>(p.1,(Opd.c (dW p.2)))).map fun p=>(p.1,gOf [] p.2))=some y9e:=by kernel_rfl
 exact h
theorem r423:y14 E (dL E) 423 []=some y9e:=by
 refine zh c423 (by simp) ?_
 have st:y3b E [.cells (ac 64 (.int .u32 0))] 80 (.loc 0 0) y9e=some [.cells (y50.map dW)]:=by rfl
 have ld:yt E [.cells (y50.map dW)] 80 (.loc 0 0)=some y9e:=by rfl
 have fz:frz [.cells (y50.map dW)] 12 y9e=some y9e:=by rfl
 simp only[ac] at st
 rw[zsq]
 simp[n423,ztj,st,ld,fz,-zp,-z72]

theorem zr9{b:List UInt8}{i j:Nat}(h1:i<=j)(h2:j<=b.length):y15 E 30 (.imm .none (b.map ya)) (some (dI i)) (some (dI j)) none=some (.imm .none (((b.drop i).take (j - i)).map ya)):=by
 unfold y15
 simp[bnd]
 exact⟨⟨h1,h2,zcl⟩,by unfold y2q;simp⟩
theorem zkj{b:List UInt8}:y68 (b.take 4) 4=y68 b 4:=by unfold y68;rw[List.take_take];rfl
def w8:List Wd:=ac 8 0
theorem yc2{a:Wd}:y7i .u32 (if b6.signed=true then -1 else b6.max) (a.toNat:Int)=((~~~a).toNat:Nat):=by
 have h:=zhn (a:=BitVec.allOnes 32) (b:=a)
 rw[BitVec.allOnes_xor] at h
 rw[<- h];rfl
theorem zw7{a b c d e f g h:D}:y25 E 76 (.iptr [a,b,c,d,e,f,g,h]) (.int .i64 0)=some (.iptr [a,b,c,d,e,f,g,h]):=rfl
theorem zw6{a b c d e f g h:D}:y25 E 76 (.iptr [a,b,c,d,e,f,g,h]) (.int .i64 1)=some (.iptr [b,c,d,e,f,g,h]):=rfl
theorem zw5{a b c d e f g h:D}:y25 E 76 (.iptr [a,b,c,d,e,f,g,h]) (.int .i64 2)=some (.iptr [c,d,e,f,g,h]):=rfl
theorem zw4{a b c d e f g h:D}:y25 E 76 (.iptr [a,b,c,d,e,f,g,h]) (.int .i64 3)=some (.iptr [d,e,f,g,h]):=rfl
theorem zw3{a b c d e f g h:D}:y25 E 76 (.iptr [a,b,c,d,e,f,g,h]) (.int .i64 4)=some (.iptr [e,f,g,h]):=rfl
theorem zw2{a b c d e f g h:D}:y25 E 76 (.iptr [a,b,c,d,e,f,g,h]) (.int .i64 5)=some (.iptr [f,g,h]):=rfl
theorem zw1{a b c d e f g h:D}:y25 E 76 (.iptr [a,b,c,d,e,f,g,h]) (.int .i64 6)=some (.iptr [g,h]):=rfl
theorem zw0{a b c d e f g h:D}:y25 E 76 (.iptr [a,b,c,d,e,f,g,h]) (.int .i64 7)=some (.iptr [h]):=rfl
theorem il78{n:Int}{r:List D}:y3s E 78 (.iptr (.int .u32 n::r))=some (.int .u32 n):=rfl
def bkS8(s v:List Wd):List Wd:=match s,v with
 |[s0,s1,s2,s3,s4,s5,s6,s7],[a,b,c,d,e,f,g,h]=>[s0+a,s1+b,s2+c,s3+d,s4+e,s5+f,s6+g,s7+h]
 |s,_=>s
theorem yeg{s v:List Wd}(hs:s.length=8)(hv:v.length=8):y78 s v 8=bkS8 s v:=by
 obtain⟨s0,s1,s2,s3,s4,s5,s6,s7,rfl⟩:=y93 hs
 obtain⟨a,b,c,d,e,f,g,h,rfl⟩:=y93 hv
 rfl

theorem r419(s:List Wd)(b:List UInt8)(hs:s.length=8)(hb:b.length=64):y14 E (dL E) 419 [.agg (s.map dW),dBy b]=some (.agg ((y2u s b).map dW)):=by
 obtain⟨s0,s1,s2,s3,s4,s5,s6,s7,rfl⟩:=y93 hs
 refine zh c419 (by simp) ?_
 simp[t419,n419]
 refine z13 16 (fun i env h=>∃(x6 x7 x8 x9 x10 x11 x12 x13 x14 x15 x16 x17 x18 x19 x20 x21 x22 x23:D) ,env=[.agg [dW s0,dW s1,dW s2,dW s3,dW s4,dW s5,dW s6,dW s7],dBy b,.iptr [dW s0,dW s1,dW s2,dW s3,dW s4,dW s5,dW s6,dW s7],.loc 0 0,.loc 1 0,dI i,x6,x7,x8,x9,x10,x11,x12,x13,x14,x15,x16,x17,x18,x19,x20,x21,x22,x23]/\Wds h 1 (y7a b i)/\Wds h 0 w8) 0 (by omega) ?_ ?_
 ·refine⟨_,_,_,_,_,_,_,_,_,_,_,_,_,_,_,_,_,_,rfl,?_,?_⟩ <;> rfl
 rintro i env h hi ⟨x6,x7,x8,x9,x10,x11,x12,x13,x14,x15,x16,x17,x18,x19,x20,x21,x22,x23,rfl,w1,w2⟩
 by_cases hlt:i<16
 ·have hi16:(i:Int)<16:=by omega
  have hi64:(i:Int)<64:=by omega
  have hup:=zl hlt (by omega)
  have hw4:av.wrap (4*(i:Int))=4*(i:Int):=zc ⟨by omega,by omega⟩
  have hw5:av.wrap (4*(i:Int)+4)=4*(i:Int)+4:=zc ⟨by omega,by omega⟩
  have hy:y15 E 30 (.imm .none (b.map ya)) (some (.int .i64 (4*(i:Int)))) (some (.int .i64 (4*(i:Int)+4))) none=some (.imm .none (((b.drop (4*i)).take 4).map ya)):=by
   have:=zr9 (b:=b) (i:=4*i) (j:=4*i+4) (by omega) (by omega)
   rw[show 4*i+4 - 4*i=4 from by omega] at this
   exact this
  have e:=r421 ((b.drop (4*i)).take 4) (by rw[aP,cX];omega)
  rw[zkj] at e
  have hst:y7a b (i+1)=(y7a b i).set i (y68 (b.drop (4*i)) 4):=rfl
  generalize hbb:(b.drop (4*i)).take 4=bb at hy e
  generalize y68 (b.drop (4*i)) 4=wv at e hst
  have w1':h[1]? = some (.cells ((y7a b i).map dW)):=w1
  have hl63:i<64:=by omega
  have hl65:i+1<=64:=by omega
  have hh1:=w1.lt
  simp[hi16,hup,hw4,hw5,hy,e,hi64,w1',z62,hl63,hl65,z42,z6]
  refine⟨hlt,?_,w2.ne (by omega)⟩
  unfold Wds
  rw[hst,fD]
  exact At.self hh1
 have:i=16:=by omega
 subst this
 simp
 refine z13 48 (fun k env h=>∃(x5 x7 x8 x9 x10 x11 x12 x13 x14 x15 x16 x17 x18 x19 x20 x21 x22 x23:D) ,env=[.agg [dW s0,dW s1,dW s2,dW s3,dW s4,dW s5,dW s6,dW s7],dBy b,.iptr [dW s0,dW s1,dW s2,dW s3,dW s4,dW s5,dW s6,dW s7],.loc 0 0,.loc 1 0,x5,dI ((k:Int)+16),x7,x8,x9,x10,x11,x12,x13,x14,x15,x16,x17,x18,x19,x20,x21,x22,x23]/\Wds h 1 (y2v b k)/\Wds h 0 w8) 0 (by omega) ⟨_,_,_,_,_,_,_,_,_,_,_,_,_,_,_,_,_,_,rfl,w1,w2⟩ ?_
 clear hi hlt w1 w2 h
 rintro k env h hi ⟨x5,x7,x8,x9,x10,x11,x12,x13,x14,x15,x16,x17,x18,x19,x20,x21,x22,x23,rfl,w1,w2⟩
 have hhl:1<h.length:=w1.lt
 have w1':h[1]? = some (.cells ((y2v b k).map dW)):=w1
 by_cases hlt:k<48
 ·have hk64:(k:Int)+16<64:=by omega
  have i15:av.wrap ((k:Int)+16 - 15)=(k:Int)+1:=by rw[zc ⟨by omega,by omega⟩];omega
  have i2:av.wrap ((k:Int)+16 - 2)=(k:Int)+14:=by rw[zc ⟨by omega,by omega⟩];omega
  have i16:av.wrap ((k:Int)+16 - 16)=(k:Int):=by rw[zc ⟨by omega,by omega⟩];omega
  have i7:av.wrap ((k:Int)+16 - 7)=(k:Int)+9:=by rw[zc ⟨by omega,by omega⟩];omega
  have i1:av.wrap ((k:Int)+16+1)=(k:Int)+1+16:=by rw[zc ⟨by omega,by omega⟩];omega
  have hst:y2v b (k+1)=(y2v b k).set (k+16) ((y2v b k).getD k 0+sg0 ((y2v b k).getD (k+1) 0)+(y2v b k).getD (k+9) 0+sg1 ((y2v b k).getD (k+14) 0)):=rfl
  have hgd:∀ j,j<64->(y2v b k)[j]? = some ((y2v b k).getD j 0):=fun j hj=>by rw[ah,af (by rw[z3l];exact hj)];rfl
  have g0:=hgd k (by omega)
  have g1:=hgd (k+1) (by omega)
  have g9:=hgd (k+9) (by omega)
  have g14:=hgd (k+14) (by omega)
  have hlen:(y2v b k).length=64:=z3l
  clear hgd
  generalize (y2v b k).getD k 0=v0 at g0 hst
  generalize (y2v b k).getD (k+1) 0=v1 at g1 hst
  generalize (y2v b k).getD (k+9) 0=v9 at g9 hst
  generalize (y2v b k).getD (k+14) 0=v14 at g14 hst
  generalize y2v b k=W at g0 g1 g9 g14 hst hlen w1 w1'
  have b1:(0:Int)<=(k:Int)+1:=by omega
  have d1:(k:Int)+1<64:=by omega
  have t1:((k:Int)+1).toNat=k+1:=by omega
  have b14:(0:Int)<=(k:Int)+14:=by omega
  have d14:(k:Int)+14<64:=by omega
  have t14:((k:Int)+14).toNat=k+14:=by omega
  have b9:(0:Int)<=(k:Int)+9:=by omega
  have d9:(k:Int)+9<64:=by omega
  have t9:((k:Int)+9).toNat=k+9:=by omega
  have b16:(0:Int)<=(k:Int)+16:=by omega
  have d16:(k:Int)+16<64:=by omega
  have t16:((k:Int)+16).toNat=k+16:=by omega
  have d0:(k:Int)<64:=by omega
  have n16:k+16<64:=by omega
  have n17:k+16+1<=64:=by omega
  have wA:∀ r:List Obj,(h++r)[1]? = some (.cells (W.map dW)):=fun r=>w1.app (r:=r)
  have r1:y14 E (dL E) 422 [dW v1,dI 7]=some (dW (y4n v1 25)):=y92 v1 7 (by decide)
  have r2:y14 E (dL E) 422 [dW v1,dI 18]=some (dW (y4n v1 14)):=y92 v1 18 (by decide)
  have r3:y14 E (dL E) 422 [dW v14,dI 17]=some (dW (y4n v14 15)):=y92 v14 17 (by decide)
  have r4:y14 E (dL E) 422 [dW v14,dI 19]=some (dW (y4n v14 13)):=y92 v14 19 (by decide)
  have i0:av.wrap (k:Int)=(k:Int):=zc ⟨by omega,by omega⟩
  have sh3:∀ x:Wd,(x.toNat:Int).fdiv 8=((x >>> 3).toNat:Nat):=fun x=>zho (a:=x) (n:=3) (by omega)
  have sh10:∀ x:Wd,(x.toNat:Int).fdiv 1024=((x >>> 10).toNat:Nat):=fun x=>zho (a:=x) (n:=10) (by omega)
  simp[hk64,i0,i15,i2,i16,i7,i1,w1',↓wA,g0,g1,g9,g14,hlen,r1,r2,r3,r4,b1,d1,t1,b14,d14,t14,b9,d9,t9,b16,t16,d0,n16,n17,z4m,sh3,sh10,zhn,zhq,-fJ,-eg,-BitVec.toNat_ushiftRight]
  refine⟨hlt,?_,w2.app.ne (by omega)⟩
  unfold Wds
  rw[hst,fD]
  exact At.self (by first | (simp;done) | (simp;omega))
 have:k=48:=by omega
 subst this
 obtain⟨W,hW⟩:∃ W,W=y2v b 48:=⟨_,rfl⟩
 have hWl:W.length=64:=by rw[hW];exact z3l
 have e423:=r423
 rw[<- hW] at w1
 have st:y3b E (h++[.cells (ac 64 (.int .u32 0))]) 80 (.loc h.length 0) y9e=some (h++[.cells (y50.map dW)]):=by
  have e:(h++[Obj.cells (ac 64 (.int .u32 0))])[h.length]? = some (.cells (ac 64 (.int .u32 0))):=by simp
  unfold y3b
  simp only[e]
  rw[if_pos ⟨rfl,rfl,by decide⟩]
  have e2:setCells (ac 64 (D.int .u32 0)) 0 y9e.cellsL=y50.map dW:=by rfl
  rw[e2]
  simp
 simp only[ac] at st
 have hk0:At (h ++ .cells (y50.map dW)::ac 24 Obj.dead) h.length (.cells (y50.map dW)):=by simp[At]
 have w1:=w1.app (r:=.cells (y50.map dW)::ac 24 Obj.dead)
 have w2:=w2.app (r:=.cells (y50.map dW)::ac 24 Obj.dead)
 simp only[ac] at hk0 w1 w2
 simp[e423,-z72,st,zw7,zw6,zw5,zw4,zw3,zw2,zw1,zw0,il78]
 generalize h++Obj.cells (y50.map dW)::_=H at hk0 w1 w2 ⊢
 generalize h.length=C at hk0 ⊢
 refine z13 64 (fun i env h'=>∃(x5 x6 x7 x8 x19 x20 x21 x22 x23:D) (a b' c d e f g g':Wd),env=[.agg [dW s0,dW s1,dW s2,dW s3,dW s4,dW s5,dW s6,dW s7],dBy b,.iptr [dW s0,dW s1,dW s2,dW s3,dW s4,dW s5,dW s6,dW s7],.loc 0 0,.loc 1 0,x5,x6,x7,x8,.loc C 0,dW a,dW b',dW c,dW d,dW e,dW f,dW g,dW g',dI i,x19,x20,x21,x22,x23]/\y8a W [s0,s1,s2,s3,s4,s5,s6,s7] i=[a,b',c,d,e,f,g,g']/\At h' C (.cells (y50.map dW))/\Wds h' 1 W/\Wds h' 0 w8) 0 (by omega) ⟨_,_,_,_,_,_,_,_,_,_,_,_,_,_,_,_,_,rfl,rfl,hk0,w1,w2⟩ ?_
 clear hi hlt hk0 w1 w2 w1' st hhl
 rintro i env h' hi ⟨x5,x6,x7,x8,x19,x20,x21,x22,x23,a,b',c,d,e,f,g,g',rfl,hr,hk0,w1,w2⟩
 by_cases hlt:i<64
 ·have hi64:(i:Int)<64:=by omega
  have hup:=zl hlt (by omega)
  have hst:y8a W [s0,s1,s2,s3,s4,s5,s6,s7] (i+1)=rnd W i (y8a W [s0,s1,s2,s3,s4,s5,s6,s7] i):=rfl
  rw[hr] at hst
  have kA:∀ r:List Obj,(h'++r)[C]? = some (.cells (y50.map dW)):=fun r=>hk0.app (r:=r)
  have wA:∀ r:List Obj,(h'++r)[1]? = some (.cells (W.map dW)):=fun r=>w1.app (r:=r)
  have hw:W[i]? = some (W.getD i 0):=by rw[ah,af (by omega)];rfl
  have hk:y50[i]? = some (y50.getD i 0):=by rw[ah,af (by rw[z8d];exact hlt)];rfl
  have hkl:=z8d
  simp only[rnd] at hst
  generalize W.getD i 0=wi at hw hst
  generalize y50.getD i 0=ki at hk hst
  rw[<- yec,<- zvu] at hst
  generalize y50=KT at hk kA hkl hk0 ⊢
  have q1:y14 E (dL E) 422 [dW e,dI 6]=some (dW (y4n e 26)):=y92 e 6 (by decide)
  have q2:y14 E (dL E) 422 [dW e,dI 11]=some (dW (y4n e 21)):=y92 e 11 (by decide)
  have q3:y14 E (dL E) 422 [dW e,dI 25]=some (dW (y4n e 7)):=y92 e 25 (by decide)
  have q4:y14 E (dL E) 422 [dW a,dI 2]=some (dW (y4n a 30)):=y92 a 2 (by decide)
  have q5:y14 E (dL E) 422 [dW a,dI 13]=some (dW (y4n a 19)):=y92 a 13 (by decide)
  have q6:y14 E (dL E) 422 [dW a,dI 22]=some (dW (y4n a 10)):=y92 a 22 (by decide)
  simp[hi64,hup,↓wA,↓kA,hw,hk,hkl,hWl,q1,q2,q3,q4,q5,q6,zhn,zhq,zv1,y9l,yc2,-fJ,-eg,-BitVec.toNat_and,-BitVec.toNat_or,-BitVec.toNat_not]
  refine⟨hlt,?_⟩
  repeat apply jV
  exact⟨by and_intros <;> rfl,hst,hk0.app,w1.app,w2.app⟩
 have:i=64:=by omega
 subst this
 have hV:y2u [s0,s1,s2,s3,s4,s5,s6,s7] b=[s0+a,s1+b',s2+c,s3+d,s4+e,s5+f,s6+g,s7+g']:=by
  unfold y2u
  rw[<- hW,hr,yeg rfl rfl];rfl
 rw[hV]
 have w2':h'[0]? = some (.cells [.int .u32 0,.int .u32 0,.int .u32 0,.int .u32 0,.int .u32 0,.int .u32 0,.int .u32 0,.int .u32 0]):=w2
 have h0:=w2.lt
 have hs0:∀ o:Obj,(h'.set 0 o)[0]? = some o:=fun o=>At.self h0
 simp[zw7,zw6,zw5,zw4,zw3,zw2,zw1,zw0,il78,w2',↓hs0,zhq,-eg]
 try trace_state

theorem zi6{v j:Nat}(h:j<4):fh.wrap ((v:Int).fdiv (2 ^ (min (8*j) 32)))=((aY (v / 2 ^ (8*j))).toNat:Nat):=by
 rw[zf1,bu (by omega),Int.fdiv_eq_ediv_of_nonneg _ (Int.pow_nonneg (by decide)),UInt8.toNat_ofNat']
 have e:(v:Int) / 2 ^ (8*j)=((v / 2 ^ (8*j):Nat):Int):=by rw[Int.natCast_ediv,Int.natCast_pow];rfl
 rw[e]
 omega
def y8i(v:List Wd)(i:Nat):List UInt8:=(y7b v).take i++ac (32 - i) 0
theorem zou{v:List Wd}{i:Nat}(h:i<=32):(y8i v i).length=32:=by unfold y8i;simp[z6e];omega
theorem zvl{v:List Wd}{i:Nat}(h:i<32):y8i v (i+1)=(y8i v i).set i (aY ((v.getD (i / 4) 0).toNat / 2 ^ (8*(3 - i % 4)))):=by
 have hl:(y7b v).length=32:=z6e
 have e:(y7b v)[i]'(by omega)=aY ((v.getD (i / 4) 0).toNat / 2 ^ (8*(3 - i % 4))):=by
  have:=zlb (v:=v) h
  rw[af (by omega)] at this
  exact bZ this
 unfold y8i
 rw[aR (by omega),e,show 32 - i=(32 - (i+1))+1 from by omega,dZ,dG _ _ (by simp;omega),aP,bu (by omega),fB,eu,bj]
 rfl
theorem zld{v:List Wd}:y8i v 32=y7b v:=by unfold y8i;rw[bl (by rw[z6e];omega)];simp

theorem r410(b:List UInt8)(hb:b.length<=1000000000):y14 E (dL E) 410 [dBy b]=some (y4r (y5m b)):=by
 have e418:=r418 b hb
 rw[<- zt1]
 refine zh c410 (by simp) ?_
 have hm:=zos (b:=b)
 have hpz:=zl9 (n:=b.length)
 have hPl:(y6j b).length<=1000000100:=by unfold y6j;simp only[aw,aC,cV,z21];omega
 unfold ydg
 generalize y6j b=P at *
 obtain⟨m,hm2⟩:∃ m,m=P.length / 64:=⟨_,rfl⟩
 rw[<- hm2]
 have hP:P.length=64*m:=by omega
 simp[t410,n410,z6,e418]
 refine z13 m (fun k env h=>∃(x5 x6 x7 x8:D) ,env=[dBy b,.loc 0 0,.loc 1 0,dBy P,dI (64*(k:Int)),x5,x6,x7,x8]/\Bys h 0 z32/\Wds h 1 (y3f P k y58)) 0 (by omega) ⟨_,_,_,_,rfl,rfl,rfl⟩ ?_
 rintro k env h hi ⟨x5,x6,x7,x8,rfl,B,W⟩
 by_cases hlt:k<m
 ·have hcmp:64*(k:Int)<P.length:=by omega
  have hw:av.wrap (64*(k:Int)+64)=64*((k:Int)+1):=by rw[zc ⟨by omega,by omega⟩];omega
  have hw2:(64*((k:Int)+1))=((64*(k+1):Nat):Int):=by omega
  have sl:y15 E 30 (dBy P) (some (.int .i64 (64*(k:Int)))) (some (.int .i64 (64*((k:Int)+1)))) none=some (dBy ((P.drop (64*k)).take 64)):=by
   have:=zr9 (b:=P) (i:=64*k) (j:=64*(k+1)) (by omega) (by omega)
   rw[show 64*(k+1) - 64*k=64 from by omega] at this
   rw[hw2];exact this
  have e419:=r419 (y3f P k y58) ((P.drop (64*k)).take 64) (z2e rfl) (by rw[aP,cX];omega)
  have hst:y3f P (k+1) y58=y2u (y3f P k y58) ((P.drop (64*k)).take 64):=rfl
  rw[<- hst] at e419
  obtain⟨a0,a1,a2,a3,a4,a5,a6,a7,hS⟩:=y93 (z2e (b:=P) (s:=y58) rfl (k:=k))
  obtain⟨d0,d1,d2,d3,d4,d5,d6,d7,hT⟩:=y93 (z2e (b:=P) (s:=y58) rfl (k:=k+1))
  generalize (P.drop (64*k)).take 64=X at *
  rw[hS,hT] at e419
  rw[hS] at W
  rw[hT]
  have wA:∀ r:List Obj,(h++r)[1]? = some (.cells [dW a0,dW a1,dW a2,dW a3,dW a4,dW a5,dW a6,dW a7]):=fun r=>W.app (r:=r)
  have hl1:=W.lt
  simp at e419
  simp[hcmp,hw,z42,sl,z6,↓wA,e419]
  exact⟨hlt,B.app.ne (by decide),At.self (by simp)⟩
 have:k=m:=by omega
 subst this
 have hcmp : ¬ 64*(k:Int)<P.length:=by omega
 obtain⟨V,hV⟩:∃ V,V=y3f P k y58:=⟨_,rfl⟩
 have hVl:V.length=8:=by rw[hV];exact z2e rfl
 rw[ztb,<- hV]
 rw[<- hV] at W
 have hz:z32.map ya=ac 32 (D.int .u8 0):=by unfold z32;rw[bN];rfl
 have hsz:setCells (ac 32 (D.int .u8 0)) 0 (ac 32 (D.int .u8 0))=ac 32 (D.int .u8 0):=by rfl
 have B1:Bys (h++[.cells (ac 32 (D.int .u8 0))]) h.length z32:=by unfold Bys;rw[hz];simp[At]
 have B0:=B.app (r:=[.cells (ac 32 (D.int .u8 0))])
 have W1:=W.app (r:=[.cells (ac 32 (D.int .u8 0))])
 simp only[ac] at hsz B1 B0 W1
 simp[hcmp,↓hsz]
 have hC1:1<h.length:=W.lt
 generalize h++_=H at B1 B0 W1 ⊢
 generalize h.length=C at B1 hC1 ⊢
 clear B W hcmp hlt hi hsz
 clear h
 have e0:y8i V 0=z32:=by unfold y8i;simp[z32]
 refine z13 32 (fun i env h=>∃(x3 x4 x7 x8:D) ,env=[dBy b,.loc 0 0,.loc 1 0,x3,x4,.loc C 0,dI i,x7,x8]/\Bys h 0 z32/\Wds h 1 V/\Bys h C (y8i V i)) 0 (by omega) ⟨_,_,_,_,rfl,B0,W1,by rw[e0];exact B1⟩ ?_
 clear B0 W1 B1
 clear H x5 x6 x7 x8
 rintro i env h hi ⟨x3,x4,x7,x8,rfl,B0,W1,B1⟩
 by_cases hlt:i<32
 ·have hi32:(i:Int)<32:=by omega
  have hup:=zl hlt (by omega)
  have q1:av.wrap ((i:Int) / 4)=(i:Int) / 4:=zc ⟨by omega,by omega⟩
  have t0:(0:Int)<=(i:Int) / 4:=by omega
  have t1:(i:Int) / 4<8:=by omega
  have t2:((i:Int) / 4).toNat=i / 4:=by omega
  have q2:(i:Int).tmod 4=(i:Int) % 4:=eM (by omega)
  have h31:i<=31:=by omega
  have q3:av.wrap (8*((i:Int) % 4))=8*((i:Int) % 4):=zc ⟨by omega,by omega⟩
  obtain⟨c,hc⟩:∃ c:Nat,c=8*(3 - i % 4):=⟨_,rfl⟩
  have q4:av.wrap (24 - 8*((i:Int) % 4))=(c:Int):=by rw[zc ⟨by omega,by omega⟩];omega
  have hn4:i / 4<8:=by omega
  have hv:V[i / 4]? = some (V.getD (i / 4) 0):=by rw[ah,af (by omega)];rfl
  have hp:=zi6 (v:=(V.getD (i / 4) 0).toNat) (j:=3 - i % 4) (by omega)
  have hst:=zvl (v:=V) hlt
  have hol:=zou (v:=V) (i:=i) (by omega)
  have hBl:=B1.lt
  rw[<- hc] at hp hst
  have eV:V.getD (i / 4) 0=V[i / 4]'(by omega):=by rw[ah,af (by omega)];rfl
  rw[eV] at hp hst hv
  generalize aY ((V[i / 4]'(by omega)).toNat / 2 ^ c)=ub at hp hst
  have w':h[1]? = some (.cells (V.map dW)):=W1
  have b':h[C]? = some (.cells ((y8i V i).map ya)):=B1
  simp[hi32,hup,q1,t0,t1,t2,hn4,h31,q2,q3,q4,hp,hVl,hol,w',b',z4m,y2k]
  refine⟨hlt,B0.ne (by omega),W1.ne (by omega),?_⟩
  unfold Bys
  rw[hst,fD]
  exact At.self hBl
 have:i=32:=by omega
 subst this
 rw[zld] at B1
 have hol:(y7b V).length=32:=z6e
 have l1:=z4w B1 hol
 have z2:h[0]? = some (.cells (z32.map ya)):=B0
 have z5:z32.length=32:=rfl
 have y4:setCells (z32.map ya) 0 ((y7b V).map ya)=(y7b V).map ya:=zb (by rw[au,au,hol];rfl)
 have y5:Bys (h.set 0 (.cells ((y7b V).map ya))) 0 (y7b V):=At.self B0.lt
 have y6:=z2f y5 hol
 simp[l1,z2,y4,↓y6,z5,hol,z6]
 try trace_state

theorem ziq{hp:List Obj}{k n:Nat}{g:Bool}{T:List UInt8}(B:Bys hp k T)(h:T.length=n):yz hp 1 false (.sl k 0 n 1 false g)=some (T.map ya):=by
 have e:hp[k]? = some (.cells (T.map ya)):=B
 unfold yz
 simp only[yx,e,cK,z4k n T (by omega),bl (Nat.le_of_eq h)]
 simp
theorem zd2{l:List UInt8}{m:List UInt8}(h:l.length+m.length<=100000000000):y2o E 13 (l.map ya) (m.map ya):=zq (by simp;omega)

theorem ydl(t b:List UInt8)(ht:t.length<=1000)(hb:b.length<=900000000):y14 E (dL E) 390 [.str t,dBy b]=some (y4r (tgB t b)):=by
 have e1:=r410 t (by omega)
 have e3:=r410 (y5m t++b) (by rw[aw,z1m];omega)
 have hl:=z1m (b:=t)
 refine zh c390 (by simp) ?_
 have hl3:=z1m (b:=y5m t++b)
 unfold tgB
 generalize y5m t=T at e1 e3 hl hl3 ⊢
 generalize y5m (T++b)=U at e3 hl3 ⊢
 have hsl:y15 E 73 (.loc 1 0) none none none=some (.sl 1 0 32 1 false false):=rfl
 have hsc:setCells (z32.map ya) 0 (T.map ya)=T.map ya:=zb (by rw[au,au,hl];rfl)
 have hz:z32.map ya=ac 32 (D.int .u8 0):=by unfold z32;rw[bN];rfl
 rw[hz] at hsc
 simp only[ac] at hsc
 have hsc2:setCells (z32.map ya) 0 (U.map ya)=U.map ya:=zb (by rw[au,au,hl3];rfl)
 rw[hz] at hsc2
 simp only[ac] at hsc2
 have hlo:=fun(A:Obj) (r:List Obj)=>ziq (hp:=A :: .cells (T.map ya)::r) (k:=1) (g:=false) (T:=T) (by rfl) hl
 have a1:=zd2 (l:=[]) (m:=T) (by simp;omega)
 have a2:=zd2 (l:=T) (m:=b) (by omega)
 have hfa:y1j (frz [] 11) (T.map ya++b.map ya)=some (T.map ya++b.map ya):=by rw[<- bo];exact z6
 have e3':y14 E (dL E) 410 [.imm .none (T.map ya++b.map ya)]=some (y4r U):=by rw[<- bo];exact e3
 have hld:∀ r:List Obj,yt E (.cells (U.map ya)::r) 73 (.loc 0 0)=some (.agg (U.map ya)):=fun r=>z2f rfl hl3
 simp at a1
 simp[t390,n390,e1,e3',z6,hl,hl3,hsl,↓hsc,↓hsc2,hlo,a1,a2,hfa,↓hld]
 try trace_state

theorem r392(a b:List UInt8)(ha:a.length=32)(hb:b.length=32):y14 E (dL E) 392 [y4r a,y4r b]=some (y4r (tgB [99,104,97,105,110] (a++b))):=by
 have e2:=ydl [99,104,97,105,110] (a++b) (by simp) (by simp;omega)
 have hl:(tgB [99,104,97,105,110] (a++b)).length=32:=z1m
 have s1:=z3w ha
 have s2:=z3w hb
 refine zh c392 (by simp) ?_
 generalize tgB [99,104,97,105,110] (a++b)=U at e2 hl ⊢
 have e2':y14 E (dL E) 390 [.str [99,104,97,105,110],.imm .none (a.map ya++b.map ya)]=some (y4r U):=by rw[<- bo];exact e2
 have hfa:y1j (frz [] 11) (a.map ya++b.map ya)=some (a.map ya++b.map ya):=by rw[<- bo];exact z6
 have hsc2:setCells (z32.map ya) 0 (U.map ya)=U.map ya:=zb (by rw[au,au,hl];rfl)
 have hz:z32.map ya=ac 32 (D.int .u8 0):=by unfold z32;rw[bN];rfl
 rw[hz] at hsc2
 simp only[ac] at hsc2
 have hld:∀ r:List Obj,yt E (.cells (U.map ya)::r) 73 (.loc 0 0)=some (.agg (U.map ya)):=fun r=>z2f rfl hl
 have hfz:frz [] 11 (.str [99,104,97,105,110])=some (.str [99,104,97,105,110]):=rfl
 have hfz2:frz [] 12 (.str [99,104,97,105,110])=some (.str [99,104,97,105,110]):=rfl
 have a1:=zd2 (l:=[]) (m:=a) (by simp;omega)
 have a2:=zd2 (l:=a) (m:=b) (by omega)
 simp at a1
 have f1:(a.map ya).all (fun d=>d.storable && d.cellsL.length == 1)=true:=z5i
 have f2:(b.map ya).all (fun d=>d.storable && d.cellsL.length == 1)=true:=z5i
 simp[t392,n392,e2',z6,ha,hb,hl,s1,s2,↓hsc2,hfa,↓hld,hfz,hfz2,a1,a2,f1,f2]
 try trace_state

theorem zv6{n:Int}(h:i64 n)(h0:0<=n):aV.wrap (2*aV.wrap n)=(uns n:Nat):=by
 obtain⟨h1,h2⟩:=h
 unfold uns
 rw[if_pos h0,z14,z14];omega
theorem zse{n:Int}(h:i64 n)(h0 : ¬ 0<=n):aV.wrap (aV.wrap (2*aV.wrap (-(n+1)))+1)=(uns n:Nat):=by
 obtain⟨h1,h2⟩:=h
 unfold uns
 rw[if_neg h0,z14,z14,z14];omega
theorem r303{n:Int}(h:i64 n):y14 E (dL E) 303 [dI n]=some (.int .u64 (uns n:Nat)):=by
 refine zh c303 (by simp) ?_
 by_cases h0:0<=n
 ·have e:=zv6 h h0
  simp[t303,n303,h0,y2k,e]
 ·have e:=zse h h0
  obtain⟨h1,h2⟩:=h
  have w1:av.wrap (n+1)=n+1:=zc ⟨by omega,by omega⟩
  have w2:av.wrap (-(n+1)) = -(n+1):=zc ⟨by omega,by omega⟩
  simp[t303,n303,h0,y2k,w1,w2,e]

theorem yds:∀(m u:Nat) (_:u<m) (_:u<18446744073709551616),y14 E (dL E) 304 [.int .u64 (u:Int)]=some (dBy (num u)):=by
 intro m
 induction m with
 |zero=>intro u hm;omega
 |succ m ih=>
  intro u hm hu
  have hd:u<128 \/ ¬ u<128:=by omega
  rcases hd with h | h
  ·refine zh c304 (by simp) ?_
   have h':(u:Int)<128:=by omega
   have e0:=z8p (n:=u)
   rw[show u % 256=u from by omega] at e0
   have e3:=mk8 (n:=u) (by omega)
   rw[z9b h]
   simp only[ya] at e3
   simp[t304,n304,h,h',y2k,e0,e3]
  ·have h' : ¬ (u:Int)<128:=by omega
   have e:=ih (u / 128) (by omega) (by omega)
   have hlen:=z5a (u:=u / 128) (by omega)
   rw[ze2 h]
   have q1:aV.wrap ((u:Int).tmod 128+128)=((u % 128+128:Nat):Int):=by rw[z14,eM (by omega)];omega
   have q2:=z8p (n:=u % 128+128)
   rw[show(u % 128+128) % 256=u % 128+128 from by omega] at q2
   have q3:aV.wrap ((u:Int) / 128)=((u / 128:Nat):Int):=by rw[z14];omega
   obtain⟨c,hc⟩:∃ c,c=u % 128+128:=⟨_,rfl⟩
   have e3:=mk8 (n:=c) (by omega)
   rw[<- hc] at q1 q2 ⊢
   obtain⟨v,hv⟩:∃ v,v=u / 128:=⟨_,rfl⟩
   rw[<- hv] at q3 e hlen ⊢
   simp only[ya] at e3
   have a1:=zq (l:=[aY c]) (new:=(num v).map ya) (by simp;omega)
   generalize aY c=cb at *
   generalize num v=N at *
   simp at a1
   have a2:y2o E 13 [.int .u8 cb.toNat] (N.map ya):=a1
   have fz:∀ hp n,y1j (frz hp (n+1)) (D.int .u8 cb.toNat::N.map ya)=some (D.int .u8 cb.toNat::N.map ya):=fun hp n=>z6 (l:=cb::N)
   refine zh c304 (by simp) ?_
   simp[t304,n304,h',y2k,q1,q2,q3,e,e3,a2,fz,z6]
theorem ydt{u:Nat}(h:u<18446744073709551616):y14 E (dL E) 304 [.int .u64 (u:Int)]=some (dBy (num u)):=yds (u+1) u (by omega) h

theorem r301:∀(m:Nat) (v:CV),sizeOf v<=m->y47 v->y14 E (dL E) 301 [dV v]=some (.bool true):=by
 intro m
 induction m with
 |zero=>intro v hm;cases v;simp at hm
 |succ m ih=>
  intro v hm hf
  obtain⟨k,n,s,l⟩:=v
  have hf':=hf.f
  have hz:=z3i (hp:=[]) hf
  refine zh c301 (by simp) ?_
  rw[fmd] at hf'
  rw[z1l]
  rcases hf' with⟨rfl,hn,rfl,rfl⟩ | ⟨rfl,rfl,rfl⟩ | ⟨rfl,rfl,rfl,hl⟩
  ·simp[t301,n301]
  ·simp[t301,n301]
  ·have hln:=hf.len.2
   simp[t301,n301]
   refine z13 l.length (fun i env h=>∃(x0 x4 x5 x6 x7 x8 x9:D) ,env=[x0,.iptr [dI 3,dI 0,.str [],.imm .none (l.map dV)],.bool false,dI i,x4,x5,x6,x7,x8,x9]) 0 (by omega) ⟨_,_,_,_,_,_,_,rfl⟩ ?_
   rintro i env h hi ⟨x0,x4,x5,x6,x7,x8,x9,rfl⟩
   by_cases hlt:i<l.length
   ·have hv:=hf.sub (aN hlt)
    have e:=ih l[i] (by have:=eJ (aN hlt);rw[CV.mk.sizeOf_spec] at hm;omega) hv
    have hz':=z3i (hp:=[]) hv
    have hup:=zl hlt (by omega)
    obtain⟨k,n,s,l',hq⟩:∃ k n s l',l[i]=CV.mk k n s l':=by
     cases h:l[i] with
     |mk k n s l'=>exact⟨k,n,s,l',rfl⟩
    rw[hq] at e hz'
    rw[z1l] at e hz'
    simp[hlt,hq,z1l,e,hz',hup]
   ·have:i=l.length:=by omega
    subst this
    simp
    try trace_state

theorem r302:∀(m:Nat) (v:CV),sizeOf v<=m->y47 v->y14 E (dL E) 302 [dV v]=some (dI (dep v)):=by
 intro m
 induction m with
 |zero=>intro v hm;cases v;simp at hm
 |succ m ih=>
  intro v hm hf
  obtain⟨k,n,s,l⟩:=v
  have hf':=hf.f
  have hz:=z3i (hp:=[]) hf
  refine zh c302 (by simp) ?_
  rw[fmd] at hf'
  rw[z1l]
  rcases hf' with⟨rfl,hn,rfl,rfl⟩ | ⟨rfl,rfl,rfl⟩ | ⟨rfl,rfl,rfl,hl⟩
  ·simp[t302,n302,dep]
  ·simp[t302,n302,dep]
  ·have hln:=hf.len.2
   have hd:y5g l<=3:=by have:=hf.d;rw[dep,if_pos rfl] at this;omega
   have hdw:av.wrap ((y5g l:Int)+1)=(y5g l:Int)+1:=zc ⟨by omega,by omega⟩
   simp[t302,n302,dep]
   refine z13 l.length (fun i env h=>∃(x0 x2 x5 x6:D) ,env=[x0,.iptr [dI 3,dI 0,.str [],.imm .none (l.map dV)],x2,dI (y5g (l.take i)),dI i,x5,x6]) 0 (by omega) ⟨_,_,_,_,rfl⟩ ?_
   rintro i env h hi ⟨x0,x2,x5,x6,rfl⟩
   by_cases hlt:i<l.length
   ·have hv:=hf.sub (aN hlt)
    have e:=ih l[i] (by have:=eJ (aN hlt);rw[CV.mk.sizeOf_spec] at hm;omega) hv
    have hz':=z3i (hp:=[]) hv
    have hup:=zl hlt (by omega)
    obtain⟨k,n,s,l',hq⟩:∃ k n s l',l[i]=CV.mk k n s l':=by
     cases h:l[i] with
     |mk k n s l'=>exact⟨k,n,s,l',rfl⟩
    have hdt:=zen hlt
    rw[hq] at e hz' hdt
    rw[z1l] at e hz'
    simp[hlt,hq,z1l,e,hz',hup]
    rw[hdt]
    simp only[Nat.max_def]
    split <;> split <;> omega
   ·have:i=l.length:=by omega
    subst this
    simp[hdw]

theorem r286{v:CV}(h:y47 v):y14 E (dL E) 286 [dV v]=some (dI 0):=by
 have e:=r301 (sizeOf v) v (ai _) h
 have e2:=r302 (sizeOf v) v (ai _) h
 have hz:=z3i (hp:=[]) h
 have hd:=h.d
 obtain⟨k,n,s,l⟩:=v
 refine zh c286 (by simp) ?_
 have hd' : ¬ (16:Int)<(dep (.mk k n s l):Int):=by omega
 rw[z1l] at e e2 hz ⊢
 simp[t286,n286,e,e2,hz,hd']

theorem znt{h:List Obj}{sp sp':y17}{l m:List UInt8}(hl:l.length+m.length<=900000000000)(R:y39 h sp l.length 1) :
  y77 E h h.length 30 30 (.imm sp (l.map ya)) (.imm sp' (m.map ya))=some (.imm (.tok h.length) ((l++m).map ya),y2l sp h++[.tok (l.length+m.length) 1]):=by
 have e:=z6z (hp:=h) (id:=h.length) (t:=30) (e:=13) (sz:=1) (sp:=sp) (sp':=sp') (els:=l.map ya) (new:=m.map ya) rfl rfl zb8 (zq (by simp;omega)) (by rw[au];exact R)
 rw[e,bo]
 have e2:y23 (y2l sp h) h.length (.tok (((l.map ya).length+(m.map ya).length)*1) 1)=y2l sp h++[.tok (l.length+m.length) 1]:=by
  unfold y23;rw[if_neg (by rw[z51];omega)];simp
 rw[e2]

theorem r287:∀(m:Nat) (v:CV),sizeOf v<=m->y47 v->y14 E (dL E) 287 [dV v]=some (dBy (enc v)):=by
 intro m
 induction m with
 |zero=>intro v hm;cases v;simp at hm
 |succ m ih=>
  intro v hm hf
  obtain⟨k,n,s,l⟩:=v
  have hf':=hf.f
  have hn:=hf.n
  rw[fmd] at hf'
  rcases hf' with⟨rfl,hi,rfl,rfl⟩ | ⟨rfl,rfl,rfl⟩ | ⟨rfl,rfl,rfl,hl⟩
  ·have e1:=r303 hi
   have e2:=ydt (zd7 hi)
   have hlen:=z5a (zd7 hi)
   rw[enc,if_pos rfl]
   generalize num (uns n)=N at *
   have a1:y2o E 13 [.int .u8 1] (N.map ya):=zq (l:=[1]) (by simp;omega)
   have fz:∀ hp n,y1j (frz hp (n+1)) (D.int .u8 1::N.map ya)=some (D.int .u8 1::N.map ya):=fun hp n=>z6 (l:=1::N)
   refine zh c287 (by simp) ?_
   rw[z1l]
   simp[t287,n287,e1,e2,a1,fz,z5i]
  ·have hsl:=hf.len.1
   have e2:=ydt (u:=s.length) (by omega)
   have hlen:=z5a (u:=s.length) (by omega)
   have hw:=z86 (n:=s.length) (by omega)
   rw[enc,if_neg (by decide),if_pos rfl]
   generalize num s.length=N at *
   have a1:y2o E 13 [.int .u8 2] (N.map ya):=zq (l:=[2]) (by simp;omega)
   have a2:y2o E 13 (.int .u8 2::N.map ya) (s.map ya):=zq (l:=2::N) (by simp;omega)
   have fz:∀ hp n,y1j (frz hp (n+1)) (D.int .u8 2::(N.map ya++s.map ya))=some (D.int .u8 2::(N.map ya++s.map ya)):=fun hp n=>by
    have:=z6 (hp:=hp) (n:=n) (l:=2::(N++s))
    rw[ax,bo] at this
    exact this
   have hc:1+N.length=N.length+1:=Nat.add_comm _ _
   refine zh c287 (by simp) ?_
   rw[z1l]
   simp[t287,n287,y2k,hw,e2,a1,a2,fz,hc]
  ·have hln:=hf.len.2
   have e2:=ydt (u:=l.length) (by omega)
   have hlen:=z5a (u:=l.length) (by omega)
   have hw:=z86 (n:=l.length) (by omega)
   rw[enc,if_neg (by decide),if_neg (by decide)] at hn ⊢
   generalize num l.length=N at *
   have a1:y2o E 13 [.int .u8 3] (N.map ya):=zq (l:=[3]) (by simp;omega)
   refine zh c287 (by simp) ?_
   rw[z1l]
   simp[t287,n287,y2k,hw,e2,a1,z5i]
   refine z13 l.length (fun i env h=>∃(x0 x2 x5 x6 x7 x8 x9 x10 x11 x12 x13:D) (sp:y17) (O:List UInt8),env=[x0,.iptr [dI 3,dI 0,.str [],.imm .none (l.map dV)],x2,.imm sp (O.map ya),dI i,x5,x6,x7,x8,x9,x10,x11,x12,x13]/\O=3::(N++y3j (l.take i))/\y39 h sp O.length 1) 0 (by omega) ⟨_,_,_,_,_,_,_,_,_,_,_,.tok 0,3::N,by rfl,by simp[y3j],.inr ⟨0,rfl,by simp[At];omega⟩⟩ ?_
   rintro i env h hi ⟨x0,x2,x5,x6,x7,x8,x9,x10,x11,x12,x13,sp,O,rfl,hO,R⟩
   by_cases hlt:i<l.length
   ·have hv:=hf.sub (aN hlt)
    have e:=ih l[i] (by have:=eJ (aN hlt);rw[CV.mk.sizeOf_spec] at hm;omega) hv
    have hz':=z3i (hp:=[]) hv
    have hup:=zl hlt (by omega)
    have hsp:y3j (l.take (i+1))=y3j (l.take i)++enc l[i]:=by
     rw[aR hlt,z3j];simp[y3j]
    have htk:y3j l=y3j (l.take (i+1))++y3j (l.drop (i+1)):=by rw[<- z3j,bq]
    have hO2:O++enc l[i]=3::(N++y3j (l.take (i+1))):=by rw[hO,hsp];simp
    have hol:O.length+(enc l[i]).length<=900000000000:=by
     have:=congrArg dz hO2
     rw[htk] at hn
     simp only[aw,aC] at this hn
     omega
    have ap:=znt (sp':=.none) hol R
    obtain⟨k,n,s,l',hq⟩:∃ k n s l',l[i]=CV.mk k n s l':=by
     cases h:l[i] with
     |mk k n s l'=>exact⟨k,n,s,l',rfl⟩
    rw[hq] at e hz' hO2 ap
    rw[z1l] at e hz'
    generalize enc (.mk k n s l')=X at *
    have hR:y39 (y2l sp h++[.tok (O.length+X.length) 1]) (.tok h.length) (O++X).length 1:=by
     rw[aw];exact y39.tok1
    generalize O++X=Q at *
    simp[-z12,-zt,hlt,hq,z1l,e,hz',hup,ap]
    exact⟨_,_,_,_,_,_,_,_,_,_,_,_,Q,⟨rfl,rfl,⟨rfl,rfl⟩,rfl,rfl,rfl,rfl,rfl,rfl,rfl,rfl,rfl⟩,hO2,hR⟩
   ·have:i=l.length:=by omega
    subst this
    rw[bh] at hO
    rw[<- hO]
    simp[z6]

theorem r270{v:CV}(h:y47 v):y14 E (dL E) 270 [dV v]=some (.tup [dBy (enc v),dI 0]):=by
 have e:=r286 h
 have e2:=r287 (sizeOf v) v (ai _) h
 have hz:=z3i (hp:=[]) h
 obtain⟨k,n,s,l⟩:=v
 refine zh c270 (by simp) ?_
 rw[z1l] at e e2 hz ⊢
 simp[t270,n270,e,e2,hz,z6]

end Dv

namespace Dv

def okT(x:Ent):Prop:=(1<=x.kind/\x.kind<=4)/\(-1<=x.idx/\x.idx<=4095)/\(-1099511627776<=x.amt/\x.amt<=1099511627776)/\x.amt ≠ 0
instance(x:Ent):Decidable (okT x):=inferInstanceAs (Decidable (_/\_))
end Dv

namespace Dv
attribute [local simp] ac depth y4s y82 y3l y2r y81 y5v y3a y23 Ret
attribute [local congr] z2n z2r z1y z1j z18 z1z z17


theorem r393(e x:Ent):y14 E (dL E) 393 [y3k e.kind e.idx,y3k x.kind x.idx]=some (.bool (decide (ltA e x))):=by
 refine zh c393 (by simp) ?_
 by_cases h1:e.kind<x.kind
 ·have:ltA e x:=.inl h1
  simp[t393,n393,h1,this]
 ·by_cases h2:e.kind=x.kind
  ·by_cases h3:e.idx<x.idx
   ·have:ltA e x:=.inr ⟨h2,h3⟩
    simp[t393,n393,h1,h2,h3,this]
   ·have : ¬ ltA e x:=by unfold ltA;omega
    simp[t393,n393,h1,h2,h3,this]
  ·have : ¬ ltA e x:=by unfold ltA;omega
   simp[t393,n393,h1,h2,this]

def fmAt(t:List Ent)(j:Nat):Prop:=∃ x,t[j]? = some x/\y4o x /\ ∀ i y,i+1=j->t[i]? = some y->ltA y x
theorem zmp{t:List Ent}:fmE t ↔ (2<=t.length/\t.length<=4096) /\ ∀ j,j<t.length->fmAt t j:=by
 constructor
 ·intro h
  refine⟨⟨h.two,h.most⟩,fun j hj=>⟨t[j],af hj,h.ok _ (aN hj),fun i y e hy=>?_⟩⟩
  subst e
  obtain⟨h1,rfl⟩:=ae.1 hy
  exact h.ord i hj
 ·intro ⟨⟨h1,h2⟩,h⟩
  refine⟨h1,h2,fun x hx=>?_,fun i hi=>?_⟩
  ·obtain⟨j,hj⟩:=List.mem_iff_getElem?.1 hx
   obtain⟨y,hy,ok,_⟩:=h j (ae.1 hj).1
   rw[hj] at hy;cases hy;exact ok
  ·obtain⟨y,hy,_,o⟩:=h (i+1) hi
   rw[af hi] at hy
   cases hy
   exact o i _ rfl (af (by omega))

open Classical in
theorem r378(t:List Ent)(hl:t.length<=1000000):y14 E (dL E) 378 [.imm .none (t.map y3n)]=some (.bool (decide (fmE t))):=by
 have e393:=r393
 obtain⟨B,hB⟩:∃ B,B=decide (fmE t):=⟨_,rfl⟩
 have hBf : ¬ fmE t->B=false:=fun h=>by rw[hB];simp[h]
 have hBt:fmE t->B=true:=fun h=>by rw[hB];simp[h]
 rw[<- hB]
 refine zh c378 (by simp) ?_
 by_cases h2:t.length<2
 ·have h2':(t.length:Int)<2:=by omega
  have:=hBf fun h=>by have:=h.two;omega
  simp[t378,n378,h2',this]
 have h2' : ¬ (t.length:Int)<2:=by omega
 by_cases h4:4096<t.length
 ·have h4':(4096:Int)<t.length:=by omega
  have:=hBf fun h=>by have:=h.most;omega
  simp[t378,n378,h2',h4',this]
 have h4' : ¬ (4096:Int)<t.length:=by omega
 simp[t378,n378,h2',h4']
 refine z13 t.length (fun i env h=>∃(x3 x4 x5 x6 x7 x8:D) ,env=[.imm .none (t.map y3n),.bool false,dI i,x3,x4,x5,x6,x7,x8] /\ ∀ j,j<i->fmAt t j) 0 (by omega) ⟨_,_,_,_,_,_,rfl,fun j hj=>by omega⟩ ?_
 rintro i env h hi ⟨x3,x4,x5,x6,x7,x8,rfl,ht⟩
 by_cases hlt:i<t.length
 rotate_left
 ·have:i=t.length:=by omega
  subst this
  have:=hBt (zmp.2 ⟨⟨by omega,by omega⟩,ht⟩)
  simp[this]
 have hup:=zl hlt (by omega)
 obtain⟨x,hx⟩:∃ x,x=t[i]:=⟨_,rfl⟩
 have hx2:t[i]? = some x:=by rw[hx];exact af hlt
 have no : ¬ y4o x->B=false:=fun h=>hBf fun h2=>by
  obtain⟨y,hy,ok,_⟩:=(zmp.1 h2).2 i hlt
  rw[hx2] at hy;cases hy
  exact h ok
 by_cases c1:x.kind<1
 ·have:=no fun h=>by have:=h.1;omega
  simp[hlt,<- hx,c1,this]
 by_cases c2:5<x.kind
 ·have:=no fun h=>by have:=h.1;omega
  simp[hlt,<- hx,c1,c2,this]
 by_cases c3:x.idx < -1
 ·have:=no fun h=>by have:=h.2.1;omega
  simp[hlt,<- hx,c1,c2,c3,this]
 by_cases c4:4095<x.idx
 ·have:=no fun h=>by have:=h.2.1;omega
  simp[hlt,<- hx,c1,c2,c3,c4,this]
 by_cases c5:x.amt=0
 ·have:=no fun h=>h.2.2.1 c5
  simp[hlt,<- hx,c1,c2,c3,c4,c5,this]
 by_cases c6:x.amt < -1099511627776
 ·have:=no fun h=>by have:=h.2.2.2;omega
  simp[hlt,<- hx,c1,c2,c3,c4,c5,c6,this]
 by_cases c7:1099511627776<x.amt
 ·have:=no fun h=>by have:=h.2.2.2;omega
  simp[hlt,<- hx,c1,c2,c3,c4,c5,c6,c7,this]
 have ok:y4o x:=⟨⟨by omega,by omega⟩,⟨by omega,by omega⟩,c5,by omega,by omega⟩
 rcases ci i with h0 | h0
 ·subst h0
  simp[hlt,<- hx,c1,c2,c3,c4,c5,c6,c7]
  exact⟨rfl,x,hx2,ok,fun i y e=>by omega⟩
 ·have hw:av.wrap ((i:Int) - 1)=((i - 1:Nat):Int):=by
   rw[zc ⟨by omega,by omega⟩];omega
  have hlt':i - 1<t.length:=by omega
  obtain⟨y,hy⟩:∃ y,y=t[i - 1]:=⟨_,rfl⟩
  have hy2:t[i - 1]? = some y:=by rw[hy];exact af hlt'
  have no2 : ¬ ltA y x->B=false:=fun h=>hBf fun h2=>by
   obtain⟨x',hx',_,o⟩:=(zmp.1 h2).2 i hlt
   rw[hx2] at hx';cases hx'
   exact h (o (i - 1) y (by omega) hy2)
  have e393:=e393 y x
  by_cases hxy:ltA y x
  ·rw[decide_eq_true hxy] at e393
   simp[hlt,<- hx,c1,c2,c3,c4,c5,c6,c7,h0,hw,hlt',<- hy,e393,hup]
   intro j hj
   rcases Nat.lt_or_ge j i with h5 | h5
   ·exact ht j h5
   ·have:j=i:=by omega
    subst this
    refine⟨x,hx2,ok,fun k z e hz=>?_⟩
    have:k=j - 1:=by omega
    subst this
    rw[hy2] at hz;cases hz;exact hxy
  ·rw[decide_eq_false hxy] at e393
   have:=no2 hxy
   simp[hlt,<- hx,c1,c2,c3,c4,c5,c6,c7,h0,hw,hlt',<- hy,e393,this]

theorem r379(t:List Ent)(h:fmE t):y14 E (dL E) 379 [.imm .none (t.map y3n)]=some (dI (y4m t)):=by
 refine zh c379 (by simp) ?_
 have hm:=h.most
 obtain⟨S,hS⟩:∃ S,S=y4m t:=⟨_,rfl⟩
 rw[<- hS]
 simp[t379,n379]
 refine z13 t.length (fun i env h=>∃(x4:D) (c:Int),env=[.imm .none (t.map y3n),dI 0,dI c,dI i,x4]/\c+y4m (t.drop i)=S /\ -(1099511627776*(i:Int))<=c/\c<=1099511627776*(i:Int)) 0 (by omega) ⟨_,(0:Int),by rfl,by simp[hS],by simp,by simp⟩ ?_
 rintro i env hp hi ⟨x4,c,rfl,b1,b2,b3⟩
 by_cases hlt:i<t.length
 rotate_left
 ·have:i=t.length:=by omega
  subst this
  rw[fK] at b1
  have hc:c=S:=by simpa[y4m] using b1
  subst hc
  simp
 have hup:=zl hlt (by omega)
 obtain⟨x,hx⟩:∃ x,x=t[i]:=⟨_,rfl⟩
 have okx:=(h.ok x (by rw[hx];exact aN hlt)).2.2.2
 rw[z3k hlt,<- hx] at b1
 simp only[y4m] at b1
 have hw:av.wrap (c+x.amt)=c+x.amt:=zc ⟨by omega,by omega⟩
 simp[hlt,<- hx,hup,hw]
 exact⟨_,_,⟨rfl,rfl⟩,by omega,by omega,by omega⟩

open Classical in
theorem ydo(p:Pst)(h32:p.prev.length=32)(hl:p.ents.length<=1000000):y14 E (dL E) 358 [y2p p]=some (dI (y3o p)):=by
 have e378:=r378 p.ents hl
 have e379:=r379 p.ents
 refine zh c358 (by simp) ?_
 obtain⟨X,hX⟩:∃ X,X=y3o p:=⟨_,rfl⟩
 have no : ¬ fmP p->X=410:=fun h=>by rw[hX];unfold y3o;rw[if_neg h]
 rw[<- hX]
 by_cases c1:p.no<0
 ·have:=no fun h=>by have:=h.no;omega
  simp[t358,n358,h32,c1,this]
 by_cases c2:65535<p.no
 ·have:=no fun h=>by have:=h.no;omega
  simp[t358,n358,h32,c1,c2,this]
 by_cases c3:p.minute<0
 ·have:=no fun h=>by have:=h.minute;omega
  simp[t358,n358,h32,c1,c2,c3,this]
 by_cases c4:1440<=p.minute
 ·have:=no fun h=>by have:=h.minute;omega
  simp[t358,n358,h32,c1,c2,c3,c4,this]
 by_cases c5:p.corrects < -1
 ·have:=no fun h=>by have:=h.corrects;omega
  simp[t358,n358,h32,c1,c2,c3,c4,c5,this]
 by_cases c6:p.no<=p.corrects
 ·have:=no fun h=>by have:=h.corrects;omega
  simp[t358,n358,h32,c1,c2,c3,c4,c5,c6,this]
 by_cases c7:fmE p.ents
 rotate_left
 ·have:=no fun h=>c7 h.ents
  rw[decide_eq_false c7] at e378
  simp[t358,n358,h32,c1,c2,c3,c4,c5,c6,zi,e378,this]
 have hg:fmP p:=⟨⟨by omega,by omega⟩,⟨by omega,by omega⟩,⟨by omega,by omega⟩,c7⟩
 have e379:=e379 c7
 rw[decide_eq_true c7] at e378
 by_cases c8:y4m p.ents=0
 ·have:X=0:=by rw[hX];exact z1f.2 ⟨hg,c8⟩
  simp[t358,n358,h32,c1,c2,c3,c4,c5,c6,zi,e378,e379,c8,this]
 ·have:X=411:=by rw[hX];unfold y3o;rw[if_pos hg,if_neg c8]
  simp[t358,n358,h32,c1,c2,c3,c4,c5,c6,zi,e378,e379,c8,this]

theorem r411(n:Int):y14 E (dL E) 411 [dI n]=some (.agg [dI 1,dI n,.str [],.imm .none []]):=by
 refine zh c411 (by simp) ?_
 have hst:∀ H n s,frz H (n+1) (.str s)=some (.str s):=fun _ _ _=>rfl
 simp[t411,n411,hst]

abbrev vI(n:Int):D:=.agg [dI 1,dI n,.str [],.imm .none []]
abbrev dE3(x:Ent):D:=.agg [dI 3,dI 0,.str [],.imm .exact [vI x.kind,vI x.idx,vI x.amt]]
theorem zrl{l:List Ent}:∀ x,x ∈ l.map dE3->x.storable=true/\x.cellsL.length=4:=fun x hx=>by
 obtain⟨s,_,rfl⟩:=aX.1 hx
 exact⟨rfl,rfl⟩
theorem yef{h r:List Obj}{j:Nat}{sp:y17}{l:List Ent}{x:Ent}(hl:l.length<=1000000)(R:y39 h sp l.length 4)(hj:j<r.length) :
  y77 E (h++r) (h.length+j) 56 56 (.imm sp (l.map dE3)) (.imm .exact [dE3 x])=some (.imm (.tok (h.length+j)) ((l++[x]).map dE3),y2l sp h++r.set j (.tok ((l.length+1)*4) 4)):=by
 have e:=z6z (hp:=h++r) (id:=h.length+j) (t:=56) (e:=55) (sz:=4) (sp:=sp) (sp':=.exact) (els:=l.map dE3) (new:=[x].map dE3) rfl rfl (zb7 zrl) ⟨by
  rw[au,au,show(E.ty 55).bytes=56 from rfl];simp[yj];omega,by decide,rfl,zh8 zrl⟩ (by rw[au];exact R.app)
 rw[au,au,zlx R] at e
 have e2:y23 (y2l sp h++r) (h.length+j) (.tok ((l.length+[x].length)*4) 4)=y2l sp h++r.set j (.tok ((l.length+1)*4) 4):=by
  unfold y23
  rw[if_pos (by rw[aw,z51];omega)]
  have:=zc2 (hp:=y2l sp h) (r:=r) (k:=j) (x:=.tok ((l.length+1)*4) 4)
  rwa [z51] at this
 rw[e2,<- bo] at e
 exact e
theorem zwf{hp:List Obj}{n:Nat}{x:Ent}:frz hp (n+4) (dE3 x)=some (dV (y4q x)):=by
 have hs:∀ n s,frz hp (n+1) (.str s)=some (.str s):=fun _ _=>rfl
 have e:dV (y4q x)=.agg [dI 3,dI 0,.str [],.imm .none [vI x.kind,vI x.idx,vI x.amt]]:=by
  unfold y4q cL
  rw[z1l]
  simp only[ax,aK,zeo]
 rw[e]
 simp[hs]
theorem r391(p:Pst)(h32:p.prev.length=32)(hl:p.ents.length<=1000000):y14 E (dL E) 391 [y2p p]=some (yad p):=by
 have e358:=ydo p h32 hl
 unfold yad
 have hil:=zcj h32
 refine zh c391 (by simp) ?_
 by_cases hg:y3o p=0
 rotate_left
 ·rw[if_neg hg]
  simp[t391,n391,h32,↓hil,zi,z6,e358,hg]
 rw[if_pos hg]
 rw[hg] at e358
 have g1:=(z1f.1 hg).fm
 have hln:p.ents.length<=4096:=g1.ents.most
 have e411:=r411
 simp[t391,n391,h32,↓hil,zi,z6,e358]
 refine z13 p.ents.length (fun i env h=>∃(x0 x4 x7 x8 x9 x10 x11 x12 x13:D) (sp:y17),env=[x0,.iptr (pC p),.imm .exact [],dI 0,x4,.imm sp ((p.ents.take i).map dE3),dI i,x7,x8,x9,x10,x11,x12,x13]/\y39 h sp i 4) 0 (by omega) ⟨_,_,_,_,_,_,_,_,_,.exact,by rfl,.inl rfl⟩ ?_
 rintro i env h hi ⟨x0,x4,x7,x8,x9,x10,x11,x12,x13,sp,rfl,R⟩
 by_cases hlt:i<p.ents.length
 ·have hup:=zl hlt (by omega)
  have htl:(p.ents.take i).length=i:=by rw[aP];omega
  obtain⟨x,hx⟩:∃ x,x=p.ents[i]:=⟨_,rfl⟩
  have hsp:p.ents.take (i+1)=p.ents.take i++[x]:=by rw[aR hlt,hx]
  have R':y39 (h++[.cells [dI x.kind,dI x.idx,dI x.amt]]) sp (p.ents.take i).length 4:=by rw[htl];exact R.app
  have ap:=yef (x:=x) (r:=ac 17 .dead) (j:=15) (by rw[htl];omega) R' (by simp)
  have hR:y39 (y2l sp (h++[.cells [dI x.kind,dI x.idx,dI x.amt]])++(ac 17 Obj.dead).set 15 (.tok ((i+1)*4) 4)) (.tok ((h++[Obj.cells [dI x.kind,dI x.idx,dI x.amt]]).length+15)) (i+1) 4:=zds (j:=15) rfl
  rw[<- hsp,htl] at ap
  generalize p.ents.take (i+1)=L1 at *
  generalize p.ents.take i=L0 at *
  generalize y2l sp (h++[.cells [dI x.kind,dI x.idx,dI x.amt]])++(ac 17 Obj.dead).set 15 (.tok ((i+1)*4) 4)=G at *
  rw[bj,aw] at ap
  rw[aw] at hR
  simp only[ac,aC,bA,Nat.zero_add,List.cons_append,bD,dE3] at ap hR
  simp[hlt,<- hx,hup,e411,-z12,-zt,ap]
  repeat apply jV
  exact⟨by and_intros <;> rfl,hR⟩
 have:i=p.ents.length:=by omega
 subst this
 rw[bh]
 have hsl:=z3w h32
 have e270:=r270 (zef (zck g1) hl h32)
 have hb:y5f p=enc (y8h p):=rfl
 rw[hb]
 rw[zro,zeo,zeo,zeo] at e270
 have hE:∀ hp,y1j (frz hp 8) (p.ents.map dE3)=some (p.ents.map fun x=>dV (y4q x)):=fun hp=>zcp fun x _=>zwf
 have hst:∀ H n s,frz H (n+1) (.str s)=some (.str s):=fun _ _ _=>rfl
 generalize enc (y8h p)=O at *
 generalize p.ents.map dE3=EE at *
 generalize (p.ents.map fun x=>dV (y4q x))=FF at *
 simp[e411,hsl,z8k,h32,hE,hst,e270,z6]
 try trace_state

theorem r376:y14 E (dL E) 376 []=some (y4r (y34 tgB)):=by
 have e:=ydl y3d [] (by decide) (by simp)
 have hl:(y34 tgB).length=32:=y2m (l:=[])
 have e:y14 E (dL E) 390 [.str [112,111,115,116,105,110,103,115],.imm .none []]=some (y4r (y34 tgB)):=e
 refine zh c376 (by simp) ?_
 generalize y34 tgB=U at e hl ⊢
 have hz:z32.map ya=ac 32 (D.int .u8 0):=by unfold z32;rw[bN];rfl
 have hsc2:setCells (z32.map ya) 0 (U.map ya)=U.map ya:=zb (by rw[au,au,hl];rfl)
 rw[hz] at hsc2
 simp only[ac] at hsc2
 have hld:∀ r:List Obj,yt E (.cells (U.map ya)::r) 73 (.loc 0 0)=some (.agg (U.map ya)):=fun r=>z2f rfl hl
 have hst:∀ H n s,frz H (n+1) (.str s)=some (.str s):=fun _ _ _=>rfl
 simp[t376,n376,e,hl,hst,↓hsc2,↓hld,z6]

theorem ztp{d:List UInt8}(hd:d.length=32):y3s E 73 (.iptr (d.map ya))=some (.agg (d.map ya)):=by
 have e:=z1g 32 0 (d.map ya) (by simp[hd])
 unfold y3s
 simp only[show(E.ty 73).size=32 from rfl,e]
 rfl
theorem zth{h:List Obj}{d:List UInt8}(hd:d.length=32):yt E h 73 (.iptr (d.map ya))=some (.agg (d.map ya)):=by
 have e:=z1g 32 0 (d.map ya) (by simp[hd])
 unfold yt
 simp only[show(E.ty 73).size=32 from rfl,e]
 rfl

theorem r377(d:List UInt8)(p:Pst)(hd:d.length=32)(h32:p.prev.length=32)(hl:p.ents.length<=1000000)(hc:y3o p=0):y14 E (dL E) 377 [y4r d,y2p p]=some (y4r (y6a tgB d p)):=by
 have e391:=r391 p h32 hl
 unfold yad at e391
 rw[if_pos hc] at e391
 have hgp:=z1f.1 hc
 have hen:(y5f p).length<=900000000:=by
  have:=zcu (zck hgp.fm) hl (by omega)
  omega
 have e390:=ydl y26 (y5f p) (by decide) hen
 have hT32:(tgB y26 (y5f p)).length=32:=z1m
 have e392:=r392 d (tgB y26 (y5f p)) hd hT32
 have hN:tgB [99,104,97,105,110] (d++tgB y26 (y5f p))=y6a tgB d p:=rfl
 rw[hN] at e392
 have e390:y14 E (dL E) 390 [.str [112,111,115,116,105,110,103],dBy (y5f p)]=some (y4r (tgB y26 (y5f p))):=e390
 have hN32:(y6a tgB d p).length=32:=z1m
 have ild:=zcj h32
 have ild2:=ztp hd
 have hst:∀ H n s,frz H (n+1) (.str s)=some (.str s):=fun _ _ _=>rfl
 generalize tgB y26 (y5f p)=Tp at e390 e392 hT32 hN ⊢
 generalize y6a tgB d p=N at e392 hN32 ⊢
 generalize y5f p=O at *
 refine zh c377 (by simp) ?_
 have hz:z32.map ya=ac 32 (D.int .u8 0):=by unfold z32;rw[bN];rfl
 have hsc2:setCells (z32.map ya) 0 (N.map ya)=N.map ya:=zb (by rw[au,au,hN32];rfl)
 rw[hz] at hsc2
 simp only[ac] at hsc2
 have hld:∀ r:List Obj,yt E (.cells (N.map ya)::r) 73 (.loc 0 0)=some (.agg (N.map ya)):=fun r=>z2f rfl hN32
 simp[t377,n377,hd,h32,hT32,hN32,↓ild,ild2,-z1r,zi,z6,e391,hst,e390,e392,↓hsc2,↓hld]
 try trace_state

theorem r360(l:List Pst)(ok:y6f l):y14 E (dL E) 360 [y1m l]=some (dI (rdE tgB l)):=by
 have e376:=r376
 obtain⟨hl,hp⟩:=ok
 refine zh c360 (by simp) ?_
 obtain⟨X,hX⟩:∃ X,X=rdE tgB l:=⟨_,rfl⟩
 rw[<- hX]
 by_cases hlen:65536<l.length
 ·have hE:X=2:=by rw[hX];unfold rdE;rw[if_pos hlen]
  have hln:(65536:Int)<l.length:=by omega
  simp[t360,n360,hln,hE]
 have hln : ¬ (65536:Int)<l.length:=by omega
 simp[t360,n360,hln]
 refine z13 l.length (fun i env h=>∃(x3 x4 x5 x6 x7 x8 x9 x10:D) ,env=[y1m l,dI 0,dI i,x3,x4,x5,x6,x7,x8,x9,x10]/\h=[]/\y2e (l.take i)=0) 0 (by omega) ⟨_,_,_,_,_,_,_,_,rfl,rfl,rfl⟩ ?_
 rintro i env h hi ⟨x3,x4,x5,x6,x7,x8,x9,x10,rfl,rfl,F⟩
 by_cases hlt:i<l.length
 ·obtain⟨p,hpi⟩:∃ p,p=l[i]:=⟨_,rfl⟩
  have hp2:=hp p (by rw[hpi];exact aN hlt)
  have e358:=ydo p hp2.1 hp2.2
  have hup:=zl hlt (by omega)
  have q1:=fun h:List Obj=>ze9 (h:=h) hp2.1
  by_cases hpc:y3o p=0
  ·rw[hpc] at e358
   have hF:=zha hlt F (by rw[<- hpi];exact hpc)
   simp[hlt,hup,<- hpi,hp2.1,↓q1,zi,z6,e358]
   exact hF
  ·have hf:=zej hlt F (by rw[<- hpi];exact hpc)
   rw[<- hpi] at hf
   have hE:X=y3o p:=by rw[hX];unfold rdE;rw[if_neg hlen,if_pos (by rw[hf];exact hpc),hf]
   simp[hlt,hup,<- hpi,hp2.1,↓q1,zi,z6,e358,hpc,hE]
 have:i=l.length:=by omega
 subst this
 rw[bh] at F
 have hTl:(y34 tgB).length=32:=y2m (l:=[])
 have hd0:y34 tgB=y3i tgB (l.take 0):=by rw[fE];rfl
 generalize y34 tgB=d0 at e376 hTl hd0
 have hsc2:setCells (z32.map ya) 0 (d0.map ya)=d0.map ya:=zb (by rw[au,au,hTl];rfl)
 have hz:z32.map ya=ac 32 (D.int .u8 0):=by unfold z32;rw[bN];rfl
 rw[hz] at hsc2
 simp only[ac] at hsc2
 simp[e376,hTl,↓hsc2]
 refine z13 l.length (fun i env h'=>∃(x2 x3 x6 x7 x8 x9 x10:D) ,env=[y1m l,dI 0,x2,x3,.loc 0 0,dI i,x6,x7,x8,x9,x10]/\Bys h' 0 (y3i tgB (l.take i)) /\ ∀ j p,j<i->l[j]? = some p->atP tgB l j p) 0 (by omega) ⟨_,_,_,_,_,_,_,rfl,by rw[<- hd0];rfl,fun j p hj=>absurd hj (by omega)⟩ ?_
 clear hlt hi
 clear x3 x4 x5 x6 x7 x8 x9 x10
 rintro i env h hi ⟨x2,x3,x6,x7,x8,x9,x10,rfl,BC,V⟩
 by_cases hlt:i<l.length
 rotate_left
 ·have:i=l.length:=by omega
  subst this
  have hv:vld tgB l:=⟨by omega,fun p hp=>z24.1 F p hp,fun i p hi=>V i p (ae.1 hi).1 hi⟩
  have hE:X=0:=by rw[hX];exact z1w.2 hv
  simp[hE]
 obtain⟨p,hpi⟩:∃ p,p=l[i]:=⟨_,rfl⟩
 have hp2:=hp p (by rw[hpi];exact aN hlt)
 have hgp:gdP p:=z24.1 F p (by rw[hpi];exact aN hlt)
 have hup:=zl hlt (by omega)
 have hli:l[i]? = some p:=by rw[hpi];simp[hlt]
 have q1:=fun h:List Obj=>ze9 (h:=h) hp2.1
 have q4:=fun h:List Obj=>zth (h:=h) hp2.1
 obtain⟨Z,hZ⟩:∃ Z,Z=y3i tgB (l.take i):=⟨_,rfl⟩
 rw[<- hZ] at BC
 have hZ32:Z.length=32:=by rw[hZ];exact y2m
 have y1:∀ r:List Obj,yt E (h++r) 73 (.loc 0 0)=some (.agg (Z.map ya)):=fun r=>z4w BC.app hZ32
 have y1':∀ r r2:List Obj,yt E (h++r++r2) 73 (.loc 0 0)=some (.agg (Z.map ya)):=fun r r2=>by rw[bj];exact y1 _
 have y2:∀ r:List Obj,(h++r)[0]? = some (.cells (Z.map ya)):=fun r=>BC.app
 have y3:=zli hp2.1 hZ32
 have e377:=r377 Z p hZ32 hp2.1 hp2.2 (z1f.2 hgp)
 have hN:y6a tgB Z p=y3i tgB (l.take (i+1)):=by rw[za3 hlt,<- hZ,<- hpi]
 rw[hN] at e377
 have hN32:=y2m (l:=l.take (i+1))
 obtain⟨N,hNe⟩:∃ N,N=y3i tgB (l.take (i+1)):=⟨_,rfl⟩
 rw[<- hNe] at e377 hN32
 have y5:setCells (Z.map ya) 0 (N.map ya)=N.map ya:=zb (by rw[au,au,hZ32,hN32])
 have h0l:=At.lt BC
 have y6:∀ r:List Obj,(h++r).set 0 (.cells (N.map ya))=h.set 0 (.cells (N.map ya))++r:=fun r=>z1u h0l
 have fin:∀ r:List Obj,Bys (h.set 0 (.cells (N.map ya))++r) 0 (y3i tgB (l.take (i+1)))/\(p.no=i->p.prev=Z->(∀ q,0<i->l[i - 1]? = some q->q.minute<=p.minute)->∀ j p,j<i+1->l[j]? = some p->atP tgB l j p):=by
  intro r
  refine⟨by rw[<- hNe];exact(At.self h0l).app,fun h1 h2 h3 j p' hj hp'=>?_⟩
  by_cases hji:j<i
  ·exact V j p' hji hp'
  ·have:j=i:=by omega
   subst this
   rw[hli] at hp'
   cases hp'
   exact⟨h1,by rw[h2,hZ],fun k q hk hq=>h3 q (by omega) (by rw[show j - 1=k from by omega];exact hq)⟩
 have bad:(¬ p.no=i\/(∃ q,l[i - 1]? = some q/\0<i/\p.minute<q.minute) \/ ¬ p.prev=Z)->X=410:=by
  intro hb
  have hv : ¬ vld tgB l:=by
   intro v
   have a:=v.2.2 i p hli
   rcases hb with h1 | ⟨q,h1,h2,h3⟩ | h1
   ·exact h1 a.no
   ·have:=a.minute (i - 1) q (by omega) h1
    omega
   ·exact h1 (by rw[hZ];exact a.prev)
  rw[hX];unfold rdE;rw[if_neg hlen,if_neg (by simp[F]),if_neg hv]
 have hw1:0<i->av.wrap ((i:Int) - 1)=((i - 1:Nat):Int):=fun h0=>by
  rw[zc ⟨by omega,by omega⟩];omega
 by_cases hno:p.no=(i:Int)
 rotate_left
 ·have hE:=bad (.inl hno)
  simp[hlt,<- hpi,hp2.1,↓q1,↓q4,↓y1,y3,hno,hE]
 have hno':=eq_true hno
 by_cases hpv:p.prev=Z
 ·have hpv':=eq_true hpv
  rcases ci i with h0 | h0
  ·have h0' : ¬ 0<i:=by omega
   simp[h0',hlt,<- hpi,hp2.1,↓q1,↓q4,↓y1,↓y1',-zp,y3,hno',hpv',hup,zi,z6,e377,hZ32,hN32,y5,↓y2,↓y6]
   exact⟨(fin _).1,(fin []).2 hno hpv fun q' h0 _=>absurd h0 h0'⟩
  ·obtain⟨q,hq⟩:∃ q,l[i - 1]? = some q:=⟨_,af (by omega)⟩
   have hq32:q.prev.length=32:=(hp q (ba hq)).1
   by_cases hm:p.minute<q.minute
   ·have hE:=bad (.inr (.inl ⟨q,hq,h0,hm⟩))
    simp[hlt,<- hpi,hp2.1,↓q1,↓q4,↓y1,y3,hno',h0,hw1 h0,hq,hq32,hm,hE]
   ·simp[hlt,<- hpi,hp2.1,↓q1,↓q4,↓y1,y3,hno',h0,hw1 h0,hq,hq32,hm,-zp,↓y1',hpv',hup,zi,z6,e377,hZ32,hN32,y5,↓y2,↓y6]
    exact⟨(fin _).1,(fin []).2 hno hpv fun q' _ hq'=>by rw[hq] at hq';cases hq';omega⟩
 ·have hE:=bad (.inr (.inr hpv))
  rcases ci i with h0 | h0
  ·have h0' : ¬ 0<i:=by omega
   simp[h0',hlt,<- hpi,hp2.1,↓q1,↓q4,↓y1,y3,hno',hpv,hE]
  ·obtain⟨q,hq⟩:∃ q,l[i - 1]? = some q:=⟨_,af (by omega)⟩
   have hq32:q.prev.length=32:=(hp q (ba hq)).1
   by_cases hm:p.minute<q.minute
   ·simp[hlt,<- hpi,hp2.1,↓q1,↓q4,↓y1,y3,hno',h0,hw1 h0,hq,hq32,hm,hE]
   ·simp[hlt,<- hpi,hp2.1,↓q1,↓q4,↓y1,y3,hno',h0,hw1 h0,hq,hq32,hm,hpv,hE]

theorem r357(l:List Pst)(ok:y6f l):y14 E (dL E) 357 [y1m l]=some (rdD l):=by
 have e360:=r360 l ok
 have e376:=r376
 obtain⟨hl,hp⟩:=ok
 have hz:z32.map ya=ac 32 (D.int .u8 0):=by unfold z32;rw[bN];rfl
 have z5:z32.length=32:=rfl
 unfold rdD
 by_cases h0:rdE tgB l=0
 rotate_left
 ·rw[if_neg h0]
  have z3:setCells (z32.map ya) 0 (z32.map ya)=z32.map ya:=zb rfl
  have hzz:y4r z32=.agg (ac 32 (D.int .u8 0)):=by show D.agg _=_;rw[hz]
  rw[hz] at z3
  rw[hzz]
  have hld:∀ r:List Obj,yt E (.cells (z32.map ya)::r) 73 (.loc 0 0)=some (.agg (z32.map ya)):=fun r=>z2f rfl z5
  have fz:∀ hp n,y1j (frz hp (n+1)) (z32.map ya)=some (z32.map ya):=fun _ _=>z6
  rw[hz] at hld fz
  refine zh c357 (by simp) ?_
  simp only[ac] at z3 hld fz ⊢
  simp[t357,n357,e360,zj,h0,↓z3,↓hld,fz]
 rw[if_pos h0,h0]
 rw[h0] at e360
 have v:=z1w.1 h0
 have hlen:=v.1
 have hTl:(y34 tgB).length=32:=y2m (l:=[])
 have hd0:y34 tgB=y3i tgB (l.take 0):=by rw[fE];rfl
 generalize y34 tgB=d0 at e376 hTl hd0
 have hsc2:setCells (z32.map ya) 0 (d0.map ya)=d0.map ya:=zb (by rw[au,au,hTl];rfl)
 rw[hz] at hsc2
 simp only[ac] at hsc2
 refine zh c357 (by simp) ?_
 simp[t357,n357,e360,zj,e376,hTl,↓hsc2]
 refine z13 l.length (fun i env h'=>∃(x3 x6 x7:D) ,env=[y1m l,.loc 0 0,dI 0,x3,.loc 1 0,dI i,x6,x7]/\Bys h' 0 z32/\Bys h' 1 (y3i tgB (l.take i))) 0 (by omega) ⟨_,_,_,rfl,rfl,by rw[<- hd0];rfl⟩ ?_
 rintro i env h hi ⟨x3,x6,x7,rfl,B0,BC⟩
 by_cases hlt:i<l.length
 ·obtain⟨p,hpi⟩:∃ p,p=l[i]:=⟨_,rfl⟩
  have hpm:p ∈ l:=by rw[hpi];exact aN hlt
  have hp2:=hp p hpm
  have hup:=zl hlt (by omega)
  have q1:=fun h:List Obj=>ze9 (h:=h) hp2.1
  obtain⟨Z,hZ⟩:∃ Z,Z=y3i tgB (l.take i):=⟨_,rfl⟩
  rw[<- hZ] at BC
  have hZ32:Z.length=32:=by rw[hZ];exact y2m
  have y1:∀ r:List Obj,yt E (h++r) 73 (.loc 1 0)=some (.agg (Z.map ya)):=fun r=>z4w BC.app hZ32
  have y2:∀ r:List Obj,(h++r)[1]? = some (.cells (Z.map ya)):=fun r=>BC.app
  have e377:=r377 Z p hZ32 hp2.1 hp2.2 (z1f.2 (v.2.1 p hpm))
  have hN:y6a tgB Z p=y3i tgB (l.take (i+1)):=by rw[za3 hlt,<- hZ,<- hpi]
  rw[hN] at e377
  have hN32:=y2m (l:=l.take (i+1))
  obtain⟨N,hNe⟩:∃ N,N=y3i tgB (l.take (i+1)):=⟨_,rfl⟩
  rw[<- hNe] at e377 hN32 ⊢
  have y5:setCells (Z.map ya) 0 (N.map ya)=N.map ya:=zb (by rw[au,au,hZ32,hN32])
  have h1l:=At.lt BC
  have y6:∀ r:List Obj,(h++r).set 1 (.cells (N.map ya))=h.set 1 (.cells (N.map ya))++r:=fun r=>z1u h1l
  simp[hlt,<- hpi,hp2.1,↓q1,↓y1,-zp,hup,zi,z6,e377,hZ32,hN32,y5,↓y2,↓y6]
  exact⟨(B0.ne (by decide)).app,(At.self h1l).app⟩
 have:i=l.length:=by omega
 subst this
 rw[bh] at BC
 have y1:=z4w BC y2m
 have z2:h[0]? = some (.cells (z32.map ya)):=B0
 have y4:setCells (z32.map ya) 0 ((y3i tgB l).map ya)=(y3i tgB l).map ya:=zb (by rw[au,au,y2m];rfl)
 have y5:Bys (h.set 0 (.cells ((y3i tgB l).map ya))) 0 (y3i tgB l):=At.self (At.lt B0)
 have y6:=z2f y5 y2m
 have d32:=y2m (l:=l)
 simp[y1,z2,y4,↓y6,d32,z5,z6]

theorem zh9{l:List Pst}(h:∀ p,p ∈ l->p.prev.length=32):∀ x,x ∈ l.map y2p->x.storable=true/\x.cellsL.length=36:=fun x hx=>by
 obtain⟨p,hp,rfl⟩:=aX.1 hx
 exact⟨zr6,z9a (h p hp)⟩
theorem zns{hp:List Obj}{id:Nat}{sp sp':y17}{l m:List Pst}(hl:l.length+m.length<=1000000)(h1:∀ p,p ∈ l->p.prev.length=32)(h2:∀ p,p ∈ m->p.prev.length=32)(R:y39 hp sp l.length 36) :
  y77 E hp id 70 70 (.imm sp (l.map y2p)) (.imm sp' (m.map y2p))=some (.imm (.tok id) (l.map y2p++m.map y2p),y23 (y2l sp hp) id (.tok ((l.length+m.length)*36) 36)):=by
 have:=z6z (hp:=hp) (id:=id) (t:=70) (e:=71) (sz:=36) (sp:=sp) (sp':=sp') (els:=l.map y2p) (new:=m.map y2p) rfl rfl (zb7 (zh9 h2)) ⟨by
  rw[au,au,show(E.ty 71).bytes=80 from rfl];simp[yj];omega,by decide,rfl,zh8 (zh9 h1)⟩ (by rw[au];exact R)
 rw[au,au] at this
 exact this

theorem r317(l:List Pst)(s:Stp)(h:y6f l)(hs:s.ents.length<=900000)(hl9:l.length<=900000):y14 E (dL E) 317 [y1m l,dI s.minute,dI s.corrects,.imm .none (s.ents.map y3n)]=some (poD l s):=by
 have e357:=r357 l h
 unfold rdD at e357
 obtain⟨d,hd⟩:∃ d,d=(if rdE tgB l=0 then y3i tgB l else z32):=⟨_,rfl⟩
 have h32:d.length=32:=by rw[hd];split;exact y2m;rfl
 rw[<- hd] at e357
 have hsc:=zb (a:=ac 32 (D.int .u8 0)) (vs:=d.map ya) (by simp[h32])
 simp only[ac] at hsc
 unfold poD
 by_cases h0:rdE tgB l=0
 rotate_left
 ·have hE:y2j tgB l s=rdE tgB l:=by unfold y2j;rw[if_pos h0]
  rw[hE,if_neg h0]
  refine zh c317 (by simp) ?_
  simp[t317,n317,e357,zj,h32,hsc,h0]
 have v:=z1w.1 h0
 rw[if_pos h0] at hd
 have hl:l.length<=65536:=v.1
 rw[h0] at e357
 by_cases hmax:l.length=65536
 ·have hm:(65536:Int)<=l.length:=by omega
  have hE:y2j tgB l s=2:=by unfold y2j;rw[if_neg (by simp[h0]),if_pos hmax]
  rw[hE,if_neg (by decide)]
  refine zh c317 (by simp) ?_
  simp[t317,n317,e357,zj,h32,hsc,hm]
 have hm : ¬ (65536:Int)<=l.length:=by omega
 have hw1:0<l.length->av.wrap ((l.length:Int) - 1)=((l.length - 1:Nat):Int):=fun h0=>by
  rw[zc ⟨by omega,by omega⟩];omega
 obtain⟨p,hp⟩:∃ p:Pst,p=y4f tgB l s:=⟨_,rfl⟩
 have hp2:p=⟨l.length,s.minute,s.corrects,s.ents,d⟩:=by rw[hp,hd];rfl
 have p32:p.prev.length=32:=by rw[hp2];exact h32
 have hpE:(∀ q,l.getLast? = some q -> ¬ s.minute<q.minute)->y2j tgB l s=y3o p:=fun hq=>by
  rw[hp];exact z3z v (by omega) fun q h=>by have:=hq q h;omega
 have q4:setCells (dI (l.length:Int)::dI s.minute::dI s.corrects :: .imm .none (s.ents.map y3n)::ac 32 (D.int .u8 0)) 4 (d.map ya)=pC p:=by
  rw[hp2];exact stP (p:=⟨l.length,s.minute,s.corrects,s.ents,d⟩) h32
 have q2:∀(x:Obj) (r:List Obj),yt E (x :: .cells (pC p)::r) 71 (.loc 1 0)=some (y2p p):=fun x r=>zp3 (h:=[x]) (r:=r) p32
 have q3:∀(vs:List D),vs.length=36->setCells vs 0 (pC p)=pC p:=fun vs hv=>zb (by rw[z9a p32,hv])
 have q5:setCells (dI 0::dI 0::dI 0 :: .imm .exact []::ac 32 (D.int .u8 0)) 0 (pC p)=pC p:=q3 _ (by simp)
 simp only[ac] at q4 q5
 have hld:∀ r:List Obj,yt E (.cells (d.map ya)::r) 73 (.loc 0 0)=some (.agg (d.map ya)):=fun r=>z2f (m:=d) (by simp[Bys,At]) h32
 have e358:=ydo p p32 (by rw[hp2];simp only;omega)
 have hpl:=z9a p32
 have hpa:∀ x,x ∈ pC p->x.atom=true:=zvk
 have q6:=stP p32
 simp only[ac] at q6
 have hl32:∀ q,q ∈ l->q.prev.length=32:=fun q hq=>(h.2 q hq).1
 have a1:∀ hp id,y77 E hp id 70 70 (.imm .exact []) (y1m l)=some (.imm (.tok id) (l.map y2p),y23 hp id (.tok (l.length*36) 36)):=fun hp id=>by
  have:=zns (hp:=hp) (id:=id) (sp:=.exact) (sp':=.none) (l:=[]) (m:=l) (by simp;omega) (by simp) hl32 (.inl rfl)
  simpa[y2l] using this
 have a2:∀ hp id k,hp[k]? = some (.tok (l.length*36) 36)->y77 E hp id 70 70 (.imm (.tok k) (l.map y2p)) (.imm .exact [y2p p])=some (.imm (.tok id) ((l++[p]).map y2p),y23 (hp.set k .dead) id (.tok ((l.length+1)*36) 36)):=fun hp id k hk=>by
  have:=zns (hp:=hp) (id:=id) (sp:=.tok k) (sp':=.exact) (l:=l) (m:=[p]) (by simp;omega) hl32 (by simp[p32]) (.inr ⟨k,rfl,hk⟩)
  rw[<- bo] at this
  exact this
 obtain⟨P,hP⟩:∃ P,P=l++[p]:=⟨_,rfl⟩
 rw[<- hP] at a2
 rw[<- hp,<- hP]
 refine zh c317 (by simp) ?_
 have key:∀ X,X=y3o p->True:=fun _ _=>trivial
 by_cases hbad:∃ q,l.getLast? = some q/\s.minute<q.minute
 ·obtain⟨q,hql,hmn⟩:=hbad
  have hE:y2j tgB l s=410:=by unfold y2j;rw[if_neg (by simp[h0]),if_neg hmax,if_pos ⟨q,hql,hmn⟩]
  rw[hE,if_neg (by decide)]
  have h1:0<l.length:=by
   rcases ci l.length with h1 | h1
   ·have:=List.length_eq_zero_iff.1 h1;subst this;simp at hql
   ·exact h1
  have hq:l[l.length - 1]? = some q:=by rw[<- hql,dN]
  have hq32:=hl32 q (ba hq)
  by_cases h410:y3o p=410
  ·rw[h410] at e358
   simp[t317,n317,e357,zj,h32,hsc,hm,-zp,hld,↓q4,↓q5,↓q6,p32,q2,zi,z6,e358]
  ·simp[t317,n317,e357,zj,h32,hsc,hm,-zp,hld,↓q4,↓q5,↓q6,p32,q2,zi,z6,e358,h410,h1,hw1 h1,hq,hq32,hmn]
 have hE:=hpE fun q h1 h2=>hbad ⟨q,h1,h2⟩
 rw[hE]
 by_cases h410:y3o p=410
 ·rw[h410,if_neg (by decide)]
  rw[h410] at e358
  simp[t317,n317,e357,zj,h32,hsc,hm,-zp,hld,↓q4,↓q5,↓q6,p32,q2,zi,z6,e358]
 have hmid:(0<l.length /\ ∃ q,l[l.length - 1]? = some q/\q.prev.length=32 /\ ¬ s.minute<q.minute) \/ ¬ 0<l.length:=by
  rcases ci l.length with h1 | h1
  ·exact .inr (by omega)
  ·refine .inl ⟨h1,l[l.length - 1],af (by omega),hl32 _ (aN _),fun hm=>hbad ⟨_,?_,hm⟩⟩
   rw[dN,af (by omega)]
 by_cases hz:y3o p=0
 ·rw[hz] at e358 ⊢
  rw[if_pos rfl]
  rcases hmid with⟨h1,q,hq,hq32,hmn⟩ | h1
  ·simp[t317,n317,e357,zj,h32,hsc,hm,-zp,hld,↓q4,↓q5,↓q6,p32,q2,zi,z6,e358,h1,hw1 h1,hq,hq32,hmn,-zt,-z12,a1,a2]
   try trace_state
  ·have h1' : ¬ (0:Int)<l.length:=by omega
   simp[t317,n317,e357,zj,h32,hsc,hm,-zp,hld,↓q4,↓q5,↓q6,p32,q2,zi,z6,e358,h1,h1',-zt,-z12,a1,a2]
   try trace_state
 ·rw[if_neg hz]
  rcases hmid with⟨h1,q,hq,hq32,hmn⟩ | h1
  ·simp[t317,n317,e357,zj,h32,hsc,hm,-zp,hld,↓q4,↓q5,↓q6,p32,q2,zi,z6,e358,h1,hw1 h1,hq,hq32,hmn,h410,hz]
  ·have h1' : ¬ (0:Int)<l.length:=by omega
   simp[t317,n317,e357,zj,h32,hsc,hm,-zp,hld,↓q4,↓q5,↓q6,p32,q2,zi,z6,e358,h1,h1',h410,hz]

theorem zmj{hp:List Obj}{n:Nat}{l:List Ent}:y1j (frz hp (n+2)) (l.map y3n)=some (l.map y3n):=z1d fun _ _=>rfl

theorem ydr(n:Int)(h : -100<=n/\n<=100):y14 E (dL E) 353 [dI n]=some (.imm .none [.agg [dI 1,dI 3,dI n],.agg [dI 4,dI 0,dI (-n)]]):=by
 have hw:av.wrap (0 - n) = -n:=by rw[zc ⟨by omega,by omega⟩];omega
 have hw2:av.wrap (-n) = -n:=zc ⟨by omega,by omega⟩
 refine zh c353 (by simp) ?_
 simp[t353,n353,hw,hw2]
 rfl
theorem s353(n:Int)(h : -100<=n/\n<=100)(hp:List Obj):y1i E (dL E) 353 [dI n] hp=some (.sl hp.length 0 2 3 true true,hp++[.cells [dI 1,dI 3,dI n,dI 4,dI 0,dI (-n)]]):=by
 have hw:av.wrap (0 - n) = -n:=by rw[zc ⟨by omega,by omega⟩];omega
 have hw2:av.wrap (-n) = -n:=zc ⟨by omega,by omega⟩
 have:∃ d hp',y1i E (dL E) 353 [dI n] hp=some (d,hp')/\(d=.sl hp.length 0 2 3 true true/\hp'=hp++[.cells [dI 1,dI 3,dI n,dI 4,dI 0,dI (-n)]]):=by
  refine z3d c353 (args:=[dI n]) (hp:=hp) (R:=fun d hp'=>d=.sl hp.length 0 2 3 true true/\hp'=hp++[.cells [dI 1,dI 3,dI n,dI 4,dI 0,dI (-n)]]) (by simp) ?_
  simp[t353,n353,hw,hw2]
  rfl
 obtain⟨d,hp',e,rfl,rfl⟩:=this
 exact e

theorem zrm{a b:List UInt8}(ha:a.length=32)(hb:b.length=32):y2n E .eql 73 (.agg (a.map ya)) (.agg (b.map ya))=some (.bool (decide (a=b))):=by
 have h1:(E.ty 73).eqc=true:=rfl
 have h2:(E.ty 73).zero=ac a.length (D.int .u8 0):=by rw[ha];rfl
 unfold y2n
 simp only[]
 rw[if_pos ⟨h1,by rw[h2];exact z5u⟩,za2 (by rw[ha,hb])]
theorem mx0:y88 12 [px0]:=⟨vx0,by simp,fun p hp=>by simp at hp;subst hp;exact⟨y2m,by decide⟩⟩
theorem mx1:y88 12 [px0,px1]:=⟨vx1,by simp,fun p hp=>by
 simp at hp
 rcases hp with rfl | rfl
 ·exact⟨y2m,by decide⟩
 ·exact⟨y2m,by decide⟩⟩
theorem okt:y6f [px1]:=⟨by simp,fun p hp=>by simp at hp;subst hp;exact⟨y2m,by decide⟩⟩
theorem okn:y6f []:=⟨by simp,by simp⟩

theorem r314:y14 E (dL E) 314 []=some (.bool true):=by
 have a1:=ydr 7 (by decide)
 have a2:=ydr (-2) (by decide)
 have a3:=ydr 1 (by decide)
 have a4:=s353 3 (by decide)
 have b1:=yar [] sx0 okn (by decide)
 have b2:=yar [px0] sx1 (mx0.ok (by decide)) (by decide)
 have b3:=yar [] ⟨5,0,pr 7⟩ okn (by simp[pr])
 have b4:=yar [] ⟨5,-1,[⟨1,3,3⟩,⟨4,0,-2⟩]⟩ okn (by simp)
 have b5:=yar [px0] ⟨4,0,pr 1⟩ (mx0.ok (by decide)) (by simp[pr])
 have hx1:[px0]++[y4f tgB [px0] sx1]=[px0,px1]:=rfl
 have hx0:[]++[y4f tgB [] sx0]=[px0]:=rfl
 simp only[poD,zre,zgn,zvg,zvf,zoa,if_true,hx1,hx0,if_neg (show ¬ (410:Int)=0 by decide),if_neg (show ¬ (411:Int)=0 by decide)] at b1 b2 b3 b4 b5
 simp only[pr,sx0,sx1,y1m,ax,aK] at b1 b2 b3 b4 b5
 have v0:=z1w.2 vx0
 have v1:=z1w.2 vx1
 have vn:=z1w.2 (zbu (tg:=tgB))
 have c1:=ybp [px0,px1] (mx1.ok (by decide)) (mx1.entN (by decide)) 1 3 8
 have c2:=ybp [px0,px1] (mx1.ok (by decide)) (mx1.entN (by decide)) 1 3 9
 have c3:=ybp [] okn (by decide) 1 3 1439
 simp only[blD,v1,if_true,zsu,zst,y1m,ax,aK] at c1 c2
 simp only[blD,vn,if_true,y76,y1m,aK] at c3
 have d1:=r334 ⟨0,0,0,[],z32⟩ rfl (by simp)
 unfold yad at d1
 simp only[zsr,if_neg (show ¬ (410:Int)=0 by decide)] at d1
 have d1:y14 E (dL E) 334 [.agg (dI 0::dI 0::dI 0 :: .imm .none []::ac 32 (D.int .u8 0))]=some (.tup [.imm .none [],dI 410]):=d1
 simp only[ac] at d1
 have e1:=r329 [px0] (mx0.ok (by decide))
 have e2:=r329 [] okn
 simp only[rdD,v0,vn,if_true,y1m,ax,aK] at e1 e2
 have f1:=r325 [px0,px1] (mx1.ok (by decide)) (mx1.entN (by decide))
 rw[zsv] at f1
 have g1:=ybo [px0,px1] (mx1.ok (by decide))
 have g2:=ybo [] okn
 have g3:=ybo [px1] okt
 rw[v1] at g1
 rw[vn] at g2
 rw[zss] at g3
 simp only[y1m,yaf,ya4,ax,aK] at f1 g1 g2 g3
 have h1:=ybn y3d [] (by decide) (by simp)
 have hT:tgB y3d []=y3i tgB []:=rfl
 rw[hT] at h1
 have n0:px0.prev.length=32:=y2m
 have n1:px1.prev.length=32:=y2m
 have pe1:px1.prev=y3i tgB [px0]:=rfl
 have pe0:px0.prev=y3i tgB []:=rfl
 have pn:px1.no=1:=rfl
 have pc:px1.corrects=0:=rfl
 rw[<- pe1] at e1
 rw[<- pe0] at e2 h1
 simp only[Int.neg_neg] at a2 b2
 have eqd:∀ a:List UInt8,a.length=32->y2n E .eql 73 (.agg (a.map ya)) (.agg (a.map ya))=some (.bool true):=fun a ha=>by
  rw[zrm ha ha];simp
 have q1:=eqd _ n1
 have q0:=eqd _ n0
 clear pe1 pe0 hx1 hx0 v0 v1 vn hT eqd
 generalize px0=p0 at *
 generalize px1=p1 at *
 have sc0:setCells (ac 32 (D.int .u8 0)) 0 (p0.prev.map ya)=p0.prev.map ya:=zb (by simp[n0])
 have sc1:setCells (ac 32 (D.int .u8 0)) 0 (p1.prev.map ya)=p1.prev.map ya:=zb (by simp[n1])
 simp only[ac] at sc0 sc1
 have hst:∀ n s,frz [] (n+1) (.str s)=some (.str s):=fun _ _=>rfl
 have l0:∀ r:List Obj,yt E (.cells [dI 1,dI 3]::r) 65 (.loc 0 0)=some (y3k 1 3):=fun _=>rfl
 have l2:∀(x y:Obj) (r:List Obj),yt E (x::y :: .cells (p1.prev.map ya)::r) 73 (.loc 2 0)=some (.agg (p1.prev.map ya)):=fun x y r=>z4w (by simp[Bys,At]) n1
 have l3:∀(x y z:Obj) (r:List Obj),yt E (x::y::z :: .cells (p0.prev.map ya)::r) 73 (.loc 3 0)=some (.agg (p0.prev.map ya)):=fun x y z r=>z4w (by simp[Bys,At]) n0
 have li:∀(h:List Obj) (a:List UInt8),a.length=32->yt E h 73 (.iptr (a.map ya))=some (.agg (a.map ya)):=fun h a ha=>by
  have e:=z1g 32 0 (a.map ya) (by simp[ha])
  unfold yt
  simp only[show(E.ty 73).size=32 from rfl,e]
  rfl
 have li0:=fun h=>li h _ n0
 have li1:=fun h=>li h _ n1
 have l2i:∀(h:List Obj) (a:Int) (r:List D),yt E h 2 (.iptr (dI a::r))=some (dI a):=fun _ _ _=>rfl
 have l65:∀(h:List Obj) (a b:Int) (r:List D),yt E h 65 (.iptr (dI a::dI b::r))=some (y3k a b):=fun _ _ _ _=>rfl
 have h1:y14 E (dL E) 331 [.str [112,111,115,116,105,110,103,115],.imm .none []]=some (y4r p0.prev):=h1
 have hsl:y15 E 70 (.imm .none [y2p p0,y2p p1]) (some (dI 1)) none none=some (.imm .none [y2p p1]):=by
  have hk:(E.ty 70).k=.slice 71:=rfl
  have hf:y57 (E.ty 71).size [y2p p0,y2p p1]=true:=by
   show((pC p0).length == 36)=true
   rw[z9a n0];rfl
  unfold y15
  simp only[hk,bnd,hf]
  rfl
 have bn:(p1.no == 1)=true:=by rw[pn];rfl
 have bc:(p1.corrects == 0)=true:=by rw[pc];rfl
 have ck:y2y 3 true 2 [dI 1,dI 3,dI 3,dI 4,dI 0,dI (-2)]=some [.agg [dI 1,dI 3,dI 3],.agg [dI 4,dI 0,dI (-2)]]:=rfl
 have i1:ids [.cells [dI 1,dI 3],.cells [dI 1,dI 3,dI 3,dI 4,dI 0,dI (-2)]] 12 (.imm .exact [])=[]:=rfl
 have i2:ids [.cells [dI 1,dI 3],.cells [dI 1,dI 3,dI 3,dI 4,dI 0,dI (-2)]] 12 (dI 5)=[]:=rfl
 have i3:ids [.cells [dI 1,dI 3],.cells [dI 1,dI 3,dI 3,dI 4,dI 0,dI (-2)]] 12 (dI (-1))=[]:=rfl
 have i4:ids [.cells [dI 1,dI 3],.cells [dI 1,dI 3,dI 3,dI 4,dI 0,dI (-2)]] 12 (.sl 1 0 2 3 true true)=[1]:=rfl
 have fz:yr [.cells [dI 1,dI 3],.cells [dI 1,dI 3,dI 3,dI 4,dI 0,dI (-2)]] [1]=[.cells [dI 1,dI 3],.frozen [dI 1,dI 3,dI 3,dI 4,dI 0,dI (-2)]]:=rfl
 refine zh c314 (by simp) ?_
 simp[t314,n314,a1,a2,a3,a4,b1,b2,b3,b4,b5,c1,c2,c3,d1,e1,e2,f1,g1,g2,g3,h1,n0,n1,bn,bc,q1,q0,sc0,sc1,hst,l0,l2,l3,li0,li1,l2i,l65,zi,z6,y16,hsl,ck,i1,i2,i3,i4,fz,-zp,-z5d]

end Dv

namespace Dv

theorem zr1{x:D}{c:Nat}(h:y55 E c x)(hk:(E.ty c).k=.int .i64):∃ n,x=dI n/\i64 n:=by
 have ha:(E.ty c).ag=false:=by unfold TI.ag;rw[hk]
 obtain⟨n,h3,ho⟩:=z64 (z8t h ha) hk
 simp only[List.cons.injEq,and_true] at h3
 exact⟨n,h3,ho⟩

end Dv

namespace Dv
attribute [local simp] ac depth y4s y82 y3l y2r y81 y5v y3a y23 Ret
attribute [local congr] z2n z2r z1y z1j z18 z1z z17


def okE(e:Ent):Prop:=i64 e.kind/\i64 e.idx/\i64 e.amt
theorem two{A:Type}{l:List A}(h:l.length=2):∃ a b,l=[a,b]:=by
 match l,h with
 |[a,b],_=>exact⟨a,b,rfl⟩
theorem zvc{x:D}(h:y55 E 65 x):∃ k i,x=y3k k i/\i64 k/\i64 i:=by
 obtain⟨ds,rfl,h1⟩:=z8u h rfl
 obtain⟨hl,hf⟩:=z63 h1 (fs:=[(0,2),(1,2)]) rfl
 obtain⟨x,y,rfl⟩:=two hl
 obtain⟨a,h2,o2⟩:=z64 (hf 0 _ rfl) rfl
 obtain⟨b,h3,o3⟩:=z64 (hf 1 _ rfl) rfl
 simp[E,y8d] at h2 h3
 subst h2 h3
 exact⟨a,b,rfl,o2,o3⟩
theorem znb{ds:List D}(h:DTc E 65 ds):∃ k i,ds=[dI k,dI i]/\i64 k/\i64 i:=by
 obtain⟨hl,hf⟩:=z63 h (fs:=[(0,2),(1,2)]) rfl
 obtain⟨x,y,rfl⟩:=two hl
 obtain⟨a,h2,o2⟩:=z64 (hf 0 _ rfl) rfl
 obtain⟨b,h3,o3⟩:=z64 (hf 1 _ rfl) rfl
 simp[E,y8d] at h2 h3
 subst h2 h3
 exact⟨a,b,rfl,o2,o3⟩
theorem zr2{x:D}(h:y55 E 72 x):∃ e,x=y3n e/\okE e:=by
 obtain⟨ds,rfl,h1⟩:=z8u h rfl
 obtain⟨hl,hf⟩:=z63 h1 (fs:=[(0,65),(2,2)]) rfl
 obtain⟨x,y,z,rfl⟩:=ydc hl
 obtain⟨a,b,h2,o1,o2⟩:=znb (hf 0 _ rfl)
 obtain⟨c,h3,o3⟩:=z64 (hf 1 _ rfl) rfl
 simp[E,y8d] at h2 h3
 obtain⟨rfl,rfl⟩:=h2
 subst h3
 exact⟨⟨a,b,c⟩,rfl,o1,o2,o3⟩

theorem zvn{a b:Ent}:y2n E .neq 72 (y3n a) (y3n b)=some (.bool (!decide (a=b))):=by
 obtain⟨a1,a2,a3⟩:=a
 obtain⟨b1,b2,b3⟩:=b
 have e:(decide ((⟨a1,a2,a3⟩:Ent)=⟨b1,b2,b3⟩))=(a1 == b1 && (a2 == b2 && a3 == b3)):=by
  by_cases h1:a1=b1 <;> by_cases h2:a2=b2 <;> by_cases h3:a3=b3 <;> simp[h1,h2,h3]
 rw[e]
 simp[y2n,E,y8d,y1k,eqL,y1w]
theorem zbg{A:Type}{a b:List A}(hl:a.length=b.length)(h:∀ i,∀ h:i<a.length,a[i]=b[i]'(by omega)):a=b:=
 List.ext_getElem hl fun i h1 _=>h i h1

theorem r327(a b:List Ent)(ha:a.length<=1000000)(hb:b.length<=1000000):y14 E (dL E) 327 [.imm .none (a.map y3n),.imm .none (b.map y3n)]=some (.bool (decide (a=b))):=by
 refine zh c327 (by simp) ?_
 by_cases hl:a.length=b.length
 rotate_left
 ·have h1 : ¬ (a.length:Int)=b.length:=by omega
  have h2 : ¬ a=b:=fun h=>hl (by rw[h])
  simp[t327,n327,h1,h2]
 have h1:(a.length:Int)=b.length:=by omega
 obtain⟨B,hB⟩:∃ B,B=decide (a=b):=⟨_,rfl⟩
 rw[<- hB]
 simp[t327,n327,h1]
 refine z13 a.length (fun i env h=>∃(x4 x5 x6:D) ,env=[.imm .none (a.map y3n),.imm .none (b.map y3n),.bool false,dI i,x4,x5,x6] /\ ∀ j,(hj:j<a.length)->j<i->a[j]=b[j]'(by omega)) 0 (by omega) ⟨_,_,_,rfl,fun _ _ h=>absurd h (by omega)⟩ ?_
 rintro i env h hi ⟨x4,x5,x6,rfl,F⟩
 by_cases hlt:i<a.length
 rotate_left
 ·have hge : ¬ (i:Int)<a.length:=by omega
  have:i=a.length:=by omega
  have hB2:B=true:=by
   rw[hB,decide_eq_true_eq]
   exact zbg hl fun j hj=>F j hj (by omega)
  simp[hge,hB2,this]
 have hup:=zl hlt (by omega)
 have hlt2:i<b.length:=by omega
 obtain⟨x,hx⟩:∃ x,x=a[i]:=⟨_,rfl⟩
 obtain⟨y,hy⟩:∃ y,y=b[i]:=⟨_,rfl⟩
 have n1:=zvn (a:=x) (b:=y)
 have l72:∀(h:List Obj) (x:Ent),yt E h 72 (.iptr [dI x.kind,dI x.idx,dI x.amt])=some (y3n x):=fun _ _=>rfl
 by_cases hxy:x=y
 ·have hd:decide (x=y)=true:=by simpa using hxy
  rw[hd] at n1
  simp[hlt,hlt2,<- hx,<- hy,hup,n1,l72,-z5d,-zab]
  intro j hj hji
  by_cases hje:j<i
  ·exact F j hj hje
  ·have:j=i:=by omega
   subst this
   rw[<- hx,<- hy];exact hxy
 ·have hd:decide (x=y)=false:=by simpa using hxy
  rw[hd] at n1
  have hB2:B=false:=by
   rw[hB,decide_eq_false_iff_not]
   intro h
   subst h
   exact hxy (by rw[hx,hy])
  simp[hlt,hlt2,<- hx,<- hy,hup,n1,l72,hB2,-z5d,-zab]

theorem r337(p q:Pst)(hp:p.prev.length=32)(hq:q.prev.length=32)(ha:p.ents.length<=1000000)(hb:q.ents.length<=1000000):y14 E (dL E) 337 [y2p p,y2p q]=some (.bool (decide (p=q))):=by
 have e:=r327 p.ents q.ents ha hb
 refine zh c337 (by simp) ?_
 have l73:∀(p:Pst),p.prev.length=32->y3s E 73 (.iptr (p.prev.map ya))=some (y4r p.prev):=fun p hp=>by
  have e:=z1g 32 0 (p.prev.map ya) (by simp[hp])
  unfold y3s
  simp only[show(E.ty 73).size=32 from rfl,e]
  rfl
 have eqd:=zrm hp hq
 have il2:∀(a:Int) (r:List D),y3s E 2 (.iptr (dI a::r))=some (dI a):=fun _ _=>rfl
 have il66:∀(es:List D) (r:List D),y3s E 66 (.iptr (.imm .none es::r))=some (.imm .none es):=fun _ _=>rfl
 have hpq:(p=q) ↔ ((((p.no=q.no/\p.minute=q.minute)/\p.corrects=q.corrects)/\p.prev=q.prev)/\p.ents=q.ents):=by
  obtain⟨a,b,c,d,e⟩:=p
  obtain⟨a',b',c',d',e'⟩:=q
  simp only[Pst.mk.injEq]
  constructor
  ·rintro⟨rfl,rfl,rfl,rfl,rfl⟩;exact⟨⟨⟨⟨rfl,rfl⟩,rfl⟩,rfl⟩,rfl⟩
  ·rintro⟨⟨⟨⟨rfl,rfl⟩,rfl⟩,rfl⟩,rfl⟩;exact⟨rfl,rfl,rfl,rfl,rfl⟩
 by_cases h1:p.no=q.no
 rotate_left
 ·simp[t337,n337,hp,hq,l73 p hp,l73 q hq,eqd,e,zi,il2,il66,-z1r,h1,hpq]
 by_cases h2:p.minute=q.minute
 rotate_left
 ·simp[t337,n337,hp,hq,l73 p hp,l73 q hq,eqd,e,zi,il2,il66,-z1r,h1,h2,hpq]
 by_cases h3:p.corrects=q.corrects
 rotate_left
 ·simp[t337,n337,hp,hq,l73 p hp,l73 q hq,eqd,e,zi,il2,il66,-z1r,h1,h2,h3,hpq]
 by_cases h4:p.prev=q.prev
 rotate_left
 ·have e4:decide (p.prev=q.prev)=false:=by simpa using h4
  rw[e4] at eqd
  simp[t337,n337,hp,hq,l73 p hp,l73 q hq,eqd,e,zi,il2,il66,-z1r,h1,h2,h3,h4,hpq]
 have e4:decide (p.prev=q.prev)=true:=by simpa using h4
 rw[e4] at eqd
 have l73q:=l73 q hq
 rw[h4] at eqd
 simp[t337,n337,hp,hq,l73q,eqd,e,zi,il2,il66,-z1r,h1,h2,h3,h4,hpq]

theorem r320(a b:List Pst)(ha:y6f a)(hb:y6f b):y14 E (dL E) 320 [y1m a,y1m b]=some (.bool (decide (a=b))):=by
 refine zh c320 (by simp) ?_
 obtain⟨ha1,ha2⟩:=ha
 obtain⟨hb1,hb2⟩:=hb
 by_cases hl:a.length=b.length
 rotate_left
 ·have h1 : ¬ (a.length:Int)=b.length:=by omega
  have h2 : ¬ a=b:=fun h=>hl (by rw[h])
  simp[t320,n320,h1,h2]
 have h1:(a.length:Int)=b.length:=by omega
 obtain⟨B,hB⟩:∃ B,B=decide (a=b):=⟨_,rfl⟩
 rw[<- hB]
 simp[t320,n320,h1]
 refine z13 a.length (fun i env h=>∃(x4 x5 x6:D) ,env=[y1m a,y1m b,.bool false,dI i,x4,x5,x6] /\ ∀ j,(hj:j<a.length)->j<i->a[j]=b[j]'(by omega)) 0 (by omega) ⟨_,_,_,rfl,fun _ _ h=>absurd h (by omega)⟩ ?_
 rintro i env h hi ⟨x4,x5,x6,rfl,F⟩
 by_cases hlt:i<a.length
 rotate_left
 ·have hge : ¬ (i:Int)<a.length:=by omega
  have:i=a.length:=by omega
  have hB2:B=true:=by
   rw[hB,decide_eq_true_eq]
   exact zbg hl fun j hj=>F j hj (by omega)
  simp[hge,hB2,this]
 have hup:=zl hlt (by omega)
 have hlt2:i<b.length:=by omega
 obtain⟨x,hx⟩:∃ x,x=a[i]:=⟨_,rfl⟩
 obtain⟨y,hy⟩:∃ y,y=b[i]:=⟨_,rfl⟩
 have px:=ha2 x (by rw[hx];exact aN hlt)
 have py:=hb2 y (by rw[hy];exact aN hlt2)
 have n1:=r337 x y px.1 py.1 px.2 py.2
 have q1:=fun h:List Obj=>ze9 (h:=h) px.1
 have q2:=fun h:List Obj=>ze9 (h:=h) py.1
 by_cases hxy:x=y
 ·have hd:decide (x=y)=true:=by simpa using hxy
  rw[hd] at n1
  simp[hlt,hlt2,<- hx,<- hy,hup,n1,px.1,py.1,↓q1,↓q2,zi,z6]
  intro j hj hji
  by_cases hje:j<i
  ·exact F j hj hje
  ·have:j=i:=by omega
   subst this
   rw[<- hx,<- hy];exact hxy
 ·have hd:decide (x=y)=false:=by simpa using hxy
  rw[hd] at n1
  have hB2:B=false:=by
   rw[hB,decide_eq_false_iff_not]
   intro h
   subst h
   exact hxy (by rw[hx,hy])
  simp[hlt,hlt2,<- hx,<- hy,hup,n1,hB2,px.1,py.1,↓q1,↓q2,zi,z6]

theorem znm{k i m:Int}{p:Pst}{l:List Pst}:y76 k i m (p::l)=(if p.minute<=m then y54 k i p.ents else 0)+y76 k i m l:=rfl
theorem r319(l:List Pst)(ok:y6f l)(hN:entN l<=1000000)(k i m:Int):y14 E (dL E) 319 [y1m l,y3k k i,dI m]=some (blD l k i m):=by
 have e360:=r360 l ok
 unfold blD
 obtain⟨B,hB⟩:∃ B,B=y76 k i m l:=⟨_,rfl⟩
 rw[<- hB]
 refine zh c319 (by simp) ?_
 by_cases h0:rdE tgB l=0
 rotate_left
 ·rw[if_neg h0]
  simp[t319,n319,zj,e360,h0]
 have v:=z1w.1 h0
 rw[h0] at e360 ⊢
 rw[if_pos rfl]
 have hl:=ok.1
 simp[t319,n319,zj,e360]
 refine z13 l.length (fun j env h=>∃(x6 x9 x10 x11 x12 x13:D) (c:Int) (N:Nat),env=[y1m l,y3k k i,dI m,.iptr [dI k,dI i],dI 0,dI 0,x6,dI c,dI j,x9,x10,x11,x12,x13]/\c+y76 k i m (l.drop j)=B/\N+entN (l.drop j)<=1000000 /\ -(1099511627776*(N:Int))<=c/\c<=1099511627776*(N:Int)) 0 (by omega) ⟨_,_,_,_,_,_, (0:Int),0,by rfl,by simp[hB],by simpa using hN,by simp,by simp⟩ ?_
 rintro j env h hj ⟨x6,x9,x10,x11,x12,x13,c,N,rfl,b1,b2,b3,b4⟩
 by_cases hltj:j<l.length
 rotate_left
 ·have:j=l.length:=by omega
  subst this
  rw[fK] at b1
  have hc:c=B:=by simpa[y76] using b1
  subst hc
  simp
 have hupj:=zl hltj (by omega)
 obtain⟨p,hp⟩:∃ p,p=l[j]:=⟨_,rfl⟩
 have hpm:p ∈ l:=by rw[hp];exact aN hltj
 have hp2:=ok.2 p hpm
 have g:=v.2.1 p hpm
 rw[z3k hltj,<- hp,znm] at b1
 rw[z3k hltj,<- hp] at b2
 simp only[entN] at b2
 obtain⟨R,hR⟩:∃ R,R=y76 k i m (l.drop (j+1)):=⟨_,rfl⟩
 rw[<- hR] at b1
 simp[hltj]
 refine z13 p.ents.length (fun e env h=>∃(x6 x10 x11 x12 x13:D) (c:Int) (N:Nat),env=[y1m l,y3k k i,dI m,.iptr [dI k,dI i],dI 0,dI 0,x6,dI c,dI j,dI e,x10,x11,x12,x13]/\c+((if p.minute<=m then y54 k i (p.ents.drop e) else 0)+R)=B/\N+(p.ents.length - e)+entN (l.drop (j+1))<=1000000 /\ -(1099511627776*(N:Int))<=c/\c<=1099511627776*(N:Int)) 0 (by omega) ⟨_,_,_,_,_, c,N,by rfl,by simpa using b1,by omega,b3,b4⟩ ?_
 clear b1 b2 b3 b4
 clear h c N x6 x9 x10 x11 x12 x13
 rintro e env h he ⟨x6,x10,x11,x12,x13,c,N,rfl,b1,b2,b3,b4⟩
 by_cases hlt:e<p.ents.length
 rotate_left
 ·have:e=p.ents.length:=by omega
  subst this
  rw[fK] at b1
  have hc:c+R=B:=by
   have:(if p.minute<=m then y54 k i ([]:List Ent) else 0)=0:=by simp[y54]
   rw[this] at b1;omega
  simp[hltj,<- hp,hp2.1,hupj]
  exact⟨_,_,_,_,_,_,c,⟨rfl,rfl,rfl,rfl,rfl,rfl,rfl⟩,by rw[<- hR];exact hc,N,by omega,b3,b4⟩
 have hup:=zl hlt (by omega)
 obtain⟨x,hx⟩:∃ x,x=p.ents[e]:=⟨_,rfl⟩
 have okx:=(g.fm.ents.ok x (by rw[hx];exact aN hlt)).2.2.2
 rw[z3k hlt,<- hx] at b1
 simp only[y54] at b1
 have eqa:=zrn (a:=(x.kind,x.idx)) (b:=(k,i))
 simp only[Prod.mk.injEq] at eqa
 by_cases hm:p.minute<=m
 rotate_left
 ·rw[if_neg hm] at b1
  simp[hltj,hlt,<- hp,<- hx,hp2.1,hup,hm]
  exact⟨_,_,_,_,_,c,⟨rfl,rfl,rfl,rfl,rfl,rfl⟩,by omega,N+1,by omega,by omega,by omega⟩
 rw[if_pos hm] at b1
 by_cases ha:x.kind=k/\x.idx=i
 ·rw[decide_eq_true ha] at eqa
  rw[if_pos ha] at b1
  have hw:av.wrap (c+x.amt)=c+x.amt:=zc ⟨by omega,by omega⟩
  simp[hltj,hlt,<- hp,<- hx,hp2.1,hup,hm,eqa,-zac,hw]
  exact⟨_,_,_,_,_,c+x.amt,⟨rfl,rfl,rfl,rfl,rfl,rfl⟩,by omega,N+1,by omega,by omega,by omega⟩
 ·rw[decide_eq_false ha] at eqa
  rw[if_neg ha] at b1
  simp[hltj,hlt,<- hp,<- hx,hp2.1,hup,hm,eqa,-zac]
  exact⟨_,_,_,_,_,c,⟨rfl,rfl,rfl,rfl,rfl,rfl⟩,by omega,N+1,by omega,by omega,by omega⟩

end Dv
