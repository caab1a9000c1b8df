/- Texts that a proof of this claim uses, joined: Lw.W219, Lw.W220, Lw.W221, Lw.W222, Lw.W223, Lw.W224, Lw.W225, Lw.W241, Lw.W242, Lw.W243, Lw.W244, Lw.S41, Lw.Ty, Lw.W226, Lw.W227, Lw.W228, Lw.W245, Lw.W246, Lw.W2, Lw.W3, Lw.W4, Lw.W5, Lw.W6, Lw.W7, Lw.W247, Lw.W248, Lw.W249, Lw.W294. -/
import Derived.Test.YtfagnjchgplecaaDoorGa
import Derived.Test.YtfagnjchgplecaaDoorLwa
import Derived.Test.YtfagnjchgplecaaDoorDvd
import Derived.Test.YtfagnjchgplecaaDoorWa
set_option linter.all false
open Bool renaming and_true->jA
open Go.IntKind renaming i64->ay,u8->gg
open Int renaming natCast_nonneg->j5,negSucc_eq->aA,toNat_natCast->cK
open List renaming append_assoc->bA,cons_append->aZ,drop_eq_getElem_cons->bG,drop_length->iC,drop_zero->cX,getElem?_eq_getElem->ae,length->dM,length_append->ax,length_cons->aF,length_map->aU,length_nil->bI,length_set->bv,length_take->be,map_cons->av,map_nil->aO,mem_cons->az,mem_map->aV,nil_append->bL,pairwise_cons->dF,replicate->af,take_append_drop->bz,take_length->bp,take_of_length_le->bu,take_succ_cons->dY,take_succ_eq_append_getElem->bj,take_zero->jk
open List.cons renaming injEq->bo
open Nat renaming le_refl->ai,min_eq_left->ci
open Option.some renaming inj->cj,injEq->aa
open Prod.mk renaming injEq->aq
open UInt8 renaming ofNat->bC
set_option maxRecDepth 100000
set_option maxHeartbeats 16000000
namespace Dv
attribute [local simp] af depth y63 y97 y3s y3b y96 y7o y3g y2g Ret
attribute [local congr] z4v z51 z3n z2u z2c z3o z28


theorem r359(l:List Pst):y1i E (dL E) 359 [y2f l]=some (.fn 380 [.iptr [y2f l]]):=by
 refine zx c359 (by simp) ?_
 conv in t359=>reduce;dsimp[aA]
 simp[t359,n359,z17]

def y3u(l:List Pst):List (Int × Ent):=l.flatMap fun p=>p.ents.map fun x=>(p.minute,x)
theorem zih:y3u []=[]:=rfl
theorem z44{p:Pst}{l:List Pst}:y3u (p::l)=(p.ents.map fun x=>(p.minute,x))++y3u l:=rfl

theorem ld66{H:List Obj}{q:Nat}{p:Pst}(B:At H q (.cells (pC p))):y11 E H 66 (.loc q 3)=some (.imm .none (p.ents.map y41)):=by
 unfold y11
 simp only[B.eq,show(E.ty 66).size=1 from rfl]
 rfl
theorem ld2{H:List Obj}{q:Nat}{p:Pst}(B:At H q (.cells (pC p))):y11 E H 2 (.loc q 1)=some (dI p.minute):=by
 unfold y11
 simp only[B.eq,show(E.ty 2).size=1 from rfl]
 rfl

theorem i380(l:List Pst)(ok:y8k l)(L:Nat)(J:Nat->List (Int × Ent)->List Obj->Prop)(Fin:List Obj->Prop)
  (hext:∀ f rem hp r,J f rem hp->J f rem (hp++r))
  (hown:∀ f rem hp r,J f rem hp->J hp.length rem (hp++r))
  (hy:∀ f x rem hp o,J f (x::rem) hp->At hp f o->∃ t hp',y2w (dL E) L [dI x.1,y41 x.2] hp=some (.bool t,hp')/\(t=true->J f rem hp'/\At hp' f o)/\(t=false->Fin hp'))
  {hp:List Obj} {f0:Nat} (h0:J f0 (y3u l) hp) :
  ∃ d hp',y16 E (dL E) 380 [.yld L,.iptr [y2f l]] hp=some (d,hp')/\((∃ f,J f [] hp')\/Fin hp'):=by
 refine z31 c380 (R:=fun _ hp'=>(∃ f,J f [] hp')\/Fin hp') (by simp) ?_
 conv in t380=>reduce;dsimp[aA]
 have hl:=ok.1
 simp[t380,n380]
 refine z21 l.length (fun i env hp=>∃(x2 x3 x7 x8 x9 x10 x11 x12 x13 x14 x15:D) ,env=[.yld L,.iptr [y2f l],x2,x3,y2f l,dI l.length,dI i,x7,x8,x9,x10,x11,x12,x13,x14,x15] /\
  ∃ f,J f (y3u (l.drop i)) hp) 0 (by omega) ⟨_,_,_,_,_,_,_,_,_,_,_,rfl,f0,by simpa using h0⟩ ?_
 rintro i env hp hi ⟨x2,x3,x7,x8,x9,x10,x11,x12,x13,x14,x15,rfl,f,hJ⟩
 by_cases hlt:i<l.length
 rotate_left
 ·have:i=l.length:=by omega
  subst this
  rw[iC,zih] at hJ
  simp
  exact .inl ⟨f,hJ⟩
 obtain⟨p,hpi⟩:∃ p,p=l[i]:=⟨_,rfl⟩
 have hp2:=ok.2 p (by rw[hpi];exact List.getElem_mem hlt)
 have hup:=zq hlt (by omega)
 rw[z9s hlt,<- hpi,z44] at hJ
 obtain⟨rest,hrest⟩:∃ rest,rest=y3u (l.drop (i+1)):=⟨_,rfl⟩
 rw[<- hrest] at hJ
 have q1:=fun h:List Obj=>zsy (h:=h) hp2.1
 have q3:=stP hp2.1
 simp only[af] at q3
 have hJ1:=hown _ _ _ [.cells (pC p)] hJ
 have hA1:At (hp++[.cells (pC p)]) hp.length (.cells (pC p)):=by simp[At]
 have y1:=ld66 hA1
 simp[hlt,<- hpi,hp2.1,-z16,q1,↓q3,y1]
 generalize hp++[Obj.cells (pC p)]=H0 at hJ1 hA1
 generalize hp.length=C at hJ1 hA1
 have hel:=hp2.2
 refine z21 p.ents.length (fun j env h=>∃(x3 x7 x8 x12 x13 x14 x15:D) ,env=[.yld L,.iptr [y2f l],.loc C 0,x3,y2f l,dI l.length,dI i,x7,x8,.imm .none (p.ents.map y41),dI p.ents.length,dI j,x12,x13,x14,x15] /\
  J C ((p.ents.drop j).map (fun x=>(p.minute,x))++rest) h/\At h C (.cells (pC p))) 0 (by omega) ⟨_,_,_,_,_,_,_,rfl,by simpa using hJ1,hA1⟩ ?_
 rintro j env h hj ⟨x3,x7,x8,x12,x13,x14,x15,rfl,hJ2,hA2⟩
 by_cases hlt2:j<p.ents.length
 rotate_left
 ·have:j=p.ents.length:=by omega
  subst this
  simp only[iC,aO,bL] at hJ2
  rw[hrest] at hJ2
  simp[hlt,hup]
  exact⟨C,hJ2⟩
 have hup2:=zq hlt2 (by omega)
 obtain⟨x,hx⟩:∃ x,x=p.ents[j]:=⟨_,rfl⟩
 rw[z9s hlt2,av,aZ,<- hx] at hJ2
 have y2:=fun r:List Obj=>ld2 (hA2.app (r:=r))
 have y3:y11 E (h++[.cells [dI x.kind,dI x.idx,dI x.amt]]) 72 (.loc h.length 0)=some (y41 x):=by
  unfold y11
  simp only[List.getElem?_concat_length]
  rfl
 obtain⟨t,hp2,e1,e2,e3⟩:=hy C (p.minute,x) _ _ _ (hext _ _ _ [.cells [dI x.kind,dI x.idx,dI x.amt]] hJ2) (hA2.app)
 simp only at e1
 cases t with
 |true=>
  obtain⟨hJ3,hA3⟩:=e2 rfl
  rw[List.map_drop] at hJ3
  simp[hlt2,<- hx,-z16,y2,y3,e1,hup2]
  exact⟨hJ3,hA3⟩
 |false=>
  have hF:=e3 rfl
  simp[hlt2,<- hx,-z16,y2,y3,e1,hF]

def y44(k i m:Int):List (Int × Ent)->Int
 |[]=>0
 |x::l=>(if x.1<=m/\x.2.kind=k/\x.2.idx=i then x.2.amt else 0)+y44 k i m l
theorem z7h{k i m:Int}:∀(a b:List (Int × Ent)),y44 k i m (a++b)=y44 k i m a+y44 k i m b
 |[],b=>by simp[y44]
 |x::a,b=>by simp only[aZ,y44,z7h a b];omega
theorem zah{k i m n:Int}:∀(l:List Ent),y44 k i m (l.map fun x=>(n,x))=if n<=m then y6y k i l else 0
 |[]=>by simp[y44,y6y]
 |x::l=>by
  have ih:=zah (k:=k) (i:=i) (m:=m) (n:=n) l
  simp only[av,y44,ih,y6y]
  by_cases h1:n<=m
  ·simp[h1]
  ·simp[h1]
theorem z8o{k i m:Int}:∀(l:List Pst),y44 k i m (y3u l)=y9b k i m l
 |[]=>rfl
 |p::l=>by rw[z44,z7h,zah,z8o l];rfl
theorem zb2:∀(l:List Pst),(y3u l).length=entN l
 |[]=>rfl
 |p::l=>by rw[z44,ax,aU,zb2 l];rfl
theorem zii{l:List Pst}{x:Int × Ent}(h:x ∈ y3u l):∃ p,p ∈ l/\x.2 ∈ p.ents:=by
 obtain⟨p,hp,hx⟩:=List.mem_flatMap.1 h
 obtain⟨y,hy,rfl⟩:=aV.1 hx
 exact⟨p,hp,hy⟩

open Classical in
noncomputable def blD(l:List Pst)(k i m:Int):D:=.tup [dI (if rdE tgB l=0 then y9b k i m l else 0),dI (rdE tgB l)]

theorem ydt(l:List Pst)(ok:y8k l)(hN:entN l<=1000000)(k i m:Int):y1i E (dL E) 318 [y2f l,y3q k i,dI m]=some (blD l k i m):=by
 have e324:=ybp l ok
 have e359:=r359 l
 refine zx c318 (by simp) ?_
 conv in t318=>reduce;dsimp[aA]
 unfold blD
 by_cases h0:rdE tgB l=0
 ·have v:=z2o.1 h0
  rw[h0] at e324 ⊢
  rw[if_pos rfl]
  obtain⟨B,hB⟩:∃ B,B=y9b k i m l:=⟨_,rfl⟩
  rw[<- hB]
  simp[t318,n318,z17,e324,e359]
  refine⟨380,_,rfl,?_⟩
  intro L hL hcb
  obtain⟨J,hJ⟩:∃ J:Nat->List (Int × Ent)->List Obj->Prop,J=fun f rem hp'=>2<=f /\ ∃(c:Int),At hp' 0 (.cells [dI c])/\At hp' 1 (L false none)/\c+y44 k i m rem=B/\rem.length<=1000000 /\ -(1099511627776*(1000000 - rem.length):Int)<=c/\c<=1099511627776*(1000000 - rem.length) /\ ∀ x,x ∈ rem->y5d x.2:=⟨_,rfl⟩
  have key:=i380 l ok 1 J (fun _=>False) (by
    rw[hJ]
    rintro f rem hp' r ⟨hf,c,a1,a2,a3⟩
    exact⟨hf,c,a1.app,a2.app,a3⟩) (by
    rw[hJ]
    rintro f rem hp' r ⟨hf,c,a1,a2,a3⟩
    exact⟨by have:=a2.lt;omega,c,a1.app,a2.app,a3⟩) (by
    intro f x rem hp1 o hj ho
    rw[hJ] at hj
    obtain⟨hf,c,a1,a2,a3,a4,a5,a6,a7⟩:=hj
    have l1:=a2.lt
    have⟨ok1,ok2,ok3,ok4,ok5⟩:=a7 x (by simp)
    obtain⟨mi,⟨kd,ix,am⟩⟩:=x
    simp only at ok1 ok2 ok3 ok4 ok5
    simp only[aF] at a4 a5 a6
    simp only[y44] at a3
    obtain⟨H1,hH1⟩:∃ H1,H1=hp1.set 1 (L true none):=⟨_,rfl⟩
    have b0:At H1 0 (.cells [dI c]):=by rw[hH1];exact a1.ne (by omega)
    have b1:At H1 1 (L true none):=by rw[hH1];exact At.self l1
    have bf:At H1 f o:=by rw[hH1];exact ho.ne (by omega)
    have hw:ay.wrap (c+am)=c+am:=zf ⟨by omega,by omega⟩
    have l0:=b0.lt
    obtain⟨t,hp2,e1,e2⟩:=hcb [dI mi,y41 ⟨kd,ix,am⟩] hp1 (fun t hp'=>t=true/\J f rem hp'/\At hp' f o) rfl a2 (by
     rw[show[Obj.cells [D.int ay 0]].length=1 from rfl]
     have y2:∀ r:List Obj,(hp1++r)[1]? = some (L false none):=fun r=>a2.app
     have y6:∀ r:List Obj,(hp1++r).set 1 (L true none)=H1++r:=fun r=>by rw[z1c l1,hH1]
     have y7:hp1.length=H1.length:=by rw[hH1,bv]
     have y0:∀ r:List Obj,(H1++r)[0]? = some (.cells [dI c]):=fun r=>b0.app
     have y8:∀(o:Obj) (r:List Obj),(H1++r).set 0 o=H1.set 0 o++r:=fun o r=>z1c l0
     have y9:∀(o:Obj) (r:List Obj),(H1.set 0 o++r)[1]? = some (L true none):=fun o r=>(b1.ne (by omega)).app
     have y10:∀ r:List Obj,(H1++r)[1]? = some (L true none):=fun r=>b1.app
     have fin:∀(c':Int) (G:List Obj),At G 0 (.cells [dI c'])->1<G.length->At G f o->c'+y44 k i m rem=B -> -(1099511627776*(1000000 - rem.length):Int)<=c'->c'<=1099511627776*(1000000 - rem.length)->∀ r:List Obj,J f rem ((G++r).set 1 (L false none))/\At ((G++r).set 1 (L false none)) f o:=by
      intro c' G g0 gl gf g3 g4 g5 r
      have e:(G++r).set 1 (L false none)=G.set 1 (L false none)++r:=z1c gl
      rw[e,hJ]
      exact⟨⟨hf,c',(g0.ne (by omega)).app,(At.self gl).app,g3,by omega,g4,g5,fun x hx=>a7 x (by simp[hx])⟩,(gf.ne (by omega)).app⟩
     by_cases hh:mi<=m/\kd=k/\ix=i
     ·obtain⟨g1,g2,g3⟩:=hh
      subst g2 g3
      simp[y27,↓y2,↓y6,y7,↓y0,↓y8,↓y9,↓y10,g1,hw]
      rw[if_pos ⟨g1,rfl,rfl⟩] at a3
      exact fin (c+am) _ (At.self l0) (by rw[bv];omega) (bf.ne (by omega)) (by omega) (by omega) (by omega) _
     ·rw[if_neg hh] at a3
      have hF:=fin c H1 b0 (by omega) bf (by omega) (by omega) (by omega)
      by_cases g1:mi<=m
      ·have hbf:(kd == k && ix == i)=false:=by
        rw[Bool.and_eq_false_iff]
        by_cases g2:kd=k
        ·right
         have : ¬ ix=i:=fun g3=>hh ⟨g1,g2,g3⟩
         simpa using this
        ·left;simpa using g2
       simp[y27,↓y2,↓y6,y7,↓y10,g1,hbf]
       exact hF _
      ·simp[y27,↓y2,↓y6,y7,↓y10,g1]
       exact hF _)
    exact⟨t,hp2,e1,fun _=>e2.2,fun h=>by rw[e2.1] at h;cases h⟩) (hp:=[.cells [dI 0],L false none]) (f0:=2) (by
    rw[hJ]
    have hlen:=zb2 l
    refine⟨ai _,0,rfl,rfl,by rw[z8o,Int.zero_add];exact hB.symm,by omega,by omega,by omega,fun x hx=>?_⟩
    obtain⟨p,hp,hx2⟩:=zii hx
    exact(v.2.1 p hp).fm.ents.ok _ hx2)
  obtain⟨d,hp',h1,h2⟩:=key
  rcases h2 with⟨f,h2⟩ | h2
  ·rw[hJ] at h2
   obtain⟨_,c,a1,a2,a3,_⟩:=h2
   simp only[y44,Int.add_zero] at a3
   subst a3
   refine⟨d,hp',h1,.inl ⟨a2,?_⟩⟩
   have l0:=a1.lt
   have c0:∀ o,((hp'.set 1 .dead).set 0 o)[0]? = some o:=fun o=>At.self (by simpa using l0)
   simp[a1.eq,↓c0]
  ·exact h2.elim
 ·rw[if_neg h0]
  simp[t318,n318,z17,e324,h0]

theorem z4w(p:Int × Int)(l:List (Int × Int)):yf (p::l)=dI p.1::dI p.2::yf l:=rfl
theorem z3t:∀(l:List (Int × Int)),(yf l).length=l.length*2
 |[]=>rfl
 |p::l=>by rw[z4w,aF,aF,z3t l,aF];omega
theorem z8m(a b:List (Int × Int)):yf (a++b)=yf a++yf b:=List.flatMap_append
theorem zdp:∀(l:List (Int × Int)),y3o (yf l)=some l
 |[]=>rfl
 |p::l=>by rw[z4w];simp only[y3o,zdp l]
theorem zbm:∀(l:List (Int × Int)) (k:Nat),(yf l).take (k*2)=yf (l.take k)
 |[],k=>by simp[yf]
 |p::l,0=>rfl
 |p::l,k+1=>by
  rw[z4w,show(k+1)*2=k*2+1+1 from by omega,dY,dY,zbm l k];rfl
theorem zs0{l:List (Int × Int)}{k:Nat}(h:k<l.length):y1x (yf l) (k*2) 2=some [dI l[k].1,dI l[k].2]:=by
 have e:yf l=yf (l.take k)++[dI l[k].1,dI l[k].2]++yf (l.drop (k+1)):=by
  conv=>lhs;rw[<- bz k l,bG h,z8m,z4w]
  simp
 rw[e]
 exact z5y [dI l[k].1,dI l[k].2] _ _ _ (by rw[z3t,be];omega)
theorem zs1{l:List (Int × Int)}{k:Nat}{a:Int × Int}(h:k<l.length):setCells (yf l) (k*2) [dI a.1,dI a.2]=yf (l.set k a):=by
 have e:yf l=yf (l.take k)++(dI l[k].1::dI l[k].2::yf (l.drop (k+1))):=by
  conv=>lhs;rw[<- bz k l,bG h,z8m,z4w]
 have hl:(yf (l.take k)).length=k*2:=by rw[z3t,be];omega
 have e2:=zm (a:=yf (l.take k)) (b:=dI l[k].1::dI l[k].2::yf (l.drop (k+1))) (off:=0) (vs:=[dI a.1,dI a.2])
 have e3:k*2+0=k*2:=rfl
 rw[hl,e3] at e2
 rw[e,e2,List.set_eq_take_append_cons_drop,if_pos h,z8m,z4w]
 rfl
theorem ybv{H:List Obj}{q k:Nat}{l:List (Int × Int)}(A:At H q (.cells (yf l)))(h:k<l.length):y11 E H 65 (.loc q (k*2))=some (y3q l[k].1 l[k].2):=by
 unfold y11
 simp only[A.eq,show(E.ty 65).size=2 from rfl,zs0 h]
 rfl
theorem st65{H:List Obj}{q k:Nat}{l:List (Int × Int)}{a:Int × Int}(A:At H q (.cells (yf l)))(h:k<l.length):y3h E H 65 (.loc q (k*2)) (y3q a.1 a.2)=some (H.set q (.cells (yf (l.set k a)))):=by
 unfold y3h
 simp only[A.eq]
 rw[if_pos ⟨rfl,rfl,by rw[z3t,show(E.ty 65).size=2 from rfl];omega⟩]
 rw[<- zs1 h]
 rfl

theorem s361{hp:List Obj}{q:Nat}{xs:List (Int × Int)}{gr ag:Bool}{k:Nat}(hk:k=362\/k=386)(A:At hp q (.cells (yf xs)))(hl:xs.length<=1000000) :
  y16 E (dL E) (361) [.sl q 0 xs.length 2 ag gr,.fn k []] hp=some (.tup [],hp.set q (.cells (yf (y1q xs)))):=by
 have e:E.fn (361)=some f361:=rfl
 have e2:E.mp 361=false:=rfl
 have e3:[362,386].contains k=true:=by rcases hk with rfl | rfl <;> rfl
 have e4:E.prim 0=y5z [362,386]:=rfl
 have e5:y5z [362,386] [.sl q 0 xs.length 2 ag gr,.fn k []] hp=some (.tup [],hp.set q (.cells (yf (y1q xs)))):=by
  unfold y5z
  simp only[e3,if_true,A.eq]
  rw[if_pos ⟨z3t xs,by omega⟩,zdp]
 unfold y16
 simp only[e,e2,f361,yi,z7y,z4s,ze9,z4t,z5h,y20]
 simp[ye,yd,yh,y1u,DOp.fin,yj,yb,ym,gOf,z5h,y1f,y3y,yg,y2g,z4t,z9v,yp,e4,e5,y25]
theorem ydm{hp:List Obj}{k:Nat}(hk:k=362\/k=386):y16 E (dL E) (361) [.imm .exact [],.fn k []] hp=some (.tup [],hp):=by
 have e:E.fn (361)=some f361:=rfl
 have e2:E.mp 361=false:=rfl
 have e3:[362,386].contains k=true:=by rcases hk with rfl | rfl <;> rfl
 have e4:E.prim 0=y5z [362,386]:=rfl
 have e5:y5z [362,386] [.imm .exact [],.fn k []] hp=some (.tup [],hp):=by
  unfold y5z
  simp only[e3,if_true]
 unfold y16
 simp only[e,e2,f361,yi,z7y,z4s,ze9,z4t,z5h,y20]
 simp[ye,yd,yh,y1u,DOp.fin,yj,yb,ym,gOf,z5h,y1f,y3y,yg,y2g,z4t,z9v,yp,e4,e5,y25]

def y67(xs:List (Int × Int))(m:Nat):List (Int × Int):=y1d (xs.take m)++xs.drop (y1d (xs.take m)).length
theorem zlen{xs:List (Int × Int)}{m:Nat}:(y1d (xs.take m)).length<=m:=Nat.le_trans z6s (by rw[be];omega)
theorem z82{xs:List (Int × Int)}{m:Nat}(h:m<=xs.length):(y67 xs m).length=xs.length:=by
 have:=zlen (xs:=xs) (m:=m)
 unfold y67
 rw[ax,List.length_drop];omega
theorem zg5{xs:List (Int × Int)}{m j:Nat}(hj:(y1d (xs.take m)).length<=j)(h:j<xs.length)(hm:m<=xs.length):(y67 xs m)[j]'(by rw[z82 hm];exact h)=xs[j]:=by
 have:(y67 xs m)[j]? = some xs[j]:=by
  unfold y67
  rw[List.getElem?_append_right hj,List.getElem?_drop,show(y1d (xs.take m)).length+(j - (y1d (xs.take m)).length)=j from by omega,ae h]
 rw[ae (by rw[z82 hm];exact h)] at this
 exact cj this
theorem zli{xs:List (Int × Int)}{m:Nat}(h0:0<m)(h:m<=xs.length):(xs.take m).getLast? = some (xs[m - 1]'(by omega)):=by
 rw[List.getLast?_eq_getElem?,be,ci h,List.getElem?_take,if_pos (by omega),ae]
theorem zcm{xs:List (Int × Int)}{m:Nat}(h0:0<m)(h:m<xs.length):y1d (xs.take (m+1))=if xs[m - 1]'(by omega)=xs[m] then y1d (xs.take m) else y1d (xs.take m)++[xs[m]]:=by
 rw[bj h,zb9,zli h0 (by omega)]
 simp
theorem zrf{xs:List (Int × Int)}{m:Nat}(h0:0<m)(h:m<xs.length)(he:xs[m - 1]'(by omega)=xs[m]):y67 xs (m+1)=y67 xs m:=by
 unfold y67;rw[zcm h0 h,if_pos he]
theorem zre{xs:List (Int × Int)}{m:Nat}(h0:0<m)(h:m<xs.length)(he : ¬ xs[m - 1]'(by omega)=xs[m]):y67 xs (m+1)=(y67 xs m).set (y1d (xs.take m)).length xs[m]:=by
 have hz:=zlen (xs:=xs) (m:=m)
 unfold y67
 rw[zcm h0 h,if_neg he]
 rw[List.set_append_right _ _ (ai _),Nat.sub_self]
 generalize hc:(y1d (xs.take m)).length=c at hz
 rw[ax,hc,bG (show c<xs.length by omega),List.set_cons_zero]
 simp only[bA,aZ,bL]
 rfl

def y4n(q:Nat)(h h':List Obj):Prop:=h.length<=h'.length /\ ∀ j o,j ≠ q->At h j o->At h' j o
theorem y4n.refl{q:Nat}{h:List Obj}:y4n q h h:=⟨ai _,fun _ _ _ a=>a⟩
theorem y4n.app{q:Nat}{h h' r:List Obj}(k:y4n q h h'):y4n q h (h'++r):=⟨by rw[ax];have:=k.1;omega,fun j o hj a=>(k.2 j o hj a).app⟩
theorem y4n.set{q:Nat}{h h':List Obj}{o:Obj}(k:y4n q h h'):y4n q h (h'.set q o):=⟨by rw[bv];exact k.1,fun j o hj a=>(k.2 j o hj a).ne (Ne.symm hj)⟩

theorem z5s{xs:List (Int × Int)}(h:xs.length<2):y1d xs=xs:=by
 match xs,h with
 |[],_=>rfl
 |[x],_=>rfl
def Cp(q:Nat)(hp:List Obj)(xs:List (Int × Int))(d:D)(hp':List Obj):Prop:=
 ∃ cs,d=.sl q 0 (y1d xs).length 2 true true/\At hp' q (.cells cs)/\cs.take ((y1d xs).length*2)=yf (y1d xs)/\y4n q hp hp'

theorem zvh{a b:Int × Int}:y2e E .eql 65 (y3q a.1 a.2) (y3q b.1 b.2)=some (.bool (decide (a=b))):=by
 obtain⟨a1,a2⟩:=a
 obtain⟨b1,b2⟩:=b
 have:y2e E .eql 65 (y3q a1 a2) (y3q b1 b2)=some (.bool ((a1 == b1) && ((a2 == b2) && true))):=rfl
 rw[this]
 simp only[aa,D.bool.injEq,aq,jA]
 by_cases h1:a1=b1 <;> by_cases h2:a2=b2 <;> simp[h1,h2]
theorem zux{a b:Int × Int}:y2e E .neq 65 (y3q a.1 a.2) (y3q b.1 b.2)=some (.bool (!decide (a=b))):=by
 obtain⟨a1,a2⟩:=a
 obtain⟨b1,b2⟩:=b
 have:y2e E .neq 65 (y3q a1 a2) (y3q b1 b2)=some (.bool (!((a1 == b1) && ((a2 == b2) && true)))):=rfl
 rw[this]
 simp only[aa,D.bool.injEq,aq,jA]
 by_cases h1:a1=b1 <;> by_cases h2:a2=b2 <;> simp[h1,h2]

theorem sl67{q n k:Nat}{gr:Bool}(h:k<=n):y13 E 67 (.sl q 0 n 2 true gr) (some (dI k)) none none=some (.sl q (k*2) (n - k) 2 true false):=by
 have hk:(E.ty 67).k=.slice 65:=rfl
 unfold y13
 simp only[hk,bnd,j5,if_true,cK]
 rw[if_pos ⟨h,ai _,rfl⟩,Nat.zero_add]
theorem ydj{H:List Obj}{q n k:Nat}{cs:List D}(A:At H q (.cells cs))(h:k*2<=cs.length):y2l E H 67 (.sl q 0 n 2 true true) (dI k)=some (.sl q 0 k 2 true true,H):=by
 have hk:(E.ty 67).k=.slice 65:=rfl
 have hz:(E.ty 65).size=2:=rfl
 unfold y2l
 simp only[hk,hz,A.eq,j5,true_and,cK]
 rw[if_pos ⟨h,by decide⟩]
theorem yea{H:List Obj}{q kk:Nat}{zs:List (Int × Int)}{gr:Bool}(A:At H q (.cells (yf zs)))(h:kk<=zs.length) :
  ∃ cs,y9j E H 67 (.sl q (kk*2) (zs.length - kk) 2 true gr)=some (.undef,H.set q (.cells cs))/\cs.take (kk*2)=yf (zs.take kk):=by
 have hk:(E.ty 67).k=.slice 65:=rfl
 have hz:y1s E 65=some (y3q 0 0):=rfl
 refine⟨setCells (yf zs) (kk*2) (yn (af (zs.length - kk) (y3q 0 0))),?_,?_⟩
 ·unfold y9j
  simp only[hk,hz,A.eq]
  rw[if_pos ⟨rfl,by rw[z3t];omega⟩]
 ·have hl:(yf (zs.take kk)).length=kk*2:=by rw[z3t,be];omega
  have e:yf zs=yf (zs.take kk)++yf (zs.drop kk):=by rw[<- z8m,bz]
  have e2:=zm (a:=yf (zs.take kk)) (b:=yf (zs.drop kk)) (off:=0) (vs:=yn (af (zs.length - kk) (y3q 0 0)))
  rw[hl] at e2
  have e3:kk*2+0=kk*2:=rfl
  rw[e3] at e2
  rw[e,e2,List.take_append_of_le_length (by omega),bu (by omega)]

theorem s363{hp:List Obj}{q:Nat}{xs:List (Int × Int)}(A:At hp q (.cells (yf xs)))(hl:xs.length<=1000000) :
  ∃ d hp',y16 E (dL E) 363 [.sl q 0 xs.length 2 true true] hp=some (d,hp')/\Cp q hp xs d hp':=by
 refine z31 c363 (args:=[.sl q 0 xs.length 2 true true]) (hp:=hp) (R:=Cp q hp xs) (by simp) ?_
 conv in t363=>reduce;dsimp[aA]
 by_cases h2:xs.length<2
 ·have h2':(xs.length:Int)<2:=by omega
  simp[t363,n363,h2']
  exact⟨_,by rw[z5s h2],A,by rw[z5s h2,zbm,bp],y4n.refl⟩
 have h2' : ¬ (xs.length:Int)<2:=by omega
 simp[t363,n363,h2']
 refine z21 xs.length (fun k env h=>∃(x3 x4 x5 x6 x7 x8 x9 x10:D) ,env=[.sl q 0 xs.length 2 true true,.imm .exact [],dI k,x3,x4,x5,x6,x7,x8,x9,x10]/\1<=k/\At h q (.cells (yf xs))/\y4n q hp h/\y1d (xs.take k)=xs.take k) 1 (by omega) ⟨_,_,_,_,_,_,_,_,rfl,ai _,A,y4n.refl,z5s (by rw[be];omega)⟩ ?_
 rintro k env h hk ⟨x3,x4,x5,x6,x7,x8,x9,x10,rfl,hk1,B,K,hc⟩
 by_cases hlt:k<xs.length
 rotate_left
 ·have:k=xs.length:=by omega
  subst this
  rw[bp] at hc
  simp
  exact⟨_,by rw[hc],B,by rw[hc,zbm,bp],K⟩
 have hup:=zq hlt (by omega)
 have hw1:ay.wrap ((k:Int) - 1)=((k - 1:Nat):Int):=by
  rw[zf ⟨by omega,by omega⟩];omega
 have y1:∀ r:List Obj,y11 E (h++r) 65 (.loc q (k*2))=some (y3q xs[k].1 xs[k].2):=fun r=>ybv B.app hlt
 have y2:∀ r:List Obj,y11 E (h++r) 65 (.loc q ((k - 1)*2))=some (y3q (xs[k - 1]'(by omega)).1 (xs[k - 1]'(by omega)).2):=fun r=>ybv B.app (by omega)
 have hk1':(k - 1:Nat)<xs.length:=by omega
 have ez:=zvh (a:=xs[k]) (b:=xs[k - 1]'(by omega))
 by_cases he:xs[k - 1]'(by omega)=xs[k]
 ·have he':=he.symm
  have hs:=sl67 (q:=q) (gr:=true) (show k<=xs.length by omega)
  have hc1:y1d (xs.take (k+1))=xs.take k:=by rw[zcm hk1 hlt,if_pos he,hc]
  have hz1:y67 xs (k+1)=xs:=by
   unfold y67
   rw[hc1,be,ci (by omega),bz]
  have hl1:(y1d (xs.take (k+1))).length=k:=by rw[hc1,be];omega
  simp[hlt,hup,hw1,hk1',-z16,y1,y2,ez,he',hs]
  refine z21 (xs.length - k) (fun j env h=>∃(x5 x6 x7 x8 x9 x10:D) ,env=[.sl q 0 xs.length 2 true true,.imm .exact [],dI (y1d (xs.take (k+j))).length,.sl q (k*2) (xs.length - k) 2 true false,dI j,x5,x6,x7,x8,x9,x10] /\
   1<=j/\(y1d (xs.take (k+j))).length+1<=k+j/\At h q (.cells (yf (y67 xs (k+j))))/\y4n q hp h) 1 (by omega) ⟨_,_,_,_,_,_,by rw[hl1];rfl,ai _,by rw[hl1];omega,by rw[hz1];exact B.app,K.app⟩ ?_
  rintro j env h3 hj ⟨x5,x6,x7,x8,x9,x10,rfl,hj1,hkk,B3,K3⟩
  by_cases hlt2:j<xs.length - k
  rotate_left
  ·have:j=xs.length - k:=by omega
   subst this
   have hkn:k+(xs.length - k)=xs.length:=by omega
   rw[hkn] at hkk B3 ⊢
   rw[bp] at hkk ⊢
   have hzl:=z82 (xs:=xs) (ai _)
   have hzt:(y67 xs xs.length).take (y1d xs).length=y1d xs:=by unfold y67;rw[bp];simp
   obtain⟨cs,h4,h5⟩:=yea (gr:=false) B3 (kk:=(y1d xs).length) (by omega)
   rw[hzl] at h4
   rw[hzt] at h5
   have hs2:=sl67 (q:=q) (gr:=true) (show(y1d xs).length<=xs.length from z6s)
   have hs3:=ydj (n:=xs.length) (k:=(y1d xs).length) (At.self (o:=.cells cs) B3.lt) (by have:=congrArg dM h5;rw[z3t,be] at this;have:=z6s (l:=xs);omega)
   simp[hs2,hs3,h4]
   exact⟨cs,rfl,At.self B3.lt,h5,K3.set⟩
  have hm:k+j<xs.length:=by omega
  have hnx:k+(j+1)=k+j+1:=by omega
  have hzl:=z82 (xs:=xs) (m:=k+j) (by omega)
  have g1:=zg5 (xs:=xs) (m:=k+j) (j:=k+j) (by omega) hm (by omega)
  have g2:=zg5 (xs:=xs) (m:=k+j) (j:=k+j - 1) (by omega) (by omega) (by omega)
  have hup2:=zq hlt2 (by omega)
  have hwj:ay.wrap ((j:Int) - 1)=((j - 1:Nat):Int):=by
   rw[zf ⟨by omega,by omega⟩];omega
  have hj1':j - 1<xs.length - k:=by omega
  have z1:∀ r:List Obj,y11 E (h3++r) 65 (.loc q (k*2+j*2))=some (y3q xs[k+j].1 xs[k+j].2):=fun r=>by
   have:=ybv (k:=k+j) (B3.app (r:=r)) (by omega)
   rw[g1,Nat.add_mul] at this
   exact this
  have z2:∀ r:List Obj,y11 E (h3++r) 65 (.loc q (k*2+(j - 1)*2))=some (y3q (xs[k+j - 1]'(by omega)).1 (xs[k+j - 1]'(by omega)).2):=fun r=>by
   have:=ybv (k:=k+j - 1) (B3.app (r:=r)) (by omega)
   rw[g2,show(k+j - 1)*2=k*2+(j - 1)*2 from by omega] at this
   exact this
  have zn:=zux (a:=xs[k+j]) (b:=xs[k+j - 1]'(by omega))
  by_cases he2:xs[k+j - 1]'(by omega)=xs[k+j]
  ·have hz2:=zrf (by omega) hm he2
   have hcm:=zcm (by omega) hm
   rw[if_pos he2] at hcm
   simp[hlt2,-z16,z1,z2,zn,he2.symm,hwj,hj1',hup2]
   rw[hnx,hcm,hz2]
   exact⟨rfl,by omega,B3.app,K3.app⟩
  ·have hz2:=zre (by omega) hm he2
   have hcm:=zcm (by omega) hm
   rw[if_neg he2] at hcm
   have he3 : ¬ xs[k+j]=xs[k+j - 1]'(by omega):=fun h=>he2 h.symm
   obtain⟨kk,hkke⟩:∃ kk,kk=(y1d (xs.take (k+j))).length:=⟨_,rfl⟩
   have hcl:(y1d (xs.take (k+(j+1)))).length=kk+1:=by rw[hnx,hcm,ax,hkke];rfl
   rw[<- hkke] at hz2 hkk
   have hst:∀ r:List Obj,y3h E (h3++r) 65 (.loc q (kk*2)) (y3q xs[k+j].1 xs[k+j].2)=some ((h3++r).set q (.cells (yf ((y67 xs (k+j)).set kk xs[k+j])))):=fun r=>st65 B3.app (by omega)
   have hkn:kk<xs.length:=by omega
   have hup3:=zq hkn (by omega)
   simp[hlt2,-z16,z1,z2,zn,he3,hwj,hj1',hup2,<- hkke,hst,hkn,hup3,hcl]
   exact⟨by omega,by rw[hnx,hz2];exact At.self (At.lt B3.app),K3.app.set⟩
 ·have he' : ¬ xs[k]=xs[k - 1]'(by omega):=fun h=>he h.symm
  simp[hlt,hup,hw1,hk1',-z16,y1,y2,ez,he']
  exact⟨B.app,K.app,by rw[zcm hk1 hlt,if_neg he,hc,<- bj hlt]⟩

def y9w(p:Int × Int):D:=y3q p.1 p.2
abbrev ya8(l:List (Int × Int)):D:=.imm .none (l.map y9w)
theorem z9x{sz:Nat}{rest:List D}:∀(els:List D),(∀ x,x ∈ els->x.cellsL.length=sz/\yk true x.cellsL=some x)->y2o sz true els.length (yn els++rest)=some els
 |[],_=>rfl
 |x::els,h=>by
  obtain⟨h1,h2⟩:=h x (by simp)
  have ih:=z9x (rest:=rest) els fun y hy=>h y (by simp[hy])
  have ht:=z5y x.cellsL (yn els++rest) 0 [] rfl
  rw[bL,h1] at ht
  rw[aF,y2o,z13,bA,ht]
  simp only[h2]
  rw[show(x.cellsL++(yn els++rest)).drop sz=yn els++rest from by rw[<- h1];simp,ih]
theorem ze3:∀(l:List (Int × Int)),yn (l.map y9w)=yf l
 |[]=>rfl
 |p::l=>by rw[av,z13,ze3 l];rfl
theorem zp7{X:List Obj}{q n:Nat}{L:List (Int × Int)}{gr:Bool}{cs:List D}(h:At X q (.cells cs))(hc:cs.take (L.length*2)=yf L):frz X (n+3) (.sl q 0 L.length 2 true gr)=some (ya8 L):=by
 have hr:yw X q=some cs:=by unfold yw;rw[h.eq]
 have hcs:cs=yn (L.map y9w)++cs.drop (L.length*2):=by rw[ze3,<- hc,bz]
 have hch:=z9x (sz:=2) (rest:=cs.drop (L.length*2)) (L.map y9w) (fun x hx=>by obtain⟨p,_,rfl⟩:=aV.1 hx;exact⟨rfl,rfl⟩)
 rw[<- hcs,aU] at hch
 show(match yw X q with | some cs=>(match y2o 2 true L.length (cs.drop 0) with | some els=>(y1k (frz X (n+2)) els).map (D.imm .none) | none=>none) | none=>none)=_
 rw[hr]
 simp only[cX]
 rw[hch]
 simp only[]
 rw[show y1k (frz X (n+2)) (L.map y9w)=some (L.map y9w) from z10 fun _ _=>rfl]
 rfl

theorem ydl(hp:List Obj):y16 E (dL E) 363 [.imm .exact []] hp=some (.imm .exact [],hp):=by
 have:∃ d hp',y16 E (dL E) 363 [.imm .exact []] hp=some (d,hp')/\(d=.imm .exact []/\hp'=hp):=by
  refine z31 c363 (args:=[.imm .exact []]) (hp:=hp) (R:=fun d hp'=>d=.imm .exact []/\hp'=hp) (by simp) ?_
  conv in t363=>reduce;dsimp[aA]
  simp[t363,n363]
 obtain⟨d,hp',e,rfl,rfl⟩:=this
 exact e

def y4e(f:Nat)(H:List Obj)(acc:List (Int × Int))(d:D):Prop:=
 (acc=[]/\d=.imm .exact []) \/ ∃ k,d=.sl k 0 acc.length 2 true true/\2<=k/\k ≠ f/\At H k (.cells (yf acc))
theorem y4e.app{f:Nat}{H r:List Obj}{acc:List (Int × Int)}{d:D}(h:y4e f H acc d):y4e f (H++r) acc d:=by
 rcases h with h | ⟨k,h1,h2,h3,h4⟩
 ·exact .inl h
 ·exact .inr ⟨k,h1,h2,h3,h4.app⟩
theorem y4e.set{f j:Nat}{H:List Obj}{o:Obj}{acc:List (Int × Int)}{d:D}(h:y4e f H acc d)(hj:j<2):y4e f (H.set j o) acc d:=by
 rcases h with h | ⟨k,h1,h2,h3,h4⟩
 ·exact .inl h
 ·exact .inr ⟨k,h1,h2,h3,h4.ne (by omega)⟩
theorem y4e.own{f:Nat}{H r:List Obj}{acc:List (Int × Int)}{d:D}(h:y4e f H acc d):y4e H.length (H++r) acc d:=by
 rcases h with h | ⟨k,h1,h2,h3,h4⟩
 ·exact .inl h
 ·exact .inr ⟨k,h1,h2,by have:=h4.lt;omega,h4.app⟩

theorem zqj{f:Nat}{H:List Obj}{acc:List (Int × Int)}{d:D}{a b:Int}(h:y4e f H acc d)(hl:acc.length<=1000000)(hf:f<H.length)(h2:2<=H.length) :
  ∃ d' H',y2k E H 67 67 d (.imm .exact [y3q a b])=some (d',H')/\y4e f H' (acc++[(a,b)]) d'/\d'.storable=true/\d'.cellsL=[d'] /\ ∀ j o,j<2\/j=f->At H j o->At H' j o:=by
 have hlo:y15 H 2 true (.imm .exact [y3q a b])=some [y3q a b]:=rfl
 have e67:(E.ty 67).k=.slice 65:=rfl
 rcases h with⟨rfl,rfl⟩ | ⟨k,rfl,hk,hkf,hA⟩
 ·refine⟨.sl H.length 0 1 2 true true,H++[.cells (yf [(a,b)])],?_,.inr ⟨H.length,rfl,by omega,by omega,by simp[At]⟩,rfl,rfl,fun j o _ a=>a.app⟩
  have h5:(0+1)*((E.ty 65).bytes+1)<=yl/\(E.ty 65).bytes<=65536/\(y1s E 65).isSome=true/\y30 (E.ty 65).size ([]:List D)=true:=⟨by decide,by decide,rfl,rfl⟩
  unfold y2k
  simp only[e67]
  rw[show y15 H (E.ty 65).size (E.ty 65).ag (.imm .exact [y3q a b])=some [y3q a b] from hlo]
  simp only[aF,bI]
  rw[if_neg (by simp),if_pos h5]
  rfl
 ·have hb:(E.ty 65).bytes=16:=rfl
  refine⟨.sl H.length 0 (acc.length+1) 2 true true,H.set k .dead++[.cells (yf (acc++[(a,b)]))],?_,.inr ⟨H.length,by rw[ax];rfl,by omega,by omega,by simp[At]⟩,rfl,rfl,fun j o hj a=>(a.ne (by omega)).app⟩
  have h5:(acc.length+1)*((E.ty 65).bytes+1)<=yl/\(E.ty 65).bytes<=65536/\(y1s E 65).isSome=true/\2=(E.ty 65).size/\(yf acc).length=acc.length*2:=⟨by rw[hb];simp[yl];omega,by decide,rfl,rfl,z3t acc⟩
  unfold y2k
  simp only[e67]
  rw[show y15 H (E.ty 65).size (E.ty 65).ag (.imm .exact [y3q a b])=some [y3q a b] from hlo,hA.eq]
  simp only[aF,bI]
  rw[if_neg (by simp),if_pos h5,z8m]
  rfl

def yab(x:Int × Ent):Int × Int:=(x.2.kind,x.2.idx)
theorem zbf:∀(l:List Pst),(y3u l).map yab=yat l
 |[]=>rfl
 |p::l=>by
  have ih:=zbf l
  rw[z44,List.map_append,ih,List.map_map]
  rfl

def y9o(H:List Obj)(A:List (Int × Int))(d:D):Prop:=
 (A=[]/\d=.imm .exact []) \/ ∃ k cs,d=.sl k 0 A.length 2 true true/\At H k (.cells cs)/\cs.take (A.length*2)=yf A

theorem s325(l:List Pst)(ok:y8k l)(hN:entN l<=1000000):∃ d hp',y16 E (dL E) 325 [y2f l] []=some (d,hp')/\y9o hp' (yau l) d:=by
 have e359:=r359 l
 refine z31 c325 (R:=fun d hp'=>y9o hp' (yau l) d) (by simp) ?_
 conv in t325=>reduce;dsimp[aA]
 obtain⟨AS,hAS⟩:∃ AS,AS=yat l:=⟨_,rfl⟩
 have hasl:AS.length=entN l:=by rw[hAS];exact zhe l
 have hLs:yau l=y1d (y1q AS):=by rw[hAS];rfl
 rw[hLs]
 simp[t325,n325,z17,e359]
 refine⟨380,_,rfl,?_⟩
 intro L hL hcb
 obtain⟨J,hJ⟩:∃ J:Nat->List (Int × Ent)->List Obj->Prop,J=fun f rem hp'=>2<=f /\ ∃ acc d,At hp' 0 (.cells [d])/\At hp' 1 (L false none)/\acc++rem.map yab=AS/\y4e f hp' acc d:=⟨_,rfl⟩
 have key:=i380 l ok 1 J (fun _=>False) (by
   rw[hJ]
   rintro f rem hp' r ⟨hf,acc,d,a1,a2,a3,a4⟩
   exact⟨hf,acc,d,a1.app,a2.app,a3,a4.app⟩) (by
   rw[hJ]
   rintro f rem hp' r ⟨hf,acc,d,a1,a2,a3,a4⟩
   exact⟨by have:=a2.lt;omega,acc,d,a1.app,a2.app,a3,a4.own⟩) (by
   intro f x rem hp1 o hj ho
   rw[hJ] at hj
   obtain⟨hf,acc,d,a1,a2,a3,a4⟩:=hj
   have l1:=a2.lt
   obtain⟨mi,⟨kd,ix,am⟩⟩:=x
   have hal:acc.length<=1000000:=by
    have:=congrArg dM a3
    rw[ax] at this
    omega
   obtain⟨H1,hH1⟩:∃ H1,H1=hp1.set 1 (L true none):=⟨_,rfl⟩
   have b0:At H1 0 (.cells [d]):=by rw[hH1];exact a1.ne (by omega)
   have b1:At H1 1 (L true none):=by rw[hH1];exact At.self l1
   have bf:At H1 f o:=by rw[hH1];exact ho.ne (by omega)
   have b4:y4e f H1 acc d:=by rw[hH1];exact a4.set (by omega)
   have l0:=b0.lt
   have lf:=bf.lt
   obtain⟨t,hp2,e1,e2⟩:=hcb [dI mi,y41 ⟨kd,ix,am⟩] hp1 (fun t hp'=>t=true/\J f rem hp'/\At hp' f o) rfl a2 (by
    rw[show[Obj.cells [D.imm y1t.exact []]].length=1 from rfl]
    have y2:∀ r:List Obj,(hp1++r)[1]? = some (L false none):=fun r=>a2.app
    have y6:∀ r:List Obj,(hp1++r).set 1 (L true none)=H1++r:=fun r=>by rw[z1c l1,hH1]
    have y7:hp1.length=H1.length:=by rw[hH1,bv]
    have y0:∀ r:List Obj,(H1++r)[0]? = some (.cells [d]):=fun r=>b0.app
    have hda:d.atom=true:=by rcases a4 with⟨_,rfl⟩ | ⟨k,rfl,_⟩ <;> rfl
    obtain⟨d',H',g1,g2,g3,g4,g5⟩:=zqj (a:=kd) (b:=ix) (b4.app (r:=[.cells [dI kd,dI ix,dI am]])) hal (by rw[ax];omega) (by rw[ax];omega)
    have c0:At H' 0 (.cells [d]):=g5 0 _ (.inl (by omega)) b0.app
    have c1:At H' 1 (L true none):=g5 1 _ (.inl (by omega)) b1.app
    have cf:At H' f o:=g5 f _ (.inr rfl) bf.app
    have c10:∀ o,(H'.set 0 o)[1]? = some (L true none):=fun o=>c1.ne (by omega)
    have fin:J f rem ((H'.set 0 (.cells [d'])).set 1 (L false none))/\At ((H'.set 0 (.cells [d'])).set 1 (L false none)) f o:=by
     have k0:=c0.lt
     have k1:=c1.lt
     rw[hJ]
     refine⟨⟨hf,acc++[(kd,ix)],d',(At.self k0).ne (by omega),At.self (by rw[bv];exact k1),by rw[<- a3];simp[yab],(g2.set (by omega)).set (by omega)⟩,(cf.ne (by omega)).ne (by omega)⟩
    simp[y27,↓y2,↓y6,y7,↓y0,hda,g1,g3,g4,c0.eq,↓c10]
    exact fin)
   exact⟨t,hp2,e1,fun _=>e2.2,fun h=>by rw[e2.1] at h;cases h⟩) (hp:=[.cells [.imm .exact []],L false none]) (f0:=2) (by
   rw[hJ]
   exact⟨ai _,[],.imm .exact [],rfl,rfl,by rw[zbf,hAS];rfl,.inl ⟨rfl,rfl⟩⟩)
 obtain⟨d,hp',h1,h2⟩:=key
 rcases h2 with⟨f,h2⟩ | h2
 ·rw[hJ] at h2
  obtain⟨_,acc,dd,a1,a2,a3,a4⟩:=h2
  rw[aO,List.append_nil] at a3
  subst a3
  refine⟨d,hp',h1,.inl ⟨a2,?_⟩⟩
  have hal:acc.length<=1000000:=by omega
  obtain⟨H2,hH2⟩:∃ H2,H2=hp'.set 1 Obj.dead:=⟨_,rfl⟩
  have b0:At H2 0 (.cells [dd]):=by rw[hH2];exact a1.ne (by omega)
  have b4:y4e f H2 acc dd:=by rw[hH2];exact a4.set (by omega)
  have l0:=b0.lt
  rcases b4 with⟨rfl,rfl⟩ | ⟨k,rfl,hk2,hkf,b4⟩
  ·have e1:=ydm (hp:=H2) (k:=362) (.inl rfl)
   have e2:=ydl H2
   have c0:∀ o,(H2.set 0 o)[0]? = some o:=fun o=>At.self l0
   simp[<- hH2,b0.eq,e1,e2,y14,↓c0]
   exact .inl ⟨by simp[y1q,y1d],rfl⟩
  ·have e1:=s361 (k:=362) (gr:=true) (ag:=true) (.inl rfl) b4 hal
   obtain⟨H3,hH3⟩:∃ H3,H3=H2.set k (.cells (yf (y1q acc))):=⟨_,rfl⟩
   have g0:At H3 0 (.cells [.sl k 0 acc.length 2 true true]):=by rw[hH3];exact b0.ne (by omega)
   have g4:At H3 k (.cells (yf (y1q acc))):=by rw[hH3];exact At.self b4.lt
   obtain⟨d',H4,e2,cs,rfl,f4,f5,K⟩:=s363 g4 (by rw[z7q];exact hal)
   rw[z7q] at e2
   have f0:=K.2 0 _ (by omega) g0
   have c0:∀ o,(H4.set 0 o)[0]? = some o:=fun o=>At.self f0.lt
   simp[<- hH2,b0.eq,e1,<- hH3,g0.eq,e2,f0.eq,y14,↓c0]
   exact .inr ⟨k,cs,rfl,f4.ne (by omega),f5⟩
 ·exact h2.elim


theorem r325(l:List Pst)(ok:y8k l)(hN:entN l<=1000000):y1i E (dL E) 325 [y2f l]=some (ya8 (yau l)):=by
 obtain⟨d,hp',e,h⟩:=s325 l ok hN
 have hk:E.keep 325=false:=rfl
 unfold y1i
 simp only[e,hk]
 show frz hp' 12 d=_
 rcases h with⟨h1,rfl⟩ | ⟨k,cs,rfl,h2,h3⟩
 ·rw[h1];rfl
 ·exact zp7 (n:=9) h2 h3

structure y7u(n:Nat)(l:List Pst):Prop where
 v:vld tgB l
 len:l.length<=n
 ents:∀ p,p ∈ l->p.prev.length=32/\p.ents.length<=12
theorem y7u.ok{n:Nat}{l:List Pst}(h:y7u n l)(hn:n<=1000):y8k l:=⟨by have:=h.len;omega,fun p hp=>⟨(h.ents p hp).1,by have:=(h.ents p hp).2;omega⟩⟩
theorem zml:∀{l:List Pst},(∀ p,p ∈ l->p.ents.length<=12)->entN l<=12*l.length
 |[],_=>by simp[entN]
 |p::l,h=>by
  have:=zml (l:=l) fun q hq=>h q (by simp[hq])
  have:=h p (by simp)
  simp only[entN,aF];omega
theorem y7u.entN{n:Nat}{l:List Pst}(h:y7u n l)(hn:n<=1000):Dv.entN l<=1000000:=by
 have:=zml fun p hp=>(h.ents p hp).2
 have:=h.len
 omega

end Dv

namespace Dv

def pr(n:Int):List Ent:=[⟨1,3,n⟩,⟨4,0,-n⟩]
theorem zmd{a b:Ent}(ha:y5d a)(hb:y5d b)(h:ltA a b):fmE [a,b]:=by
 refine⟨by simp,by simp,fun x hx=>?_,fun i hi=>?_⟩
 ·simp only[az,List.not_mem_nil,or_false] at hx
  rcases hx with rfl | rfl
  ·exact ha
  ·exact hb
 ·have:i=0:=by simp at hi;omega
  subst this
  exact h
theorem zut{n:Int}(h0:n ≠ 0)(h1 : -1099511627776<=n/\n<=1099511627776):fmE (pr n):=by
 refine zmd ⟨by simp,by simp,h0,h1⟩ ⟨by simp,by simp,?_,?_⟩ (.inl (by simp))
 ·simp only[];omega
 ·simp only[];omega
theorem zr0{n:Int}:y5a (pr n)=0:=by simp[pr,y5a];omega

def sx0:Stp:=⟨5,-1,pr 7⟩
def sx1:Stp:=⟨9,0,pr (-2)⟩
def px0:Pst:=y4q tgB [] sx0
def px1:Pst:=y4q tgB [px0] sx1
theorem zqz:y39 tgB [] sx0=0:=by
 rw[z4j zbk (by simp) (by simp)]
 exact z1y.2 ⟨⟨by simp[y4q],by simp[y4q,sx0],by simp[y4q,sx0],zut (by decide) (by decide)⟩,zr0⟩
theorem vx0:vld tgB [px0]:=(zbw zqz).2.2.1
theorem zgb:y39 tgB [px0] sx1=0:=by
 rw[z4j vx0 (by simp) (by simp[px0,y4q,sx0,sx1])]
 exact z1y.2 ⟨⟨by simp[y4q],by simp[y4q,sx1],by simp[y4q,sx1],zut (by decide) (by decide)⟩,zr0⟩
theorem vx1:vld tgB [px0,px1]:=(zbw zgb).2.2.1
theorem zuq:y39 tgB [] ⟨5,0,pr 7⟩=410:=by
 rw[z4j zbk (by simp) (by simp)]
 unfold y3n
 rw[if_neg fun h=>by have:=h.corrects.2;simp[y4q] at this]
theorem zup:y39 tgB [] ⟨5,-1,[⟨1,3,3⟩,⟨4,0,-2⟩]⟩=411:=by
 rw[z4j zbk (by simp) (by simp)]
 unfold y3n
 rw[if_pos ⟨by simp[y4q],by simp[y4q],by simp[y4q],zmd ⟨by simp,by simp,by simp,by simp⟩ ⟨by simp,by simp,by simp,by simp⟩ (.inl (by simp))⟩,if_neg (by simp[y4q,y5a])]
theorem zo0:y39 tgB [px0] ⟨4,0,pr 1⟩=410:=by
 unfold y39
 rw[if_neg (by simp[z2o.2 vx0]),if_neg (by simp),if_pos ⟨px0,rfl,by simp[px0,y4q,sx0]⟩]
theorem zsc:y9b 1 3 8 [px0,px1]=7:=by
 simp[y9b,px0,px1,y4q,sx0,sx1,pr,y6y]
theorem zsb:y9b 1 3 9 [px0,px1]=5:=by
 simp[y9b,px0,px1,y4q,sx0,sx1,pr,y6y]
theorem zsa:rdE tgB [px1]=410:=by
 have h1:=zgb
 have hg:=(zbw zgb).2.2.2.2
 have hf:y2c [px1]=0:=z38.2 fun p hp=>by simp at hp;rw[hp];exact hg
 unfold rdE
 rw[if_neg (by simp),if_neg (by simp[hf]),if_neg fun v=>by
  have:=(v.2.2 0 px1 rfl).no
  simp[px1,y4q] at this]
theorem zs9:y3n ⟨0,0,0,[],z32⟩=410:=by
 unfold y3n
 rw[if_neg fun h=>by have:=h.ents.two;simp at this]
theorem zdc:∀{a b:List (Int × Int)},a.Perm b->a.Pairwise (fun x y=>y4p y x=false)->b.Pairwise (fun x y=>y4p y x=false)->a=b
 |[],b,hp,_,_=>by rw[List.nil_perm.1 hp]
 |x::a,[],hp,_,_=>by simp at hp
 |x::a,y::b,hp,ha,hb=>by
  obtain⟨a1,a2⟩:=dF.1 ha
  obtain⟨b1,b2⟩:=dF.1 hb
  have hxy:x=y:=by
   have h1:x ∈ y::b:=hp.mem_iff.1 (by simp)
   have h2:y ∈ x::a:=hp.mem_iff.2 (by simp)
   rcases az.1 h1 with h1 | h1
   ·exact h1
   ·rcases az.1 h2 with h2 | h2
    ·exact h2.symm
    ·have c1:=b1 x h1
     have c2:=a1 y h2
     rcases zl3 c2 with h | h
     ·exact h
     ·rw[h] at c1;simp at c1
  subst hxy
  rw[zdc ((List.perm_cons x).1 hp) a2 b2]
theorem zsd:yau [px0,px1]=[(1,3),(4,0)]:=by
 have e:yat [px0,px1]=[(1,3),(4,0),(1,3),(4,0)]:=rfl
 have es:y1q [(1,3),(4,0),(1,3),(4,0)]=[(1,3),(1,3),(4,0),(4,0)]:=by
  refine zdc ((zaq _).trans ?_) (zdl _) (by decide)
  exact(List.Perm.refl [((1:Int),(3:Int))]).append (List.Perm.swap (1,3) (4,0) [(4,0)])
 unfold yau
 rw[e,es]
 decide

end Dv

namespace Dv

def okT(x:Ent):Prop:=(1<=x.kind/\x.kind<=4)/\(-1<=x.idx/\x.idx<=4095)/\(-1099511627776<=x.amt/\x.amt<=1099511627776)/\x.amt ≠ 0
instance(x:Ent):Decidable (okT x):=inferInstanceAs (Decidable (_/\_))
end Dv

namespace Dv
attribute [local simp] af depth y63 y97 y3s y3b y96 y7o y3g y2g Ret
attribute [local congr] z4v z51 z3n z2u z2c z3o z28


theorem yds(n:Int)(h : -100<=n/\n<=100):y1i E (dL E) 353 [dI n]=some (.imm .none [.agg [dI 1,dI 3,dI n],.agg [dI 4,dI 0,dI (-n)]]):=by
 have hw:ay.wrap (0 - n) = -n:=by rw[zf ⟨by omega,by omega⟩];omega
 have hw2:ay.wrap (-n) = -n:=zf ⟨by omega,by omega⟩
 refine zx c353 (by simp) ?_
 conv in t353=>reduce;dsimp[aA]
 simp[t353,n353,hw,hw2]
 rfl
theorem s353(n:Int)(h : -100<=n/\n<=100)(hp:List Obj):y16 E (dL E) 353 [dI n] hp=some (.sl hp.length 0 2 3 true true,hp++[.cells [dI 1,dI 3,dI n,dI 4,dI 0,dI (-n)]]):=by
 have hw:ay.wrap (0 - n) = -n:=by rw[zf ⟨by omega,by omega⟩];omega
 have hw2:ay.wrap (-n) = -n:=zf ⟨by omega,by omega⟩
 have:∃ d hp',y16 E (dL E) 353 [dI n] hp=some (d,hp')/\(d=.sl hp.length 0 2 3 true true/\hp'=hp++[.cells [dI 1,dI 3,dI n,dI 4,dI 0,dI (-n)]]):=by
  refine z31 c353 (args:=[dI n]) (hp:=hp) (R:=fun d hp'=>d=.sl hp.length 0 2 3 true true/\hp'=hp++[.cells [dI 1,dI 3,dI n,dI 4,dI 0,dI (-n)]]) (by simp) ?_
  conv in t353=>reduce;dsimp[aA]
  simp[t353,n353,hw,hw2]
  rfl
 obtain⟨d,hp',e,rfl,rfl⟩:=this
 exact e

theorem zr6{a b:List UInt8}(ha:a.length=32)(hb:b.length=32):y2e E .eql 73 (.agg (a.map ya)) (.agg (b.map ya))=some (.bool (decide (a=b))):=by
 have h1:(E.ty 73).eqc=true:=rfl
 have h2:(E.ty 73).zero=af a.length (D.int .u8 0):=by rw[ha];rfl
 unfold y2e
 simp only[]
 rw[if_pos ⟨h1,by rw[h2];exact z5o⟩,z9r (by rw[ha,hb])]
theorem mx0:y7u 12 [px0]:=⟨vx0,by simp,fun p hp=>by simp at hp;subst hp;exact⟨y40,by decide⟩⟩
theorem mx1:y7u 12 [px0,px1]:=⟨vx1,by simp,fun p hp=>by
 simp at hp
 rcases hp with rfl | rfl
 ·exact⟨y40,by decide⟩
 ·exact⟨y40,by decide⟩⟩
theorem okt:y8k [px1]:=⟨by simp,fun p hp=>by simp at hp;subst hp;exact⟨y40,by decide⟩⟩
theorem okn:y8k []:=⟨by simp,by simp⟩

theorem r314:y1i E (dL E) 314 []=some (.bool true):=by
 have a1:=yds 7 (by decide)
 have a2:=yds (-2) (by decide)
 have a3:=yds 1 (by decide)
 have a4:=s353 3 (by decide)
 have b1:=yaz [] sx0 okn (by decide)
 have b2:=yaz [px0] sx1 (mx0.ok (by decide)) (by decide)
 have b3:=yaz [] ⟨5,0,pr 7⟩ okn (by simp[pr])
 have b4:=yaz [] ⟨5,-1,[⟨1,3,3⟩,⟨4,0,-2⟩]⟩ okn (by simp)
 have b5:=yaz [px0] ⟨4,0,pr 1⟩ (mx0.ok (by decide)) (by simp[pr])
 have hx1:[px0]++[y4q tgB [px0] sx1]=[px0,px1]:=rfl
 have hx0:[]++[y4q tgB [] sx0]=[px0]:=rfl
 simp only[poD,zqz,zgb,zuq,zup,zo0,if_true,hx1,hx0,if_neg (show ¬ (410:Int)=0 by decide),if_neg (show ¬ (411:Int)=0 by decide)] at b1 b2 b3 b4 b5
 simp only[pr,sx0,sx1,y2f,av,aO] at b1 b2 b3 b4 b5
 have v0:=z2o.2 vx0
 have v1:=z2o.2 vx1
 have vn:=z2o.2 (zbk (tg:=tgB))
 have c1:=ydt [px0,px1] (mx1.ok (by decide)) (mx1.entN (by decide)) 1 3 8
 have c2:=ydt [px0,px1] (mx1.ok (by decide)) (mx1.entN (by decide)) 1 3 9
 have c3:=ydt [] okn (by decide) 1 3 1439
 simp only[blD,v1,if_true,zsc,zsb,y2f,av,aO] at c1 c2
 simp only[blD,vn,if_true,y9b,y2f,aO] at c3
 have d1:=ybn ⟨0,0,0,[],z32⟩ rfl (by simp)
 unfold y9h at d1
 simp only[zs9,if_neg (show ¬ (410:Int)=0 by decide)] at d1
 have d1:y1i E (dL E) 334 [.agg (dI 0::dI 0::dI 0 :: .imm .none []::af 32 (D.int .u8 0))]=some (.tup [.imm .none [],dI 410]):=d1
 simp only[af] at d1
 have e1:=r329 [px0] (mx0.ok (by decide))
 have e2:=r329 [] okn
 simp only[rdD,v0,vn,if_true,y2f,av,aO] at e1 e2
 have f1:=r325 [px0,px1] (mx1.ok (by decide)) (mx1.entN (by decide))
 rw[zsd] at f1
 have g1:=ybp [px0,px1] (mx1.ok (by decide))
 have g2:=ybp [] okn
 have g3:=ybp [px1] okt
 rw[v1] at g1
 rw[vn] at g2
 rw[zsa] at g3
 simp only[y2f,ya8,y9w,av,aO] at f1 g1 g2 g3
 have h1:=ybo y37 [] (by decide) (by simp)
 have hT:tgB y37 []=y4j tgB []:=rfl
 rw[hT] at h1
 have n0:px0.prev.length=32:=y40
 have n1:px1.prev.length=32:=y40
 have pe1:px1.prev=y4j tgB [px0]:=rfl
 have pe0:px0.prev=y4j tgB []:=rfl
 have pn:px1.no=1:=rfl
 have pc:px1.corrects=0:=rfl
 rw[<- pe1] at e1
 rw[<- pe0] at e2 h1
 simp only[Int.neg_neg] at a2 b2
 have eqd:∀ a:List UInt8,a.length=32->y2e E .eql 73 (.agg (a.map ya)) (.agg (a.map ya))=some (.bool true):=fun a ha=>by
  rw[zr6 ha ha];simp
 have q1:=eqd _ n1
 have q0:=eqd _ n0
 clear pe1 pe0 hx1 hx0 v0 v1 vn hT eqd
 generalize px0=p0 at *
 generalize px1=p1 at *
 have sc0:setCells (af 32 (D.int .u8 0)) 0 (p0.prev.map ya)=p0.prev.map ya:=ze (by simp[n0])
 have sc1:setCells (af 32 (D.int .u8 0)) 0 (p1.prev.map ya)=p1.prev.map ya:=ze (by simp[n1])
 simp only[af] at sc0 sc1
 have hst:∀ n s,frz [] (n+1) (.str s)=some (.str s):=fun _ _=>rfl
 have l0:∀ r:List Obj,y11 E (.cells [dI 1,dI 3]::r) 65 (.loc 0 0)=some (y3q 1 3):=fun _=>rfl
 have l2:∀(x y:Obj) (r:List Obj),y11 E (x::y :: .cells (p1.prev.map ya)::r) 73 (.loc 2 0)=some (.agg (p1.prev.map ya)):=fun x y r=>zc6 (by simp[Bys,At]) n1
 have l3:∀(x y z:Obj) (r:List Obj),y11 E (x::y::z :: .cells (p0.prev.map ya)::r) 73 (.loc 3 0)=some (.agg (p0.prev.map ya)):=fun x y z r=>zc6 (by simp[Bys,At]) n0
 have li:∀(h:List Obj) (a:List UInt8),a.length=32->y11 E h 73 (.iptr (a.map ya))=some (.agg (a.map ya)):=fun h a ha=>by
  have e:=z1r 32 0 (a.map ya) (by simp[ha])
  unfold y11
  simp only[show(E.ty 73).size=32 from rfl,e]
  rfl
 have li0:=fun h=>li h _ n0
 have li1:=fun h=>li h _ n1
 have l2i:∀(h:List Obj) (a:Int) (r:List D),y11 E h 2 (.iptr (dI a::r))=some (dI a):=fun _ _ _=>rfl
 have l65:∀(h:List Obj) (a b:Int) (r:List D),y11 E h 65 (.iptr (dI a::dI b::r))=some (y3q a b):=fun _ _ _ _=>rfl
 have h1:y1i E (dL E) 331 [.str [112,111,115,116,105,110,103,115],.imm .none []]=some (y7c p0.prev):=h1
 have hsl:y13 E 70 (.imm .none [y36 p0,y36 p1]) (some (dI 1)) none none=some (.imm .none [y36 p1]):=by
  have hk:(E.ty 70).k=.slice 71:=rfl
  have hf:y49 (E.ty 71).size [y36 p0,y36 p1]=true:=by
   show((pC p0).length == 36)=true
   rw[zgg n0];rfl
  unfold y13
  simp only[hk,bnd,hf]
  rfl
 have bn:(p1.no == 1)=true:=by rw[pn];rfl
 have bc:(p1.corrects == 0)=true:=by rw[pc];rfl
 have ck:y2o 3 true 2 [dI 1,dI 3,dI 3,dI 4,dI 0,dI (-2)]=some [.agg [dI 1,dI 3,dI 3],.agg [dI 4,dI 0,dI (-2)]]:=rfl
 have i1:ids [.cells [dI 1,dI 3],.cells [dI 1,dI 3,dI 3,dI 4,dI 0,dI (-2)]] 12 (.imm .exact [])=[]:=rfl
 have i2:ids [.cells [dI 1,dI 3],.cells [dI 1,dI 3,dI 3,dI 4,dI 0,dI (-2)]] 12 (dI 5)=[]:=rfl
 have i3:ids [.cells [dI 1,dI 3],.cells [dI 1,dI 3,dI 3,dI 4,dI 0,dI (-2)]] 12 (dI (-1))=[]:=rfl
 have i4:ids [.cells [dI 1,dI 3],.cells [dI 1,dI 3,dI 3,dI 4,dI 0,dI (-2)]] 12 (.sl 1 0 2 3 true true)=[1]:=rfl
 have fz:yt [.cells [dI 1,dI 3],.cells [dI 1,dI 3,dI 3,dI 4,dI 0,dI (-2)]] [1]=[.cells [dI 1,dI 3],.frozen [dI 1,dI 3,dI 3,dI 4,dI 0,dI (-2)]]:=rfl
 refine zx c314 (by simp) ?_
 conv in t314=>reduce;dsimp[aA]
 simp[t314,n314,a1,a2,a3,a4,b1,b2,b3,b4,b5,c1,c2,c3,d1,e1,e2,f1,g1,g2,g3,h1,n0,n1,bn,bc,q1,q0,sc0,sc1,hst,l0,l2,l3,li0,li1,l2i,l65,zy,zb,y14,hsl,ck,i1,i2,i3,i4,fz,-z16,-z56]

def okE(e:Ent):Prop:=i64 e.kind/\i64 e.idx/\i64 e.amt
theorem two{A:Type}{l:List A}(h:l.length=2):∃ a b,l=[a,b]:=by
 match l,h with
 |[a,b],_=>exact⟨a,b,rfl⟩
theorem zn0{ds:List D}(h:DTc E 65 ds):∃ k i,ds=[dI k,dI i]/\i64 k/\i64 i:=by
 obtain⟨hl,hf⟩:=z8n h (fs:=[(0,2),(1,2)]) rfl
 obtain⟨x,y,rfl⟩:=two hl
 obtain⟨a,h2,o2⟩:=zaf (hf 0 _ rfl) rfl
 obtain⟨b,h3,o3⟩:=zaf (hf 1 _ rfl) rfl
 simp[E,y8x] at h2 h3
 subst h2 h3
 exact⟨a,b,rfl,o2,o3⟩
theorem zuk{x:D}(h:y71 E 72 x):∃ e,x=y41 e/\okE e:=by
 obtain⟨ds,rfl,h1⟩:=zcw h rfl
 obtain⟨hl,hf⟩:=z8n h1 (fs:=[(0,65),(2,2)]) rfl
 obtain⟨x,y,z,rfl⟩:=yde hl
 obtain⟨a,b,h2,o1,o2⟩:=zn0 (hf 0 _ rfl)
 obtain⟨c,h3,o3⟩:=zaf (hf 1 _ rfl) rfl
 simp[E,y8x] at h2 h3
 obtain⟨rfl,rfl⟩:=h2
 subst h3
 exact⟨⟨a,b,c⟩,rfl,o1,o2,o3⟩

theorem zuw{a b:Ent}:y2e E .neq 72 (y41 a) (y41 b)=some (.bool (!decide (a=b))):=by
 obtain⟨a1,a2,a3⟩:=a
 obtain⟨b1,b2,b3⟩:=b
 have e:(decide ((⟨a1,a2,a3⟩:Ent)=⟨b1,b2,b3⟩))=(a1 == b1 && (a2 == b2 && a3 == b3)):=by
  by_cases h1:a1=b1 <;> by_cases h2:a2=b2 <;> by_cases h3:a3=b3 <;> simp[h1,h2,h3]
 rw[e]
 simp[y2e,E,y8x,y1j,eqL,y1w]
theorem zjb{A:Type}{a b:List A}(hl:a.length=b.length)(h:∀ i,∀ h:i<a.length,a[i]=b[i]'(by omega)):a=b:=
 List.ext_getElem hl fun i h1 _=>h i h1

theorem r327(a b:List Ent)(ha:a.length<=1000000)(hb:b.length<=1000000):y1i E (dL E) 327 [.imm .none (a.map y41),.imm .none (b.map y41)]=some (.bool (decide (a=b))):=by
 refine zx c327 (by simp) ?_
 conv in t327=>reduce;dsimp[aA]
 by_cases hl:a.length=b.length
 rotate_left
 ·have h1 : ¬ (a.length:Int)=b.length:=by omega
  have h2 : ¬ a=b:=fun h=>hl (by rw[h])
  simp[t327,n327,h1,h2]
 have h1:(a.length:Int)=b.length:=by omega
 obtain⟨B,hB⟩:∃ B,B=decide (a=b):=⟨_,rfl⟩
 rw[<- hB]
 simp[t327,n327,h1]
 refine z21 a.length (fun i env h=>∃(x4 x5 x6:D) ,env=[.imm .none (a.map y41),.imm .none (b.map y41),.bool false,dI i,x4,x5,x6] /\ ∀ j,(hj:j<a.length)->j<i->a[j]=b[j]'(by omega)) 0 (by omega) ⟨_,_,_,rfl,fun _ _ h=>absurd h (by omega)⟩ ?_
 rintro i env h hi ⟨x4,x5,x6,rfl,F⟩
 by_cases hlt:i<a.length
 rotate_left
 ·have hge : ¬ (i:Int)<a.length:=by omega
  have:i=a.length:=by omega
  have hB2:B=true:=by
   rw[hB,decide_eq_true_eq]
   exact zjb hl fun j hj=>F j hj (by omega)
  simp[hge,hB2,this]
 have hup:=zq hlt (by omega)
 have hlt2:i<b.length:=by omega
 obtain⟨x,hx⟩:∃ x,x=a[i]:=⟨_,rfl⟩
 obtain⟨y,hy⟩:∃ y,y=b[i]:=⟨_,rfl⟩
 have n1:=zuw (a:=x) (b:=y)
 have l72:∀(h:List Obj) (x:Ent),y11 E h 72 (.iptr [dI x.kind,dI x.idx,dI x.amt])=some (y41 x):=fun _ _=>rfl
 by_cases hxy:x=y
 ·have hd:decide (x=y)=true:=by simpa using hxy
  rw[hd] at n1
  simp[hlt,hlt2,<- hx,<- hy,hup,n1,l72,-z56,-za0]
  intro j hj hji
  by_cases hje:j<i
  ·exact F j hj hje
  ·have:j=i:=by omega
   subst this
   rw[<- hx,<- hy];exact hxy
 ·have hd:decide (x=y)=false:=by simpa using hxy
  rw[hd] at n1
  have hB2:B=false:=by
   rw[hB,decide_eq_false_iff_not]
   intro h
   subst h
   exact hxy (by rw[hx,hy])
  simp[hlt,hlt2,<- hx,<- hy,hup,n1,l72,hB2,-z56,-za0]

theorem r337(p q:Pst)(hp:p.prev.length=32)(hq:q.prev.length=32)(ha:p.ents.length<=1000000)(hb:q.ents.length<=1000000):y1i E (dL E) 337 [y36 p,y36 q]=some (.bool (decide (p=q))):=by
 have e:=r327 p.ents q.ents ha hb
 refine zx c337 (by simp) ?_
 conv in t337=>reduce;dsimp[aA]
 have l73:∀(p:Pst),p.prev.length=32->y48 E 73 (.iptr (p.prev.map ya))=some (y7c p.prev):=fun p hp=>by
  have e:=z1r 32 0 (p.prev.map ya) (by simp[hp])
  unfold y48
  simp only[show(E.ty 73).size=32 from rfl,e]
  rfl
 have eqd:=zr6 hp hq
 have il2:∀(a:Int) (r:List D),y48 E 2 (.iptr (dI a::r))=some (dI a):=fun _ _=>rfl
 have il66:∀(es:List D) (r:List D),y48 E 66 (.iptr (.imm .none es::r))=some (.imm .none es):=fun _ _=>rfl
 have hpq:(p=q) ↔ ((((p.no=q.no/\p.minute=q.minute)/\p.corrects=q.corrects)/\p.prev=q.prev)/\p.ents=q.ents):=by
  obtain⟨a,b,c,d,e⟩:=p
  obtain⟨a',b',c',d',e'⟩:=q
  simp only[Pst.mk.injEq]
  constructor
  ·rintro⟨rfl,rfl,rfl,rfl,rfl⟩;exact⟨⟨⟨⟨rfl,rfl⟩,rfl⟩,rfl⟩,rfl⟩
  ·rintro⟨⟨⟨⟨rfl,rfl⟩,rfl⟩,rfl⟩,rfl⟩;exact⟨rfl,rfl,rfl,rfl,rfl⟩
 by_cases h1:p.no=q.no
 rotate_left
 ·simp[t337,n337,hp,hq,l73 p hp,l73 q hq,eqd,e,zy,il2,il66,-z1q,h1,hpq]
 by_cases h2:p.minute=q.minute
 rotate_left
 ·simp[t337,n337,hp,hq,l73 p hp,l73 q hq,eqd,e,zy,il2,il66,-z1q,h1,h2,hpq]
 by_cases h3:p.corrects=q.corrects
 rotate_left
 ·simp[t337,n337,hp,hq,l73 p hp,l73 q hq,eqd,e,zy,il2,il66,-z1q,h1,h2,h3,hpq]
 by_cases h4:p.prev=q.prev
 rotate_left
 ·have e4:decide (p.prev=q.prev)=false:=by simpa using h4
  rw[e4] at eqd
  simp[t337,n337,hp,hq,l73 p hp,l73 q hq,eqd,e,zy,il2,il66,-z1q,h1,h2,h3,h4,hpq]
 have e4:decide (p.prev=q.prev)=true:=by simpa using h4
 rw[e4] at eqd
 have l73q:=l73 q hq
 rw[h4] at eqd
 simp[t337,n337,hp,hq,l73q,eqd,e,zy,il2,il66,-z1q,h1,h2,h3,h4,hpq]

section
variable{E:Env}{Q:Ex->List D->List Obj->Prop}{env:List D}{hp:List Obj}

end

def wi(n lo hi:Int):Prop:=lo<=n/\n<=hi
instance{n lo hi:Int}:Decidable (wi n lo hi):=inferInstanceAs (Decidable (_/\_))

def nd(c:List Int)(i:Int):Int:=(c[i.toNat]?).getD 0

theorem zs5{ds:List D}(h:DTc E 13 ds):∃ u:UInt8,ds=[ya u]:=by
 cases h with
 |int h' hw=>
  rename_i k n
  have hk:(E.ty 13).k=.int .u8:=rfl
  rw[hk] at h';cases h'
  simp[Go.Lit.wf] at hw
  obtain⟨a1,a2⟩:=hw
  have e1:gg.min=0:=by decide
  have e2:gg.max=255:=by decide
  have b1:0<=n:=by first | exact a1 | (rw[e1] at a1;exact a1)
  have b2:n<=255:=by first | exact a2 | (rw[e2] at a2;exact a2)
  refine⟨bC n.toNat,?_⟩
  have:(bC n.toNat).toNat=n.toNat:=by simp;omega
  simp only[bo,D.int.injEq,and_true,true_and,this]
  omega
 |bool h'=>cases h'
 |str h'=>cases h'
 |slice h' _ _ _=>cases h'
 |struct h' _ _=>cases h'
 |arr h' _ _=>cases h'
theorem zul{ds:List D}(h:DTc E 73 ds):∃ d:List UInt8,ds=d.map ya/\d.length=32:=by
 obtain⟨hl,hf⟩:=zum h (n:=32) (e:=13) rfl
 have hl:ds.length=32:=hl
 have hx:∀ x,x ∈ ds->∃ u,x=ya u/\True:=by
  intro x hx
  obtain⟨i,hi,rfl⟩:=List.mem_iff_getElem.1 hx
  obtain⟨u,hu⟩:=zs5 (hf i (by omega))
  have e1:(E.ty 13).size=1:=rfl
  rw[e1,Nat.mul_one,bG hi] at hu
  simp only[dY,jk,bo,and_true] at hu
  exact⟨u,hu,trivial⟩
 obtain⟨d,rfl,_⟩:=zfc (f:=ya) (R:=fun _=>True) hx
 exact⟨d,rfl,by simpa using hl⟩

theorem zch{p:Pst}(h:y3n p=0):y9h p=.tup [dBy (y4v p),dI 0]:=by unfold y9h;rw[if_pos h]
theorem zci{p:Pst}(h:y3n p ≠ 0):y9h p=.tup [.imm .none [],dI (y3n p)]:=by unfold y9h;rw[if_neg h]

theorem zvj{x:Ent}:dV (y4a x)=.agg [dI 3,dI 0,.str [],.imm .none [.agg [dI 1,dI x.kind,.str [],.imm .none []],.agg [dI 1,dI x.idx,.str [],.imm .none []],.agg [dI 1,dI x.amt,.str [],.imm .none []]]]:=by
 unfold y4a cL
 rw[z20,av,av,av,aO,zaa,zaa,zaa]

theorem yb6(p q:Pst)(hp:p.prev.length=32)(hq:q.prev.length=32)(hpl:p.ents.length<=9223372036854775807)(hql:q.ents.length<=9223372036854775807):y1i E (dL E) 336 [y36 p,y36 q]=some (.bool true):=by
 have s0:=r314
 refine zx c336 (by simp) ?_
 conv in t336=>reduce;dsimp[aA]
 have hil:=zc8 hp
 have hil2:=zc8 hq
 by_cases h1:(20:Int)<(p.ents.length:Int)
 ·simp[t336,n336,s0,h1]
 by_cases h2:(20:Int)<(q.ents.length:Int)
 ·simp[t336,n336,s0,h1,h2]
 have e1:=ybn p hp (by omega)
 have e2:=ybn q hq (by omega)
 by_cases g1:y3n p=0
 rotate_left
 ·rw[zci g1] at e1
  obtain⟨x,hx⟩:∃ x,x=y3n p:=⟨_,rfl⟩
  rw[<- hx] at e1 g1
  by_cases g2:y3n q=0
  ·rw[zch g2] at e2
   simp[t336,n336,s0,h1,h2,↓hil,↓hil2,zy,zb,e1,e2,g1,g2]
  ·rw[zci g2] at e2
   obtain⟨y,hy⟩:∃ y,y=y3n q:=⟨_,rfl⟩
   rw[<- hy] at e2 g2
   simp[t336,n336,s0,h1,h2,↓hil,↓hil2,zy,zb,e1,e2,g1,g2]
 rw[zch g1] at e1
 by_cases g2:y3n q=0
 rotate_left
 ·rw[zci g2] at e2
  obtain⟨y,hy⟩:∃ y,y=y3n q:=⟨_,rfl⟩
  rw[<- hy] at e2 g2
  simp[t336,n336,s0,h1,h2,↓hil,↓hil2,zy,zb,e1,e2,g2]
 rw[zch g2] at e2
 have e3:=r337 p q hp hq (by omega) (by omega)
 have F1:=(z1y.1 g1).fm
 have F2:=(z1y.1 g2).fm
 have I1:=zc9 F1
 have I2:=zc9 F2
 have hel:=z8d I1 (by omega) (by omega)
 have e4:=q272 (v:=y76 p) (zcc I1) (by have:=zcj (p:=p);omega) (by unfold y4v at hel;omega)
 have hsl:=z62 hp
 have hin:(decide (y4v p=y4v q))=decide (p=q):=by
  by_cases h:p=q
  ·simp[h]
  ·have:y4v p ≠ y4v q:=fun e=>h (zpo I1 I2 (by omega) (by omega) e)
   simp[h,this]
 obtain⟨X,hX⟩:∃ X,X=y4v p:=⟨_,rfl⟩
 obtain⟨Y,hY⟩:∃ Y,Y=y4v q:=⟨_,rfl⟩
 have hX':enc (y76 p)=X:=hX.symm
 rw[hX'] at e4
 rw[<- hX] at e1 hin
 rw[<- hY] at e2 hin
 rw[zr7,zaa,zaa,zaa] at e4
 obtain⟨Z,hZ⟩:∃ Z,Z=decide (p=q):=⟨_,rfl⟩
 rw[<- hZ] at e3 hin
 have hxy:(X == Y)=Z:=by rw[<- hin];by_cases h:X=Y <;> simp[h]
 simp[t336,n336,s0,h1,h2,↓hil,↓hil2,zy,zb,e1,e2,z6t,hxy,e3,e4,hsl]
 clear hX hY hX' e1 e2 e3 e4
 refine z21 p.ents.length (fun i env h=>∃(x0 x1 x3 x4 x5 x6 x7 x8 x9 x10 x11 x12 x13 x14 x15 x16 x17 x18 x19 x20 x24 x25 x26:D) ,env=[x0,x1,.iptr (dI p.no::dI p.minute::dI p.corrects :: .imm .none (p.ents.map y41)::p.prev.map ya),x3,x4,x5,x6,x7,x8,x9,x10,x11,x12,x13,x14,x15,x16,x17,x18,x19,x20,.imm .none (p.ents.map fun x=>dV (y4a x)),dI p.ents.length,dI i,x24,x25,x26]) 0 (by omega) ⟨_,_,_,_,_,_,_,_,_,_,_,_,_,_,_,_,_,_,_,_,_,_,_,rfl⟩ ?_
 rintro i env h hi ⟨x0,x1,x3,x4,x5,x6,x7,x8,x9,x10,x11,x12,x13,x14,x15,x16,x17,x18,x19,x20,x24,x25,x26,rfl⟩
 by_cases hlt:i<p.ents.length
 ·have hup:=zq hlt (by omega)
  obtain⟨e,he⟩:∃ e,p.ents[i]? = some e:=⟨_,ae hlt⟩
  simp[hlt,hup,he,zvj,↓hil]
 ·have:i=p.ents.length:=by omega
  subst this
  simp
theorem zkc{x:D}(h:y71 E 71 x):∃ p,x=y36 p/\p.prev.length=32/\p.ents.length<=9223372036854775807:=by
 obtain⟨ds,rfl,h1⟩:=zcw h rfl
 obtain⟨hl,hf⟩:=z8n h1 (fs:=[(0,2),(1,2),(2,2),(3,66),(4,73)]) rfl
 have hl:ds.length=36:=hl
 match ds,hl with
 |a::b::c::d::r,hl=>
  obtain⟨n1,g1,_⟩:=zaf (hf 0 _ rfl) rfl
  obtain⟨n2,g2,_⟩:=zaf (hf 1 _ rfl) rfl
  obtain⟨n3,g3,_⟩:=zaf (hf 2 _ rfl) rfl
  obtain⟨els,g4,hlen,g6⟩:=zny (hf 3 _ rfl) (e:=72) rfl
  obtain⟨dg,g5,h32⟩:=zul (hf 4 _ rfl)
  obtain⟨l,rfl,_⟩:=zfc (f:=y41) (R:=okE) (els:=els) fun x hx=>zuk (g6 x hx)
  have e1:(E.ty 2).size=1:=rfl
  have e2:(E.ty 66).size=1:=rfl
  have e3:(E.ty 73).size=32:=rfl
  simp only[cX,List.drop_succ_cons,e1,e2,e3,dY,jk,bo,and_true] at g1 g2 g3 g4 g5
  simp only[aF] at hl
  rw[bu (by omega)] at g5
  subst g1 g2 g3 g4 g5
  exact⟨⟨n1,n2,n3,l,dg⟩,rfl,h32,by rw[aU] at hlen;exact hlen⟩

theorem postingsEncoding:∀ xs,y6n E [71,71] xs->∃ n,y1i E (dC E n) 336 xs=some (.bool true):=by
 intro xs h
 match xs,h with
 |[x,y],⟨t1,t2,_⟩=>
  obtain⟨p,rfl,hp,hpl⟩:=zkc t1
  obtain⟨q,rfl,hq,hql⟩:=zkc t2
  exact z6y (yb6 p q hp hq hpl hql)
 |[],h=>exact h.elim
 |[_],h=>exact h.2.elim
 |_::_::_::_,h=>exact h.2.2.elim

end Dv
