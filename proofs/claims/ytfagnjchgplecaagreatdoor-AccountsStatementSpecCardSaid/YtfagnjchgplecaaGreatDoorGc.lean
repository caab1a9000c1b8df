/- Texts that a proof of this claim uses, joined: Lw.W247, Lw.W248, Lw.W249, Lw.W250, Lw.W251, Lw.W252, Lw.W253, Lw.W229, Lw.W230, Lw.W231, Lw.W232, Lw.W254, Lw.W255, Lw.W277, Lw.W278, Lw.W279, Lw.W281. -/
import Derived.Test.YtfagnjchgplecaaGreatDoorGb
set_option linter.all false
open Exists renaming intro->ge
open Go.IntKind renaming i64->aw,u8->fo
open Int renaming natCast_nonneg->eB,negSucc_eq->ah,toNat_natCast->ci
open List renaming all_eq_true->aD,append_assoc->a8,append_nil->bZ,cons_append->aO,drop_eq_getElem_cons->bC,drop_length->bE,drop_zero->cn,foldl_cons->du,getElem?_eq_getElem->ae,getElem?_eq_some_iff->ac,getElem_mem->aC,length_append->ak,length_cons->aA,length_drop->cq,length_filter_le->eJ,length_map->ao,length_nil->ba,length_set->bu,length_take->aI,map_append->bm,map_cons->av,map_drop->fN,map_nil->aQ,map_take->mw,mem_append->aN,mem_cons->az,mem_map->aT,mem_of_getElem?->aX,mem_of_mem_take->dh,nil_append->bh,not_mem_nil->fg,pairwise_cons->bN,replicate->af,set_append_right->cH,sum_cons->eM,take_append_drop->bp,take_length->aS,take_of_length_le->bg,take_succ_cons->de,take_succ_eq_append_getElem->aH,take_zero->fD
open List.Pairwise renaming nil->sJ
open List.cons renaming injEq->bF
open Nat renaming add_zero->cU,le_refl->ai,min_eq_left->bq,sub_zero->fe,succ_mul->g8,zero_le->da
open Option renaming map_none->aV
open UInt8 renaming ofNat->bi
set_option maxRecDepth 100000
set_option maxHeartbeats 16000000
namespace Dv
attribute [local simp] af depth y2x y6l y31 y2f y6k y3b y3p y1y Ret
attribute [local congr] z2r z2v z20 z1l z1d z24 z1c


structure Bkg where
 prod:Int
 var:Int
 amt:Int
abbrev ydb(b:Bkg):D:=.agg [dI b.prod,dI b.var,dI b.amt]
def nd(c:List Int)(i:Int):Int:=(c[i.toNat]?).getD 0
def nvA(p:y7c)(i:Int):Int:=((p.vars[i.toNat]?).map fun v=>v.a).getD 0
def bk4(p:y7c)(c:List Int)(k:Int)(b:Bkg):List Ent:=[⟨1,nd c b.var,b.amt⟩,⟨2,nvA p b.var,b.amt⟩,⟨3,b.prod,-b.amt⟩,⟨4,k,-b.amt⟩]
def y9d(p:y7c)(b:Bkg):Bool:=wib b.var 0 ((p.vars.length:Int) - 1) && (wib (nvA p b.var) 0 4095 && (wib b.prod (-1) 7 && wib b.amt (-1048576) 1048576))
def y9p(p:y7c)(c:List Int)(k:Int)(bs:List Bkg):List Ent:=bs.flatMap (bk4 p c k)
def y6e(p:y7c)(c:List Int)(k:Int)(bs:List Bkg):Bool:=decide (c.length=p.vars.length) && (c.all (fun n=>wib n 0 7) && (wib k 0 3 && (decide (bs.length<=1024) && bs.all (y9d p))))
noncomputable def enE(p:y7c)(c:List Int)(k:Int)(bs:List Bkg):Int:=if ck p ≠ 0 then ck p else if y6e p c k bs=true then 0 else 430
noncomputable def enD(p:y7c)(c:List Int)(k:Int)(bs:List Bkg):D:=.tup [.imm .none ((if enE p c k bs=0 then y7g (y9p p c k bs) else[]).map y11),dI (enE p c k bs)]

theorem r367(n:Int):yu E (dL E) 367 [dI n]=some (.bool (!wib n 0 7)):=by
 have e:=yd1
 refine ze c367 (by simp) ?_
 conv in t367=>reduce;dsimp[ah]
 simp[t367,n367,e]
theorem r369(b:Bkg)(n1 n2 k:Int):yu E (dL E) 369 [ydb b,dI n1,dI n2,dI k]=some (.fn 385 [.iptr [dI n1],.iptr [dI b.prod,dI b.var,dI b.amt],.iptr [dI n2],.iptr [dI k]]):=by
 refine ze c369 (by simp) ?_
 conv in t369=>reduce;dsimp[ah]
 simp[t369,n369]

theorem i385(b:Bkg)(n1 n2 k:Int)(hb:i64 (-b.amt))(L:Nat)(J:List Ent->List Obj->Prop)
  (hy:∀ x rem hp,J (x::rem) hp->∃ hp',y3m (dL E) L [y2j x.kind x.idx,dI x.amt] hp=some (.bool true,hp')/\J rem hp')
  {hp:List Obj} {rem:List Ent} (h0:J ([⟨1,n1,b.amt⟩,⟨2,n2,b.amt⟩,⟨3,b.prod,-b.amt⟩,⟨4,k,-b.amt⟩]++rem) hp) :
  ∃ d hp',y1o E (dL E) 385 [.yld L,.iptr [dI n1],.iptr [dI b.prod,dI b.var,dI b.amt],.iptr [dI n2],.iptr [dI k]] hp=some (d,hp')/\J rem hp':=by
 refine z30 c385 (R:=fun _ hp'=>J rem hp') (by simp) ?_
 conv in t385=>reduce;dsimp[ah]
 obtain⟨H1,e1,h1⟩:=hy _ _ _ h0
 obtain⟨H2,e2,h2⟩:=hy _ _ _ h1
 obtain⟨H3,e3,h3⟩:=hy _ _ _ h2
 obtain⟨H4,e4,h4⟩:=hy _ _ _ h3
 have hw:aw.wrap (-b.amt) = -b.amt:=z7 hb
 simp only at e1 e2 e3 e4
 simp[t385,n385,e1,e2,e3,e4,hw]
 exact h4

theorem zqs{p:y7c}{c:List Int}{k:Int}:∀{bs:List Bkg},(y9p p c k bs).length=bs.length*4
 |[]=>rfl
 |b::r=>by
  have ih:=zqs (p:=p) (c:=c) (k:=k) (bs:=r)
  have e:y9p p c k (b::r)=bk4 p c k b++y9p p c k r:=rfl
  rw[e,ak,ih,show(bk4 p c k b).length=4 from rfl,aA];omega
theorem r340(p:y7c)(S:ybg p)(c:List Int)(hc:c.length<=1000000)(k:Int)(bs:List Bkg)(hbs:bs.length<=1000000):yu E (dL E) 340 [y3b p,y31 c,dI k,.imm .none (bs.map ydb)]=some (enD p c k bs):=by
 have e15:=r15 p S
 have e368:=yd1
 have e71:=r71 c 367 (fun n=>!wib n 0 7) r367 hc
 rw[<- List.not_all_eq_any_not] at e71
 refine ze c340 (by simp) ?_
 conv in t340=>reduce;dsimp[ah]
 unfold enD
 have hnv:=S.vars
 by_cases h0:ck p=0
 rotate_left
 ·have hE:enE p c k bs=ck p:=by unfold enE;rw[if_pos h0]
  rw[hE,if_neg h0]
  simp[t340,n340,e15,h0]
 rw[h0] at e15
 have hE:enE p c k bs=if y6e p c k bs=true then 0 else 430:=by unfold enE;rw[if_neg (by simp[h0])]
 have bad:y6e p c k bs=false->(D.tup [.imm .none ((if enE p c k bs=0 then y7g (y9p p c k bs) else[]).map y11),dI (enE p c k bs)])=.tup [.imm .none [],dI 430]:=fun h=>by
  rw[hE,h];rfl
 by_cases h1:c.length=p.vars.length
 rotate_left
 ·have h1' : ¬ (c.length:Int)=p.vars.length:=by omega
  rw[bad (by unfold y6e;rw[decide_eq_false h1];rfl)]
  simp[t340,n340,e15,h1']
 by_cases h2:c.all (fun n=>wib n 0 7)=true
 rotate_left
 ·have h2:c.all (fun n=>wib n 0 7)=false:=by simpa using h2
  rw[bad (by unfold y6e;rw[decide_eq_true h1,h2];rfl)]
  rw[h2] at e71
  simp[t340,n340,e15,h1,e71]
 rw[h2] at e71
 by_cases h3:wib k 0 3=true
 rotate_left
 ·have h3:wib k 0 3=false:=by simpa using h3
  rw[bad (by unfold y6e;rw[decide_eq_true h1,h2,h3];rfl)]
  simp[t340,n340,e15,h1,e71,e368,h3]
 by_cases h4:bs.length<=1024
 rotate_left
 ·have h4':(1024:Int)<bs.length:=by omega
  rw[bad (by unfold y6e;rw[decide_eq_true h1,h2,h3,decide_eq_false h4];rfl)]
  simp[t340,n340,e15,h1,e71,e368,h3,h4']
 have h4' : ¬ (1024:Int)<bs.length:=by omega
 have hok:y6e p c k bs=bs.all (y9d p):=by unfold y6e;rw[decide_eq_true h1,h2,h3,decide_eq_true h4];rfl
 rw[hok] at bad
 obtain⟨F,hF⟩:∃ F,F=y9p p c k bs:=⟨_,rfl⟩
 have hFl:F.length=bs.length*4:=by
  rw[hF];exact zqs
 obtain⟨X,hX⟩:∃ X,X=(D.tup [.imm .none ((if enE p c k bs=0 then y7g (y9p p c k bs) else[]).map y11),dI (enE p c k bs)]):=⟨_,rfl⟩
 have good:bs.all (y9d p)=true->X=.tup [.imm .none ((y7g F).map y11),dI 0]:=fun h=>by
  rw[hX,hE,hok,h,if_pos rfl,if_pos rfl,hF]
 rw[<- hX] at bad ⊢
 simp[t340,n340,e15,h1,e71,e368,h3,h4']
 refine zr bs.length (fun i env h=>∃(x3 x7 x9 x10 x11 x12 x13 x14 x18 x19 x20 x21 x22 x23 x24 x25:D) (L:List Ent),env=[y3b p,y31 c,dI k,x3,.iptr (y3b p).cellsL,.imm .exact [],dI 0,x7,.loc 1 0,x9,x10,x11,x12,x13,x14,.imm .none (bs.map ydb),dI bs.length,dI i,x18,x19,x20,x21,x22,x23,x24,x25]/\At h 0 (.map (y5o (y1l L [])))/\At h 1 (.cells [.map (some 0)])/\L++y9p p c k (bs.drop i)=F/\(∀ b,b ∈ bs.take i->y9d p b=true) /\ ∀ x,x ∈ L->bdE x) 0 (by omega) ⟨_,_,_,_,_,_,_,_,_,_,_,_,_,_,_,_,[],rfl,rfl,rfl,by rw[hF];rfl,by simp,by simp⟩ ?_
 rintro i env h hi ⟨x3,x7,x9,x10,x11,x12,x13,x14,x18,x19,x20,x21,x22,x23,x24,x25,L,rfl,A,A1,hLF,hgd,hbd⟩
 by_cases hlt:i<bs.length
 rotate_left
 ·have:i=bs.length:=by omega
  subst this
  rw[aS] at hgd
  rw[bE] at hLF
  have hLF:L=F:=by rw[<- hLF];simp[y9p]
  subst hLF
  have hm:(y1l L []).length<=1000000:=by
   have:=z5t (l:=L) (m:=[]);simp at this;omega
  obtain⟨d,hp',e,sp,rfl⟩:=s370 A hm
  have hX2:=good (aD.2 hgd)
  have hn:y9z (y1l L [])=y7g L:=rfl
  rw[hn] at e
  have y:yo E h 75 (.loc 1 0)=some (.map (some 0)):=by
   unfold yo
   simp only[A1.eq]
   rfl
  simp[-zl,y,e,y16,hX2,zw]
 have hup:=zg hlt (by omega)
 obtain⟨b,hb⟩:∃ b,b=bs[i]:=⟨_,rfl⟩
 have hbm:b ∈ bs:=by rw[hb];exact aC hlt
 have no:y9d p b=false->X=D.tup [.imm .none [],dI 430]:=fun h=>bad (by
  rw[<- Bool.not_eq_true,aD]
  intro h2
  rw[h2 b hbm] at h;cases h)
 rw[zk hlt,<- hb] at hLF
 obtain⟨R,hR⟩:∃ R,R=y9p p c k (bs.drop (i+1)):=⟨_,rfl⟩
 have hLF:L++(bk4 p c k b++R)=F:=by rw[hR];exact hLF
 obtain⟨pr,vr,am⟩:=b
 have hwn:aw.wrap ((p.vars.length:Int) - 1)=(p.vars.length:Int) - 1:=z7 ⟨by omega,by omega⟩
 by_cases a1:wib vr 0 ((p.vars.length:Int) - 1)=true
 rotate_left
 ·have a1:wib vr 0 ((p.vars.length:Int) - 1)=false:=by simpa using a1
  have hX2:=no (by unfold y9d;rw[a1];rfl)
  simp[hlt,<- hb,e368,hwn,a1,hX2]
 have a1':=zgq.1 a1
 obtain⟨v,rfl⟩:∃ v:Nat,vr=v:=⟨vr.toNat,by omega⟩
 have hv:v<p.vars.length:=by omega
 have hvc:v<c.length:=by omega
 have hnd:nd c (v:Int)=c[v]:=by unfold nd;simp[hvc]
 have hnv2:nvA p (v:Int)=p.vars[v].a:=by unfold nvA;simp[hv]
 obtain⟨n1,hn1⟩:∃ n1,n1=c[v]:=⟨_,rfl⟩
 obtain⟨w,hw⟩:∃ w,w=p.vars[v]:=⟨_,rfl⟩
 rw[<- hw] at hnv2
 rw[<- hn1] at hnd
 by_cases a2:wib w.a 0 4095=true
 rotate_left
 ·have a2:wib w.a 0 4095=false:=by simpa using a2
  have hX2:=no (by unfold y9d;simp only[a1,hnv2,a2];rfl)
  simp[hlt,<- hb,e368,hwn,a1,hv,<- hw,a2,hX2]
 by_cases a3:wib pr (-1) 7=true
 rotate_left
 ·have a3:wib pr (-1) 7=false:=by simpa using a3
  have hX2:=no (by unfold y9d;simp only[a1,hnv2,a2,a3];rfl)
  simp[hlt,<- hb,e368,hwn,a1,hv,<- hw,a2,a3,hX2]
 by_cases a4:wib am (-1048576) 1048576=true
 rotate_left
 ·have a4:wib am (-1048576) 1048576=false:=by simpa using a4
  have hX2:=no (by unfold y9d;simp only[a1,hnv2,a2,a3,a4];rfl)
  simp[hlt,<- hb,e368,hwn,a1,hv,<- hw,a2,a3,a4,hX2]
 have hgd2:y9d p ⟨pr,v,am⟩=true:=by unfold y9d;simp only[a1,hnv2,a2,a3,a4];rfl
 have e369:=r369 ⟨pr,v,am⟩ n1 w.a k
 simp only at e369
 have a4':=zgq.1 a4
 simp[hlt,<- hb,e368,hwn,a1,hv,<- hw,a2,a3,a4,hvc,<- hn1,e369]
 have A:=A.app (r:=.cells [dI pr,dI (v:Int),dI am]::af 15 Obj.dead)
 have A1:=A1.app (r:=.cells [dI pr,dI (v:Int),dI am]::af 15 Obj.dead)
 simp only[af] at A A1
 generalize h ++ .cells [dI pr,dI (v:Int),dI am]::_=H0 at A A1
 refine⟨385,_,rfl,?_⟩
 intro Lf hLf hcb
 obtain⟨C,hC⟩:∃ C,C=H0.length:=⟨_,rfl⟩
 have hC2:2<=C:=by have:=A1.lt;omega
 obtain⟨F',hF'⟩:∃ F',F'=L++bk4 p c k ⟨pr,v,am⟩:=⟨_,rfl⟩
 have hFb:∀ x,x ∈ F'->bdE x:=by
  intro x hx
  rw[hF'] at hx
  rcases aN.1 hx with hx | hx
  ·exact hbd x hx
  ·unfold bdE
   simp only[bk4,az,fg,or_false] at hx
   rcases hx with rfl | rfl | rfl | rfl <;> simp only <;> omega
 have hFl2:F'.length<=2000000:=by
  have:=congrArg List.length hLF
  rw[ak,ak] at this
  rw[hF',ak];omega
 obtain⟨J,hJ⟩:∃ J:List Ent->List Obj->Prop,J=fun rem H=>∃ Ls,At H 0 (.map (y5o (y1l Ls [])))/\At H 1 (.cells [.map (some 0)])/\At H C (Lf false none)/\Ls++rem=F':=⟨_,rfl⟩
 have key:=i385 ⟨pr,v,am⟩ n1 w.a k (by unfold i64;simp only;omega) C J (by
  intro x rem H hj
  rw[hJ] at hj
  obtain⟨Ls,b0,b1,b2,b3⟩:=hj
  obtain⟨t,hp2,e1,e2⟩:=hcb [y2j x.kind x.idx,dI x.amt] H (fun t hp'=>t=true/\J rem hp') rfl (by rw[<- hC];exact b2) (by
   rw[<- hC]
   obtain⟨H1,hH1⟩:∃ H1,H1=H.set C (Lf true none):=⟨_,rfl⟩
   have lC:=b2.lt
   have c0:At H1 0 (.map (y5o (y1l Ls []))):=by rw[hH1];exact b0.ne (by omega)
   have c1:At H1 1 (.cells [.map (some 0)]):=by rw[hH1];exact b1.ne (by omega)
   have c2:At H1 C (Lf true none):=by rw[hH1];exact At.self lC
   have y2:∀ r:List Obj,(H++r)[C]? = some (Lf false none):=fun r=>b2.app
   have y6:∀ r:List Obj,(H++r).set C (Lf true none)=H1++r:=fun r=>by rw[z1p lC,hH1]
   have y7:H.length=H1.length:=by rw[hH1,bu]
   have hw:=z9m hFb hFl2 b3
   obtain⟨hs1,hs2⟩:=z9v b3
   have y1:=fun r:List Obj=>yd6 (a:=x.kind) (b:=x.idx) (c0.app (r:=r))
   have y3:=fun(r:List Obj) (n:Int)=>yfj (a:=x.kind) (b:=x.idx) (n:=n) (c0.app (r:=r))
   have y4:∀ r:List Obj,yo E (H1++r) 75 (.loc 1 0)=some (.map (some 0)):=fun r=>by
    unfold yo
    simp only[c1.appE]
    rfl
   have y5:∀ r:List Obj,yo E (H1 ++ .cells [dI x.kind,dI x.idx]::r) 65 (.loc H1.length 0)=some (y2j x.kind x.idx):=fun r=>by
    unfold yo
    simp only[z3t]
    rfl
   simp[y2c,↓y2,↓y6,y7,-zl,y4,y5,-z1v,-z33,y1,y3,hw,hs2]
   have l0:=c0.lt
   refine⟨(c2.app).ne (by omega),?_⟩
   rw[hJ]
   exact⟨Ls++[x],(At.self (by rw[ak];omega)).ne (by omega),((c1.app).ne (by omega)).ne (by omega),At.self (by rw[bu,ak,<- y7];omega),hs1⟩)
  rw[e2.1,<- hC] at e1
  exact⟨hp2,e1,e2.2⟩) (hp:=H0++[Lf false none]) (rem:=[]) (by
  rw[hJ]
  refine⟨L,A.app,A1.app,by rw[hC];simp[At],?_⟩
  rw[hF',bZ]
  simp only[bk4,hnd,hnv2])
 obtain⟨d,hp',e,hj⟩:=key
 rw[hJ] at hj
 obtain⟨Ls,b0,b1,b2,b3⟩:=hj
 rw[bZ] at b3
 subst b3
 rw[hC] at e b2
 refine⟨d,hp',e,.inl ⟨b2,?_⟩⟩
 rw[<- hC]
 simp[hup]
 refine⟨Ls,b0.ne (by omega),b1.ne (by omega),?_,?_,hFb⟩
 ·rw[hF',a8,<- hR];exact hLF
 ·intro b' hb'
  rw[aH hlt,<- hb] at hb'
  rcases aN.1 hb' with hb' | hb'
  ·exact hgd b' hb'
  ·simp at hb';rw[hb'];exact hgd2

def pq0:y7c:=⟨[],[[]],[⟨7,0,[0],[⟨0,0,0,[]⟩]⟩]⟩
def eq0:List Ent:=[⟨1,3,10⟩,⟨2,7,10⟩,⟨3,2,-10⟩,⟨4,1,-10⟩]
def sq0:Stp:=⟨5,-1,eq0⟩
def pp0:Pst:=y72 tgB [] sq0
theorem zs3:ybg pq0:=by
 refine⟨by decide,by decide,?_,by decide,?_,?_,?_⟩
 ·intro l hl;simp[pq0] at hl;subst hl;simp
 ·intro v hv;simp[pq0] at hv;subst hv;simp
 ·intro v hv;simp[pq0] at hv;subst hv;simp
 ·intro v hv c hc;simp[pq0] at hv;subst hv;simp at hc;subst hc;simp
theorem yfh:ck pq0=0:=by
 unfold ck
 rw[if_pos]
 refine⟨by decide,?_,?_,?_,?_⟩
 ·intro c hc;simp[pq0] at hc
 ·intro i h;simp[pq0] at h
 ·intro l hl;simp[pq0] at hl;subst hl;simp[pq0]
 ·intro v hv
  simp[pq0] at hv;subst hv
  refine⟨by simp,by simp,by simp,?_,?_,?_⟩
  ·intro n hn;simp at hn;subst hn;simp[wi,pq0]
  ·intro i h;simp at h
  ·intro c hc
   simp at hc;subst hc
   refine⟨by simp[wi],by simp[wi],by simp[wi],?_,?_⟩
   ·intro u hu;simp at hu
   ·intro i h;simp at h
theorem zhy:y3s eq0:=by unfold y3s;decide
theorem yfy:∀ e,e ∈ eq0->e.amt ≠ 0:=by
 intro e he
 simp only[eq0,az,fg,or_false] at he
 rcases he with rfl | rfl | rfl | rfl <;> decide
theorem zv9:y7g eq0=eq0:=zdq zhy yfy fun _ _=>rfl
theorem zv8:∀ e,e ∈ eq0->okT e:=by
 intro e he
 simp only[eq0,az,fg,or_false] at he
 rcases he with rfl | rfl | rfl | rfl <;> decide
theorem zv7:tgt eq0:=⟨zv8,za1.1 zhy⟩
theorem zzt:y4g eq0=0:=by decide
theorem yfz:fmE eq0:=⟨by decide,by decide,fun x hx=>by
 have:=zv8 x hx
 unfold okT at this
 unfold y51
 omega,za1.1 zhy⟩
theorem zoe:y2z tgB [] sq0=0:=by
 rw[zac z9o (by simp) (by simp)]
 exact z1t.2 ⟨⟨by simp[y72],by simp[y72,sq0],by simp[y72,sq0],yfz⟩,zzt⟩
theorem zod:vld tgB [pp0]:=(zs4 zoe).2.2.1
theorem enD0:enD pq0 [3] 1 [⟨2,0,10⟩]=.tup [.imm .none (eq0.map y11),dI 0]:=by
 have h1:y6e pq0 [3] 1 [⟨2,0,10⟩]=true:=by decide
 have h2:enE pq0 [3] 1 [⟨2,0,10⟩]=0:=by unfold enE;rw[yfh,h1];rfl
 have h3:y9p pq0 [3] 1 [⟨2,0,10⟩]=eq0:=rfl
 unfold enD
 rw[h2,h3,zv9]
 rfl
theorem bk0:bkN [] eq0=eq0:=by
 unfold bkN
 have:eq0++y4o (low (y49 []))=eq0:=rfl
 rw[this,zv9]
theorem bo0:Bok tgB [] 5 eq0:=⟨z9o,zv7,fun _=>by unfold bkS;rw[bk0];exact zoe⟩
theorem boD0:boD [] 5 eq0=.tup [yy [pp0],dI 0]:=by
 unfold boD
 rw[z65.2 bo0,zbg bo0,bk0,if_neg (by decide)]
 unfold bkS
 rw[bk0]
 rfl
theorem bk1:bkN [pp0] eq0=[]:=by
 have:=bo0.again
 rw[zbg bo0,bk0,if_neg (by decide)] at this
 unfold bkS at this
 rw[bk0] at this
 exact this
theorem bo1:Bok tgB [pp0] 9 eq0:=⟨zod,zv7,fun h=>absurd bk1 h⟩
theorem boD1:boD [pp0] 9 eq0=.tup [yy [pp0],dI 0]:=by
 unfold boD
 rw[z65.2 bo1,zbg bo1,if_pos bk1]
theorem bk2:bkN [] []=[]:=zoq.2 fun _ _=>rfl
theorem bo2:Bok tgB [] 5 []:=⟨z9o,⟨by simp,fun i hi=>by simp at hi⟩,fun h=>absurd bk2 h⟩
theorem boD2:boD [] 5 []=.tup [yy [],dI 0]:=by
 unfold boD
 rw[z65.2 bo2,zbg bo2,if_pos bk2]
theorem zof:y6n [pp0]=[(1,3),(2,7),(3,2),(4,1)]:=by
 have es:y1m [(1,3),(2,7),(3,2),(4,1)]=[(1,3),(2,7),(3,2),(4,1)]:=
  za0 (z4d _) (z5e _) (by decide)
 unfold y6n
 have:y76 [pp0]=[(1,3),(2,7),(3,2),(4,1)]:=rfl
 rw[this,es]
 decide
theorem stX0:stX [pp0] 3=0:=by unfold stX;rw[if_neg (by simp[z17.2 zod]),if_pos (by decide)]
theorem stD0:stD [pp0] 3 5=.tup [.imm .none [y11 ⟨3,2,-10⟩],dI 0]:=by
 unfold stD
 rw[stX0,if_pos rfl]
 unfold stE
 rw[zof]
 rfl
theorem stD1:stD [pp0] 3 4=.tup [.imm .none [y11 ⟨3,2,0⟩],dI 0]:=by
 unfold stD
 rw[stX0,if_pos rfl]
 unfold stE
 rw[zof]
 rfl
theorem stD2:stD [] 0 5=.tup [.imm .none [],dI 430]:=by
 have:stX [] 0=430:=by unfold stX;rw[if_neg (by simp[z17.2 z9o]),if_neg (by decide)]
 unfold stD
 rw[this,if_neg (by decide)]
 rfl

theorem zl4:y5m [pp0]:=⟨by simp,fun p hp=>by simp at hp;subst hp;exact⟨y3q,by decide⟩⟩
theorem r339:yu E (dL E) 339 []=some (.bool true):=by
 have a1:=r340 pq0 zs3 [3] (by decide) 1 [⟨2,0,10⟩] (by decide)
 rw[enD0] at a1
 have b1:=yd3 [] 5 eq0 okn (by decide)
 have b2:=yd3 [pp0] 9 eq0 zl4 (by decide)
 have b3:=yd3 [] 5 [] okn (by decide)
 rw[boD0] at b1
 rw[boD1] at b2
 rw[boD2] at b3
 have c1:=yd2 [pp0] zl4 (by decide) 3 5
 have c2:=yd2 [pp0] zl4 (by decide) 3 4
 have c3:=yd2 [] okn (by decide) 0 5
 rw[stD0] at c1
 rw[stD1] at c2
 rw[stD2] at c3
 have d1:=yfd [pp0] zl4
 have d2:=yfd [] okn
 rw[z17.2 zod] at d1
 rw[z17.2 z9o] at d2
 have e1:=yc4 eq0 eq0 (by decide) (by decide)
 have e2:=yc4 [⟨3,2,-10⟩] [⟨3,2,-10⟩] (by decide) (by decide)
 have e3:=yc4 [⟨3,2,0⟩] [⟨3,2,0⟩] (by decide) (by decide)
 have f1:=r346 [pp0] [pp0] zl4 zl4
 have n0:pp0.prev.length=32:=y3q
 have pc:pp0.corrects = -1:=rfl
 simp only[yy,av,aQ,eq0,decide_true,y3b,pq0,y31,y2x,y6k,y2f,ydb,y6l] at a1 b1 b2 b3 c1 c2 c3 d1 d2 e1 e2 e3 f1
 generalize pp0=p0 at *
 have l2i:∀(h:List Obj) (a:Int) (r:List D),yo E h 2 (.iptr (dI a::r))=some (dI a):=fun _ _ _=>rfl
 have bc:(p0.corrects == -1)=true:=by rw[pc];rfl
 refine ze c339 (by simp) ?_
 conv in t339=>reduce;dsimp[ah]
 simp[t339,n339,a1,b1,b2,b3,c1,c2,c3,d1,d2,e1,e2,e3,f1,n0,bc,l2i,zq,z8,y16,-zz]

theorem zw5{ds:List D}(h:DTc E 13 ds):∃ u:UInt8,ds=[ya u]:=by
 cases h with
 |int h' hw=>
  rename_i k n
  have hk:(E.ty 13).k=.int .u8:=rfl
  rw[hk] at h';cases h'
  simp[Go.Lit.wf] at hw
  obtain⟨a1,a2⟩:=hw
  have e1:fo.min=0:=by decide
  have e2:fo.max=255:=by decide
  have b1:0<=n:=by first | exact a1 | (rw[e1] at a1;exact a1)
  have b2:n<=255:=by first | exact a2 | (rw[e2] at a2;exact a2)
  refine⟨bi n.toNat,?_⟩
  have:(bi n.toNat).toNat=n.toNat:=by simp;omega
  simp only[bF,D.int.injEq,and_true,true_and,this]
  omega
 |bool h'=>cases h'
 |str h'=>cases h'
 |slice h' _ _ _=>cases h'
 |struct h' _ _=>cases h'
 |arr h' _ _=>cases h'
theorem zyt{ds:List D}(h:DTc E 73 ds):∃ d:List UInt8,ds=d.map ya/\d.length=32:=by
 obtain⟨hl,hf⟩:=zyu h (n:=32) (e:=13) rfl
 have hl:ds.length=32:=hl
 have hx:∀ x,x ∈ ds->∃ u,x=ya u/\True:=by
  intro x hx
  obtain⟨i,hi,rfl⟩:=List.mem_iff_getElem.1 hx
  obtain⟨u,hu⟩:=zw5 (hf i (by omega))
  have e1:(E.ty 13).size=1:=rfl
  rw[e1,Nat.mul_one,bC hi] at hu
  simp only[de,fD,bF,and_true] at hu
  exact⟨u,hu,trivial⟩
 obtain⟨d,rfl,_⟩:=zap (f:=ya) (R:=fun _=>True) hx
 exact⟨d,rfl,by simpa using hl⟩
theorem zys{x:D}(h:y65 E 71 x):∃ p,x=y3n p/\p.prev.length=32:=by
 obtain⟨ds,rfl,h1⟩:=zeq h rfl
 obtain⟨hl,hf⟩:=z9s h1 (fs:=[(0,2),(1,2),(2,2),(3,66),(4,73)]) rfl
 have hl:ds.length=36:=hl
 match ds,hl with
 |a::b::c::d::r,hl=>
  obtain⟨n1,g1,_⟩:=z9t (hf 0 _ rfl) rfl
  obtain⟨n2,g2,_⟩:=z9t (hf 1 _ rfl) rfl
  obtain⟨n3,g3,_⟩:=z9t (hf 2 _ rfl) rfl
  obtain⟨els,g4,hlen,g6⟩:=zd7 (hf 3 _ rfl) (e:=72) rfl
  obtain⟨dg,g5,h32⟩:=zyt (hf 4 _ rfl)
  obtain⟨l,rfl,_⟩:=zap (f:=y11) (R:=okE) (els:=els) fun x hx=>zuq (g6 x hx)
  have e1:(E.ty 2).size=1:=rfl
  have e2:(E.ty 66).size=1:=rfl
  have e3:(E.ty 73).size=32:=rfl
  simp only[cn,List.drop_succ_cons,e1,e2,e3,de,fD,bF,and_true] at g1 g2 g3 g4 g5
  simp only[aA] at hl
  rw[bg (by omega)] at g5
  subst g1 g2 g3 g4 g5
  exact⟨⟨n1,n2,n3,l,dg⟩,rfl,h32⟩
theorem znm{x:D}(h:y65 E 70 x):∃ l,x=yy l/\(∀ p,p ∈ l->p.prev.length=32)/\l.length<=9223372036854775807:=by
 obtain⟨els,h5,hlen,h6⟩:=zd7 (z9r h rfl) (e:=71) rfl
 simp only[bF,and_true] at h5
 subst h5
 obtain⟨l,rfl,o⟩:=zap (f:=y3n) (R:=fun p=>p.prev.length=32) (els:=els) fun x hx=>zys (h6 x hx)
 exact⟨l,rfl,o,by rw[ao] at hlen;exact hlen⟩
theorem zw4{x:D}(h:y65 E 66 x):∃ l:List Ent,x=.imm .none (l.map y11)/\(∀ e,e ∈ l->okE e)/\l.length<=9223372036854775807:=by
 obtain⟨els,h5,hlen,h6⟩:=zd7 (z9r h rfl) (e:=72) rfl
 simp only[bF,and_true] at h5
 subst h5
 obtain⟨l,rfl,o⟩:=zap (f:=y11) (R:=okE) (els:=els) fun x hx=>zuq (h6 x hx)
 exact⟨l,rfl,o,by rw[ao] at hlen;exact hlen⟩

theorem zjq{l:List (Int × Int)}:∀ x,x ∈ l.map y3z->x.storable=true/\x.cellsL.length=2:=fun x hx=>by
 obtain⟨s,_,rfl⟩:=aT.1 hx
 exact⟨rfl,rfl⟩
theorem zid{hp:List Obj}{id:Nat}{sp sp':y13}{l m:List (Int × Int)}(hl:l.length+m.length<=10000000)(R:y2b hp sp l.length 2) :
  y4u E hp id 67 67 (.imm sp (l.map y3z)) (.imm sp' (m.map y3z))=some (.imm (.tok id) (l.map y3z++m.map y3z),y1y (y1k sp hp) id (.tok ((l.length+m.length)*2) 2)):=by
 have:=z4h (hp:=hp) (id:=id) (t:=67) (e:=65) (sz:=2) (sp:=sp) (sp':=sp') (els:=l.map y3z) (new:=m.map y3z) rfl rfl (z5z zjq) ⟨by
  rw[ao,ao,show(E.ty 65).bytes=16 from rfl];simp[yg];omega,by decide,rfl,z98 zjq⟩ (by rw[ao];exact R)
 rw[ao,ao] at this
 exact this

theorem yg6{l:List Pst}{m:Int}{t:List Ent}(ok:y5m l)(hl:l.length<=1000)(hN:t.length+y3t l<=100000):y5m (boL tgB l m t)/\(boL tgB l m t).length<=l.length+1/\y3t (boL tgB l m t)<=t.length+2*y3t l:=by
 have hb:=zi7 (l:=l) (t:=t)
 unfold boL
 split
 ·split
  ·exact⟨ok,by omega,by omega⟩
  ·refine⟨⟨by simp;omega,fun p hp=>?_⟩,by simp,?_⟩
   ·rcases aN.1 hp with hp | hp
    ·exact ok.2 p hp
    ·simp at hp;subst hp
     exact⟨y3q,by show(bkN l t).length<=1000000;omega⟩
   ·rw[zhz]
    have:y3t [y72 tgB l (bkS l m t)]=(bkN l t).length:=by simp[y3t,y72,bkS]
    omega
 ·exact⟨⟨by simp,by simp⟩,by simp,by simp[y3t]⟩

theorem zw7{sz:Nat}:∀(els:List D) (i j n:Nat) (x:D),(∀ y,y ∈ els->y.cellsL.length=sz)->els[i]? = some x->j+n<=sz->y1x (yi els) (i*sz+j) n=y1x x.cellsL j n:=by
 have key:∀(a b:List D) (k j:Nat) (n:Nat),j+n<=a.length->∀ pre:List D,pre.length=k->y1x (pre++(a++b)) (k+j) n=y1x a j n:=by
  intro a b k j n
  induction n generalizing j with
  |zero=>intro _ _ _;rfl
  |succ n ih=>
   intro hj pre hp
   have hg:(pre++(a++b))[k+j]? = a[j]?:=by
    rw[List.getElem?_append_right (by omega),hp,show k+j - k=j from by omega,List.getElem?_append_left (by omega)]
   rw[y1x,y1x,hg]
   have:=ih (j+1) (by omega) pre hp
   rw[show k+j+1=k+(j+1) from by omega,this]
 intro els i j n x hall hx hj
 have hi:=(ac.1 hx).1
 have hxe:=(ac.1 hx).2
 have e:els=els.take i++x::els.drop (i+1):=by
  have:=bp i els
  rw[bC hi,hxe] at this
  exact this.symm
 have hlen:∀ l:List D,(∀ y,y ∈ l->y.cellsL.length=sz)->(yi l).length=l.length*sz:=by
  intro l
  induction l with
  |nil=>intro _;simp[yi]
  |cons a l ih=>intro h;rw[zy,ak,ih fun y hy=>h y (by simp[hy]),h a (by simp),aA,g8];omega
 have hf:yi els=yi (els.take i)++(x.cellsL++yi (els.drop (i+1))):=by
  conv=>lhs;rw[e]
  rw[z19,zy]
 have hl:(yi (els.take i)).length=i*sz:=by
  rw[hlen _ fun y hy=>hall y (dh hy),aI,bq (by omega)]
 rw[hf]
 exact key _ _ _ _ _ (by rw[hall x (aX hx)];exact hj) _ hl
theorem zyy{sz:Nat}(els:List D)(i j:Nat)(cs:List D)(v:D)(hall:∀ y,y ∈ els->y.cellsL.length=sz)(hx:els[i]? = some (.agg cs))(hj:j<sz):setCells (yi els) (i*sz+j) [v]=yi (els.set i (.agg (cs.set j v))):=by
 have hi:=(ac.1 hx).1
 have hxe:=(ac.1 hx).2
 have hcs:cs.length=sz:=hall _ (aX hx)
 have e:els=els.take i ++ .agg cs::els.drop (i+1):=by
  have:=bp i els
  rw[bC hi,hxe] at this
  exact this.symm
 have hlen:∀ l:List D,(∀ y,y ∈ l->y.cellsL.length=sz)->(yi l).length=l.length*sz:=by
  intro l
  induction l with
  |nil=>intro _;simp[yi]
  |cons a l ih=>intro h;rw[zy,ak,ih fun y hy=>h y (by simp[hy]),h a (by simp),aA,g8];omega
 have hl:(yi (els.take i)).length=i*sz:=by
  rw[hlen _ fun y hy=>hall y (dh hy),aI,bq (by omega)]
 have hlt:(els.take i).length=i:=by rw[aI,bq (by omega)]
 have hf:yi els=yi (els.take i)++(cs++yi (els.drop (i+1))):=by
  conv=>lhs;rw[e]
  rw[z19,zy]
  rfl
 have hs:els.set i (.agg (cs.set j v))=els.take i ++ .agg (cs.set j v)::els.drop (i+1):=by
  conv=>lhs;rw[e]
  rw[cH _ _ (by omega),hlt,Nat.sub_self];rfl
 have hg:yi (els.set i (.agg (cs.set j v)))=yi (els.take i)++(cs.set j v++yi (els.drop (i+1))):=by
  rw[hs,z19,zy];rfl
 rw[hf,hg]
 show(yi (els.take i)++(cs++yi (els.drop (i+1)))).set (i*sz+j) v=_
 rw[cH _ _ (by omega),hl,show i*sz+j - i*sz=j from by omega,List.set_append_left _ _ (by omega)]

theorem zr4{hp:List Obj}{id:Nat}{sp:y13}{l:List Ent}(hl:l.length<=1000000)(h0:l ≠ []) :
  y1s E hp id 66 66 (.imm .exact []) (.imm sp (l.map y11))=some ⟨.sl id 0 l.length 3 true true,some (.cells (yi (l.map y11))),none⟩:=by
 have h4 : ¬ l.length=0:=fun h=>h0 (List.eq_nil_of_length_eq_zero h)
 have hfit:y2u 3 (l.map y11)=true:=by
  unfold y2u
  rw[aD]
  intro x hx
  obtain⟨e,_,rfl⟩:=aT.1 hx
  rfl
 have h5:(0+l.length)*(24+1)<=yg/\24<=65536/\(y22 E 72).isSome=true/\y2u 3 ([]:List D)=true:=⟨by simp[yg];omega,by decide,rfl,rfl⟩
 have hlo:y12 hp (E.ty 72).size (E.ty 72).ag (.imm sp (l.map y11))=some (l.map y11):=by
  have:=hfit
  unfold y2u at this
  rw[show(E.ty 72).size=3 from rfl]
  simp only[y12]
  rw[if_pos this]
 unfold y1s
 simp only[show(E.ty 66).k=.slice 72 from rfl]
 rw[hlo]
 simp only[ao,ba]
 rw[if_neg h4,show(E.ty 72).bytes=24 from rfl,show(E.ty 72).size=3 from rfl,if_pos h5]
 simp only[Nat.zero_add,yi,List.flatMap_nil,bh]
 rfl

theorem r389(e x:Ent):yu E (dL E) 389 [y2j e.kind e.idx,y2j x.kind x.idx]=some (.bool (decide (ltA e x))):=by
 refine ze c389 (by simp) ?_
 conv in t389=>reduce;dsimp[ah]
 by_cases h1:e.kind<x.kind
 ·have:ltA e x:=.inl h1
  simp[t389,n389,h1,this]
 ·by_cases h2:e.kind=x.kind
  ·by_cases h3:e.idx<x.idx
   ·have:ltA e x:=.inr ⟨h2,h3⟩
    simp[t389,n389,h1,h2,h3,this]
   ·have : ¬ ltA e x:=by unfold ltA;omega
    simp[t389,n389,h1,h2,h3,this]
  ·have : ¬ ltA e x:=by unfold ltA;omega
   simp[t389,n389,h1,h2,this]

theorem hf66{l:List Ent}:y53 (E.ty 72).size (l.map y11)=true:=by cases l <;> rfl
theorem yc1{l:List Ent}{k:Nat}(h:k<=l.length):y15 E 66 (.imm .none (l.map y11)) none (some (dI k)) none=some (.imm .none ((l.take k).map y11)):=by
 have hk:(E.ty 66).k=.slice 72:=rfl
 have hs:y1c .none (l.map y11).length k none=.none:=by unfold y1c;simp
 unfold y15
 simp only[hk,bnd,eB,if_true,ci,hf66,aV,hs]
 rw[if_pos ⟨da _,by simpa using h,ai _,trivial⟩,cn,fe,mw]
theorem yc0{l:List Ent}{k:Nat}(h:k<=l.length):y15 E 66 (.imm .none (l.map y11)) (some (dI k)) none none=some (.imm .none ((l.drop k).map y11)):=by
 have hk:(E.ty 66).k=.slice 72:=rfl
 have hs:y1c .none (l.map y11).length (l.map y11).length none=.none:=by unfold y1c;simp
 unfold y15
 simp only[hk,bnd,eB,if_true,ci,hf66,aV,hs]
 rw[if_pos ⟨by simpa using h,ai _,ai _,trivial⟩,bg (by simp),fN]

theorem r374(l:List Ent)(hl:l.length<=1000000):yu E (dL E) 374 [.imm .none (l.map y11)]=some (.imm .none ((y3y l).map y11)):=by
 refine ze c374 (by simp) ?_
 conv in t374=>reduce;dsimp[ah]
 simp[t374,n374]
 refine zr l.length (fun i env h=>∃(x4 x5 x6:D) (sp:y13),env=[.imm .none (l.map y11),.imm .exact [],.imm sp ((y3y (l.take i)).map y11),dI i,x4,x5,x6]/\y2b h sp (y3y (l.take i)).length 3) 0 (by omega) ⟨_,_,_,.exact,rfl,.inl rfl⟩ ?_
 rintro i env h hi ⟨x4,x5,x6,sp,rfl,R⟩
 by_cases hlt:i<l.length
 rotate_left
 ·have:i=l.length:=by omega
  subst this
  rw[aS]
  simp[zw]
 have hup:=zg hlt (by omega)
 obtain⟨x,hx⟩:∃ x,x=l[i]:=⟨_,rfl⟩
 have htk:y3y (l.take (i+1))=y3y (l.take i)++y3y [x]:=by
  unfold y3y;rw[aH hlt,List.filter_append,<- hx]
 have hln:(y3y (l.take i)).length<=i:=by
  have:(y3y (l.take i)).length<=(l.take i).length:=eJ ..
  rw[aI] at this;omega
 obtain⟨L,hL⟩:∃ L,L=y3y (l.take i):=⟨_,rfl⟩
 rw[<- hL] at htk hln R ⊢
 have l72:∀(h:List Obj) (x:Ent),yo E h 72 (.iptr [dI x.kind,dI x.idx,dI x.amt])=some (y11 x):=fun _ _=>rfl
 by_cases h0:x.amt=0
 ·have e:y3y [x]=[]:=by simp[y3y,h0]
  rw[e,bZ] at htk
  simp[hlt,<- hx,h0,hup,htk]
  exact⟨_,_,_,_,⟨rfl,rfl,rfl,rfl⟩,R⟩
 ·have e:y3y [x]=[x]:=by simp[y3y,h0]
  rw[e] at htk
  have y2:y4u E h h.length 66 66 (.imm sp (L.map y11)) (.imm .exact [.agg [dI x.kind,dI x.idx,dI x.amt]])=some (.imm (.tok h.length) (L.map y11++[y11 x]),y1k sp h++[.tok ((L.length+1)*3) 3]):=by
   have e:=z5q (hp:=h) (id:=h.length) (sp:=sp) (sp':=.exact) (l:=L) (m:=[x]) (by simp;omega) R
   have e2:y1y (y1k sp h) h.length (.tok ((L.length+1)*3) 3)=y1k sp h++[.tok ((L.length+1)*3) 3]:=by
    unfold y1y;rw[if_neg (by rw[z21];omega)]
   rw[<- e2];exact e
  simp[hlt,<- hx,h0,hup,htk,l72,il2,-zz,y2]
  exact⟨_,_,_,_,⟨rfl,rfl,rfl,rfl⟩,z4c (j:=0) rfl⟩

theorem z7p:∀(l:List Ent),(yi (l.map y11)).length=l.length*3
 |[]=>rfl
 |e::l=>by
  have:=z7p l
  rw[av,zy,ak,this,show(y11 e).cellsL.length=3 from rfl,aA];omega
theorem zt2{X:List Obj}{m n:Nat}{L:List Ent}{gr:Bool}(h:At X m (.cells (yi (L.map y11)))):frz X (n+6) (.sl m 0 L.length 3 true gr)=some (.imm .none (L.map y11)):=by
 have hr:yz X m=some (yi (L.map y11)):=by unfold yz;rw[h.eq]
 have hch:=z8c (sz:=3) (L.map y11) (fun x hx=>by obtain⟨p,_,rfl⟩:=aT.1 hx;exact⟨rfl,rfl⟩)
 rw[ao] at hch
 show(match yz X m with | some cs=>(match y3a 3 true L.length (cs.drop 0) with | some els=>(y1p (frz X (n+5)) els).map (D.imm .none) | none=>none) | none=>none)=_
 rw[hr]
 simp only[cn]
 rw[hch]
 simp only[]
 rw[zw]
 rfl
theorem zy6{x e:Ent}{l:List Ent}(h:ltA e x):y3o x (e::l)=e::y3o x l:=by simp only[y3o];rw[if_pos h]
theorem zy8{x e:Ent}{l:List Ent}(h : ¬ ltA e x)(he:y3i e=y3i x):y3o x (e::l)=⟨e.kind,e.idx,e.amt+x.amt⟩::l:=by simp only[y3o];rw[if_neg h,if_pos he]
theorem zy7{x e:Ent}{l:List Ent}(h : ¬ ltA e x)(he : ¬ y3i e=y3i x):y3o x (e::l)=x::e::l:=by simp only[y3o];rw[if_neg h,if_neg he]

theorem r373(l:List Ent)(hl:l.length<=1000000)(x:Ent)(hb:∀ y,y ∈ l->i64 (y.amt+x.amt)):yu E (dL E) 373 [.imm .none (l.map y11),y2j x.kind x.idx,dI x.amt]=some (.imm .none ((y3o x l).map y11)):=by
 have e389:=fun e=>r389 e x
 refine ze c373 (by simp) ?_
 conv in t373=>reduce;dsimp[ah]
 simp[t373,n373,zw]
 refine zr l.length (fun n env h=>∃(x6 x7 x8 x9 x10 x11 x12 x13:D) ,env=[.imm .none (l.map y11),y2j x.kind x.idx,dI x.amt,.iptr [dI x.kind,dI x.idx],.imm .exact [],dI n,x6,x7,x8,x9,x10,x11,x12,x13]/\y3o x l=l.take n++y3o x (l.drop n)) 0 (by omega) ⟨_,_,_,_,_,_,_,_,rfl,by simp⟩ ?_
 rintro n env h hn ⟨x6,x7,x8,x9,x10,x11,x12,x13,rfl,hA⟩
 have ins:∀ P S T:List Ent,P.length+S.length<=1000000->T=P++x::S ->
  (∀ hp id,y4u E hp id 66 66 (.imm .exact []) (.imm .none (P.map y11))=some (.imm (.tok id) (P.map y11),y1y hp id (.tok (P.length*3) 3))) /\
  (∀ hp id k',hp[k']? = some (.tok (P.length*3) 3)->y4u E hp id 66 66 (.imm (.tok k') (P.map y11)) (.imm .exact [.agg [dI x.kind,dI x.idx,dI x.amt]])=some (.imm (.tok id) ((P++[x]).map y11),y1y (hp.set k' .dead) id (.tok ((P.length+1)*3) 3))) /\
  (∀ hp id k',hp[k']? = some (.tok ((P.length+1)*3) 3)->y4u E hp id 66 66 (.imm (.tok k') ((P++[x]).map y11)) (.imm .none (S.map y11))=some (.imm (.tok id) (T.map y11),y1y (hp.set k' .dead) id (.tok ((P.length+1+S.length)*3) 3))):=by
  intro P S T hl hT
  refine⟨fun hp id=>?_,fun hp id k' h=>?_,fun hp id k' h=>?_⟩
  ·have:=z5q (hp:=hp) (id:=id) (sp:=.exact) (sp':=.none) (l:=[]) (m:=P) (by simp;omega) (.inl rfl)
   simpa[y1k] using this
  ·have:=z5q (hp:=hp) (id:=id) (sp:=.tok k') (sp':=.exact) (l:=P) (m:=[x]) (by simp;omega) (.inr ⟨k',rfl,h⟩)
   simpa[y1k] using this
  ·have:=z5q (hp:=hp) (id:=id) (sp:=.tok k') (sp':=.none) (l:=P++[x]) (m:=S) (by simp;omega) (.inr ⟨k',rfl,by rw[ak];exact h⟩)
   rw[hT]
   simpa[y1k] using this
 by_cases hlt:n<l.length
 rotate_left
 ·have:n=l.length:=by omega
  subst this
  have hT:y3o x l=l++x::[]:=by rw[hA];simp[y3o]
  obtain⟨apA,apB,apC⟩:=ins l [] (y3o x l) (by simp;omega) hT
  have s1:=yc1 (l:=l) (ai _)
  have s2:=yc0 (l:=l) (ai _)
  rw[aS] at s1
  rw[bE] at s2
  generalize y3o x l=T at *
  generalize hQ:l++[x]=Q at *
  simp only[ba,cU,aQ] at apC s2
  simp[s1,s2,apA,apB,apC,zw]
 have hup:=zg hlt (by omega)
 obtain⟨e,he⟩:∃ e,e=l[n]:=⟨_,rfl⟩
 have he2:l[n]? = some e:=by rw[he];exact ae hlt
 have hem:e ∈ l:=aX he2
 have e389:=e389 e
 have eqa:=zju (a:=(e.kind,e.idx)) (b:=(x.kind,x.idx))
 simp only[Prod.mk.injEq] at eqa
 have hkey:(y3i e=y3i x) ↔ (e.kind=x.kind/\e.idx=x.idx):=by simp[y3i]
 rw[zk hlt,<- he] at hA
 by_cases h1:ltA e x
 ·rw[zy6 h1] at hA
  rw[decide_eq_true h1] at e389
  simp[hlt,<- he,e389,hup]
  rw[hA,aH hlt,<- he,a8]
  rfl
 rw[decide_eq_false h1] at e389
 by_cases h2:e.kind=x.kind/\e.idx=x.idx
 ·rw[zy8 h1 (hkey.2 h2)] at hA
  rw[decide_eq_true h2] at eqa
  have hset:y3o x l=l.set n ⟨e.kind,e.idx,e.amt+x.amt⟩:=by
   rw[hA,List.set_eq_take_append_cons_drop,if_pos hlt]
  have hne:l ≠ []:=fun h=>by rw[h] at hlt;simp at hlt
  have ap:=fun(hp:List Obj) (id:Nat)=>zr4 (hp:=hp) (id:=id) (sp:=.none) hl hne
  have hw:aw.wrap (e.amt+x.amt)=e.amt+x.amt:=z7 (hb e hem)
  have hall:∀ y,y ∈ l.map y11->y.cellsL.length=3:=fun y hy=>by obtain⟨z,_,rfl⟩:=aT.1 hy;rfl
  have hxd:(l.map y11)[n]? = some (.agg [dI e.kind,dI e.idx,dI e.amt]):=by rw[List.getElem?_map,he2];rfl
  have t1:=zw7 (l.map y11) n 2 1 _ hall hxd (by omega)
  have st1:=zyy (l.map y11) n 2 [dI e.kind,dI e.idx,dI e.amt] (dI (e.amt+x.amt)) hall hxd (by omega)
  have hm:(l.map y11).set n (.agg [dI e.kind,dI e.idx,dI (e.amt+x.amt)])=(y3o x l).map y11:=by rw[hset,List.map_set]
  have st1:setCells (yi (l.map y11)) (n*3+2) [dI (e.amt+x.amt)]=yi ((y3o x l).map y11):=by rw[<- hm];exact st1
  have hlen:=z7p l
  have hal:(y3o x l).length=l.length:=by rw[hset,bu]
  have ld:∀ r:List Obj,r[26]? = some (.cells (yi (l.map y11)))->yo E (h++r) 2 (.loc (h.length+26) (n*3+2))=some (dI e.amt):=fun r hr=>by
   unfold yo
   simp only[z61,hr,show(E.ty 2).size=1 from rfl,t1]
   rfl
  have st:∀ r:List Obj,r[26]? = some (.cells (yi (l.map y11)))->y39 E (h++r) 2 (.loc (h.length+26) (n*3+2)) (dI (e.amt+x.amt))=some (h++r.set 26 (.cells (yi ((y3o x l).map y11)))):=fun r hr=>by
   unfold y39
   simp only[z61,hr]
   rw[if_pos ⟨rfl,rfl,by rw[show(E.ty 2).size=1 from rfl];omega⟩,z72,show(D.int .i64 (e.amt+x.amt)).cellsL=[dI (e.amt+x.amt)] from rfl,st1]
  have fz:∀ r:List Obj,r[26]? = some (.cells (yi ((y3o x l).map y11)))->frz (h++r) 12 (.sl (h.length+26) 0 l.length 3 true true)=some (.imm .none ((y3o x l).map y11)):=fun r hr=>by
   rw[<- hal]
   exact zt2 (n:=6) (by unfold At;rw[z61];exact hr)
  generalize y3o x l=T at *
  simp[hlt,<- he,e389,eqa,-z3x,ap,yh,hw,-zl,-z5u,-zpo,ld,st,fz]
 ·rw[zy7 h1 (fun h=>h2 (hkey.1 h))] at hA
  rw[decide_eq_false h2] at eqa
  have hT:y3o x l=l.take n++x::l.drop n:=by rw[hA,zk hlt,<- he]
  obtain⟨apA,apB,apC⟩:=ins (l.take n) (l.drop n) (y3o x l) (by rw[aI,cq];omega) hT
  have s1:=yc1 (l:=l) (k:=n) (by omega)
  have s2:=yc0 (l:=l) (k:=n) (by omega)
  generalize y3o x l=T at *
  generalize l.take n=P at *
  generalize l.drop n=S at *
  generalize hQ:P++[x]=Q at *
  simp[hlt,<- he,e389,eqa,-z3x,s1,s2,apA,apB,apC,zw]

def y94(B:Int)(l:List Ent):Prop:=∀ y,y ∈ l -> -B<=y.amt/\y.amt<=B
theorem zkb{B D:Int}{x:Ent}(hB:0<=B)(hx : -D<=x.amt/\x.amt<=D):∀{l:List Ent},y94 B l->y94 (B+D) (y3o x l)
 |[],_=>by
  intro y hy
  simp only[y3o,List.mem_singleton] at hy
  subst hy;omega
 |e::r,h=>by
  have h1:=h e (by simp)
  have h2:y94 B r:=fun y hy=>h y (by simp[hy])
  have ih:=zkb hB hx h2
  intro y hy
  simp only[y3o] at hy
  split at hy
  ·rcases az.1 hy with rfl | hy
   ·omega
   ·exact ih y hy
  ·split at hy
   ·rcases az.1 hy with rfl | hy
    ·simp only;omega
    ·have:=h2 y hy;omega
   ·rcases az.1 hy with rfl | hy
    ·omega
    ·have:=h y hy;omega
theorem zka{x:Ent}:∀{l:List Ent},(y3o x l).length<=l.length+1
 |[]=>by simp[y3o]
 |e::r=>by
  have ih:=zka (x:=x) (l:=r)
  simp only[y3o]
  split
  ·simp only[aA];omega
  ·split <;> simp
theorem zun(a b x:List Ent):y87 (a++b) x=y87 b (y87 a x):=List.foldl_append

open Classical in
theorem r433(t:List Ent)(hl:t.length<=1000000):yu E (dL E) 433 [.imm .none (t.map y11)]=some (.bool (decide (tgt t))):=by
 have e371:=r371
 have e389:=r389
 obtain⟨B,hB⟩:∃ B,B=decide (tgt t):=⟨_,rfl⟩
 have hBf : ¬ tgt t->B=false:=fun h=>by rw[hB];simp[h]
 have hBt:tgt t->B=true:=fun h=>by rw[hB];simp[h]
 rw[<- hB]
 refine ze c433 (by simp) ?_
 conv in t433=>reduce;dsimp[ah]
 simp[t433,n433]
 refine zr t.length (fun i env h=>∃(x3 x4 x5 x6:D) ,env=[.imm .none (t.map y11),.bool false,dI i,x3,x4,x5,x6] /\ ∀ j,j<i->ycz t j) 0 (by omega) ⟨_,_,_,_,rfl,fun j hj=>by omega⟩ ?_
 rintro i env h hi ⟨x3,x4,x5,x6,rfl,ht⟩
 by_cases hlt:i<t.length
 rotate_left
 ·have:i=t.length:=by omega
  subst this
  have:=hBt (zc0.2 ht)
  simp[this]
 have hup:=zg hlt (by omega)
 obtain⟨x,hx⟩:∃ x,x=t[i]:=⟨_,rfl⟩
 have hx2:t[i]? = some x:=by rw[hx];exact ae hlt
 have no:okB x=false->B=false:=fun h=>hBf fun h2=>by
  obtain⟨y,hy,ok,_⟩:=zc0.1 h2 i hlt
  rw[hx2] at hy;cases hy
  rw[zdn.2 ok] at h;cases h
 by_cases h1:wib x.kind 1 4=true
 rotate_left
 ·have h1:wib x.kind 1 4=false:=by simpa using h1
  have:=no (by unfold okB;rw[h1];rfl)
  simp[hlt,e371,<- hx,h1,this]
 by_cases h2:wib x.idx (-1) 4095=true
 rotate_left
 ·have h2:wib x.idx (-1) 4095=false:=by simpa using h2
  have:=no (by unfold okB;rw[h1,h2];rfl)
  simp[hlt,e371,<- hx,h1,h2,this]
 by_cases h3:wib x.amt (-1099511627776) 1099511627776=true
 rotate_left
 ·have h3:wib x.amt (-1099511627776) 1099511627776=false:=by simpa using h3
  have:=no (by unfold okB;rw[h1,h2,h3];rfl)
  simp[hlt,e371,<- hx,h1,h2,h3,this]
 by_cases h4:x.amt=0
 ·have:=no (by unfold okB;rw[h1,h2,h3,decide_eq_true h4];rfl)
  simp[hlt,e371,<- hx,h1,h2,h3,h4,this]
 have ok:okT x:=zdn.1 (by unfold okB;rw[h1,h2,h3,decide_eq_false h4];rfl)
 rcases Nat.eq_zero_or_pos i with h0 | h0
 ·subst h0
  simp[hlt,e371,<- hx,h1,h2,h3,h4]
  exact⟨rfl,x,hx2,ok,fun i y e=>by omega⟩
 ·have hw:aw.wrap ((i:Int) - 1)=((i - 1:Nat):Int):=by
   rw[z7 ⟨by omega,by omega⟩];omega
  have hlt':i - 1<t.length:=by omega
  obtain⟨y,hy⟩:∃ y,y=t[i - 1]:=⟨_,rfl⟩
  have hy2:t[i - 1]? = some y:=by rw[hy];exact ae hlt'
  have e389:=e389 y x
  by_cases hxy:ltA y x
  ·rw[decide_eq_true hxy] at e389
   simp[hlt,e371,<- hx,h1,h2,h3,h4,h0,hw,hlt',<- hy,e389,hup]
   intro j hj
   rcases Nat.lt_or_ge j i with h5 | h5
   ·exact ht j h5
   ·have:j=i:=by omega
    subst this
    refine⟨x,hx2,ok,fun k z e hz=>?_⟩
    have:k=j - 1:=by omega
    subst this
    rw[hy2] at hz;cases hz;exact hxy
  ·rw[decide_eq_false hxy] at e389
   have:=hBf fun h2=>by
    obtain⟨x',hx',_,o⟩:=zc0.1 h2 i hlt
    rw[hx2] at hx';cases hx'
    exact hxy (o (i - 1) y (by omega) hy2)
   simp[hlt,e371,<- hx,h1,h2,h3,h4,h0,hw,hlt',<- hy,e389,this]

theorem zqr{B C:Int}{l:List Ent}(h:y94 B l)(hc:B<=C):y94 C l:=fun y hy=>by have:=h y hy;omega
theorem zr9{P:List Ent}{x:Ent}{t:List Ent}:y87 (P++[x]) t=y3o x (y87 P t):=by rw[zun];rfl

theorem r434(l:List Pst)(t:List Ent)(ok:y5m l)(v:vld tgB l)(ht:tgt t)(hN:t.length+y3t l<=100000):yu E (dL E) 434 [yy l,.imm .none (t.map y11)]=some (.imm .none ((bkN l t).map y11)):=by
 have hl:=ok.1
 have hres:bkN l t=y3y (y87 (y4o (low (y49 l))) t):=by unfold bkN;rw[zwt (za1.2 ht.2)]
 rw[hres]
 obtain⟨F,hF⟩:∃ F,F=y4o (low (y49 l)):=⟨_,rfl⟩
 have hFb:y94 1099511627776 F:=fun y hy=>zi8 v ht y (by rw[<- hF];simp[hy])
 have htb:y94 1099511627776 t:=fun y hy=>zi8 v ht y (by simp[hy])
 have hFl:t.length+F.length<=100000:=by
  have:=zjh (l:=l) (t:=t)
  rw[<- hF,ak] at this;omega
 rw[<- hF]
 have apA:∀ hp id,y4u E hp id 66 66 (.imm .exact []) (.imm .none (t.map y11))=some (.imm (.tok id) (t.map y11),y1y hp id (.tok (t.length*3) 3)):=fun hp id=>by
  have:=z5q (hp:=hp) (id:=id) (sp:=.exact) (sp':=.none) (l:=[]) (m:=t) (by simp;omega) (.inl rfl)
  simpa[y1k] using this
 have step:∀(Y:List Ent) (N:Nat) (x:Ent),N<=100000->y94 (1099511627776*((N:Int)+1)) Y->Y.length<=t.length+N -> -1099511627776<=x.amt/\x.amt<=1099511627776->t.length<=100000->yu E (dL E) 373 [.imm .none (Y.map y11),y2j x.kind x.idx,dI x.amt]=some (.imm .none ((y3o x Y).map y11))/\y94 (1099511627776*(((N+1:Nat):Int)+1)) (y3o x Y)/\(y3o x Y).length<=t.length+(N+1):=fun Y N x h0 h1 h2 h3 h5=>
  ⟨r373 Y (by omega) x (fun y hy=>by have:=h1 y hy;unfold i64;omega),zqr (zkb (by omega) h3 h1) (by omega),by have:=zka (x:=x) (l:=Y);omega⟩
 refine ze c434 (by simp) ?_
 conv in t434=>reduce;dsimp[ah]
 simp[t434,n434,apA,-zu,-z14]
 have J0:∃ P:List Ent,t=y87 P t/\P++y4o (low (y49 l))=F/\y94 (1099511627776*((P.length:Int)+1)) t/\t.length<=t.length+P.length:=⟨[],rfl,by rw[hF];rfl,by simpa using htb,by omega⟩
 refine zr l.length (fun j env h=>∃(x5 x6 x7 x8 x9 x10 x11:D) (sp:y13) (Y:List Ent),env=[yy l,.imm .none (t.map y11),.imm .exact [],.imm sp (Y.map y11),dI j,x5,x6,x7,x8,x9,x10,x11] /\ ∃ P:List Ent,Y=y87 P t/\P++y4o (low (y49 (l.drop j)))=F/\y94 (1099511627776*((P.length:Int)+1)) Y/\Y.length<=t.length+P.length) 0 (by omega) ⟨_,_,_,_,_,_,_, .tok 0,t,by rfl,J0⟩ ?_
 rintro j env h hj ⟨x5,x6,x7,x8,x9,x10,x11,sp,Y,rfl,P,hY,hPF,hYb,hYl⟩
 by_cases hltj:j<l.length
 rotate_left
 ·have:j=l.length:=by omega
  subst this
  rw[bE] at hPF
  have hPF:P=F:=by rw[<- hPF];simp[y49,low,y4o]
  subst hPF
  have e374:=r374 Y (by omega)
  rw[<- hY]
  simp[zw,e374]
 have hupj:=zg hltj (by omega)
 obtain⟨p,hp⟩:∃ p,p=l[j]:=⟨_,rfl⟩
 have hpm:p ∈ l:=by rw[hp];exact aC hltj
 have hp2:=ok.2 p hpm
 obtain⟨R,hR⟩:∃ R,R=y4o (low (y49 (l.drop (j+1)))):=⟨_,rfl⟩
 rw[zk hltj,<- hp,show y49 (p::l.drop (j+1))=p.ents++y49 (l.drop (j+1)) from rfl,zch,zah,<- hR] at hPF
 simp[hltj]
 refine zr p.ents.length (fun e env h=>∃(x6 x7 x8 x9 x10 x11:D) (sp:y13) (Y:List Ent),env=[yy l,.imm .none (t.map y11),.imm .exact [],.imm sp (Y.map y11),dI j,dI e,x6,x7,x8,x9,x10,x11] /\ ∃ P:List Ent,Y=y87 P t/\P++(y4o (low (p.ents.drop e))++R)=F/\y94 (1099511627776*((P.length:Int)+1)) Y/\Y.length<=t.length+P.length) 0 (by omega) ⟨_,_,_,_,_,_, sp,Y,by rfl,P,hY,hPF,hYb,hYl⟩ ?_
 clear hY hPF hYb hYl
 clear h sp Y P x5 x6 x7 x8 x9 x10 x11
 rintro e env h he ⟨x6,x7,x8,x9,x10,x11,sp,Y,rfl,P,hY,hPF,hYb,hYl⟩
 by_cases hlt:e<p.ents.length
 rotate_left
 ·have:e=p.ents.length:=by omega
  subst this
  rw[bE] at hPF
  have hPF:P++R=F:=by rw[<- hPF];simp[low,y4o]
  simp[hltj,<- hp,hp2.1,hupj]
  exact⟨_,_,_,_,_,_,_,_,Y,⟨⟨rfl,rfl⟩,rfl,rfl,rfl,rfl,rfl,rfl,rfl⟩,P,hY,by rw[<- hR];exact hPF,hYb,hYl⟩
 have hup:=zg hlt (by omega)
 obtain⟨x,hx⟩:∃ x,x=p.ents[e]:=⟨_,rfl⟩
 rw[zk hlt,zj3,<- hx] at hPF
 have hPl:P.length<=F.length:=by rw[<- hPF];simp
 by_cases hk:x.kind<=4
 ·rw[if_pos hk,zfo,aO] at hPF
  have hxm:y7h x ∈ F:=by rw[<- hPF];simp
  have hxb:=hFb _ hxm
  obtain⟨c1,c2,c3⟩:=step Y P.length (y7h x) (by omega) hYb hYl hxb (by omega)
  have hng:aw.wrap (-x.amt) = -x.amt:=z7 ⟨by simp only[y7h] at hxb;omega,by simp only[y7h] at hxb;omega⟩
  have hY2:y3o (y7h x) Y=y87 (P++[y7h x]) t:=by rw[zr9,<- hY]
  have hPF2:(P++[y7h x])++(y4o (low (p.ents.drop (e+1)))++R)=F:=by rw[<- hPF];simp
  generalize y3o (y7h x) Y=Z at *
  have hl2:(P++[y7h x]).length=P.length+1:=by simp
  simp only[y7h] at c1
  simp[hltj,hlt,<- hp,<- hx,hp2.1,hup,hk,zw,hng,c1]
  exact⟨_,_,_,_,_,_,_,Z,⟨⟨rfl,rfl⟩,rfl,rfl,rfl,rfl,rfl,rfl⟩,P++[⟨x.kind,x.idx,-x.amt⟩],hY2,hPF2,by rw[ak];exact c2,by rw[ak];exact c3⟩
 ·rw[if_neg hk] at hPF
  simp[hltj,hlt,<- hp,<- hx,hp2.1,hup,hk]
  exact⟨_,_,_,_,_,_,_,Y,⟨⟨rfl,rfl⟩,rfl,rfl,rfl,rfl,rfl,rfl⟩,P,hY,hPF,hYb,hYl⟩
open Classical in
theorem r428(l:List Pst)(m:Int)(t:List Ent)(ok:y5m l)(hl9:l.length<=900000)(hN:t.length+y3t l<=100000):yu E (dL E) 428 [yy l,dI m,.imm .none (t.map y11)]=some (boD l m t):=by
 have e360:=yc3 l ok
 have e433:=r433 t (by omega)
 unfold boD
 by_cases h0:rdE tgB l=0
 rotate_left
 ·have hE:boE tgB l m t=rdE tgB l:=by unfold boE;rw[if_pos h0]
  have hL:boL tgB l m t=[]:=by unfold boL;rw[if_neg (by rw[hE];exact h0)]
  rw[hE,hL]
  refine ze c428 (by simp) ?_
  conv in t428=>reduce;dsimp[ah]
  simp[t428,n428,za,zw,e360,h0]
 have v:=z17.1 h0
 rw[h0] at e360
 by_cases ht:tgt t
 rotate_left
 ·have hE:boE tgB l m t=430:=by unfold boE;rw[if_neg (by simp[h0]),if_pos ht]
  have hL:boL tgB l m t=[]:=by unfold boL;rw[if_neg (by rw[hE];decide)]
  rw[hE,hL]
  refine ze c428 (by simp) ?_
  conv in t428=>reduce;dsimp[ah]
  simp[t428,n428,za,zw,e360,e433,ht]
 have e434:=r434 l t ok v ht hN
 have hbl:=zi7 (l:=l) (t:=t)
 have hw:aw.wrap ((l.length:Int) - 1)=(l.length:Int) - 1:=z7 ⟨by have:=ok.1;omega,by have:=ok.1;omega⟩
 by_cases hb:bkN l t=[]
 ·rw[hb] at e434
  have b:Bok tgB l m t:=⟨v,ht,fun h=>absurd hb h⟩
  have hE:boE tgB l m t=0:=z65.2 b
  have hL:boL tgB l m t=l:=by rw[zbg b,if_pos hb]
  rw[hE,hL]
  refine ze c428 (by simp) ?_
  conv in t428=>reduce;dsimp[ah]
  simp[t428,n428,za,zw,e360,e433,ht,e434]
 ·have e317:=r317 l (bkS l m t) ok (by unfold bkS;simp only;omega) hl9
  have hE:boE tgB l m t=y2z tgB l (bkS l m t):=by
   unfold boE;rw[if_neg (by simp[h0]),if_neg (by simp[ht]),if_neg hb]
  have hL:boL tgB l m t=if y2z tgB l (bkS l m t)=0 then l++[y72 tgB l (bkS l m t)] else[]:=by
   unfold boL;rw[hE,if_neg hb]
  obtain⟨P,hP⟩:∃ P,P=boL tgB l m t:=⟨_,rfl⟩
  obtain⟨Q,hQ⟩:∃ Q,Q=boE tgB l m t:=⟨_,rfl⟩
  have e317':yu E (dL E) 317 [yy l,dI m,dI ((l.length:Int) - 1),.imm .none ((bkN l t).map y11)]=some (.tup [yy P,dI Q]):=by rw[hP,hQ,hE,hL];exact e317
  have hn : ¬ (((bkN l t).length:Int)=0):=by
   have:=List.length_pos_iff.2 hb;omega
  rw[<- hP,<- hQ]
  refine ze c428 (by simp) ?_
  conv in t428=>reduce;dsimp[ah]
  simp[t428,n428,za,zw,e360,e433,ht,e434,hb,hw,e317']
  try trace_state

theorem ycc(l:List Pst)(hl:l.length<=9223372036854775807)(h32:∀ p,p ∈ l->p.prev.length=32)(m:Int)(t:List Ent):yu E (dL E) 427 [yy l,dI m,.imm .none (t.map y11)]=some (.bool true):=by
 have s0:=r339
 have e344:=r344 l hl h32
 refine ze c427 (by simp) ?_
 conv in t427=>reduce;dsimp[ah]
 by_cases hf:y60 l=true
 rotate_left
 ·have hf:y60 l=false:=by simpa using hf
  rw[hf] at e344
  simp[t427,n427,s0,e344,za]
 rw[hf] at e344
 by_cases h40:t.length<=40
 rotate_left
 ·have h41:(40:Int)<t.length:=by omega
  simp[t427,n427,s0,e344,za,h41]
 have h41 : ¬ (40:Int)<t.length:=by omega
 have ok:=zjt hf h32
 have hN:=zq1 hf
 have hl20:=(z7q.1 hf).2
 have e1:=yd3 l m t ok (by omega)
 have e2:=r428 l m t ok (by omega) (by omega)
 obtain⟨ok1,l1,n1⟩:=yg6 (m:=m) (t:=t) ok (by omega) (by omega)
 unfold boD at e1 e2
 generalize boE tgB l m t=E1 at *
 generalize boL tgB l m t=B1 at *
 have e346:=r346 B1 B1 ok1 ok1
 simp[t427,n427,s0,e344,za,zw,h41,e1,e2,e346]

theorem y95:∀ xs,y7p E [70,2,66] xs->∃ n,yu E (dC E n) 427 xs=some (.bool true):=by
 intro xs h
 match xs,h with
 |[x,y,z],⟨t1,t2,t3,_⟩=>
  obtain⟨l,rfl,h32,hl⟩:=znm t1
  obtain⟨m,rfl,_⟩:=znn t2 rfl
  obtain⟨t,rfl,_⟩:=zw4 t3
  exact z6k (ycc l hl h32 m t)
 |[],h=>exact h.elim
 |[_],h=>exact h.2.elim
 |[_,_],h=>exact h.2.2.elim
 |_::_::_::_::_,h=>exact h.2.2.2.elim

def y4q(a:Key):List Key->List Key
 |[]=>[a]
 |e::r=>if y2o e a=true then e::y4q a r else if e=a then e::r else a::e::r
theorem zdy{a b:Key}:∀{l:List Key},b ∈ y4q a l ↔ b=a\/b ∈ l
 |[]=>by simp[y4q]
 |e::r=>by
  have ih:=zdy (a:=a) (b:=b) (l:=r)
  simp only[y4q]
  split
  ·simp only[az,ih]
   constructor
   ·rintro(h | h | h)
    ·exact .inr (.inl h)
    ·exact .inl h
    ·exact .inr (.inr h)
   ·rintro(h | h | h)
    ·exact .inr (.inl h)
    ·exact .inl h
    ·exact .inr (.inr h)
  ·split
   ·rename_i h;subst h;simp
   ·simp
theorem zaw{a:Key}:∀{l:List Key},l.Pairwise (fun x y=>y2o x y=true)->(y4q a l).Pairwise fun x y=>y2o x y=true
 |[],_=>by simp[y4q]
 |e::r,h=>by
  obtain⟨h1,h2⟩:=bN.1 h
  have ih:=zaw (a:=a) h2
  simp only[y4q]
  split
  ·rename_i he
   refine bN.2 ⟨fun b hb=>?_,ih⟩
   rcases zdy.1 hb with rfl | hb
   ·exact he
   ·exact h1 b hb
  ·rename_i he
   split
   ·exact h
   ·rename_i hne
    have hae:y2o a e=true:=(z3n (x:=a) (y:=e) (by simpa using he)).resolve_left fun h=>hne h.symm
    refine bN.2 ⟨fun b hb=>?_,h⟩
    rcases az.1 hb with rfl | hb
    ·exact hae
    ·exact z4f hae (h1 b hb)
theorem zjb{a:Key}:∀{l:List Key},(y4q a l).length<=l.length+1
 |[]=>by simp[y4q]
 |e::r=>by
  have ih:=zjb (a:=a) (l:=r)
  simp only[y4q]
  split
  ·simp only[aA];omega
  ·split <;> simp
def ya9(P:List Key):List Key:=P.foldl (fun l a=>y4q a l) []
theorem zpd{P:List Key}{a:Key}:ya9 (P++[a])=y4q a (ya9 P):=by simp[ya9]
theorem zja:∀(P l:List Key),l.Pairwise (fun x y=>y2o x y=true)->(P.foldl (fun l a=>y4q a l) l).Pairwise (fun x y=>y2o x y=true) /\ ∀ b,b ∈ P.foldl (fun l a=>y4q a l) l ↔ b ∈ P\/b ∈ l
 |[],l,h=>⟨h,fun b=>by simp⟩
 |a::P,l,h=>by
  obtain⟨h1,h2⟩:=zja P (y4q a l) (zaw h)
  refine⟨h1,fun b=>?_⟩
  simp only[du,h2,zdy,az]
  constructor
  ·rintro(h | h | h)
   ·exact .inl (.inr h)
   ·exact .inl (.inl h)
   ·exact .inr h
  ·rintro((h | h) | h)
   ·exact .inr (.inl h)
   ·exact .inl h
   ·exact .inr (.inr h)
theorem z8f{l:List Key}(h:l.Pairwise fun x y=>y2o x y=true):l.Nodup:=h.imp fun {a b} h e=>by
 subst e;rw[z3g] at h;cases h
theorem zkk{a b:List Key}(ha:a.Pairwise fun x y=>y2o x y=true)(hb:b.Pairwise fun x y=>y2o x y=true)(h:∀ x,x ∈ a ↔ x ∈ b):a=b:=by
 have w:∀{l:List Key},l.Pairwise (fun x y=>y2o x y=true)->l.Pairwise fun x y=>y2o y x=false:=fun h=>h.imp fun {x y} h=>by
  cases h2:y2o y x with
  |false=>rfl
  |true=>have:=z4f h h2;rw[z3g] at this;cases this
 exact za0 ((List.perm_ext_iff_of_nodup (z8f ha) (z8f hb)).2 h) (w ha) (w hb)
theorem zss{l:List Pst}:ya9 (y76 l)=y6n l:=by
 obtain⟨h1,h2⟩:=zja (y76 l) [] sJ
 exact zkk h1 (zbq l) fun x=>by rw[zkd];show x ∈ (y76 l).foldl _ [] ↔ _;rw[h2];simp

theorem yf7(a b:Key):yu E (dL E) 393 [y2j a.1 a.2,y2j b.1 b.2]=some (.bool (y2o a b)):=by
 have e:=r393 ⟨a.1,a.2,0⟩ ⟨b.1,b.2,0⟩
 have h:decide (ltA ⟨a.1,a.2,0⟩ ⟨b.1,b.2,0⟩)=y2o a b:=by
  cases h:y2o a b with
  |true=>exact decide_eq_true (z6l.1 h)
  |false=>exact decide_eq_false fun h2=>by rw[z6l.2 h2] at h;cases h
 rw[h] at e
 exact e
theorem hf67{l:List Key}:y53 (E.ty 65).size (l.map y3z)=true:=by cases l <;> rfl
theorem yak{l:List Key}{k:Nat}(h:k<=l.length):y15 E 67 (.imm .none (l.map y3z)) none (some (dI k)) none=some (.imm .none ((l.take k).map y3z)):=by
 have hk:(E.ty 67).k=.slice 65:=rfl
 have hs:y1c .none (l.map y3z).length k none=.none:=by unfold y1c;simp
 unfold y15
 simp only[hk,bnd,eB,if_true,ci,hf67,aV,hs]
 rw[if_pos ⟨da _,by simpa using h,ai _,trivial⟩,cn,fe,mw]
theorem yaj{l:List Key}{k:Nat}(h:k<=l.length):y15 E 67 (.imm .none (l.map y3z)) (some (dI k)) none none=some (.imm .none ((l.drop k).map y3z)):=by
 have hk:(E.ty 67).k=.slice 65:=rfl
 have hs:y1c .none (l.map y3z).length (l.map y3z).length none=.none:=by unfold y1c;simp
 unfold y15
 simp only[hk,bnd,eB,if_true,ci,hf67,aV,hs]
 rw[if_pos ⟨by simpa using h,ai _,ai _,trivial⟩,bg (by simp),fN]
theorem z5m{hp:List Obj}{n:Nat}{l:List Key}:y1p (frz hp (n+2)) (l.map y3z)=some (l.map y3z):=z1e fun _ _=>rfl

theorem r436(l:List Key)(hl:l.length<=1000000)(a:Key):yu E (dL E) 436 [.imm .none (l.map y3z),y2j a.1 a.2]=some (.imm .none ((y4q a l).map y3z)):=by
 have e393:=fun e=>yf7 e a
 refine ze c436 (by simp) ?_
 conv in t436=>reduce;dsimp[ah]
 simp[t436,n436]
 refine zr l.length (fun n env h=>∃(x5 x6 x7 x8 x9 x10:D) ,env=[.imm .none (l.map y3z),y2j a.1 a.2,.iptr [dI a.1,dI a.2],.imm .exact [],dI n,x5,x6,x7,x8,x9,x10]/\y4q a l=l.take n++y4q a (l.drop n)) 0 (by omega) ⟨_,_,_,_,_,_,rfl,by simp⟩ ?_
 rintro n env h hn ⟨x5,x6,x7,x8,x9,x10,rfl,hA⟩
 have ins:∀ P S T:List Key,P.length+S.length<=1000000->T=P++a::S ->
  (∀ hp id,y4u E hp id 67 67 (.imm .exact []) (.imm .none (P.map y3z))=some (.imm (.tok id) (P.map y3z),y1y hp id (.tok (P.length*2) 2))) /\
  (∀ hp id k',hp[k']? = some (.tok (P.length*2) 2)->y4u E hp id 67 67 (.imm (.tok k') (P.map y3z)) (.imm .exact [.agg [dI a.1,dI a.2]])=some (.imm (.tok id) ((P++[a]).map y3z),y1y (hp.set k' .dead) id (.tok ((P.length+1)*2) 2))) /\
  (∀ hp id k',hp[k']? = some (.tok ((P.length+1)*2) 2)->y4u E hp id 67 67 (.imm (.tok k') ((P++[a]).map y3z)) (.imm .none (S.map y3z))=some (.imm (.tok id) (T.map y3z),y1y (hp.set k' .dead) id (.tok ((P.length+1+S.length)*2) 2))):=by
  intro P S T hl hT
  refine⟨fun hp id=>?_,fun hp id k' h=>?_,fun hp id k' h=>?_⟩
  ·have:=zid (hp:=hp) (id:=id) (sp:=.exact) (sp':=.none) (l:=[]) (m:=P) (by simp;omega) (.inl rfl)
   simpa[y1k] using this
  ·have:=zid (hp:=hp) (id:=id) (sp:=.tok k') (sp':=.exact) (l:=P) (m:=[a]) (by simp;omega) (.inr ⟨k',rfl,h⟩)
   rw[<- bm] at this
   exact this
  ·have:=zid (hp:=hp) (id:=id) (sp:=.tok k') (sp':=.none) (l:=P++[a]) (m:=S) (by simp;omega) (.inr ⟨k',rfl,by rw[ak];exact h⟩)
   rw[<- bm] at this
   rw[hT,show P++a::S=P++[a]++S from by simp]
   rw[ak] at this
   exact this
 by_cases hlt:n<l.length
 rotate_left
 ·have:n=l.length:=by omega
  subst this
  have hT:y4q a l=l++a::[]:=by rw[hA];simp[y4q]
  obtain⟨apA,apB,apC⟩:=ins l [] (y4q a l) (by simp;omega) hT
  have s1:=yak (l:=l) (ai _)
  have s2:=yaj (l:=l) (ai _)
  rw[aS] at s1
  rw[bE] at s2
  generalize y4q a l=T at *
  generalize hQ:l++[a]=Q at *
  simp only[ba,cU,aQ] at apC s2
  simp[s1,s2,apA,apB,apC,z5m]
 have hup:=zg hlt (by omega)
 obtain⟨e,he⟩:∃ e,e=l[n]:=⟨_,rfl⟩
 have pE:y3z e=.agg [dI e.1,dI e.2]:=rfl
 have e393:=e393 e
 have eqa:=zju (a:=e) (b:=a)
 rw[zk hlt,<- he] at hA
 by_cases h1:y2o e a=true
 ·rw[y4q,if_pos h1] at hA
  rw[h1] at e393
  simp[hlt,<- he,pE,e393,hup]
  rw[hA,aH hlt,<- he,a8]
  rfl
 have h1f:y2o e a=false:=by simpa using h1
 rw[h1f] at e393
 by_cases h2:e=a
 ·rw[y4q,if_neg h1,if_pos h2] at hA
  have hT:y4q a l=l:=by rw[hA,he,<- zk hlt,bp]
  rw[decide_eq_true h2] at eqa
  rw[hT]
  simp[hlt,<- he,pE,e393,eqa,-z3x,z5m]
  try trace_state
 ·rw[y4q,if_neg h1,if_neg h2] at hA
  rw[decide_eq_false h2] at eqa
  have hT:y4q a l=l.take n++a::l.drop n:=by rw[hA,zk hlt,<- he]
  obtain⟨apA,apB,apC⟩:=ins (l.take n) (l.drop n) (y4q a l) (by rw[aI,cq];omega) hT
  have s1:=yak (l:=l) (k:=n) (by omega)
  have s2:=yaj (l:=l) (k:=n) (by omega)
  generalize y4q a l=T at *
  generalize l.take n=P at *
  generalize l.drop n=S at *
  generalize hQ:P++[a]=Q at *
  simp[hlt,<- he,pE,e393,eqa,-z3x,s1,s2,apA,apB,apC,z5m]
  try trace_state

theorem zrb{p:Pst}{l:List Pst}:y76 (p::l)=p.ents.map y3i++y76 l:=rfl
theorem zsr(P:List Key):(ya9 P).length<=P.length:=by
 have:∀(P l:List Key),(P.foldl (fun l a=>y4q a l) l).length<=P.length+l.length:=by
  intro P
  induction P with
  |nil=>intro l;simp
  |cons a P ih=>
   intro l
   have:=ih (y4q a l)
   have:=zjb (a:=a) (l:=l)
   simp only[du,aA];omega
 have:=this P []
 unfold ya9
 simpa using this

theorem r435(l:List Pst)(ok:y5m l)(hN:y3t l<=1000000):yu E (dL E) 435 [yy l]=some (.imm .none ((y6n l).map y3z)):=by
 have hl:=ok.1
 rw[<- zss]
 obtain⟨F,hF⟩:∃ F,F=y76 l:=⟨_,rfl⟩
 have hFl:F.length<=1000000:=by rw[hF,z9i];exact hN
 rw[<- hF]
 refine ze c435 (by simp) ?_
 conv in t435=>reduce;dsimp[ah]
 simp[t435,n435]
 refine zr l.length (fun j env h=>∃(x4 x5 x6:D) (sp:y13) (P:List Key),env=[yy l,.imm .exact [],.imm sp ((ya9 P).map y3z),dI j,x4,x5,x6]/\P++y76 (l.drop j)=F) 0 (by omega) ⟨_,_,_, .exact,[],by rfl,by rw[hF];rfl⟩ ?_
 rintro j env h hj ⟨x4,x5,x6,sp,P,rfl,hPF⟩
 by_cases hltj:j<l.length
 rotate_left
 ·have:j=l.length:=by omega
  subst this
  rw[bE] at hPF
  have hPF:P=F:=by rw[<- hPF];simp[y76]
  subst hPF
  simp[z5m]
 have hupj:=zg hltj (by omega)
 obtain⟨p,hp⟩:∃ p,p=l[j]:=⟨_,rfl⟩
 have hpm:p ∈ l:=by rw[hp];exact aC hltj
 have hp2:=ok.2 p hpm
 obtain⟨R,hR⟩:∃ R,R=y76 (l.drop (j+1)):=⟨_,rfl⟩
 rw[zk hltj,<- hp,zrb,<- hR] at hPF
 simp[hltj]
 refine zr p.ents.length (fun e env h=>∃(x5 x6:D) (sp:y13) (P:List Key),env=[yy l,.imm .exact [],.imm sp ((ya9 P).map y3z),dI j,dI e,x5,x6]/\P++((p.ents.drop e).map y3i++R)=F) 0 (by omega) ⟨_,_, sp,P,by rfl,hPF⟩ ?_
 clear hPF
 clear h sp P x4 x5 x6
 rintro e env h he ⟨x5,x6,sp,P,rfl,hPF⟩
 by_cases hlt:e<p.ents.length
 rotate_left
 ·have:e=p.ents.length:=by omega
  subst this
  rw[bE,aQ,bh] at hPF
  simp[hltj,<- hp,hp2.1,hupj]
  exact⟨_,_,_,_,P,⟨⟨rfl,rfl⟩,rfl,rfl,rfl⟩,by rw[<- hR];exact hPF⟩
 have hup:=zg hlt (by omega)
 obtain⟨x,hx⟩:∃ x,x=p.ents[e]:=⟨_,rfl⟩
 rw[zk hlt,av,<- hx,aO] at hPF
 have hPl:P.length<=F.length:=by rw[<- hPF];simp
 have hil:=zsr P
 have c1:=r436 (ya9 P) (by omega) (y3i x)
 rw[<- zpd] at c1
 have hPF2:(P++[y3i x])++((p.ents.drop (e+1)).map y3i++R)=F:=by rw[<- hPF];simp
 simp only[y3i] at c1
 simp[hltj,hlt,<- hp,<- hx,hp2.1,hup,z5m,c1]
 exact⟨_,_,_,P++[(x.kind,x.idx)],⟨⟨rfl,rfl⟩,rfl,rfl⟩,by rw[<- fN];exact hPF2⟩

open Classical in
theorem r430(l:List Pst)(ok:y5m l)(hN:y3t l<=1000000)(k m:Int):yu E (dL E) 430 [yy l,dI k,dI m]=some (stD l k m):=by
 have e360:=yc3 l ok
 have e435:=r435 l ok hN
 have e371:=r371
 unfold stD
 by_cases h0:rdE tgB l=0
 rotate_left
 ·have hX:stX l k=rdE tgB l:=by unfold stX;rw[if_pos h0]
  rw[hX,if_neg h0]
  refine ze c430 (by simp) ?_
  conv in t430=>reduce;dsimp[ah]
  simp[t430,n430,za,e360,h0]
 by_cases hk:wib k 1 5=true
 rotate_left
 ·have hk2:wib k 1 5=false:=by simpa using hk
  have hX:stX l k=430:=by unfold stX;rw[if_neg (by simp[h0]),if_neg hk]
  rw[hX,if_neg (by decide)]
  rw[h0] at e360
  refine ze c430 (by simp) ?_
  conv in t430=>reduce;dsimp[ah]
  simp[t430,n430,za,e360,e371,hk2]
 have hX:stX l k=0:=by unfold stX;rw[if_neg (by simp[h0]),if_pos hk]
 rw[hX,if_pos rfl]
 have e319:=fun a b=>r319 l ok hN a b m
 unfold blD at e319
 rw[h0] at e360 e319
 simp only[if_true] at e319
 have hal:=z9j (l:=l)
 obtain⟨AS,hAS⟩:∃ AS,AS=y6n l:=⟨_,rfl⟩
 have hst:stE l k m=stF l k m AS:=by rw[hAS];rfl
 rw[<- hAS] at e435 hal
 rw[hst]
 refine ze c430 (by simp) ?_
 conv in t430=>reduce;dsimp[ah]
 simp[t430,n430,za,e360,e371,hk,e435]
 refine zr AS.length (fun i env h=>∃(x5 x9 x10 x11 x12 x13 x14 x15 x16:D) (sp:y13),env=[yy l,dI k,dI m,.imm .exact [],dI 0,x5,.imm sp ((stF l k m (AS.take i)).map y11),y74 AS,dI i,x9,x10,x11,x12,x13,x14,x15,x16]/\y2b h sp (stF l k m (AS.take i)).length 3) 0 (by omega) ⟨_,_,_,_,_,_,_,_,_,.exact,by rfl,.inl rfl⟩ ?_
 rintro i env h hi ⟨x5,x9,x10,x11,x12,x13,x14,x15,x16,sp,rfl,R⟩
 by_cases hlt:i<AS.length
 rotate_left
 ·have:i=AS.length:=by omega
  subst this
  rw[aS]
  simp[zw]
 have hup:=zg hlt (by omega)
 have pA:y3z AS[i]=.agg [dI AS[i].1,dI AS[i].2]:=rfl
 have e319:=e319 AS[i].1 AS[i].2
 have htk:=zir (l:=l) (k:=k) (m:=m) hlt
 have hln:=znx (l:=l) (k:=k) (m:=m) (as:=AS.take i)
 rw[aI] at hln
 obtain⟨L,hL⟩:∃ L,L=stF l k m (AS.take i):=⟨_,rfl⟩
 rw[<- hL] at htk hln R ⊢
 have y2:∀(n:Int),y4u E h h.length 66 66 (.imm sp (L.map y11)) (.imm .exact [.agg [dI AS[i].1,dI AS[i].2,dI n]])=some (.imm (.tok h.length) (L.map y11++[y11 ⟨AS[i].1,AS[i].2,n⟩]),y1k sp h++[.tok ((L.length+1)*3) 3]):=fun n=>by
  have e:=z5q (hp:=h) (id:=h.length) (sp:=sp) (sp':=.exact) (l:=L) (m:=[⟨AS[i].1,AS[i].2,n⟩]) (by simp;omega) R
  have e2:y1y (y1k sp h) h.length (.tok ((L.length+1)*3) 3)=y1k sp h++[.tok ((L.length+1)*3) 3]:=by
   unfold y1y;rw[if_neg (by rw[z21];omega)]
  rw[<- e2];exact e
 by_cases h0:AS[i].1=k
 ·rw[if_pos h0] at htk
  subst h0
  simp[hlt,pA,hup,htk,za,e319,y2]
  repeat apply ge
  exact⟨by and_intros <;> rfl,z4c (j:=0) rfl⟩
 ·rw[if_neg h0] at htk
  simp[hlt,pA,h0,hup,htk]
  repeat apply ge
  exact⟨by and_intros <;> rfl,R⟩

theorem zut{B:Int}(f:Key->Int):∀(l:List Key),(∀ a,a ∈ l -> -B<=f a/\f a<=B) -> -(B*l.length)<=(l.map f).sum/\(l.map f).sum<=B*l.length
 |[],_=>by simp
 |a::l,h=>by
  have h1:=h a (by simp)
  have h2:=zut f l fun b hb=>h b (by simp[hb])
  have e:B*((a::l).length:Nat)=B*l.length+B:=by rw[aA];push_cast;rw[Int.mul_add];omega
  rw[e]
  simp only[av,eM];omega

theorem r431(l:List Pst)(ok:y5m l)(hN:y3t l<=1000):yu E (dL E) 431 [yy l]=some (.tup [.bool (decide (rdE tgB l=0)),dI (rdE tgB l)]):=by
 have e360:=yc3 l ok
 have e435:=r435 l ok (by omega)
 by_cases h0:rdE tgB l=0
 rotate_left
 ·refine ze c431 (by simp) ?_
  conv in t431=>reduce;dsimp[ah]
  simp[t431,n431,za,e360,h0]
 have v:=z17.1 h0
 have e319:=fun a b m=>r319 l ok (by omega) a b m
 unfold blD at e319
 rw[h0] at e360 e319 ⊢
 simp only[if_true] at e319
 have hl:=ok.1
 have hal:=z9j (l:=l)
 have hsum:=fun m=>zuo v m
 have hbd:∀ k i m,-1125899906842624<=y4t k i m l/\y4t k i m l<=1125899906842624:=fun k i m=>by
  have:=zqx (k:=k) (i:=i) (m:=m) (l:=l) fun p hp x hx=>(v.2.1 p hp).fm.ents.ok x hx
  have hN':(y3t l:Int)<=1000:=by omega
  omega
 obtain⟨AS,hAS⟩:∃ AS,AS=y6n l:=⟨_,rfl⟩
 simp only[<- hAS] at e435 hal hsum
 refine ze c431 (by simp) ?_
 conv in t431=>reduce;dsimp[ah]
 simp[t431,n431,za,e360,e435]
 refine zr l.length (fun j env h=>∃(x3 x6 x7 x8 x9 x10 x11 x12 x13 x14:D) ,env=[yy l,.bool false,dI 0,x3,y74 AS,dI j,x6,x7,x8,x9,x10,x11,x12,x13,x14]) 0 (by omega) ⟨_,_,_,_,_,_,_,_,_,_,rfl⟩ ?_
 rintro j env h hj ⟨x3,x6,x7,x8,x9,x10,x11,x12,x13,x14,rfl⟩
 by_cases hltj:j<l.length
 rotate_left
 ·have:j=l.length:=by omega
  subst this
  simp
 have hupj:=zg hltj (by omega)
 obtain⟨z,hz⟩:∃ z,z=l[j]:=⟨_,rfl⟩
 have hz2:=ok.2 z (by rw[hz];exact aC hltj)
 have hsum:=hsum z.minute
 simp[hltj]
 refine zr AS.length (fun i env h=>∃(x3 x8 x9 x10 x11 x12 x13 x14:D) (c:Int),env=[yy l,.bool false,dI 0,x3,y74 AS,dI j,dI c,dI i,x8,x9,x10,x11,x12,x13,x14]/\c+((AS.drop i).map fun a=>y4t a.1 a.2 z.minute l).sum=0) 0 (by omega) ⟨_,_,_,_,_,_,_,_, (0:Int),by rfl,by simpa using hsum⟩ ?_
 clear h x3 x6 x7 x8 x9 x10 x11 x12 x13 x14
 rintro i env h hi ⟨x3,x8,x9,x10,x11,x12,x13,x14,c,rfl,b1⟩
 by_cases hlt:i<AS.length
 rotate_left
 ·have:i=AS.length:=by omega
  subst this
  rw[bE] at b1
  have hc:c=0:=by simpa using b1
  subst hc
  simp[hltj,hupj]
 have hup:=zg hlt (by omega)
 have pA:y3z AS[i]=.agg [dI AS[i].1,dI AS[i].2]:=rfl
 have e319:=e319 AS[i].1 AS[i].2 z.minute
 obtain⟨S,hS⟩:∃ S,S=((AS.drop (i+1)).map fun a=>y4t a.1 a.2 z.minute l).sum:=⟨_,rfl⟩
 have hb : -(1125899906842624*((AS.drop (i+1)).length:Int))<=S/\S<=1125899906842624*((AS.drop (i+1)).length:Int):=by
  rw[hS];exact zut (fun a:Key=>y4t a.1 a.2 z.minute l) (AS.drop (i+1)) fun a _=>hbd a.1 a.2 z.minute
 rw[zk hlt,av,eM,<- hS] at b1
 have hdl:(AS.drop (i+1)).length<=1000:=by rw[cq];omega
 have hbx:=hbd AS[i].1 AS[i].2 z.minute
 have hw:aw.wrap (c+y4t AS[i].1 AS[i].2 z.minute l)=c+y4t AS[i].1 AS[i].2 z.minute l:=z7 ⟨by omega,by omega⟩
 simp[hlt,hltj,<- hz,hz2.1,pA,hup,za,e319,hw]
 repeat apply ge
 exact⟨by and_intros <;> rfl,by rw[<- fN,<- hS];omega⟩
theorem zwe{l:List Pst}{k m:Int}:(stE l k m).length<=y3t l:=by
 unfold stE
 have h1:=z9j (l:=l)
 have h2:((y6n l).filter fun a=>decide (a.1=k)).length<=(y6n l).length:=eJ ..
 rw[ao];omega

open Classical in
theorem ycb(l:List Pst)(hl:l.length<=9223372036854775807)(h32:∀ p,p ∈ l->p.prev.length=32)(k m:Int):yu E (dL E) 429 [yy l,dI k,dI m]=some (.bool true):=by
 have s0:=r339
 have e344:=r344 l hl h32
 refine ze c429 (by simp) ?_
 conv in t429=>reduce;dsimp[ah]
 by_cases hf:y60 l=true
 rotate_left
 ·have hf:y60 l=false:=by simpa using hf
  rw[hf] at e344
  simp[t429,n429,s0,e344,za]
 rw[hf] at e344
 have ok:=zjt hf h32
 have hN:=zq1 hf
 have e1:=yd2 l ok (by omega) k m
 have e2:=r430 l ok (by omega) k m
 have e3:=yfd l ok
 have e4:=r431 l ok (by omega)
 have e5:=yc5 l ok
 unfold stD at e1 e2
 have hLl:(if stX l k=0 then stE l k m else[]).length<=1000000:=by
  split
  ·have:=zwe (l:=l) (k:=k) (m:=m);omega
  ·simp
 generalize (if stX l k=0 then stE l k m else[])=L at *
 generalize stX l k=X at *
 have e342:=yc4 L L hLl hLl
 rw[decide_eq_true rfl] at e342
 have hbb:∀ b:Bool,y2l E .eql 7 (.bool b) (.bool b)=some (.bool true):=fun b=>by cases b <;> rfl
 by_cases h0:rdE tgB l=0
 ·rw[h0] at e3 e4 e5
  rw[decide_eq_true rfl] at e3 e4
  simp[t429,n429,s0,e344,za,zw,e1,e2,e3,e4,e5,e342,hbb,-zbi]
 ·rw[decide_eq_false h0] at e3 e4
  have hq:(rdE tgB l == 0)=false:=by simpa using h0
  simp[t429,n429,s0,e344,za,zw,e1,e2,e3,e4,e5,e342,hbb,-zbi,hq]

theorem accountsStatementSpec:∀ xs,y7p E [70,2,2] xs->∃ n,yu E (dC E n) 429 xs=some (.bool true):=by
 intro xs h
 match xs,h with
 |[x,y,z],⟨t1,t2,t3,_⟩=>
  obtain⟨l,rfl,h32,hl⟩:=znm t1
  obtain⟨k,rfl,_⟩:=znn t2 rfl
  obtain⟨m,rfl,_⟩:=znn t3 rfl
  exact z6k (ycb l hl h32 k m)
 |[],h=>exact h.elim
 |[_],h=>exact h.2.elim
 |[_,_],h=>exact h.2.2.elim
 |_::_::_::_::_,h=>exact h.2.2.2.elim

end Dv
