/- Texts that a proof of this claim uses, joined: Lw.W335, Lw.W336, Lw.W337, Lw.W338, Lw.W339, Lw.W340, Lw.W341, Lw.W342, Lw.W343, Lw.W344, Lw.W345, Lw.R20, Lw.W346, Lw.W347, Lw.W333, Lw.W334, Lw.W348, Lw.W349, Lw.Ty, Lw.W350. -/
import Derived.Test.YticmiacfglmbeaaGreatGa
import Derived.Test.YticmiacfglmbeaaGreatWa
import Derived.KernelRfl
import Derived.Test.YticmiacfglmbeaaGreatLwa
set_option linter.all false
open Bool renaming and_assoc->iH,and_eq_true->ai,and_false->gH
open Go.IntKind renaming u8->iY
open Int renaming negSucc_eq->ah
open List renaming all_cons->fy,all_eq_true->aw,getElem_mem->aP,idxOf_cons->aJ,length_append->aN,length_map->cK,length_take->bu,map_append->dM,map_cons->ax,map_nil->aG,mem_cons->aC,mem_map->aT,not_mem_nil->jQ,replicate->ae,take_length->bp,take_succ_eq_append_getElem->aY
open List.cons renaming injEq->bF
open Nat renaming le_trans->aD
open Option renaming bind_some->bU,getD_none->jR,getD_some->bD,map_some->af
open Option.some renaming injEq->aa
open UInt8 renaming ofNat->bX
set_option maxRecDepth 100000
set_option maxHeartbeats 16000000
namespace Dv
attribute [local simp] ae depth dCell dUse dInts dChoice dVar dProb tStart addO Ret
attribute [local congr] z45 z4f z3g z2n z23 z3m z21


def cvLeaf (l:Leaf):CV:=cL [ciL l.branch,cI l.kind,cL (l.mult.map ciL)]
def cvC (c:Cert):CV:=cL [ciL c.best,ciL c.value,cL (c.leaves.map cvLeaf)]

theorem zjw {n:Int}:nst (cI n)=1:=by unfold cI;rw [nst,nstL]
theorem zcm {l:List CV} {n:Nat} (h:∀ v ∈ l,nst v<=n):nst (cL l)<=n+1:=by
 unfold cL;rw [nst]
 have:=zay h
 omega
theorem zf8 {l:List (List Int)}:nst (cL (l.map ciL))<=3:=zcm fun v hv=>by
 obtain ⟨m,_,rfl⟩:=aT.1 hv
 exact z2i
theorem z6u {l:Leaf}:nst (cvLeaf l)<=4:=zcm fun v hv=>by
 simp only [aC,jQ,or_false] at hv
 rcases hv with rfl | rfl | rfl
 ·exact aD z2i (by omega)
 ·rw [zjw];omega
 ·exact zf8
theorem zq6 {c:Cert}:nst (cvC c)<=6:=zcm fun v hv=>by
 simp only [aC,jQ,or_false] at hv
 rcases hv with rfl | rfl | rfl
 ·exact aD z2i (by omega)
 ·exact aD z2i (by omega)
 ·exact zcm fun v hv=>by
   obtain ⟨m,_,rfl⟩:=aT.1 hv
   exact z6u
theorem zfv {a b c:CV}:dV (cL [a,b,c])=.agg [dI 3,dI 0,.str [],.imm .none [dV a,dV b,dV c]]:=by unfold cL;rw [z9];rfl

structure OkLf (l:Leaf):Prop where
 b:l.branch.length<=900000
 m:l.mult.length<=900000
 mm:∀ x ∈ l.mult,x.length<=900000
structure OkCe (c:Cert):Prop where
 b:c.best.length<=900000
 v:c.value.length<=900000
 n:c.leaves.length<=900000
 l:∀ x ∈ c.leaves,OkLf x

theorem r268 (l:Leaf) (ok:OkLf l):runP E (dL E) 268 [dLeaf l]=some (dV (cvLeaf l)):=by
 have e1:=r266 l.branch ok.b
 have e2:=r284 l.kind
 have e3:=r285 l.mult ok.m ok.mm
 have z1:∀ h,frz h 38 (dV (ciL l.branch))=some (dV (ciL l.branch)):=fun h=>zh 2 _ z2i 38 (by omega)
 have z2:∀ h,frz h 38 (dV (cI l.kind))=some (dV (cI l.kind)):=fun h=>zh 1 _ (by rw [zjw];omega) 38 (by omega)
 have z3:∀ h,frz h 38 (dV (cL (l.mult.map ciL)))=some (dV (cL (l.mult.map ciL))):=fun h=>zh 3 _ zf8 38 (by omega)
 have s1:=Lv_4 (l:=[ciL l.branch]) (i:=1) (dV (ciL l.branch)) (by simp [Lv])
 have s2:=Lv_4 (l:=[cI l.kind]) (i:=1) (dV (cI l.kind)) (by simp [Lv])
 have s3:=Lv_4 (l:=[cL (l.mult.map ciL)]) (i:=1) (dV (cL (l.mult.map ciL))) (by simp [Lv])
 unfold cvLeaf
 rw [zfv]
 generalize dV (ciL l.branch)=Y1 at *
 generalize dV (cI l.kind)=Y2 at *
 generalize dV (cL (l.mult.map ciL))=Y3 at *
 refine zi c268 (by simp) ?_
 conv in t268=>reduce;dsimp [ah]
 have q1:=s1.1
 have q2:=s1.2
 have q3:=s2.1
 have q4:=s2.2
 have q5:=s3.1
 have q6:=s3.2
 simp [t268,n268,e1,e2,e3,z1,z2,z3,zu,q1,q2,q3,q4,q5,q6]

theorem r267 (vs:List Leaf) (hv:vs.length<=900000) (hvs:∀ v ∈ vs,OkLf v):runP E (dL E) 267 [.imm .none (vs.map dLeaf),.fn 268 []]=some (dV (cL (vs.map cvLeaf))):=by
 obtain ⟨cs,hcs⟩:∃ cs,cs=vs.map cvLeaf:=⟨_,rfl⟩
 have hcl:cs.length=vs.length:=by rw [hcs];simp
 have hce:∀ i (h:i<vs.length),runP E (dL E) 268 [dLeaf vs[i]]=some (dV (cs[i]'(by omega))):=fun i h=>by
  rw [r268 _ (hvs _ (aP h))];simp [hcs]
 have hzz:∀ h,frzL (frz h 38) (cs.map dV)=some (cs.map dV):=fun h=>zn fun v hv=>by
  rw [hcs] at hv
  obtain ⟨n,_,rfl⟩:=aT.1 hv
  exact zh 4 _ z6u 38 (by omega)
 have hres:dV (cL (vs.map cvLeaf))=.agg [dI 3,dI 0,.str [],.imm .none (cs.map dV)]:=by unfold cL;rw [z9,hcs]
 rw [hres]
 refine zi c267 (by simp) ?_
 conv in t267=>reduce;dsimp [ah]
 simp [t267,n267]
 refine z2x vs.length (fun i env h=>∃ (x4 x8 x9 x10:D) (sp:Spare),env=[.imm .none (vs.map dLeaf),.fn 268 [],.loc 0 0,.loc 1 0,x4,.imm .none (vs.map dLeaf),dI vs.length,dI i,x8,x9,x10]/\At h 0 Z0/\At h 1 (.cells [dI 3,dI 0,.str [],.imm sp (Lv cs i)])/\Room 2 h sp i 4/\2<=h.length) 0 (by omega) ?_ ?_
 ·exact ⟨_,_,_,_,(.exact),rfl,by simp [At],by rw [z9i];simp [At],.inl rfl,by simp⟩
 rintro i env h hi ⟨x4,x8,x9,x10,sp,rfl,a1,a2,T3,hlen2⟩
 have hL:(Lv cs i).length=i:=zad (by omega)
 by_cases hlt:i<vs.length
 ·have hup:=z1b hlt (by omega)
  have hap:∀ x:D,appOk E 55 (Lv cs i) [x]:=fun x=>z2b (by rw [hL];simp;omega) Lv_4
  have hlt':i<cs.length:=by omega
  have hsp:=Lv_s hlt'
  have h4:is4 (dV cs[i]):=Lv_4 (l:=cs) (i:=i+1) _ (by rw [hsp];simp)
  have e1:=hce i hlt
  generalize dV cs[i]=Y at *
  have alB:1<h.length:=a2.lt
  have hp7:h.length+1+6=h.length+7:=rfl
  rcases T3 with rfl | ⟨q,rfl,hq,hq2⟩
  ·have a3:∀ X,(h++X)[1]? = some (.cells [dI 3,dI 0,.str [],.imm .exact (Lv cs i)]):=fun X=>a2.app (r:=X)
   have hsB:∀ X o,(h++X).set 1 o=h.set 1 o++X:=fun X o=>zj alB
   simp [hlt,hup,e1,hp7,↓a3,zk,zg,hap,hL,h4.1,h4.2,↓hsB]
   exact ⟨(a1.ne (by decide)).app,.tok (h.length+7),by rw [hsp];exact (At.self alB).app,.inr ⟨_,rfl,by omega,by simp [At]⟩⟩
  ·have a3:∀ X,(h++X)[1]? = some (.cells [dI 3,dI 0,.str [],.imm (.tok q) (Lv cs i)]):=fun X=>a2.app (r:=X)
   have hq3:∀ X,(h++X)[q]? = some (.tok (i*4) 4):=fun X=>hq2.app (r:=X)
   have hs:∀ X o,(h++X).set q o=h.set q o++X:=fun X o=>zj hq2.lt
   have b2:=a2.ne (j:=q) (x:=Obj.dead) (by omega)
   have b1:=a1.ne (j:=q) (x:=Obj.dead) (by omega)
   have b3:∀ X,(h.set q .dead++X)[1]? = some (.cells [dI 3,dI 0,.str [],.imm (.tok q) (Lv cs i)]):=fun X=>b2.app (r:=X)
   have hsB:∀ X o,(h.set q .dead++X).set 1 o=(h.set q .dead).set 1 o++X:=fun X o=>zj (by simpa using alB)
   simp [hlt,hup,e1,hp7,↓a3,zk,zp,hap,hL,h4.1,h4.2,↓hq3,↓hs,↓b3,↓hsB]
   exact ⟨(b1.ne (by decide)).app,.tok (h.length+7),by rw [hsp];exact (At.self b2.lt).app,.inr ⟨_,rfl,by omega,by simp [At]⟩⟩
 ·have:i=vs.length:=by omega
  subst this
  rw [<- hcl,zae] at a2
  obtain ⟨HF,hHF⟩:∃ HF,HF=h.set 0 (.cells [dI 3,dI 0,.str [],.imm sp (cs.map dV)]):=⟨_,rfl⟩
  have aHF:At HF 0 (.cells [dI 3,dI 0,.str [],.imm sp (cs.map dV)]):=by rw [hHF];exact .self a1.lt
  simp [↓a1.eq,↓a2.eq,<- hHF,↓aHF.eq,hzz,zu]

theorem r252 (c:Cert) (ok:OkCe c) (fo:fmdOk (cvC c)):runP E (dL E) 252 [dCert c]=some (.tup [dBy (enc (cvC c)),dI 0]):=by
 have e1:=r266 c.best ok.b
 have e2:=r266 c.value ok.v
 have e3:=r267 c.leaves ok.n ok.l
 have e4:=r264 fo
 have z4:∀ h n,frzL (frz h (n+1)) ((enc (cvC c)).map byteD)=some ((enc (cvC c)).map byteD):=fun h n=>z1p
 have y1:∀ h,frz h 38 (dV (ciL c.best))=some (dV (ciL c.best)):=fun h=>zh 2 _ z2i 38 (by omega)
 have y2:∀ h,frz h 38 (dV (ciL c.value))=some (dV (ciL c.value)):=fun h=>zh 2 _ z2i 38 (by omega)
 have y3:∀ h,frz h 38 (dV (cL (c.leaves.map cvLeaf)))=some (dV (cL (c.leaves.map cvLeaf))):=fun h=>zh 5 _ (zcm fun v hv=>by
   obtain ⟨m,_,rfl⟩:=aT.1 hv
   exact z6u) 38 (by omega)
 have s1:=Lv_4 (l:=[ciL c.best]) (i:=1) (dV (ciL c.best)) (by simp [Lv])
 have s2:=Lv_4 (l:=[ciL c.value]) (i:=1) (dV (ciL c.value)) (by simp [Lv])
 have s3:=Lv_4 (l:=[cL (c.leaves.map cvLeaf)]) (i:=1) (dV (cL (c.leaves.map cvLeaf))) (by simp [Lv])
 generalize enc (cvC c)=Bs at *
 unfold cvC at e4
 rw [zfv] at e4
 generalize dV (ciL c.best)=Y1 at *
 generalize dV (ciL c.value)=Y2 at *
 generalize dV (cL (c.leaves.map cvLeaf))=Y3 at *
 refine zi c252 (by simp) ?_
 conv in t252=>reduce;dsimp [ah]
 have q1:=s1.1
 have q2:=s1.2
 have q3:=s2.1
 have q4:=s2.2
 have q5:=s3.1
 have q6:=s3.2
 simp [t252,n252,e1,e2,e3,e4,y1,y2,y3,z4,zu,z29,q1,q2,q3,q4,q5,q6]

theorem r288 (vs:List Int) (hv:vs.length<=900000):runP E (dL E) 288 [dInts vs]=some (dV (ciL vs)):=by
 obtain ⟨cs,hcs⟩:∃ cs,cs=vs.map cI:=⟨_,rfl⟩
 have hcl:cs.length=vs.length:=by rw [hcs];simp
 have hce:∀ i (h:i<vs.length),runP E (dL E) 289 [dI vs[i]]=some (dV (cs[i]'(by omega))):=fun i h=>by
  rw [r289];simp [hcs]
 have hzz:∀ h,frzL (frz h 38) (cs.map dV)=some (cs.map dV):=fun h=>zn fun v hv=>by
  rw [hcs] at hv
  obtain ⟨n,_,rfl⟩:=aT.1 hv
  exact zh 1 _ (by unfold cI;rw [nst,nstL];omega) 38 (by omega)
 have hres:dV (ciL vs)=.agg [dI 3,dI 0,.str [],.imm .none (cs.map dV)]:=by unfold ciL cL;rw [z9,hcs]
 rw [hres]
 refine zi c288 (by simp) ?_
 conv in t288=>reduce;dsimp [ah]
 simp [t288,n288]
 refine z2x vs.length (fun i env h=>∃ (x4 x5:D) (sp:Spare),env=[dInts vs,.loc 0 0,.loc 1 0,dI i,x4,x5]/\At h 0 Z0/\At h 1 (.cells [dI 3,dI 0,.str [],.imm sp (Lv cs i)])/\Room 2 h sp i 4/\2<=h.length) 0 (by omega) ?_ ?_
 ·exact ⟨_,_,(.exact),rfl,by simp [At],by rw [z9i];simp [At],.inl rfl,by simp⟩
 rintro i env h hi ⟨x4,x5,sp,rfl,a1,a2,T3,hlen2⟩
 have hL:(Lv cs i).length=i:=zad (by omega)
 by_cases hlt:i<vs.length
 ·have hup:=z1b hlt (by omega)
  have hap:∀ x:D,appOk E 55 (Lv cs i) [x]:=fun x=>z2b (by rw [hL];simp;omega) Lv_4
  have hlt':i<cs.length:=by omega
  have hsp:=Lv_s hlt'
  have h4:is4 (dV cs[i]):=Lv_4 (l:=cs) (i:=i+1) _ (by rw [hsp];simp)
  have e1:=hce i hlt
  generalize dV cs[i]=Y at *
  have alB:1<h.length:=a2.lt
  rcases T3 with rfl | ⟨q,rfl,hq,hq2⟩
  ·have a3:∀ X,(h++X)[1]? = some (.cells [dI 3,dI 0,.str [],.imm .exact (Lv cs i)]):=fun X=>a2.app (r:=X)
   have hsB:∀ X o,(h++X).set 1 o=h.set 1 o++X:=fun X o=>zj alB
   simp [hlt,hup,e1,↓a3,zk,zg,hap,hL,h4.1,h4.2,↓hsB]
   exact ⟨(a1.ne (by decide)).app,.tok (h.length+8),by rw [hsp];exact (At.self alB).app,.inr ⟨_,rfl,by omega,by simp [At]⟩⟩
  ·have a3:∀ X,(h++X)[1]? = some (.cells [dI 3,dI 0,.str [],.imm (.tok q) (Lv cs i)]):=fun X=>a2.app (r:=X)
   have hq3:∀ X,(h++X)[q]? = some (.tok (i*4) 4):=fun X=>hq2.app (r:=X)
   have hs:∀ X o,(h++X).set q o=h.set q o++X:=fun X o=>zj hq2.lt
   have b2:=a2.ne (j:=q) (x:=Obj.dead) (by omega)
   have b1:=a1.ne (j:=q) (x:=Obj.dead) (by omega)
   have b3:∀ X,(h.set q .dead++X)[1]? = some (.cells [dI 3,dI 0,.str [],.imm (.tok q) (Lv cs i)]):=fun X=>b2.app (r:=X)
   have hsB:∀ X o,(h.set q .dead++X).set 1 o=(h.set q .dead).set 1 o++X:=fun X o=>zj (by simpa using alB)
   simp [hlt,hup,e1,↓a3,zk,zp,hap,hL,h4.1,h4.2,↓hq3,↓hs,↓b3,↓hsB]
   exact ⟨(b1.ne (by decide)).app,.tok (h.length+8),by rw [hsp];exact (At.self b2.lt).app,.inr ⟨_,rfl,by omega,by simp [At]⟩⟩
 ·have:i=vs.length:=by omega
  subst this
  rw [<- hcl,zae] at a2
  obtain ⟨HF,hHF⟩:∃ HF,HF=h.set 0 (.cells [dI 3,dI 0,.str [],.imm sp (cs.map dV)]):=⟨_,rfl⟩
  have aHF:At HF 0 (.cells [dI 3,dI 0,.str [],.imm sp (cs.map dV)]):=by rw [hHF];exact .self a1.lt
  simp [↓a1.eq,↓a2.eq,<- hHF,↓aHF.eq,hzz,zu]

structure Fz (x:D) (v:CV):Prop where
 f:is4 x
 z:∀ h n,12<=n->frz h n x=some (dV v)
def FzL:List D->List CV->Prop
 | [],[]=>True
 | x::xs,v::vs=>Fz x v/\FzL xs vs
 | _,_=>False
theorem FzL.snoc:∀ {xs:List D} {vs:List CV} {x:D} {v:CV},FzL xs vs->Fz x v->FzL (xs++[x]) (vs++[v])
 | [],[],_,_,_,h=>⟨h,trivial⟩
 | _::_,_::_,_,_,h,h2=>⟨h.1,h.2.snoc h2⟩
 | [],_::_,_,_,h,_=>h.elim
 | _::_,[],_,_,h,_=>h.elim
theorem FzL.is4:∀ {xs:List D} {vs:List CV},FzL xs vs->∀ x ∈ xs,Dv.is4 x
 | [],_,_,x,h=>by simp at h
 | _::_,[],h,_,_=>h.elim
 | y::xs,v::vs,h,x,hx=>by
  rcases aC.1 hx with rfl | hx
  ·exact h.1.f
  ·exact h.2.is4 x hx
theorem FzL.frzL:∀ {xs:List D} {vs:List CV},FzL xs vs->∀ h n,12<=n->Dv.frzL (frz h n) xs=some (vs.map dV)
 | [],[],_,_,_,_=>rfl
 | [],_::_,h,_,_,_=>h.elim
 | _::_,[],h,_,_,_=>h.elim
 | x::xs,v::vs,h,hp,n,hn=>by
  simp only [Dv.frzL,h.1.z hp n hn,h.2.frzL hp n hn,ax]
theorem FzL.len:∀ {xs:List D} {vs:List CV},FzL xs vs->xs.length=vs.length
 | [],[],_=>rfl
 | [],_::_,h=>h.elim
 | _::_,[],h=>h.elim
 | x::xs,v::vs,h=>by simp [h.2.len]
theorem zqk {l:Leaf} {sp sp2:Spare}:Fz (.agg [dI 3,dI 0,.str [],.imm sp [dV (ciL l.branch),dV (cI l.kind),.agg [dI 3,dI 0,.str [],.imm sp2 ((l.mult.map ciL).map dV)]]]) (cvLeaf l):=by
 refine ⟨⟨rfl,rfl⟩,fun h n hn=>?_⟩
 obtain ⟨n,rfl⟩:∃ j,n=j+5:=⟨n - 5,by omega⟩
 have z1:frz h (n+3) (dV (ciL l.branch))=some (dV (ciL l.branch)):=zh 2 _ z2i _ (by omega)
 have z2:frz h (n+3) (dV (cI l.kind))=some (dV (cI l.kind)):=zh 1 _ (by rw [zjw];omega) _ (by omega)
 have z3:frzL (frz h (n+1)) ((l.mult.map ciL).map dV)=some ((l.mult.map ciL).map dV):=zn fun v hv=>by
  obtain ⟨m,_,rfl⟩:=aT.1 hv
  exact zh 2 _ z2i _ (by omega)
 unfold cvLeaf
 rw [zfv,show dV (cL (l.mult.map ciL))=.agg [dI 3,dI 0,.str [],.imm .none ((l.mult.map ciL).map dV)] from by unfold cL;rw [z9]]
 generalize dV (ciL l.branch)=Y1 at *
 generalize dV (cI l.kind)=Y2 at *
 generalize (l.mult.map ciL).map dV=L at *
 simp only [z8,z19,z1n,zu,z18,z1,z2,z3,af,z7,z1f]

theorem r269 (c:Cert) (ok:OkCe c):runP E (dL E) 269 [dCert c]=some (dV (cvC c)):=by
 refine zi c269 (by simp) ?_
 conv in t269=>reduce;dsimp [ah]
 obtain ⟨cs,hcs⟩:∃ cs,cs=c.leaves.map cvLeaf:=⟨_,rfl⟩
 have hcl:cs.length=c.leaves.length:=by rw [hcs];simp
 have okb:=ok.b
 have okn:=ok.n
 simp [t269,n269]
 refine z2x c.leaves.length (fun i env h=>∃ (x5 x6 x7 x8 x9 x10:D) (sp:Spare) (xs:List D),env=[dCert c,.iptr [dInts c.best,dInts c.value,.imm .none (c.leaves.map dLeaf)],.loc 0 0,.loc 1 0,dI i,x5,x6,x7,x8,x9,x10]/\FzL xs (cs.take i)/\At h 0 Z0/\At h 1 (.cells [dI 3,dI 0,.str [],.imm sp xs])/\Room 2 h sp i 4/\2<=h.length) 0 (by omega) ?_ ?_
 ·exact ⟨_,_,_,_,_,_,(.exact),[],rfl,trivial,by simp [At],by simp [At],.inl rfl,by simp⟩
 rintro i env h hi ⟨x5,x6,x7,x8,x9,x10,sp,xs,rfl,hF,a1,a2,T3,hlen2⟩
 have hL:xs.length=i:=by rw [hF.len,bu];omega
 by_cases hlt:i<c.leaves.length
 ·have hup:=z1b hlt (by omega)
  have okl:=ok.l _ (aP hlt)
  have okm:=okl.mm
  obtain ⟨lf,hlf⟩:∃ lf,lf=c.leaves[i]:=⟨_,rfl⟩
  rw [<- hlf] at okl okm
  obtain ⟨ms,hms⟩:∃ ms,ms=lf.mult.map ciL:=⟨_,rfl⟩
  have hml:ms.length=lf.mult.length:=by rw [hms];simp
  simp [hlt,<- hlf]
  obtain ⟨M,hM⟩:∃ M,M=h.length:=⟨_,rfl⟩
  have hM2:2<=M:=by omega
  obtain ⟨D0,hD0⟩:∃ D0,D0=h++[Obj.cells [dI 3,dI 0,.str [],.imm .exact []]]:=⟨_,rfl⟩
  have g0:At D0 0 Z0:=by rw [hD0];exact a1.app
  have g1:At D0 1 (.cells [dI 3,dI 0,.str [],.imm sp xs]):=by rw [hD0];exact a2.app
  have gM:At D0 M (.cells [dI 3,dI 0,.str [],.imm .exact []]):=by rw [hD0,hM];simp [At]
  have gT:sp=.exact \/ ∃ q,sp=.tok q/\2<=q/\q<M/\At D0 q (.tok (i*4) 4):=by
   rcases T3 with h | ⟨q,h1,h2,h3⟩
   ·exact .inl h
   ·exact .inr ⟨q,h1,h2,by rw [hM];exact h3.lt,by rw [hD0];exact h3.app⟩
  rw [<- hM,<- hD0]
  refine z2x lf.mult.length (fun k env h=>∃ (x7 x8 x9 x10:D) (sp2:Spare),env=[dCert c,.iptr [dInts c.best,dInts c.value,.imm .none (c.leaves.map dLeaf)],.loc 0 0,.loc 1 0,dI i,.loc M 0,dI k,x7,x8,x9,x10]/\At h 0 Z0/\At h 1 (.cells [dI 3,dI 0,.str [],.imm sp xs]) /\
   (sp=.exact \/ ∃ q,sp=.tok q/\2<=q/\q<M/\At h q (.tok (i*4) 4))/\At h M (.cells [dI 3,dI 0,.str [],.imm sp2 (Lv ms k)])/\Room (M+1) h sp2 k 4) 0 (by omega) ?_ ?_
  ·refine ⟨_,_,_,_,(.exact),rfl,g0,g1,gT,by rw [z9i];exact gM,.inl rfl⟩
  rintro k env h' hk ⟨x7,x8,x9,x10,sp2,rfl,b0,b1,bT,bM,bR⟩
  have hL2:(Lv ms k).length=k:=zad (by omega)
  by_cases hlk:k<lf.mult.length
  ·have hupk:=z1b hlk (by have:=okl.m;omega)
   have hap:∀ x:D,appOk E 55 (Lv ms k) [x]:=fun x=>z2b (by rw [hL2];have:=okl.m;simp;omega) Lv_4
   have hlk':k<ms.length:=by omega
   have hsp:=Lv_s hlk'
   have h4:is4 (dV ms[k]):=Lv_4 (l:=ms) (i:=k+1) _ (by rw [hsp];simp)
   have e1:runP E (dL E) 288 [dInts lf.mult[k]]=some (dV ms[k]):=by rw [r288 _ (okm _ (aP hlk))];simp [hms,ciL]
   generalize dV ms[k]=Y at *
   have alM:=bM.lt
   rcases bR with rfl | ⟨q,rfl,hq,hq2⟩
   ·have a3:∀ X,(h'++X)[M]? = some (.cells [dI 3,dI 0,.str [],.imm .exact (Lv ms k)]):=fun X=>bM.app (r:=X)
    have hsB:∀ X o,(h'++X).set M o=h'.set M o++X:=fun X o=>zj alM
    simp [hlt,<- hlf,hlk,hupk,e1,↓a3,zk,zg,hap,hL2,h4.1,h4.2,↓hsB]
    refine ⟨(b0.ne (by omega)).app,(b1.ne (by omega)).app,?_,.tok (h'.length+13),by rw [hsp];exact (At.self alM).app,.inr ⟨_,rfl,by omega,by simp [At]⟩⟩
    rcases bT with bT | ⟨q,bT,u1,u2,u3⟩
    ·exact .inl bT
    ·exact .inr ⟨q,bT,u1,u2,(u3.ne (by omega)).app⟩
   ·have a3:∀ X,(h'++X)[M]? = some (.cells [dI 3,dI 0,.str [],.imm (.tok q) (Lv ms k)]):=fun X=>bM.app (r:=X)
    have hq3:∀ X,(h'++X)[q]? = some (.tok (k*4) 4):=fun X=>hq2.app (r:=X)
    have hs:∀ X o,(h'++X).set q o=h'.set q o++X:=fun X o=>zj hq2.lt
    have d2:=bM.ne (j:=q) (x:=Obj.dead) (by omega)
    have d1:=b1.ne (j:=q) (x:=Obj.dead) (by omega)
    have d0:=b0.ne (j:=q) (x:=Obj.dead) (by omega)
    have b3:∀ X,(h'.set q .dead++X)[M]? = some (.cells [dI 3,dI 0,.str [],.imm (.tok q) (Lv ms k)]):=fun X=>d2.app (r:=X)
    have hsB:∀ X o,(h'.set q .dead++X).set M o=(h'.set q .dead).set M o++X:=fun X o=>zj (by simpa using alM)
    simp [hlt,<- hlf,hlk,hupk,e1,↓a3,zk,zp,hap,hL2,h4.1,h4.2,↓hq3,↓hs,↓b3,↓hsB]
    refine ⟨(d0.ne (by omega)).app,(d1.ne (by omega)).app,?_,.tok (h'.length+13),by rw [hsp];exact (At.self d2.lt).app,.inr ⟨_,rfl,by omega,by simp [At]⟩⟩
    rcases bT with bT | ⟨q',bT,u1,u2,u3⟩
    ·exact .inl bT
    ·exact .inr ⟨q',bT,u1,u2,((u3.ne (by omega)).ne (by omega)).app⟩
  ·have:k=lf.mult.length:=by omega
   subst this
   rw [<- hml,zae] at bM
   rw [hms] at bM
   have f1:=r288 lf.branch okl.b
   have f2:=r289 lf.kind
   have hFz:=zqk (l:=lf) (sp:=.exact) (sp2:=sp2)
   have hcut:cs.take (i+1)=cs.take i++[cvLeaf lf]:=by rw [aY (by omega)];simp [hcs,hlf]
   have s1:=Lv_4 (l:=[ciL lf.branch]) (i:=1) (dV (ciL lf.branch)) (by simp [Lv])
   have s2:=Lv_4 (l:=[cI lf.kind]) (i:=1) (dV (cI lf.kind)) (by simp [Lv])
   have hap:∀ x:D,appOk E 55 xs [x]:=fun x=>z2b (by rw [hL];simp;omega) hF.is4
   have alB:=b1.lt
   have h4:=hFz.f
   generalize dV (ciL lf.branch)=Y1 at *
   generalize dV (cI lf.kind)=Y2 at *
   generalize (lf.mult.map ciL).map dV=L at *
   obtain ⟨q1,q2⟩:=s1
   obtain ⟨q3,q4⟩:=s2
   have aM3:∀ X,(h'++X)[M]? = some (.cells [dI 3,dI 0,.str [],.imm sp2 L]):=fun X=>bM.app (r:=X)
   rcases bT with rfl | ⟨q,rfl,hq,hqM,hq2⟩
   ·have a3:∀ X,(h'++X)[1]? = some (.cells [dI 3,dI 0,.str [],.imm .exact xs]):=fun X=>b1.app (r:=X)
    have hsB:∀ X o,(h'++X).set 1 o=h'.set 1 o++X:=fun X o=>zj alB
    simp [hlt,<- hlf,hup,f1,f2,↓a3,↓aM3,zk,zg,hap,hL,q1,q2,q3,q4,↓hsB]
    exact ⟨.tok (h'.length+20),_,by rw [hcut];exact hF.snoc hFz,(b0.ne (by omega)).app,(At.self alB).app,.inr ⟨_,rfl,by omega,by simp [At]⟩⟩
   ·have a3:∀ X,(h'++X)[1]? = some (.cells [dI 3,dI 0,.str [],.imm (.tok q) xs]):=fun X=>b1.app (r:=X)
    have hq3:∀ X,(h'++X)[q]? = some (.tok (i*4) 4):=fun X=>hq2.app (r:=X)
    have hs:∀ X o,(h'++X).set q o=h'.set q o++X:=fun X o=>zj hq2.lt
    have d1:=b1.ne (j:=q) (x:=Obj.dead) (by omega)
    have d0:=b0.ne (j:=q) (x:=Obj.dead) (by omega)
    have b3:∀ X,(h'.set q .dead++X)[1]? = some (.cells [dI 3,dI 0,.str [],.imm (.tok q) xs]):=fun X=>d1.app (r:=X)
    have hsB:∀ X o,(h'.set q .dead++X).set 1 o=(h'.set q .dead).set 1 o++X:=fun X o=>zj (by simpa using alB)
    simp [hlt,<- hlf,hup,f1,f2,↓a3,↓aM3,zk,zp,hap,hL,q1,q2,q3,q4,↓hq3,↓hs,↓b3,↓hsB]
    exact ⟨.tok (h'.length+20),_,by rw [hcut];exact hF.snoc hFz,(d0.ne (by omega)).app,(At.self d1.lt).app,.inr ⟨_,rfl,by omega,by simp [At]⟩⟩
 ·have:i=c.leaves.length:=by omega
  subst this
  have hF':FzL xs cs:=by rw [<- hcl,bp] at hF;exact hF
  have hzz:∀ h n,12<=n->frzL (frz h n) xs=some (cs.map dV):=fun h n hn=>hF'.frzL h n hn
  have hzz:=fun h=>hzz h 36 (by omega)
  have f1:=r288 c.best ok.b
  have f2:=r288 c.value ok.v
  have y1:∀ h,frz h 38 (dV (ciL c.best))=some (dV (ciL c.best)):=fun h=>zh 2 _ z2i 38 (by omega)
  have y2:∀ h,frz h 38 (dV (ciL c.value))=some (dV (ciL c.value)):=fun h=>zh 2 _ z2i 38 (by omega)
  have s1:=Lv_4 (l:=[ciL c.best]) (i:=1) (dV (ciL c.best)) (by simp [Lv])
  have s2:=Lv_4 (l:=[ciL c.value]) (i:=1) (dV (ciL c.value)) (by simp [Lv])
  have hres:dV (cvC c)=.agg [dI 3,dI 0,.str [],.imm .none [dV (ciL c.best),dV (ciL c.value),.agg [dI 3,dI 0,.str [],.imm .none (cs.map dV)]]]:=by
   unfold cvC;rw [zfv,hcs,show dV (cL (c.leaves.map cvLeaf))=.agg [dI 3,dI 0,.str [],.imm .none ((c.leaves.map cvLeaf).map dV)] from by unfold cL;rw [z9]]
  rw [hres]
  generalize cs.map dV=L at *
  generalize dV (ciL c.best)=Y1 at *
  generalize dV (ciL c.value)=Y2 at *
  obtain ⟨q1,q2⟩:=s1
  obtain ⟨q3,q4⟩:=s2
  have a3:∀ X,(h++X)[1]? = some (.cells [dI 3,dI 0,.str [],.imm sp xs]):=fun X=>a2.app (r:=X)
  have a03:∀ X,(h++X)[0]? = some Z0:=fun X=>a1.app (r:=X)
  have hsB:∀ X o,(h++X).set 0 o=h.set 0 o++X:=fun X o=>zj a1.lt
  have hb0:∀ X o,(h.set 0 o++X)[0]? = some o:=fun X o=>(At.self a1.lt).app (r:=X)
  simp [↓a3,↓a03,f1,f2,q1,q2,q3,q4,↓hsB,↓hb0,y1,y2,hzz,zu]
  trace_state

theorem r253 (c:Cert) (ok:OkCe c) (fo:fmdOk (cvC c)):runP E (dL E) 253 [dCert c]=some (.tup [dBy (enc (cvC c)),dI 0]):=by
 have e1:=r269 c ok
 have e2:=r270 fo
 have z1:∀ h,frz h 40 (dV (cvC c))=some (dV (cvC c)):=fun h=>zh 6 _ zq6 40 (by omega)
 generalize dV (cvC c)=Y at *
 refine zi c253 (by simp) ?_
 conv in t253=>reduce;dsimp [ah]
 simp [t253,n253,e1,e2,z1,z29,z1p]
 trace_state

@[simp] theorem zrd {a b:Prop}:markP (.tup []) a b=b:=z3i rfl
@[simp] theorem zsi {x:Bool} {a b:Prop}:markP (.bool x) a b=b:=z3i rfl
abbrev mkE (e:Int):D:=.tup [.undef,.agg [dI e]]

theorem q229t (e:Int):markR (runS E (dL E) 229 [.bool true,dI e] [])=some (.tup []):=by
 refine z1l c229 (by simp) ?_
 conv in t229=>reduce;dsimp [ah]
 simp [t229,n229,RetM,panX,aJ]
theorem q229f (e:Int):markR (runS E (dL E) 229 [.bool false,dI e] [])=some (mkE e):=by
 refine z1l c229 (by simp) ?_
 conv in t229=>reduce;dsimp [ah]
 simp [t229,n229,RetM,panX,aJ]
theorem q228z:markR (runS E (dL E) 228 [dI 0] [])=some (.tup []):=by
 refine z1l c228 (by simp) ?_
 conv in t228=>reduce;dsimp [ah]
 simp [t228,n228,RetM,q229t]
theorem q228n (e:Int) (h:e ≠ 0):markR (runS E (dL E) 228 [dI e] [])=some (mkE e):=by
 have h0:(e == 0)=false:=by simp [h]
 refine z1l c228 (by simp) ?_
 conv in t228=>reduce;dsimp [ah]
 simp [t228,n228,RetM,panX,aJ,q229f,h0]

open Classical in
noncomputable def resParts (k many:Int) (l:List CV):D:=if k=3/\(many<0\/(l.length:Int)=many) then .imm .none (l.map dV) else mkE 310

theorem q273 (k n:Int) (s:List UInt8) (l:List CV) (many:Int) (hz:frzL (frz [] 39) (l.map dV)=some (l.map dV)):markR (runS E (dL E) 273 [dV (.mk k n s l),dI many] [])=some (resParts k many l):=by
 have hz':∀ h:List Obj,frzL (frz [] 39) (l.map dV)=some (l.map dV):=fun _=>hz
 rw [z9]
 unfold resParts
 obtain ⟨L,hL⟩:∃ L,L=l.map dV:=⟨_,rfl⟩
 have hl:(L.length:Int)=l.length:=by rw [hL];simp
 rw [<- hL] at hz ⊢
 rw [<- hl]
 by_cases h3:k=3
 ·by_cases hm:many<0
  ·rw [if_pos ⟨h3,.inl hm⟩]
   refine z1l c273 (by simp) ?_
   conv in t273=>reduce;dsimp [ah]
   simp [t273,n273,RetM,q229t,h3,hm,hz]
  ·by_cases hn:(L.length:Int)=many
   ·rw [if_pos ⟨h3,.inr hn⟩]
    refine z1l c273 (by simp) ?_
    conv in t273=>reduce;dsimp [ah]
    simp [t273,n273,RetM,q229t,h3,hm,hn,hz]
   ·rw [if_neg (by omega)]
    have hn':((L.length:Int) == many)=false:=by simp [hn]
    refine z1l c273 (by simp) ?_
    conv in t273=>reduce;dsimp [ah]
    simp [t273,n273,RetM,q229f,h3,hm,hn,hn',panX,aJ]
 ·rw [if_neg (by omega)]
  refine z1l c273 (by simp) ?_
  conv in t273=>reduce;dsimp [ah]
  have h3':(k == 3)=false:=by simp [h3]
  simp [t273,n273,RetM,q229f,h3,h3',panX,aJ]

theorem q294 (k n:Int) (s:List UInt8) (l:List CV):markR (runS E (dL E) 294 [dV (.mk k n s l)] [])=some (if k=1 then dI n else mkE 310):=by
 rw [z9]
 refine z1l c294 (by simp) ?_
 conv in t294=>reduce;dsimp [ah]
 by_cases h:k=1
 ·simp [t294,n294,RetM,q229t,h]
 ·have h':(k == 1)=false:=by simp [h]
  simp [t294,n294,RetM,q229f,h,h',panX,aJ]

theorem zec {hp:List Obj} {n:Nat} {l:List D} {r:D} (h:frz hp (n+1) (.tup l)=some r):∃ l',r=.tup l':=by
 rw [zkt] at h
 simp only [Option.map_eq_some_iff] at h
 obtain ⟨l',_,h⟩:=h
 exact ⟨l',h.symm⟩
theorem zo3 {hp:List Obj} {d r:D} (h:frz hp depth d=some r) (hr:∀ l,r ≠ .tup l):disE d=none:=by
 unfold disE
 split
 ·exfalso
  obtain ⟨l',e⟩:=zec (n:=39) h
  exact hr _ e
 ·rfl
theorem zqs {r:D} (hr:∀ l,r ≠ .tup l):disE r=none:=by
 unfold disE
 split
 ·exact absurd rfl (hr _)
 ·rfl
theorem z8o {x:Option (D × List Obj)} {r:D} (h:markR x=some r):∃ d hp,x=some (d,hp)/\((isMark d=true/\d=r)\/(isMark d=false/\frz hp depth d=some r)):=by
 unfold markR at h
 split at h
 ·rename_i d hp
  split at h
  ·rename_i hm;exact ⟨d,hp,rfl,.inl ⟨hm,by simpa using h⟩⟩
  ·rename_i hm;exact ⟨d,hp,rfl,.inr ⟨by simpa using hm,h⟩⟩
 ·cases h
theorem zfr {cP:Nat->List D->Option D} {k:Nat} {vs:List D} {r:D} (hk:E.mp k=true) (h:markR (runS E (dL E) k vs [])=some r) (hm:isMark r=false) (hr:∀ l,r ≠ .tup l):disP E cP (runS E (dL E)) k vs=some r:=by
 obtain ⟨d,hp,e,h1 | h1⟩:=z8o h
 ·rw [h1.2] at h1;rw [hm] at h1;cases h1.1
 ·exact zqq hk e h1.1 (zo3 h1.2 hr) h1.2 (zqs hr)
theorem zfs {cP:Nat->List D->Option D} {k:Nat} {vs:List D} {e:Int} (hk:E.mp k=true) (h:markR (runS E (dL E) k vs [])=some (mkE e)):disP E cP (runS E (dL E)) k vs=some (.tup [.nilfn,.agg [dI e]]):=by
 obtain ⟨d,hp,e1,h1 | h1⟩:=z8o h
 ·rw [h1.2] at e1;exact zo2 hk e1 rfl rfl
 ·exfalso
  have:=zb4 h1.2
  cases this
theorem zf0 {k:Nat} {vs:List D} {r:D} (h:markR (runS E (dL E) k vs [])=some r) (hm:isMark r=false) (hk:E.keep k=false):runP E (dL E) k vs=some r:=by
 obtain ⟨d,hp,e,h1 | h1⟩:=z8o h
 ·rw [h1.2] at h1;rw [hm] at h1;cases h1.1
 ·unfold runP
  simp only [e,hk,frzK,h1.2]

def numV:CV->Option Int
 | .mk k n _ _=>if k=1 then some n else none
def listV:CV->Option (List CV)
 | .mk k _ _ l=>if k=3 then some l else none
def mapC {T:Type} (g:CV->Option T):List CV->Option (List T)
 | []=>some []
 | v::l=>match g v,mapC g l with
  | some y,some ys=>some (y::ys)
  | _,_=>none
theorem z51 {T:Type} {g:CV->Option T}:∀ {a:List CV} {v:CV} {ys:List T} {y:T},mapC g a=some ys->g v=some y->mapC g (a++[v])=some (ys++[y])
 | [],v,ys,y,h,h2=>by simp only [mapC,aa] at h;subst h;simp [mapC,h2]
 | w::a,v,ys,y,h,h2=>by
  simp only [mapC] at h
  split at h
  ·rename_i y0 ys0 g1 g2
   simp only [aa] at h
   subst h
   simp [mapC,g1,z51 g2 h2]
  ·cases h
theorem z52 {T:Type} {g:CV->Option T}:∀ {l:List CV} {v:CV},v ∈ l->g v=none->mapC g l=none
 | [],v,h,_=>by simp at h
 | w::l,v,h,h2=>by
  simp only [mapC]
  rcases aC.1 h with rfl | h
  ·rw [h2]
  ·rw [z52 h h2];cases g w <;> rfl
theorem z6b {T:Type} {g:CV->Option T}:∀ {l:List CV} {ys:List T},mapC g l=some ys->ys.length=l.length
 | [],ys,h=>by simp only [mapC,aa] at h;subst h;rfl
 | w::l,ys,h=>by
  simp only [mapC] at h
  split at h
  ·rename_i y0 ys0 g1 g2
   simp only [aa] at h
   subst h
   simp [z6b g2]
  ·cases h
def numsV (v:CV):Option (List Int):=(listV v).bind (mapC numV)
noncomputable def resNums (v:CV):D:=match numsV v with
 | some l=>dInts l
 | none=>mkE 310
theorem z5d {h:List Obj} {sp:Spare} {n sz m:Nat} (e:m=n*sz):RoomS (killS sp h++[.tok m sz]) (.tok h.length) n sz:=by
 have e2:=z42 (sp:=sp) (h:=h)
 exact .inr ⟨h.length,rfl,by simp [At,e2,e]⟩
theorem zra {l:List Int} {new:List D} (h:l.length+new.length<=1000000):appOk E 2 (l.map dI) new:=by
 refine ⟨?_,?_,?_,?_⟩
 all_goals simp [maxBytes]
 ·omega
 ·unfold fitsE
  rw [aw]
  intro x hx
  obtain ⟨n,_,rfl⟩:=aT.1 hx
  rfl
theorem zp7 {h:List Obj} {sp:Spare} {l:List Int} {y:Int} (hl:l.length<=900000) (R:RoomS h sp l.length 1) :
  app0 E h h.length 6 6 (.imm sp (l.map dI)) (.imm .exact [dI y])=some (.imm (.tok h.length) ((l++[y]).map dI),killS sp h++[.tok (l.length+1) 1]):=by
 have e:=z6l (hp:=h) (id:=h.length) (t:=6) (e:=2) (sz:=1) (sp:=sp) (sp':=.exact) (els:=l.map dI) (new:=[dI y]) rfl rfl rfl (zra (by simp;omega)) (by rw [cK];exact R)
 rw [e,dM]
 have e2:addO (killS sp h) h.length (.tok (((l.map dI).length+[dI y].length)*1) 1)=killS sp h++[.tok (l.length+1) 1]:=by
  unfold addO;rw [if_neg (by rw [z42];omega)];simp
 rw [e2];rfl

theorem q293 (v:CV) (hn:nst v<=17) (hlen:∀ k n s l,v=.mk k n s l->l.length<=900000):markR (runS E (dL E) 293 [dV v,.fn 294 []] [])=some (resNums v):=by
 obtain ⟨k,n,s,l⟩:=v
 have hlen:=hlen _ _ _ _ rfl
 have hz:∀ h:List Obj,frzL (frz h 39) (l.map dV)=some (l.map dV):=fun h=>zn fun v hv=>zh 16 v (by rw [nst] at hn;have:=z28 hv;omega) 39 (by omega)
 have hz1:∀ h:List Obj,frzL (frz h 38) (l.map dV)=some (l.map dV):=fun h=>zn fun v hv=>zh 16 v (by rw [nst] at hn;have:=z28 hv;omega) 38 (by omega)
 have e1:=q273 k n s l (-1) (hz [])
 unfold resNums
 by_cases h3:k=3
 ·subst h3
  rw [show numsV (.mk 3 n s l)=mapC numV l from rfl]
  unfold resParts at e1
  rw [if_pos ⟨rfl,.inl (by decide)⟩] at e1
  rw [z9] at e1 ⊢
  have fv:frz [] 40 (.agg [dI 3,dI n,.str s,.imm .none (l.map dV)])=some (.agg [dI 3,dI n,.str s,.imm .none (l.map dV)]):=by
   simp only [z8,z19,z1n,zu,z18,z7,z1f,af,hz1]
  refine z1l c293 (by simp) ?_
  conv in t293=>reduce;dsimp [ah]
  obtain ⟨L,hL⟩:∃ L,L=l.map dV:=⟨_,rfl⟩
  have hLl:L.length=l.length:=by rw [hL];simp
  rw [<- hL] at e1 fv ⊢

  simp [t293,n293,e1,fv,-z8]
  have hw:∀ v ∈ l,nst v<=16:=fun v hv=>by rw [nst] at hn;have:=z28 hv;omega
  refine z2x l.length (fun i env h=>∃ (x4 x8 x9 x10 x11 x12:D) (sp:Spare) (ys:List Int),env=[.agg [dI 3,dI n,.str s,.imm .none L],.fn 294 [],.iptr [dI 3,dI n,.str s,.imm .none L],.imm sp (ys.map dI),x4,.imm .none L,dI L.length,dI i,x8,x9,x10,x11,x12]/\mapC numV (l.take i)=some ys/\RoomS h sp ys.length 1) 0 (by omega) ?_ ?_
  ·exact ⟨_,_,_,_,_,_,(.exact),[],rfl,rfl,.inl rfl⟩
  rintro i env h hi ⟨x4,x8,x9,x10,x11,x12,sp,ys,rfl,hys,hR⟩
  have hyl:ys.length=i:=by rw [z6b hys,bu];omega
  by_cases hlt:i<l.length
  ·have hltL:i<L.length:=by omega
   have hup:=z1b hlt (by omega)
   have hget:L[i]=dV l[i]:=by simp [hL]
   have hnw:=hw _ (aP hlt)
   have hzw:=zh (hp:=[]) 16 l[i] hnw 40 (by omega)
   have hmem:=aP hlt
   have htk:l.take (i+1)=l.take i++[l[i]]:=aY hlt
   obtain ⟨w,hwv⟩:∃ w,w=l[i]:=⟨_,rfl⟩
   rw [<- hwv] at hget hnw hzw hmem htk
   obtain ⟨k',n',s',l'⟩:=w
   have e2:=q294 k' n' s' l'
   rw [z9] at hget hzw e2
   generalize l'.map dV=L' at *
   by_cases h1:k'=1
   ·have hnum:numV (.mk k' n' s' l')=some n':=by simp [numV,h1]
    rw [if_pos h1] at e2
    obtain ⟨h1',hh1⟩:∃ h1',h1'=h++[Obj.cells [dI k',dI n',.str s',.imm .none L']]:=⟨_,rfl⟩
    have hR1:RoomS h1' sp ys.length 1:=by rw [hh1];exact hR.app
    have ap:=zp7 (y:=n') (by omega) hR1
    have hl1:h1'.length=h.length+1:=by rw [hh1];simp
    have a1':At h1' h.length (.cells [dI k',dI n',.str s',.imm .none L']):=by rw [hh1];simp [At]
    simp [hltL,hlt,hup,hget,<- hh1,↓a1'.eq,hzw,e2,ap,-z8,-zp,-zg]
    exact ⟨_,_,_,_,_,_,.tok h1'.length,ys++[n'],⟨⟨rfl,by simp⟩,rfl,rfl,rfl,rfl,rfl,rfl⟩,by rw [htk];exact z51 hys hnum,by rw [aN];exact z5d (by simp)⟩
   ·have hnum:numV (.mk k' n' s' l')=none:=by simp [numV,h1]
    rw [if_neg h1] at e2
    have hno:=z52 hmem hnum
    simp [hltL,hlt,hup,hget,hzw,e2,-z8,panX,aJ,RetM,hno]
  ·have:i=l.length:=by omega
   subst this
   rw [bp] at hys
   simp [hLl,hys,RetM]
 ·have hno:numsV (.mk k n s l)=none:=by simp [numsV,listV,h3]
  rw [hno]
  unfold resParts at e1
  rw [if_neg (fun h=>h3 h.1)] at e1
  have fv:frz [] 40 (.agg [dI k,dI n,.str s,.imm .none (l.map dV)])=some (.agg [dI k,dI n,.str s,.imm .none (l.map dV)]):=by
   simp only [z8,z19,z1n,zu,z18,z7,z1f,af,hz1]
  rw [z9] at e1 ⊢
  generalize l.map dV=L at *
  refine z1l c293 (by simp) ?_
  conv in t293=>reduce;dsimp [ah]
  simp [t293,n293,e1,fv,-z8,panX,aJ,RetM]

theorem q274 (v:CV) (hn:nst v<=17) (hlen:∀ k n s l,v=.mk k n s l->l.length<=900000):markR (runS E (dL E) 274 [dV v] [])=some (resNums v):=by
 have e1:=q293 v hn hlen
 have hz:=zh (hp:=[]) 17 v hn 40 (by omega)
 obtain ⟨k,n,s,l⟩:=v
 rw [z9] at e1 hz ⊢
 generalize hL:l.map dV=L at *
 unfold resNums at e1 ⊢
 cases hv:numsV (.mk k n s l) with
 | some ys=>
  rw [hv] at e1
  refine z1l c274 (by simp) ?_
  conv in t274=>reduce;dsimp [ah]
  simp [t274,n274,e1,hz,-z8,RetM]
 | none=>
  rw [hv] at e1
  refine z1l c274 (by simp) ?_
  conv in t274=>reduce;dsimp [ah]
  simp [t274,n274,e1,hz,-z8,panX,aJ,RetM]
def multV (v:CV):Option (List (List Int)):=(listV v).bind (mapC numsV)
noncomputable def resMult (v:CV):D:=match multV v with
 | some l=>.imm .none (l.map dInts)
 | none=>mkE 310
theorem zou {l:List (List Int)} {new:List D} (h:l.length+new.length<=1000000):appOk E 6 (l.map dInts) new:=by
 refine ⟨?_,?_,?_,?_⟩
 all_goals simp [maxBytes]
 ·omega
 ·unfold fitsE
  rw [aw]
  intro x hx
  obtain ⟨n,_,rfl⟩:=aT.1 hx
  rfl
theorem zlz {h:List Obj} {sp:Spare} {l:List (List Int)} {y:List Int} (hl:l.length<=900000) (R:RoomS h sp l.length 1) :
  app0 E h h.length 9 9 (.imm sp (l.map dInts)) (.imm .exact [dInts y])=some (.imm (.tok h.length) ((l++[y]).map dInts),killS sp h++[.tok (l.length+1) 1]):=by
 have e:=z6l (hp:=h) (id:=h.length) (t:=9) (e:=6) (sz:=1) (sp:=sp) (sp':=.exact) (els:=l.map dInts) (new:=[dInts y]) rfl rfl rfl (zou (by simp;omega)) (by rw [cK];exact R)
 rw [e,dM]
 have e2:addO (killS sp h) h.length (.tok (((l.map dInts).length+[dInts y].length)*1) 1)=killS sp h++[.tok (l.length+1) 1]:=by
  unfold addO;rw [if_neg (by rw [z42];omega)];simp
 rw [e2];rfl

theorem q295 (v:CV) (hn:nst v<=17) (hlen:∀ k n s l,v=.mk k n s l->l.length<=900000 /\ ∀ w ∈ l,∀ k' n' s' l',w=.mk k' n' s' l'->l'.length<=900000):markR (runS E (dL E) 295 [dV v,.fn 274 []] [])=some (resMult v):=by
 obtain ⟨k,n,s,l⟩:=v
 obtain ⟨hlen,hsub⟩:=hlen _ _ _ _ rfl
 have hz:∀ h:List Obj,frzL (frz h 39) (l.map dV)=some (l.map dV):=fun h=>zn fun v hv=>zh 16 v (by rw [nst] at hn;have:=z28 hv;omega) 39 (by omega)
 have hz1:∀ h:List Obj,frzL (frz h 38) (l.map dV)=some (l.map dV):=fun h=>zn fun v hv=>zh 16 v (by rw [nst] at hn;have:=z28 hv;omega) 38 (by omega)
 have e1:=q273 k n s l (-1) (hz [])
 unfold resMult
 by_cases h3:k=3
 ·subst h3
  rw [show multV (.mk 3 n s l)=mapC numsV l from rfl]
  unfold resParts at e1
  rw [if_pos ⟨rfl,.inl (by decide)⟩] at e1
  rw [z9] at e1 ⊢
  have fv:frz [] 40 (.agg [dI 3,dI n,.str s,.imm .none (l.map dV)])=some (.agg [dI 3,dI n,.str s,.imm .none (l.map dV)]):=by
   simp only [z8,z19,z1n,zu,z18,z7,z1f,af,hz1]
  refine z1l c295 (by simp) ?_
  conv in t295=>reduce;dsimp [ah]
  obtain ⟨L,hL⟩:∃ L,L=l.map dV:=⟨_,rfl⟩
  have hLl:L.length=l.length:=by rw [hL];simp
  rw [<- hL] at e1 fv ⊢

  simp [t295,n295,e1,fv,-z8]
  have hw:∀ v ∈ l,nst v<=16:=fun v hv=>by rw [nst] at hn;have:=z28 hv;omega
  refine z2x l.length (fun i env h=>∃ (x4 x8 x9 x10 x11 x12:D) (sp:Spare) (ys:List (List Int)),env=[.agg [dI 3,dI n,.str s,.imm .none L],.fn 274 [],.iptr [dI 3,dI n,.str s,.imm .none L],.imm sp (ys.map dInts),x4,.imm .none L,dI L.length,dI i,x8,x9,x10,x11,x12]/\mapC numsV (l.take i)=some ys/\RoomS h sp ys.length 1) 0 (by omega) ?_ ?_
  ·exact ⟨_,_,_,_,_,_,(.exact),[],rfl,rfl,.inl rfl⟩
  rintro i env h hi ⟨x4,x8,x9,x10,x11,x12,sp,ys,rfl,hys,hR⟩
  have hyl:ys.length=i:=by rw [z6b hys,bu];omega
  by_cases hlt:i<l.length
  ·have hltL:i<L.length:=by omega
   have hup:=z1b hlt (by omega)
   have hget:L[i]=dV l[i]:=by simp [hL]
   have hnw:=hw _ (aP hlt)
   have hzw:=zh (hp:=[]) 16 l[i] hnw 40 (by omega)
   have hmem:=aP hlt
   have htk:l.take (i+1)=l.take i++[l[i]]:=aY hlt
   obtain ⟨w,hwv⟩:∃ w,w=l[i]:=⟨_,rfl⟩
   rw [<- hwv] at hget hnw hzw hmem htk
   obtain ⟨k',n',s',l'⟩:=w
   have e2:=q274 (.mk k' n' s' l') (by omega) (fun _ _ _ _ e=>by cases e;exact hsub _ hmem _ _ _ _ rfl)
   rw [z9] at hget hzw e2
   generalize hLL:l'.map dV=L' at *
   cases hnum:numsV (.mk k' n' s' l') with
   | some y=>
    rw [show resNums (.mk k' n' s' l')=dInts y from by unfold resNums;rw [hnum]] at e2
    obtain ⟨h1',hh1⟩:∃ h1',h1'=h++[Obj.cells [dI k',dI n',.str s',.imm .none L']]:=⟨_,rfl⟩
    have hR1:RoomS h1' sp ys.length 1:=by rw [hh1];exact hR.app
    have ap:=zlz (y:=y) (by omega) hR1
    have hl1:h1'.length=h.length+1:=by rw [hh1];simp
    have a1':At h1' h.length (.cells [dI k',dI n',.str s',.imm .none L']):=by rw [hh1];simp [At]
    have mkd:∀ a b:Prop,markP (dInts y) a b=b:=fun _ _=>z3i rfl
    simp [hltL,hlt,hup,hget,<- hh1,↓a1'.eq,hzw,e2,ap,-z8,-zp,-zg]
    exact ⟨_,_,_,_,_,_,.tok h1'.length,ys++[y],⟨⟨rfl,by simp⟩,rfl,rfl,rfl,rfl,rfl,rfl⟩,by rw [htk];exact z51 hys hnum,by rw [aN];exact z5d (by simp;try omega)⟩
   | none=>
    rw [show resNums (.mk k' n' s' l')=mkE 310 from by unfold resNums;rw [hnum]] at e2
    have hno:=z52 hmem hnum
    simp [hltL,hlt,hup,hget,hzw,e2,-z8,panX,aJ,RetM,hno]
  ·have:i=l.length:=by omega
   subst this
   rw [bp] at hys
   simp [hLl,hys,RetM]
 ·have hno:multV (.mk k n s l)=none:=by simp [multV,listV,h3]
  rw [hno]
  unfold resParts at e1
  rw [if_neg (fun h=>h3 h.1)] at e1
  have fv:frz [] 40 (.agg [dI k,dI n,.str s,.imm .none (l.map dV)])=some (.agg [dI k,dI n,.str s,.imm .none (l.map dV)]):=by
   simp only [z8,z19,z1n,zu,z18,z7,z1f,af,hz1]
  rw [z9] at e1 ⊢
  generalize l.map dV=L at *
  refine z1l c295 (by simp) ?_
  conv in t295=>reduce;dsimp [ah]
  simp [t295,n295,e1,fv,-z8,panX,aJ,RetM]

attribute [local congr] z4y

@[simp] theorem zsg {a b:Prop}:markP .undef a b=b:=z3i rfl
def leafV (v:CV):Option Leaf:=match listV v with
 | some [a,b,c]=>(match numsV a,numV b,multV c with
  | some x,some y,some z=>some ⟨x,y,z⟩
  | _,_,_=>none)
 | _=>none
noncomputable def resLeaf (v:CV):D:=match leafV v with
 | some l=>dLeaf l
 | none=>mkE 310

structure SmV (v:CV):Prop where
 n:nst v<=17
 a:∀ k n s l,v=.mk k n s l->l.length<=900000
 b:∀ k n s l,v=.mk k n s l->∀ w ∈ l,∀ k' n' s' l',w=.mk k' n' s' l'->l'.length<=900000

theorem zbe (v:CV) (sv:SmV v) {cP:Nat->List D->Option D}:disP E cP (runS E (dL E)) 274 [dV v]=some (match numsV v with | some l=>dInts l | none=>.tup [.nilfn,.agg [dI 310]]):=by
 have e:=q274 v sv.n sv.a
 unfold resNums at e
 cases h:numsV v with
 | some l=>rw [h] at e;exact zfr rfl e rfl (fun _ e=>by cases e)
 | none=>rw [h] at e;exact zfs rfl e
theorem zqp (v:CV) {cP:Nat->List D->Option D}:disP E cP (runS E (dL E)) 294 [dV v]=some (match numV v with | some l=>dI l | none=>.tup [.nilfn,.agg [dI 310]]):=by
 obtain ⟨k,n,s,l⟩:=v
 have e:=q294 k n s l
 by_cases h:k=1
 ·rw [if_pos h] at e
  rw [show numV (.mk k n s l)=some n from by simp [numV,h]]
  exact zfr rfl e rfl (fun _ e=>by cases e)
 ·rw [if_neg h] at e
  rw [show numV (.mk k n s l)=none from by simp [numV,h]]
  exact zfs rfl e
theorem zo1 (v:CV) (sv:SmV v) {cP:Nat->List D->Option D}:disP E cP (runS E (dL E)) 295 [dV v,.fn 274 []]=some (match multV v with | some l=>.imm .none (l.map dInts) | none=>.tup [.nilfn,.agg [dI 310]]):=by
 have e:=q295 v sv.n (fun k n s l h=>⟨sv.a k n s l h,sv.b k n s l h⟩)
 unfold resMult at e
 cases h:multV v with
 | some l=>rw [h] at e;exact zfr rfl e rfl (fun _ e=>by cases e)
 | none=>rw [h] at e;exact zfs rfl e

theorem zaq {v:CV} {l:List Int} (sv:SmV v) (h:numsV v=some l):runP E (dL E) 274 [dV v]=some (dInts l):=by
 have e:=q274 v sv.n sv.a
 unfold resNums at e
 rw [h] at e
 exact zf0 e rfl rfl
theorem zpz {v:CV} {n:Int} (h:numV v=some n):runP E (dL E) 294 [dV v]=some (dI n):=by
 obtain ⟨k,m,s,l⟩:=v
 have e:=q294 k m s l
 by_cases hk:k=1
 ·rw [if_pos hk] at e
  simp [numV,hk] at h
  rw [<- h]
  exact zf0 e rfl rfl
 ·simp [numV,hk] at h
theorem zms {v:CV} {l:List (List Int)} (sv:SmV v) (h:multV v=some l):runP E (dL E) 295 [dV v,.fn 274 []]=some (.imm .none (l.map dInts)):=by
 have e:=q295 v sv.n (fun k n s l h=>⟨sv.a k n s l h,sv.b k n s l h⟩)
 unfold resMult at e
 rw [h] at e
 exact zf0 e rfl rfl

theorem q276 (v:CV) (sv:SmV v) (hs:∀ k n s l,v=.mk k n s l->∀ w ∈ l,SmV w):markR (runS E (dL E) 276 [dV v] [])=some (resLeaf v):=by
 obtain ⟨k,n,s,l⟩:=v
 have hsm:∀ w ∈ l,SmV w:=hs _ _ _ _ rfl
 clear hs
 have hz:frzL (frz [] 39) (l.map dV)=some (l.map dV):=zn fun v hv=>zh 16 v (by have:=sv.n;rw [nst] at this;have:=z28 hv;omega) 39 (by omega)
 have hz1:frzL (frz [] 38) (l.map dV)=some (l.map dV):=zn fun v hv=>zh 16 v (by have:=sv.n;rw [nst] at this;have:=z28 hv;omega) 38 (by omega)
 have e1:=q273 k n s l 3 hz
 have fv:frz [] 40 (.agg [dI k,dI n,.str s,.imm .none (l.map dV)])=some (.agg [dI k,dI n,.str s,.imm .none (l.map dV)]):=by
  simp only [z8,z19,z1n,zu,z18,z7,z1f,af,hz1]
 unfold resParts at e1
 by_cases h3:k=3/\((3:Int)<0\/(l.length:Int)=3)
 ·rw [if_pos h3] at e1
  obtain ⟨rfl,hl⟩:=h3
  have hl:l.length=3:=by omega
  match l,hl with
  | [a,b,c],_=>
   have sa:=hsm a (by simp)
   have sb:=hsm b (by simp)
   have sc:=hsm c (by simp)
   have da:=zbe a sa (cP:=runP E (dL E))
   have db:=zqp b (cP:=runP E (dL E))
   have dc:=zo1 c sc (cP:=runP E (dL E))
   have za:=zh (hp:=[]) 17 a sa.n 40 (by omega)
   have zb:=zh (hp:=[]) 17 b sb.n 40 (by omega)
   have zc:=zh (hp:=[]) 17 c sc.n 40 (by omega)
   unfold resLeaf leafV
   rw [show listV (.mk 3 n s [a,b,c])=some [a,b,c] from rfl]
   simp only []
   cases ha:numsV a with
   | some x=>
    cases hb:numV b with
    | some y=>
     cases hc:multV c with
     | some z=>
      have ra:=zaq sa ha
      have rb:=zpz hb
      have rc:=zms sc hc
      rw [ha] at da
      rw [hb] at db
      rw [hc] at dc
      obtain ⟨ka,na,ta,la⟩:=a
      obtain ⟨kb,nb,tb,lb⟩:=b
      obtain ⟨kc,nc,tc,lc⟩:=c
      rw [z9] at e1 ⊢
      simp only [ax,aG,z9] at e1 fv da db dc za zb zc ra rb rc ⊢
      generalize la.map dV=La at *
      generalize lb.map dV=Lb at *
      generalize lc.map dV=Lc at *
      refine z1l c276 (by simp) ?_
      conv in t276=>reduce;dsimp [ah]
      simp [t276,n276,e1,fv,da,db,dc,za,zb,zc,ra,rb,rc,-z8,wPr,z1i,z1e,zr,z11,disE,sameP,eN,RetM,z1h,panX,aJ]
      rw [z8]
      simp only [z19,z1n,z7,z18,z94,z95,af,z1f]
     | none=>
      rw [ha] at da
      rw [hb] at db
      rw [hc] at dc
      obtain ⟨ka,na,ta,la⟩:=a
      obtain ⟨kb,nb,tb,lb⟩:=b
      obtain ⟨kc,nc,tc,lc⟩:=c
      rw [z9] at e1 ⊢
      simp only [ax,aG,z9] at e1 fv da db dc za zb zc  ⊢
      generalize la.map dV=La at *
      generalize lb.map dV=Lb at *
      generalize lc.map dV=Lc at *
      refine z1l c276 (by simp) ?_
      conv in t276=>reduce;dsimp [ah]
      simp [t276,n276,e1,fv,da,db,dc,za,zb,zc,-z8,wPr,z1i,z1e,zr,z11,disE,sameP,eN,RetM,z1h,panX,aJ]
    | none=>
     cases hc:multV c with
     | some z=>
      rw [ha] at da
      rw [hb] at db
      rw [hc] at dc
      obtain ⟨ka,na,ta,la⟩:=a
      obtain ⟨kb,nb,tb,lb⟩:=b
      obtain ⟨kc,nc,tc,lc⟩:=c
      rw [z9] at e1 ⊢
      simp only [ax,aG,z9] at e1 fv da db dc za zb zc  ⊢
      generalize la.map dV=La at *
      generalize lb.map dV=Lb at *
      generalize lc.map dV=Lc at *
      refine z1l c276 (by simp) ?_
      conv in t276=>reduce;dsimp [ah]
      simp [t276,n276,e1,fv,da,db,dc,za,zb,zc,-z8,wPr,z1i,z1e,zr,z11,disE,sameP,eN,RetM,z1h,panX,aJ]
     | none=>
      rw [ha] at da
      rw [hb] at db
      rw [hc] at dc
      obtain ⟨ka,na,ta,la⟩:=a
      obtain ⟨kb,nb,tb,lb⟩:=b
      obtain ⟨kc,nc,tc,lc⟩:=c
      rw [z9] at e1 ⊢
      simp only [ax,aG,z9] at e1 fv da db dc za zb zc  ⊢
      generalize la.map dV=La at *
      generalize lb.map dV=Lb at *
      generalize lc.map dV=Lc at *
      refine z1l c276 (by simp) ?_
      conv in t276=>reduce;dsimp [ah]
      simp [t276,n276,e1,fv,da,db,dc,za,zb,zc,-z8,wPr,z1i,z1e,zr,z11,disE,sameP,eN,RetM,z1h,panX,aJ]
   | none=>
    cases hb:numV b with
    | some y=>
     cases hc:multV c with
     | some z=>
      rw [ha] at da
      rw [hb] at db
      rw [hc] at dc
      obtain ⟨ka,na,ta,la⟩:=a
      obtain ⟨kb,nb,tb,lb⟩:=b
      obtain ⟨kc,nc,tc,lc⟩:=c
      rw [z9] at e1 ⊢
      simp only [ax,aG,z9] at e1 fv da db dc za zb zc  ⊢
      generalize la.map dV=La at *
      generalize lb.map dV=Lb at *
      generalize lc.map dV=Lc at *
      refine z1l c276 (by simp) ?_
      conv in t276=>reduce;dsimp [ah]
      simp [t276,n276,e1,fv,da,db,dc,za,zb,zc,-z8,wPr,z1i,z1e,zr,z11,disE,sameP,eN,RetM,z1h,panX,aJ]
     | none=>
      rw [ha] at da
      rw [hb] at db
      rw [hc] at dc
      obtain ⟨ka,na,ta,la⟩:=a
      obtain ⟨kb,nb,tb,lb⟩:=b
      obtain ⟨kc,nc,tc,lc⟩:=c
      rw [z9] at e1 ⊢
      simp only [ax,aG,z9] at e1 fv da db dc za zb zc  ⊢
      generalize la.map dV=La at *
      generalize lb.map dV=Lb at *
      generalize lc.map dV=Lc at *
      refine z1l c276 (by simp) ?_
      conv in t276=>reduce;dsimp [ah]
      simp [t276,n276,e1,fv,da,db,dc,za,zb,zc,-z8,wPr,z1i,z1e,zr,z11,disE,sameP,eN,RetM,z1h,panX,aJ]
    | none=>
     cases hc:multV c with
     | some z=>
      rw [ha] at da
      rw [hb] at db
      rw [hc] at dc
      obtain ⟨ka,na,ta,la⟩:=a
      obtain ⟨kb,nb,tb,lb⟩:=b
      obtain ⟨kc,nc,tc,lc⟩:=c
      rw [z9] at e1 ⊢
      simp only [ax,aG,z9] at e1 fv da db dc za zb zc  ⊢
      generalize la.map dV=La at *
      generalize lb.map dV=Lb at *
      generalize lc.map dV=Lc at *
      refine z1l c276 (by simp) ?_
      conv in t276=>reduce;dsimp [ah]
      simp [t276,n276,e1,fv,da,db,dc,za,zb,zc,-z8,wPr,z1i,z1e,zr,z11,disE,sameP,eN,RetM,z1h,panX,aJ]
     | none=>
      rw [ha] at da
      rw [hb] at db
      rw [hc] at dc
      obtain ⟨ka,na,ta,la⟩:=a
      obtain ⟨kb,nb,tb,lb⟩:=b
      obtain ⟨kc,nc,tc,lc⟩:=c
      rw [z9] at e1 ⊢
      simp only [ax,aG,z9] at e1 fv da db dc za zb zc  ⊢
      generalize la.map dV=La at *
      generalize lb.map dV=Lb at *
      generalize lc.map dV=Lc at *
      refine z1l c276 (by simp) ?_
      conv in t276=>reduce;dsimp [ah]
      simp [t276,n276,e1,fv,da,db,dc,za,zb,zc,-z8,wPr,z1i,z1e,zr,z11,disE,sameP,eN,RetM,z1h,panX,aJ]
 ·rw [if_neg h3] at e1
  have hno:leafV (.mk k n s l)=none:=by
   unfold leafV
   rw [show listV (.mk k n s l)=if k=3 then some l else none from rfl]
   by_cases hk:k=3
   ·rw [if_pos hk]
    match l,h3 with
    | [a,b,c],h3=>exact absurd ⟨hk,.inr rfl⟩ h3
    | [],_=>rfl
    | [_],_=>rfl
    | [_,_],_=>rfl
    | _::_::_::_::_,_=>rfl
   ·rw [if_neg hk]
  unfold resLeaf
  rw [hno]
  rw [z9] at e1 ⊢
  generalize l.map dV=L at *
  refine z1l c276 (by simp) ?_
  conv in t276=>reduce;dsimp [ah]
  simp [t276,n276,e1,fv,-z8,panX,aJ,RetM]

def leavesV (v:CV):Option (List Leaf):=(listV v).bind (mapC leafV)
noncomputable def resLeaves (v:CV):D:=match leavesV v with
 | some l=>.imm .none (l.map dLeaf)
 | none=>mkE 310
theorem zot {l:List Leaf} {new:List D} (h:l.length+new.length<=1000000):appOk E 32 (l.map dLeaf) new:=by
 refine ⟨?_,?_,?_,?_⟩
 all_goals simp [maxBytes]
 ·omega
 ·unfold fitsE
  rw [aw]
  intro x hx
  obtain ⟨n,_,rfl⟩:=aT.1 hx
  rfl
theorem zly {h:List Obj} {sp:Spare} {l:List Leaf} {y:Leaf} (hl:l.length<=900000) (R:RoomS h sp l.length 3) :
  app0 E h h.length 31 31 (.imm sp (l.map dLeaf)) (.imm .exact [dLeaf y])=some (.imm (.tok h.length) ((l++[y]).map dLeaf),killS sp h++[.tok ((l.length+1)*3) 3]):=by
 have e:=z6l (hp:=h) (id:=h.length) (t:=31) (e:=32) (sz:=3) (sp:=sp) (sp':=.exact) (els:=l.map dLeaf) (new:=[dLeaf y]) rfl rfl rfl (zot (by simp;omega)) (by rw [cK];exact R)
 rw [e,dM]
 have e2:addO (killS sp h) h.length (.tok (((l.map dLeaf).length+[dLeaf y].length)*3) 3)=killS sp h++[.tok ((l.length+1)*3) 3]:=by
  unfold addO;rw [if_neg (by rw [z42];omega)];simp
 rw [e2];rfl

theorem q275 (v:CV) (hn:nst v<=17) (hlen:∀ k n s l,v=.mk k n s l->l.length<=900000 /\ ∀ w ∈ l,SmV w /\ ∀ k' n' s' l',w=.mk k' n' s' l'->∀ x ∈ l',SmV x):markR (runS E (dL E) 275 [dV v,.fn 276 []] [])=some (resLeaves v):=by
 obtain ⟨k,n,s,l⟩:=v
 obtain ⟨hlen,hsub⟩:=hlen _ _ _ _ rfl
 have hz:∀ h:List Obj,frzL (frz h 39) (l.map dV)=some (l.map dV):=fun h=>zn fun v hv=>zh 16 v (by rw [nst] at hn;have:=z28 hv;omega) 39 (by omega)
 have hz1:∀ h:List Obj,frzL (frz h 38) (l.map dV)=some (l.map dV):=fun h=>zn fun v hv=>zh 16 v (by rw [nst] at hn;have:=z28 hv;omega) 38 (by omega)
 have e1:=q273 k n s l (-1) (hz [])
 unfold resLeaves
 by_cases h3:k=3
 ·subst h3
  rw [show leavesV (.mk 3 n s l)=mapC leafV l from rfl]
  unfold resParts at e1
  rw [if_pos ⟨rfl,.inl (by decide)⟩] at e1
  rw [z9] at e1 ⊢
  have fv:frz [] 40 (.agg [dI 3,dI n,.str s,.imm .none (l.map dV)])=some (.agg [dI 3,dI n,.str s,.imm .none (l.map dV)]):=by
   simp only [z8,z19,z1n,zu,z18,z7,z1f,af,hz1]
  refine z1l c275 (by simp) ?_
  conv in t275=>reduce;dsimp [ah]
  obtain ⟨L,hL⟩:∃ L,L=l.map dV:=⟨_,rfl⟩
  have hLl:L.length=l.length:=by rw [hL];simp
  rw [<- hL] at e1 fv ⊢

  simp [t275,n275,e1,fv,-z8]
  have hw:∀ v ∈ l,nst v<=16:=fun v hv=>by rw [nst] at hn;have:=z28 hv;omega
  refine z2x l.length (fun i env h=>∃ (x4 x8 x9 x10 x11 x12:D) (sp:Spare) (ys:List Leaf),env=[.agg [dI 3,dI n,.str s,.imm .none L],.fn 276 [],.iptr [dI 3,dI n,.str s,.imm .none L],.imm sp (ys.map dLeaf),x4,.imm .none L,dI L.length,dI i,x8,x9,x10,x11,x12]/\mapC leafV (l.take i)=some ys/\RoomS h sp ys.length 3) 0 (by omega) ?_ ?_
  ·exact ⟨_,_,_,_,_,_,(.exact),[],rfl,rfl,.inl rfl⟩
  rintro i env h hi ⟨x4,x8,x9,x10,x11,x12,sp,ys,rfl,hys,hR⟩
  have hyl:ys.length=i:=by rw [z6b hys,bu];omega
  by_cases hlt:i<l.length
  ·have hltL:i<L.length:=by omega
   have hup:=z1b hlt (by omega)
   have hget:L[i]=dV l[i]:=by simp [hL]
   have hnw:=hw _ (aP hlt)
   have hzw:=zh (hp:=[]) 16 l[i] hnw 40 (by omega)
   have hmem:=aP hlt
   have htk:l.take (i+1)=l.take i++[l[i]]:=aY hlt
   obtain ⟨w,hwv⟩:∃ w,w=l[i]:=⟨_,rfl⟩
   rw [<- hwv] at hget hnw hzw hmem htk
   obtain ⟨k',n',s',l'⟩:=w
   have e2:=q276 (.mk k' n' s' l') (hsub _ hmem).1 (fun k n s l e=>(hsub _ hmem).2 k n s l e)
   rw [z9] at hget hzw e2
   generalize hLL:l'.map dV=L' at *
   cases hnum:leafV (.mk k' n' s' l') with
   | some y=>
    rw [show resLeaf (.mk k' n' s' l')=dLeaf y from by unfold resLeaf;rw [hnum]] at e2
    obtain ⟨h1',hh1⟩:∃ h1',h1'=h++[Obj.cells [dI k',dI n',.str s',.imm .none L']]:=⟨_,rfl⟩
    have hR1:RoomS h1' sp ys.length 3:=by rw [hh1];exact hR.app
    have ap:=zly (y:=y) (by omega) hR1
    have hl1:h1'.length=h.length+1:=by rw [hh1];simp
    have a1':At h1' h.length (.cells [dI k',dI n',.str s',.imm .none L']):=by rw [hh1];simp [At]
    have mkd:∀ a b:Prop,markP (dLeaf y) a b=b:=fun _ _=>z3i rfl
    simp [hltL,hlt,hup,hget,<- hh1,↓a1'.eq,hzw,e2,ap,-z8,-zp,-zg]
    exact ⟨_,_,_,_,_,_,.tok h1'.length,ys++[y],⟨⟨rfl,by simp⟩,rfl,rfl,rfl,rfl,rfl,rfl⟩,by rw [htk];exact z51 hys hnum,by rw [aN];exact z5d (by simp;try omega)⟩
   | none=>
    rw [show resLeaf (.mk k' n' s' l')=mkE 310 from by unfold resLeaf;rw [hnum]] at e2
    have hno:=z52 hmem hnum
    simp [hltL,hlt,hup,hget,hzw,e2,-z8,panX,aJ,RetM,hno]
  ·have:i=l.length:=by omega
   subst this
   rw [bp] at hys
   simp [hLl,hys,RetM]
   exact z29 (n:=35)
 ·have hno:leavesV (.mk k n s l)=none:=by simp [leavesV,listV,h3]
  rw [hno]
  unfold resParts at e1
  rw [if_neg (fun h=>h3 h.1)] at e1
  have fv:frz [] 40 (.agg [dI k,dI n,.str s,.imm .none (l.map dV)])=some (.agg [dI k,dI n,.str s,.imm .none (l.map dV)]):=by
   simp only [z8,z19,z1n,zu,z18,z7,z1f,af,hz1]
  rw [z9] at e1 ⊢
  generalize l.map dV=L at *
  refine z1l c275 (by simp) ?_
  conv in t275=>reduce;dsimp [ah]
  simp [t275,n275,e1,fv,-z8,panX,aJ,RetM]

attribute [local congr] z4y

def certOf (v:CV):Option Cert:=match listV v with
 | some [a,b,c]=>(match numsV a,numsV b,leavesV c with
  | some x,some y,some z=>some ⟨x,y,z⟩
  | _,_,_=>none)
 | _=>none

structure OkV (v:CV):Prop where
 f:fmd v
 d:dep v<=16
 n:(enc v).length<=900000
theorem OkV.sub {k n:Int} {s:List UInt8} {l:List CV} (h:OkV (.mk k n s l)) {w:CV} (hw:w ∈ l):OkV w:=by
 have hf:=h.f
 rw [fmd] at hf
 rcases hf with ⟨_,_,_,rfl⟩ | ⟨_,_,rfl⟩ | ⟨rfl,rfl,rfl,hl⟩
 ·simp at hw
 ·simp at hw
 ·have hn:=h.n
  have hd:=h.d
  rw [dep,if_pos rfl] at hd
  rw [enc,if_neg (by decide),if_neg (by decide)] at hn
  have:=zbd hw
  have:=z71 hw
  exact ⟨z5a hl w hw,by omega,by simp at hn;omega⟩
theorem OkV.len {k n:Int} {s:List UInt8} {l:List CV} (h:OkV (.mk k n s l)):l.length<=900000:=by
 have hf:=h.f
 have hn:=h.n
 rw [fmd] at hf
 rcases hf with ⟨_,_,_,rfl⟩ | ⟨_,_,rfl⟩ | ⟨rfl,rfl,rfl,hl⟩
 ·simp
 ·simp
 ·rw [enc,if_neg (by decide),if_neg (by decide)] at hn
  have:=z5i l
  simp at hn;omega
theorem OkV.sm {v:CV} (h:OkV v):SmV v:=by
 refine ⟨zq0 v 16 h.f h.d,fun k n s l e=>?_,fun k n s l e w hw k' n' s' l' e'=>?_⟩
 ·subst e;exact h.len
 ·subst e;subst e';exact (h.sub hw).len

theorem za8 (v:CV) (ok:OkV v) {cP:Nat->List D->Option D}:disP E cP (runS E (dL E)) 275 [dV v,.fn 276 []]=some (match leavesV v with | some l=>.imm .none (l.map dLeaf) | none=>.tup [.nilfn,.agg [dI 310]]) /\ ∀ l,leavesV v=some l->runP E (dL E) 275 [dV v,.fn 276 []]=some (.imm .none (l.map dLeaf)):=by
 have e:=q275 v ok.sm.n (fun k n s l h=>by
  subst h
  exact ⟨ok.len,fun w hw=>⟨(ok.sub hw).sm,fun k' n' s' l' e x hx=>by subst e;exact ((ok.sub hw).sub hx).sm⟩⟩)
 unfold resLeaves at e
 cases h:leavesV v with
 | some l=>
  rw [h] at e
  refine ⟨zfr rfl e rfl (fun _ e=>by cases e),fun l' e'=>?_⟩
  cases e'
  exact zf0 e rfl rfl
 | none=>
  rw [h] at e
  exact ⟨zfs rfl e,fun l' e'=>by cases e'⟩

noncomputable def resDec (b:List UInt8):D:=match deco b with
 | none=>.tup [dCert cert0,dI 10]
 | some v=>(match certOf v with
  | some c=>.tup [dCert c,dI 0]
  | none=>.tup [dCert cert0,dI 310])

theorem r254 (b:List UInt8) (hl:b.length<=900000):runP E (dL E) 254 [dBy b]=some (resDec b):=by
 have e1:=r272 b hl
 have fb:∀ h n,frzL (frz h (n+1)) (b.map byteD)=some (b.map byteD):=fun h n=>z1p
 unfold resDec
 cases hd:deco b with
 | none=>
  have e2:=q228n 10 (by decide)
  simp only [decV,decE,hd,jR,z9,aG] at e1
  refine zi c254 (by simp) ?_
  conv in t254=>reduce;dsimp [ah]
  simp [t254,n254,e1,e2,fb,cert0]
 | some v=>
  show runP E (dL E) 254 [dBy b]=some (match certOf v with | some c=>.tup [dCert c,dI 0] | none=>.tup [dCert cert0,dI 310])
  have e2:=q228z
  simp only [decV,decE,hd,bD] at e1
  obtain ⟨hbe,hf,hdp⟩:=zbb hd
  have ok:OkV v:=⟨hf,hdp,by rw [<- hbe];exact hl⟩
  obtain ⟨k,n,s,l⟩:=v
  have hz:frzL (frz [] 39) (l.map dV)=some (l.map dV):=zn fun v hv=>zh 17 v (ok.sub hv).sm.n 39 (by omega)
  have hz1:frzL (frz [] 38) (l.map dV)=some (l.map dV):=zn fun v hv=>zh 17 v (ok.sub hv).sm.n 38 (by omega)
  have e3:=q273 k n s l 3 hz
  have fv:frz [] 40 (.agg [dI k,dI n,.str s,.imm .none (l.map dV)])=some (.agg [dI k,dI n,.str s,.imm .none (l.map dV)]):=by
   simp only [z8,z19,z1n,zu,z18,z7,z1f,af,hz1]
  rw [z9] at e1 e3
  unfold resParts at e3
  clear hbe hf hdp hd
  by_cases h3:k=3/\((3:Int)<0\/(l.length:Int)=3)
  ·rw [if_pos h3] at e3
   obtain ⟨rfl,hl3⟩:=h3
   have hl3:l.length=3:=by omega
   match l,hl3 with
   | [a,b0,c],_=>
    have oa:=ok.sub (w:=a) (by simp)
    have ob:=ok.sub (w:=b0) (by simp)
    have oc:=ok.sub (w:=c) (by simp)
    have da:=zbe a oa.sm (cP:=runP E (dL E))
    have db:=zbe b0 ob.sm (cP:=runP E (dL E))
    have dc:=(za8 c oc (cP:=runP E (dL E))).1
    have rc0:=(za8 c oc (cP:=runP E (dL E))).2
    have za:=zh (hp:=[]) 17 a oa.sm.n 40 (by omega)
    have zb:=zh (hp:=[]) 17 b0 ob.sm.n 40 (by omega)
    have zc:=zh (hp:=[]) 17 c oc.sm.n 40 (by omega)
    unfold certOf
    rw [show listV (.mk 3 n s [a,b0,c])=some [a,b0,c] from rfl]
    simp only []
    clear ok
    cases ha:numsV a with
    | some x=>
     cases hb:numsV b0 with
     | some y=>
      cases hc:leavesV c with
      | some z=>
       have ra:=zaq oa.sm ha
       have rb:=zaq ob.sm hb
       have rc:=rc0 z hc
       rw [ha] at da
       rw [hb] at db
       rw [hc] at dc
       clear rc0
       obtain ⟨ka,na,ta,la⟩:=a
       obtain ⟨kb,nb,tb,lb⟩:=b0
       obtain ⟨kc,nc,tc,lc⟩:=c
       simp only [ax,aG,z9] at e1 e3 fv da db dc za zb zc ra rb rc ⊢
       generalize la.map dV=La at *
       generalize lb.map dV=Lb at *
       generalize lc.map dV=Lc at *
       refine zi c254 (by simp) ?_
       conv in t254=>reduce;dsimp [ah]
       simp [t254,n254,e1,e2,e3,fb,fv,da,db,dc,za,zb,zc,ra,rb,rc,-z8,wPr,z1i,z1e,zr,z11,disE,sameP,eN,z1h]
       simp [z8,z29 (n:=33)]
      | none=>
       rw [ha] at da
       rw [hb] at db
       rw [hc] at dc
       obtain ⟨ka,na,ta,la⟩:=a
       obtain ⟨kb,nb,tb,lb⟩:=b0
       obtain ⟨kc,nc,tc,lc⟩:=c
       simp only [ax,aG,z9] at e1 e3 fv da db dc za zb zc  ⊢
       generalize la.map dV=La at *
       generalize lb.map dV=Lb at *
       generalize lc.map dV=Lc at *
       refine zi c254 (by simp) ?_
       conv in t254=>reduce;dsimp [ah]
       simp [t254,n254,e1,e2,e3,fb,fv,da,db,dc,za,zb,zc,-z8,wPr,z1i,z1e,zr,z11,disE,sameP,eN,z1h]
       simp [z8,cert0]
     | none=>
      rw [ha] at da
      rw [hb] at db
      cases hc:leavesV c with
      | some z=>
       rw [hc] at dc
       obtain ⟨ka,na,ta,la⟩:=a
       obtain ⟨kb,nb,tb,lb⟩:=b0
       obtain ⟨kc,nc,tc,lc⟩:=c
       simp only [ax,aG,z9] at e1 e3 fv da db dc za zb zc  ⊢
       generalize la.map dV=La at *
       generalize lb.map dV=Lb at *
       generalize lc.map dV=Lc at *
       refine zi c254 (by simp) ?_
       conv in t254=>reduce;dsimp [ah]
       simp [t254,n254,e1,e2,e3,fb,fv,da,db,dc,za,zb,zc,-z8,wPr,z1i,z1e,zr,z11,disE,sameP,eN,z1h]
       simp [z8,cert0]
      | none=>
       rw [hc] at dc
       obtain ⟨ka,na,ta,la⟩:=a
       obtain ⟨kb,nb,tb,lb⟩:=b0
       obtain ⟨kc,nc,tc,lc⟩:=c
       simp only [ax,aG,z9] at e1 e3 fv da db dc za zb zc  ⊢
       generalize la.map dV=La at *
       generalize lb.map dV=Lb at *
       generalize lc.map dV=Lc at *
       refine zi c254 (by simp) ?_
       conv in t254=>reduce;dsimp [ah]
       simp [t254,n254,e1,e2,e3,fb,fv,da,db,dc,za,zb,zc,-z8,wPr,z1i,z1e,zr,z11,disE,sameP,eN,z1h]
       simp [z8,cert0]
    | none=>
     rw [ha] at da
     cases hb:numsV b0 with
     | some y=>
      rw [hb] at db
      cases hc:leavesV c with
      | some z=>
       rw [hc] at dc
       obtain ⟨ka,na,ta,la⟩:=a
       obtain ⟨kb,nb,tb,lb⟩:=b0
       obtain ⟨kc,nc,tc,lc⟩:=c
       simp only [ax,aG,z9] at e1 e3 fv da db dc za zb zc  ⊢
       generalize la.map dV=La at *
       generalize lb.map dV=Lb at *
       generalize lc.map dV=Lc at *
       refine zi c254 (by simp) ?_
       conv in t254=>reduce;dsimp [ah]
       simp [t254,n254,e1,e2,e3,fb,fv,da,db,dc,za,zb,zc,-z8,wPr,z1i,z1e,zr,z11,disE,sameP,eN,z1h]
       simp [z8,cert0]
      | none=>
       rw [hc] at dc
       obtain ⟨ka,na,ta,la⟩:=a
       obtain ⟨kb,nb,tb,lb⟩:=b0
       obtain ⟨kc,nc,tc,lc⟩:=c
       simp only [ax,aG,z9] at e1 e3 fv da db dc za zb zc  ⊢
       generalize la.map dV=La at *
       generalize lb.map dV=Lb at *
       generalize lc.map dV=Lc at *
       refine zi c254 (by simp) ?_
       conv in t254=>reduce;dsimp [ah]
       simp [t254,n254,e1,e2,e3,fb,fv,da,db,dc,za,zb,zc,-z8,wPr,z1i,z1e,zr,z11,disE,sameP,eN,z1h]
       simp [z8,cert0]
     | none=>
      rw [hb] at db
      cases hc:leavesV c with
      | some z=>
       rw [hc] at dc
       obtain ⟨ka,na,ta,la⟩:=a
       obtain ⟨kb,nb,tb,lb⟩:=b0
       obtain ⟨kc,nc,tc,lc⟩:=c
       simp only [ax,aG,z9] at e1 e3 fv da db dc za zb zc  ⊢
       generalize la.map dV=La at *
       generalize lb.map dV=Lb at *
       generalize lc.map dV=Lc at *
       refine zi c254 (by simp) ?_
       conv in t254=>reduce;dsimp [ah]
       simp [t254,n254,e1,e2,e3,fb,fv,da,db,dc,za,zb,zc,-z8,wPr,z1i,z1e,zr,z11,disE,sameP,eN,z1h]
       simp [z8,cert0]
      | none=>
       rw [hc] at dc
       obtain ⟨ka,na,ta,la⟩:=a
       obtain ⟨kb,nb,tb,lb⟩:=b0
       obtain ⟨kc,nc,tc,lc⟩:=c
       simp only [ax,aG,z9] at e1 e3 fv da db dc za zb zc  ⊢
       generalize la.map dV=La at *
       generalize lb.map dV=Lb at *
       generalize lc.map dV=Lc at *
       refine zi c254 (by simp) ?_
       conv in t254=>reduce;dsimp [ah]
       simp [t254,n254,e1,e2,e3,fb,fv,da,db,dc,za,zb,zc,-z8,wPr,z1i,z1e,zr,z11,disE,sameP,eN,z1h]
       simp [z8,cert0]
  ·rw [if_neg h3] at e3
   have hno:certOf (.mk k n s l)=none:=by
    unfold certOf
    rw [show listV (.mk k n s l)=if k=3 then some l else none from rfl]
    by_cases hk:k=3
    ·rw [if_pos hk]
     match l,h3 with
     | [a,b,c],h3=>exact absurd ⟨hk,.inr rfl⟩ h3
     | [],_=>rfl
     | [_],_=>rfl
     | [_,_],_=>rfl
     | _::_::_::_::_,_=>rfl
    ·rw [if_neg hk]
   rw [hno]
   clear ok
   generalize l.map dV=L at *
   refine zi c254 (by simp) ?_
   conv in t254=>reduce;dsimp [ah]
   simp [t254,n254,e1,e2,e3,fb,fv,-z8]
   simp [z8,cert0]

def lsE (v:CV):List Int × Bool:=match v with
 | .mk k _ _ l=>(match mapC numV l with
  | some ys=>(ys,k == 3)
  | none=>([],false))

theorem r278 (v:CV) (sv:SmV v):runP E (dL E) 278 [dV v]=some (.tup [dInts (lsE v).1,.bool (lsE v).2]):=by
 obtain ⟨k,n,s,l⟩:=v
 have hlen:=sv.a _ _ _ _ rfl
 unfold lsE
 rw [z9]
 refine zi c278 (by simp) ?_
 conv in t278=>reduce;dsimp [ah]
 obtain ⟨L,hL⟩:∃ L,L=l.map dV:=⟨_,rfl⟩
 have hLl:L.length=l.length:=by rw [hL];simp
 rw [<- hL]
 simp [t278,n278]
 refine z2x l.length (fun i env h=>∃ (x2 x3 x6 x7 x8:D) (sp:Spare) (ys:List Int),env=[.agg [dI k,dI n,.str s,.imm .none L],.iptr [dI k,dI n,.str s,.imm .none L],x2,x3,.imm sp (ys.map dI),dI i,x6,x7,x8]/\mapC numV (l.take i)=some ys/\RoomS h sp ys.length 1) 0 (by omega) ?_ ?_
 ·exact ⟨_,_,_,_,_,(.exact),[],rfl,rfl,.inl rfl⟩
 rintro i env h hi ⟨x2,x3,x6,x7,x8,sp,ys,rfl,hys,hR⟩
 have hyl:ys.length=i:=by rw [z6b hys,bu];omega
 by_cases hlt:i<l.length
 ·have hltL:i<L.length:=by omega
  have hup:=z1b hlt (by omega)
  have hget:L[i]=dV l[i]:=by simp [hL]
  have hmem:=aP hlt
  have htk:l.take (i+1)=l.take i++[l[i]]:=aY hlt
  obtain ⟨w,hwv⟩:∃ w,w=l[i]:=⟨_,rfl⟩
  rw [<- hwv] at hget hmem htk
  obtain ⟨k',n',s',l'⟩:=w
  rw [z9] at hget
  generalize l'.map dV=L' at *
  by_cases h1:k'=1
  ·have hnum:numV (.mk k' n' s' l')=some n':=by simp [numV,h1]
   have ap:=zp7 (y:=n') (by omega) hR
   have h1':(k' == 1)=true:=by simp [h1]
   simp [hltL,hlt,hup,hget,h1,ap,-zp,-zg]
   exact ⟨_,_,_,_,_,.tok h.length,ys++[n'],⟨rfl,rfl,⟨rfl,by simp⟩,rfl,rfl,rfl⟩,by rw [htk];exact z51 hys hnum,by rw [aN];exact z5d (by simp)⟩
  ·have hnum:numV (.mk k' n' s' l')=none:=by simp [numV,h1]
   have hno:=z52 hmem hnum
   have h1':(k' == 1)=false:=by simp [h1]
   simp [hltL,hlt,hup,hget,h1,hno]
 ·have:i=l.length:=by omega
  subst this
  rw [bp] at hys
  simp [hLl,hys]

theorem z6f {h:List Obj} {sp:Spare} {n sz j:Nat} {o:Obj} (R:RoomS h sp n sz) (a:At h j o) (ho:∀ u s,o ≠ .tok u s):At (killS sp h) j o:=by
 have hne:=R.ne a ho
 cases sp with
 | tok q=>exact a.ne (hne q rfl)
 | _=>exact a

def lf0:Leaf:=⟨[],0,[]⟩
def lfE (v:CV):Leaf × Bool:=match listV v with
 | some [a,b,c]=>(match numV b,listV c with
  | some y,some lc=>(⟨(lsE a).1,y,lc.map fun w=>(lsE w).1⟩,(lsE a).2 && lc.all fun w=>(lsE w).2)
  | _,_=>(lf0,false))
 | _=>(lf0,false)

theorem r279 (v:CV) (ok:OkV v):runP E (dL E) 279 [dV v]=some (.tup [dLeaf (lfE v).1,.bool (lfE v).2]):=by
 obtain ⟨k,n,s,l⟩:=v
 have sub:=fun w (hw:w ∈ l)=>ok.sub hw
 rw [z9]
 unfold lfE
 rw [show listV (.mk k n s l)=if k=3 then some l else none from rfl]
 by_cases h3:k=3
 case neg=>
  rw [if_neg h3]
  generalize l.map dV=L at *
  refine zi c279 (by simp) ?_
  conv in t279=>reduce;dsimp [ah]
  simp [t279,n279,h3,lf0]
 rw [if_pos h3]
 by_cases hl:l.length=3
 case neg=>
  have hne:(match some l with
   | some [a,b,c]=>(match numV b,listV c with
    | some y,some lc=>((⟨(lsE a).1,y,lc.map fun w=>(lsE w).1⟩:Leaf),(lsE a).2 && lc.all fun w=>(lsE w).2)
    | _,_=>(lf0,false))
   | _=>(lf0,false))=(lf0,false):=by
   match l,hl with
   | [a,b,c],hl=>exact absurd rfl hl
   | [],_=>rfl
   | [_],_=>rfl
   | [_,_],_=>rfl
   | _::_::_::_::_,_=>rfl
  rw [hne]
  have hL : ¬ ((l.map dV).length:Int)=3:=by simp;omega
  generalize l.map dV=L at *
  refine zi c279 (by simp) ?_
  conv in t279=>reduce;dsimp [ah]
  simp [t279,n279,h3,hL,lf0]
 match l,hl with
 | [a,b,c],_=>
  have oa:=sub a (by simp)
  have oc:=sub c (by simp)
  have ea:=r278 a oa.sm
  have za:=zh (hp:=[]) 17 a oa.sm.n 40 (by omega)
  obtain ⟨ka,na,ta,la⟩:=a
  obtain ⟨kb,nb,tb,lb⟩:=b
  obtain ⟨kc,nc,tc,lc⟩:=c
  simp only []
  rw [show numV (.mk kb nb tb lb)=if kb=1 then some nb else none from rfl,show listV (.mk kc nc tc lc)=if kc=3 then some lc else none from rfl]
  simp only [ax,aG,z9] at ea za ⊢
  generalize la.map dV=La at *
  generalize lb.map dV=Lb at *
  have hcl:=oc.len
  have subc:=fun w (hw:w ∈ lc)=>oc.sub hw
  obtain ⟨Lc,hLc⟩:∃ Lc,Lc=lc.map dV:=⟨_,rfl⟩
  have hLcl:Lc.length=lc.length:=by rw [hLc];simp
  rw [<- hLc]
  obtain ⟨xa,hxa⟩:∃ xa,xa=lsE (.mk ka na ta la):=⟨_,rfl⟩
  rw [<- hxa] at ea ⊢
  by_cases hb:kb=1
  case neg=>
   rw [if_neg hb]
   refine zi c279 (by simp) ?_
   conv in t279=>reduce;dsimp [ah]
   simp [t279,n279,h3,hb,lf0]
  rw [if_pos hb]
  by_cases hc:kc=3
  case neg=>
   rw [if_neg hc]
   refine zi c279 (by simp) ?_
   conv in t279=>reduce;dsimp [ah]
   simp [t279,n279,h3,hb,hc,lf0]
  rw [if_pos hc]
  refine zi c279 (by simp) ?_
  conv in t279=>reduce;dsimp [ah]
  simp [t279,n279,h3,hb,hc,ea,za,-z8]
  obtain ⟨x1,x2⟩:=xa
  simp only []
  refine z2x lc.length (fun i env h=>∃ (x3 x8 x9 x10 x11 x12 x13 x14 x15:D) (sp:Spare) (bb:Bool),env=[.agg [dI 3,dI n,.str s,.imm .none [.agg [dI ka,dI na,.str ta,.imm .none La],.agg [dI 1,dI nb,.str tb,.imm .none Lb],.agg [dI 3,dI nc,.str tc,.imm .none Lc]]],.iptr [dI 3,dI n,.str s,.imm .none [.agg [dI ka,dI na,.str ta,.imm .none La],.agg [dI 1,dI nb,.str tb,.imm .none Lb],.agg [dI 3,dI nc,.str tc,.imm .none Lc]]],.loc 0 0,x3,dInts x1,.bool bb,.loc 1 0,dI i,x8,x9,x10,x11,x12,x13,x14,x15]/\bb=(x2 && (lc.take i).all fun w=>(lsE w).2)/\At h 0 (.cells [.imm .exact [],dI 0,.imm .exact []])/\At h 1 (.cells [dInts x1,dI nb,.imm sp (((lc.take i).map fun w=>(lsE w).1).map dInts)])/\RoomS h sp i 1) 0 (by omega) ?_ ?_
  ·exact ⟨_,_,_,_,_,_,_,_,_,(.exact),x2,rfl,by simp,by simp [At],by simp [At],.inl rfl⟩
  rintro i env h hi ⟨x3,x8,x9,x10,x11,x12,x13,x14,x15,sp,bb,rfl,hbb0,a0,a1,R⟩
  have hml:((lc.take i).map fun w=>(lsE w).1).length=i:=by rw [cK,bu];omega
  by_cases hlt:i<lc.length
  ·have hltL:i<Lc.length:=by omega
   have hup:=z1b hlt (by omega)
   have hget:Lc[i]=dV lc[i]:=by simp [hLc]
   have hmem:=aP hlt
   have htk:lc.take (i+1)=lc.take i++[lc[i]]:=aY hlt
   obtain ⟨w,hwv⟩:∃ w,w=lc[i]:=⟨_,rfl⟩
   rw [<- hwv] at hget hmem htk
   have ew:=r278 w (subc w hmem).sm
   have zw:=zh (hp:=[]) 17 w (subc w hmem).sm.n 40 (by omega)
   have R':RoomS h sp ((lc.take i).map fun w=>(lsE w).1).length 1:=by rw [hml];exact R
   have ap:=zlz (y:=(lsE w).1) (by rw [hml];omega) R'
   rw [hml] at ap
   have b0:=(z6f R a0 (fun _ _ e=>by cases e)).app (r:=[Obj.tok (i+1) 1])
   have b1:=(z6f R a1 (fun _ _ e=>by cases e)).app (r:=[Obj.tok (i+1) 1])
   have hR1:RoomS (killS sp h++[Obj.tok (i+1) 1]) (.tok h.length) (i+1) 1:=z5d (by simp)
   have hm2:(((lc.take i).map fun w=>(lsE w).1)++[(lsE w).1])=(lc.take (i+1)).map fun w=>(lsE w).1:=by rw [htk];simp
   have hb2:((x2 && (lc.take i).all fun w=>(lsE w).2) && (lsE w).2)=(x2 && (lc.take (i+1)).all fun w=>(lsE w).2):=by rw [htk];simp [iH]
   rw [hm2] at ap
   generalize ((lc.take i).map fun w=>(lsE w).1).map dInts=M at *
   generalize ((lc.take (i+1)).map fun w=>(lsE w).1).map dInts=M2 at *
   rw [<- hbb0] at hb2
   clear hbb0
   generalize (x2 && (lc.take (i+1)).all fun w=>(lsE w).2)=bb2 at *
   generalize lsE w=q at *
   obtain ⟨q1,q2⟩:=q
   obtain ⟨k',n',s',l'⟩:=w
   rw [z9] at hget ew zw
   generalize l'.map dV=L' at *
   generalize hK:killS sp h++[Obj.tok (i+1) 1]=K at *
   have e5:K.set 1 (.cells [dInts x1,dI nb,.imm (.tok h.length) M2])=K.set 1 (.cells [dInts x1,dI nb,.imm (.tok h.length) M2]):=rfl
   obtain ⟨K2,hK2⟩:∃ K2,K2=K.set 1 (.cells [dInts x1,dI nb,.imm (.tok h.length) M2]):=⟨_,rfl⟩
   have c1:At K2 1 (.cells [dInts x1,dI nb,.imm (.tok h.length) M2]):=by rw [hK2];exact .self b1.lt
   have c0:At K2 0 (.cells [.imm .exact [],dI 0,.imm .exact []]):=by rw [hK2];exact b0.ne (by decide)
   have cR:RoomS K2 (.tok h.length) (i+1) 1:=by
    rcases hR1 with e | ⟨q,e,g⟩
    ·cases e
    ·exact .inr ⟨q,e,by rw [hK2];exact g.ne (fun e1=>by subst e1;have:=b1.eq.symm.trans g.eq;cases this)⟩
   cases bb
   ·have hbb:bb2=false:=by simpa using hb2.symm
    subst hbb
    simp [hltL,hlt,hup,hget,ew,zw,↓a1.eq,ap,↓b1.eq,<- hK2,-z8,-zp,-zg]
    exact ⟨c0,_,c1,cR⟩
   ·have hbb:bb2=q2:=by simpa using hb2.symm
    subst hbb
    cases bb2
    ·simp [hltL,hlt,hup,hget,ew,zw,↓a1.eq,ap,↓b1.eq,<- hK2,-z8,-zp,-zg]
     exact ⟨c0,_,c1,cR⟩
    ·simp [hltL,hlt,hup,hget,ew,zw,↓a1.eq,ap,↓b1.eq,<- hK2,-z8,-zp,-zg]
     exact ⟨c0,_,c1,cR⟩
  ·have:i=lc.length:=by omega
   subst this
   rw [bp] at a1 hbb0
   obtain ⟨H,hH⟩:∃ H,H=h.set 0 (.cells [dInts x1,dI nb,.imm sp ((lc.map fun w=>(lsE w).1).map dInts)]):=⟨_,rfl⟩
   have g0:At H 0 (.cells [dInts x1,dI nb,.imm sp ((lc.map fun w=>(lsE w).1).map dInts)]):=by rw [hH];exact .self a0.lt
   rw [<- hbb0]
   generalize (lc.map fun w=>(lsE w).1)=M at *
   simp [hLcl,↓a1.eq,↓a0.eq,<- hH,↓g0.eq]

def ceE (v:CV):Cert × Bool:=match listV v with
 | some [a,b,c]=>(match listV c with
  | some lc=>(⟨(lsE a).1,(lsE b).1,lc.map fun w=>(lfE w).1⟩,((lsE a).2 && (lsE b).2) && lc.all fun w=>(lfE w).2)
  | none=>(cert0,false))
 | _=>(cert0,false)
noncomputable def resDecR (b:List UInt8):D:=match deco b with
 | none=>.tup [dCert cert0,dI 10]
 | some v=>if (ceE v).2=true then .tup [dCert (ceE v).1,dI 0] else .tup [dCert cert0,dI 310]

theorem r255 (b:List UInt8) (hl:b.length<=900000):runP E (dL E) 255 [dBy b]=some (resDecR b):=by
 have e1:=r277 b hl
 have fb:∀ h n,frzL (frz h (n+1)) (b.map byteD)=some (b.map byteD):=fun h n=>z1p
 unfold resDecR
 cases hd:deco b with
 | none=>
  simp only [decV,decE,hd,jR,z9,aG] at e1
  refine zi c255 (by simp) ?_
  conv in t255=>reduce;dsimp [ah]
  simp [t255,n255,e1,fb,cert0]
 | some v=>
  show runP E (dL E) 255 [dBy b]=some (if (ceE v).2=true then .tup [dCert (ceE v).1,dI 0] else .tup [dCert cert0,dI 310])
  simp only [decV,decE,hd,bD] at e1
  obtain ⟨hbe,hf,hdp⟩:=zbb hd
  have ok:OkV v:=⟨hf,hdp,by rw [<- hbe];exact hl⟩
  clear hbe hf hdp hd
  obtain ⟨k,n,s,l⟩:=v
  have sub:=fun w (hw:w ∈ l)=>ok.sub hw
  rw [z9] at e1
  unfold ceE
  rw [show listV (.mk k n s l)=if k=3 then some l else none from rfl]
  by_cases h3:k=3
  case neg=>
   rw [if_neg h3]
   generalize l.map dV=L at *
   refine zi c255 (by simp) ?_
   conv in t255=>reduce;dsimp [ah]
   simp [t255,n255,e1,fb,h3,cert0]
  rw [if_pos h3]
  by_cases hl3:l.length=3
  case neg=>
   have hne:(match some l with
    | some [a,b,c]=>(match listV c with
     | some lc=>((⟨(lsE a).1,(lsE b).1,lc.map fun w=>(lfE w).1⟩:Cert),((lsE a).2 && (lsE b).2) && lc.all fun w=>(lfE w).2)
     | none=>(cert0,false))
    | _=>(cert0,false))=(cert0,false):=by
    match l,hl3 with
    | [a,b,c],hl=>exact absurd rfl hl
    | [],_=>rfl
    | [_],_=>rfl
    | [_,_],_=>rfl
    | _::_::_::_::_,_=>rfl
   rw [hne]
   have hL : ¬ ((l.map dV).length:Int)=3:=by simp;omega
   generalize l.map dV=L at *
   refine zi c255 (by simp) ?_
   conv in t255=>reduce;dsimp [ah]
   simp [t255,n255,e1,fb,h3,hL,cert0]
  match l,hl3 with
  | [a,b0,c],_=>
   have oa:=sub a (by simp)
   have ob0:=sub b0 (by simp)
   have oc:=sub c (by simp)
   have ea:=r278 a oa.sm
   have eb:=r278 b0 ob0.sm
   have za:=zh (hp:=[]) 17 a oa.sm.n 40 (by omega)
   have zb:=zh (hp:=[]) 17 b0 ob0.sm.n 40 (by omega)
   obtain ⟨ka,na,ta,la⟩:=a
   obtain ⟨kb,nb,tb,lb⟩:=b0
   obtain ⟨kc,nc,tc,lc⟩:=c
   simp only []
   rw [show listV (.mk kc nc tc lc)=if kc=3 then some lc else none from rfl]
   simp only [ax,aG,z9] at e1 ea eb za zb ⊢
   generalize la.map dV=La at *
   generalize lb.map dV=Lb at *
   have hcl:=oc.len
   have subc:=fun w (hw:w ∈ lc)=>oc.sub hw
   obtain ⟨Lc,hLc⟩:∃ Lc,Lc=lc.map dV:=⟨_,rfl⟩
   have hLcl:Lc.length=lc.length:=by rw [hLc];simp
   rw [<- hLc] at e1
   obtain ⟨xa,hxa⟩:∃ xa,xa=lsE (.mk ka na ta la):=⟨_,rfl⟩
   obtain ⟨xb,hxb⟩:∃ xb,xb=lsE (.mk kb nb tb lb):=⟨_,rfl⟩
   rw [<- hxa] at ea ⊢
   rw [<- hxb] at eb ⊢
   by_cases hc:kc=3
   case neg=>
    rw [if_neg hc]
    refine zi c255 (by simp) ?_
    conv in t255=>reduce;dsimp [ah]
    simp [t255,n255,e1,fb,h3,hc,cert0]
   rw [if_pos hc]
   obtain ⟨x1,x2⟩:=xa
   obtain ⟨y1,y2⟩:=xb
   simp only []
   refine zi c255 (by simp) ?_
   conv in t255=>reduce;dsimp [ah]
   subst hc
   obtain ⟨x,hx⟩:∃ x,x=(x2 && y2):=⟨_,rfl⟩
   rw [<- hx]
   obtain ⟨fin,hfin⟩:∃ fin,fin=(x && lc.all fun w=>(lfE w).2):=⟨_,rfl⟩
   rw [<- hfin]
   cases x2
   all_goals
    simp at hx
    simp [t255,n255,e1,fb,h3,ea,eb,za,zb,-z8]
    refine z2x lc.length (fun i env h=>∃ (x2 x4 x5 x7 x8 x11 x12 x13 x14 x15 x16 x17 x18 x19 x20 x21:D) (sp:Spare) (bb:Bool),env=[dBy b,.loc 0 0,x2,.loc 1 0,x4,x5,.bool bb,x7,x8,.loc 2 0,dI i,x11,x12,x13,x14,x15,x16,x17,x18,x19,x20,x21]/\bb=(x && (lc.take i).all fun w=>(lfE w).2)/\At h 0 (.cells [.imm .exact [],.imm .exact [],.imm .exact []])/\At h 1 (.cells [dI 3,dI n,.str s,.imm .none [.agg [dI ka,dI na,.str ta,.imm .none La],.agg [dI kb,dI nb,.str tb,.imm .none Lb],.agg [dI 3,dI nc,.str tc,.imm .none Lc]]])/\At h 2 (.cells [dInts x1,dInts y1,.imm sp (((lc.take i).map fun w=>(lfE w).1).map dLeaf)])/\RoomS h sp i 3) 0 (by omega) ?_ ?_
    ·exact ⟨_,_,_,_,_,_,_,_,_,_,_,_,_,_,_,_,(.exact),x,by rw [hx];rfl,by simp,by simp [At],by simp [At],by simp [At],.inl rfl⟩
    rintro i env h hi ⟨x2,x4,x5,x7,x8,x11,x12,x13,x14,x15,x16,x17,x18,x19,x20,x21,sp,bb,rfl,hbb0,a0,av,a1,R⟩
    have hml:((lc.take i).map fun w=>(lfE w).1).length=i:=by rw [cK,bu];omega
    by_cases hlt:i<lc.length
    ·have hltL:i<Lc.length:=by omega
     have hup:=z1b hlt (by omega)
     have hget:Lc[i]=dV lc[i]:=by simp [hLc]
     have hmem:=aP hlt
     have htk:lc.take (i+1)=lc.take i++[lc[i]]:=aY hlt
     obtain ⟨w,hwv⟩:∃ w,w=lc[i]:=⟨_,rfl⟩
     rw [<- hwv] at hget hmem htk
     have ew:=r279 w (subc w hmem)
     have zw:=zh (hp:=[]) 17 w (subc w hmem).sm.n 40 (by omega)
     obtain ⟨G,hG⟩:∃ G,G=h++[Obj.cells [dInts (lfE w).1.branch,dI (lfE w).1.kind,.imm .none ((lfE w).1.mult.map dInts)]]:=⟨_,rfl⟩
     have R':RoomS G sp ((lc.take i).map fun w=>(lfE w).1).length 3:=by rw [hml,hG];exact R.app
     have ap:=zly (y:=(lfE w).1) (by rw [hml];omega) R'
     rw [hml] at ap R'
     have gl:At G h.length (.cells [dInts (lfE w).1.branch,dI (lfE w).1.kind,.imm .none ((lfE w).1.mult.map dInts)]):=by rw [hG];simp [At]
     have g0:At G 0 (.cells [.imm .exact [],.imm .exact [],.imm .exact []]):=by rw [hG];exact a0.app
     have gv:At G 1 (.cells [dI 3,dI n,.str s,.imm .none [.agg [dI ka,dI na,.str ta,.imm .none La],.agg [dI kb,dI nb,.str tb,.imm .none Lb],.agg [dI 3,dI nc,.str tc,.imm .none Lc]]]):=by rw [hG];exact av.app
     have g1:At G 2 (.cells [dInts x1,dInts y1,.imm sp (((lc.take i).map fun w=>(lfE w).1).map dLeaf)]):=by rw [hG];exact a1.app
     have b0:=(z6f R' g0 (fun _ _ e=>by cases e)).app (r:=[Obj.tok ((i+1)*3) 3])
     have bv:=(z6f R' gv (fun _ _ e=>by cases e)).app (r:=[Obj.tok ((i+1)*3) 3])
     have b1:=(z6f R' g1 (fun _ _ e=>by cases e)).app (r:=[Obj.tok ((i+1)*3) 3])
     have hR1:RoomS (killS sp G++[Obj.tok ((i+1)*3) 3]) (.tok G.length) (i+1) 3:=z5d rfl
     have hm2:(((lc.take i).map fun w=>(lfE w).1)++[(lfE w).1])=(lc.take (i+1)).map fun w=>(lfE w).1:=by rw [htk];simp
     have hb2:((x && (lc.take i).all fun w=>(lfE w).2) && (lfE w).2)=(x && (lc.take (i+1)).all fun w=>(lfE w).2):=by rw [htk];simp [iH]
     rw [hm2] at ap
     have zl:∀ a b:Prop,True:=fun _ _=>trivial
     generalize ((lc.take i).map fun w=>(lfE w).1).map dLeaf=M at *
     generalize ((lc.take (i+1)).map fun w=>(lfE w).1).map dLeaf=M2 at *
     rw [<- hbb0] at hb2
     clear hbb0
     generalize (x && (lc.take (i+1)).all fun w=>(lfE w).2)=bb2 at *
     generalize lfE w=q at *
     obtain ⟨⟨p1,p2,p3⟩,q2⟩:=q
     simp only [] at hG ap gl ew hb2
     obtain ⟨k',n',s',l'⟩:=w
     rw [z9] at hget ew zw
     generalize l'.map dV=L' at *
     generalize hK:killS sp G++[Obj.tok ((i+1)*3) 3]=K at *
     obtain ⟨K2,hK2⟩:∃ K2,K2=K.set 2 (.cells [dInts x1,dInts y1,.imm (.tok G.length) M2]):=⟨_,rfl⟩
     have c1:At K2 2 (.cells [dInts x1,dInts y1,.imm (.tok G.length) M2]):=by rw [hK2];exact .self b1.lt
     have c0:At K2 0 (.cells [.imm .exact [],.imm .exact [],.imm .exact []]):=by rw [hK2];exact b0.ne (by decide)
     have cv:At K2 1 (.cells [dI 3,dI n,.str s,.imm .none [.agg [dI ka,dI na,.str ta,.imm .none La],.agg [dI kb,dI nb,.str tb,.imm .none Lb],.agg [dI 3,dI nc,.str tc,.imm .none Lc]]]):=by rw [hK2];exact bv.ne (by decide)
     have cR:RoomS K2 (.tok G.length) (i+1) 3:=by
      rcases hR1 with e | ⟨q,e,g⟩
      ·cases e
      ·exact .inr ⟨q,e,by rw [hK2];exact g.ne (fun e1=>by subst e1;have:=b1.eq.symm.trans g.eq;cases this)⟩
     cases bb
     ·have hbb:bb2=false:=by simpa using hb2.symm
      subst hbb
      simp [hltL,hlt,hLcl,hup,↓av.eq,hget,ew,zw,<- hG,↓gl.eq,↓g1.eq,ap,↓b1.eq,<- hK2,-z8,-zp,-zg]
      exact ⟨c0,cv,_,c1,cR⟩
     ·have hbb:bb2=q2:=by simpa using hb2.symm
      subst hbb
      cases bb2
      ·simp [hltL,hlt,hLcl,hup,↓av.eq,hget,ew,zw,<- hG,↓gl.eq,↓g1.eq,ap,↓b1.eq,<- hK2,-z8,-zp,-zg]
       exact ⟨c0,cv,_,c1,cR⟩
      ·simp [hltL,hlt,hLcl,hup,↓av.eq,hget,ew,zw,<- hG,↓gl.eq,↓g1.eq,ap,↓b1.eq,<- hK2,-z8,-zp,-zg]
       exact ⟨c0,cv,_,c1,cR⟩
    ·have:i=lc.length:=by omega
     subst this
     rw [bp] at a1 hbb0
     rw [<- hfin] at hbb0
     subst hbb0
     obtain ⟨H,hH⟩:∃ H,H=h.set 0 (.cells [dInts x1,dInts y1,.imm sp ((lc.map fun w=>(lfE w).1).map dLeaf)]):=⟨_,rfl⟩
     have g0:At H 0 (.cells [dInts x1,dInts y1,.imm sp ((lc.map fun w=>(lfE w).1).map dLeaf)]):=by rw [hH];exact .self a0.lt
     clear hfin
     generalize (lc.map fun w=>(lfE w).1)=M at *
     have zf:∀ h,frzL (frz h 37) (M.map dLeaf)=some (M.map dLeaf):=fun h=>z29 (n:=33)
     cases bb
     ·have a9:∀ o,(h.set 0 o)[0]? = some o:=fun o=>(At.self a0.lt).eq
      simp [hLcl,↓av.eq,↓a1.eq,↓a0.eq,↓a9,cert0]
      trace_state
     ·simp [hLcl,↓av.eq,↓a1.eq,↓a0.eq,<- hH,↓g0.eq,zf]
      trace_state

theorem r20 (a b:List Int) (hl:a.length<=1000000):runP E (dL E) 20 [dInts a,dInts b]=some (.bool (decide (a=b))):=by
 refine zi c20 (by simp) ?_
 conv in t20=>reduce;dsimp [ah]
 generalize hB:decide (a=b)=B
 have hBf:a ≠ b->B=false:=by intro h;rw [<- hB];simp [h]
 have hBt:a=b->B=true:=by intro h;rw [<- hB];simp [h]
 simp [t20,n20]
 by_cases h:a.length=b.length
 rotate_left
 ·have hi : ¬ (a.length:Int)=b.length:=by omega
  simp [h,hi,hBf (fun e=>h (by rw [e]))]
 simp [h]
 obtain ⟨P,hP⟩:∃ P:Nat->Prop,P=fun i=>∀ (h:i<a.length) (h':i<b.length),a[i]=b[i]:=⟨_,rfl⟩
 refine zj1 a.length P
  (fun i env hp=>∃ (x4 x5 x6:D) ,env=[dInts a,dInts b,.bool false,dI i,x4,x5,x6])
  ⟨_,_,_,rfl⟩ ?_ ?_
 ·rintro i env hp hi ⟨x4,x5,x6,rfl⟩ hall
  have hi':i<b.length:=by omega
  by_cases k1:a[i]=b[i]
  ·have hPi:P i:=by rw [hP];exact fun _ _=>k1
   simp [hi,hi',k1,z1b hi (by omega),hPi]
  ·have hB':=hBf (fun e=>k1 (by subst e;rfl))
   simp [hi,hi',k1,hB']
 ·rintro env hp ⟨x4,x5,x6,rfl⟩ hall
  rw [hP] at hall
  have hab:a=b:=List.ext_getElem h fun i h1 h2=>hall i h1 h1 h2
  simp [hBt hab]

instance:DecidableEq Leaf:=fun a b=>decidable_of_iff (a.branch=b.branch/\a.kind=b.kind/\a.mult=b.mult) (by cases a;cases b;simp)
instance:DecidableEq Cert:=fun a b=>decidable_of_iff (a.best=b.best/\a.value=b.value/\a.leaves=b.leaves) (by cases a;cases b;simp)

theorem r280 (a b:Leaf) (ok:OkLf a):runP E (dL E) 280 [dLeaf a,dLeaf b]=some (.bool (decide (a=b))):=by
 obtain ⟨a1,a2,a3⟩:=a
 obtain ⟨b1,b2,b3⟩:=b
 have okb:=ok.b
 have okm:=ok.m
 have okmm:=ok.mm
 simp only [] at okb okm okmm
 have e1:=r20 a1 b1 (by omega)
 refine zi c280 (by simp) ?_
 conv in t280=>reduce;dsimp [ah]
 by_cases h1:a1=b1
 case neg=>simp [t280,n280,e1,h1]
 subst h1
 by_cases h2:a2=b2
 case neg=>
  have h2':(a2 == b2)=false:=by simp [h2]
  simp [t280,n280,e1,h2,h2']
 subst h2
 by_cases h3:a3.length=b3.length
 case neg=>
  have h3' : ¬ ((a3.length:Int)=(b3.length:Int)):=by omega
  have hne : ¬ a3=b3:=fun e=>h3 (by rw [e])
  simp [t280,n280,e1,h3,h3',hne]
 have h3':(a3.length:Int)=(b3.length:Int):=by omega
 simp [t280,n280,e1,h3']
 refine z2x a3.length (fun i env h=>∃ (x0 x1 x4 x6 x7 x8:D) ,env=[x0,x1,.iptr [dInts a1,dI a2,.imm .none (a3.map dInts)],.iptr [dInts a1,dI a2,.imm .none (b3.map dInts)],x4,dI i,x6,x7,x8]/\a3.take i=b3.take i) 0 (by omega) ?_ ?_
 ·exact ⟨_,_,_,_,_,_, rfl,rfl⟩
 rintro i env h hi ⟨x0,x1,x4,x6,x7,x8, rfl,heq⟩
 by_cases hlt:i<a3.length
 ·have hlt':i<b3.length:=by omega
  have hup:=z1b hlt (by omega)
  have e2:=r20 a3[i] b3[i] (by have:=okmm _ (aP hlt);omega)
  by_cases he:a3[i]=b3[i]
  ·rw [decide_eq_true he] at e2
   have hn:a3.take (i+1)=b3.take (i+1):=by rw [aY hlt,aY hlt',heq,he]
   simp [<- h3,hlt,hlt',hup,e2,hn]
  ·rw [decide_eq_false he] at e2
   have hne : ¬ a3=b3:=fun e=>he (by subst e;rfl)
   simp [<- h3,hlt,hlt',hup,e2,hne]
 ·have:i=a3.length:=by omega
  subst this
  have hn:a3=b3:=by rw [bp,h3,bp] at heq;exact heq
  simp [<- h3,hn]

theorem r256 (a b:Cert) (ok:OkCe a):runP E (dL E) 256 [dCert a,dCert b]=some (.bool (decide (a=b))):=by
 obtain ⟨a1,a2,a3⟩:=a
 obtain ⟨b1,b2,b3⟩:=b
 have okb:=ok.b
 have okv:=ok.v
 have okn:=ok.n
 have okl:=ok.l
 simp only [] at okb okv okn okl
 have e1:=r20 a1 b1 (by omega)
 have e2:=r20 a2 b2 (by omega)
 refine zi c256 (by simp) ?_
 conv in t256=>reduce;dsimp [ah]
 by_cases h1:a1=b1
 case neg=>simp [t256,n256,e1,h1]
 subst h1
 by_cases h2:a2=b2
 case neg=>simp [t256,n256,e1,e2,h2]
 subst h2
 by_cases h3:a3.length=b3.length
 case neg=>
  have h3' : ¬ ((a3.length:Int)=(b3.length:Int)):=by omega
  have hne : ¬ a3=b3:=fun e=>h3 (by rw [e])
  simp [t256,n256,e1,e2,h3,h3',hne]
 have h3':(a3.length:Int)=(b3.length:Int):=by omega
 simp [t256,n256,e1,e2,h3']
 refine z2x a3.length (fun i env h=>∃ (x0 x1 x4 x6 x7 x8:D) ,env=[x0,x1,.loc 0 0,.loc 1 0,x4,dI i,x6,x7,x8]/\a3.take i=b3.take i/\At h 0 (.cells [dInts a1,dInts a2,.imm .none (a3.map dLeaf)])/\At h 1 (.cells [dInts a1,dInts a2,.imm .none (b3.map dLeaf)])) 0 (by omega) ?_ ?_
 ·exact ⟨_,_,_,_,_,_, rfl,rfl,by simp [At],by simp [At]⟩
 rintro i env h hi ⟨x0,x1,x4,x6,x7,x8, rfl,heq,a0,a1'⟩
 have w0:∀ X,(h++X)[0]? = some (.cells [dInts a1,dInts a2,.imm .none (a3.map dLeaf)]):=fun X=>a0.app (r:=X)
 have w1:∀ X,(h++X)[1]? = some (.cells [dInts a1,dInts a2,.imm .none (b3.map dLeaf)]):=fun X=>a1'.app (r:=X)
 by_cases hlt:i<a3.length
 ·have hlt':i<b3.length:=by omega
  have hup:=z1b hlt (by omega)
  have e3:=r280 a3[i] b3[i] (okl _ (aP hlt))
  by_cases he:a3[i]=b3[i]
  ·rw [decide_eq_true he] at e3
   have hn:a3.take (i+1)=b3.take (i+1):=by rw [aY hlt,aY hlt',heq,he]
   simp [<- h3,hlt,hlt',hup,e3,hn,↓a0.eq,↓a1'.eq,↓w0,↓w1]
   exact ⟨a0.app,a1'.app⟩
  ·rw [decide_eq_false he] at e3
   have hne : ¬ a3=b3:=fun e=>he (by subst e;rfl)
   simp [<- h3,hlt,hlt',hup,e3,hne,↓a0.eq,↓a1'.eq,↓w0,↓w1]
 ·have:i=a3.length:=by omega
  subst this
  have hn:a3=b3:=by rw [bp,h3,bp] at heq;exact heq
  simp [<- h3,hn,↓a0.eq,↓a1'.eq]

end Dv

namespace Dv

theorem z8q {v:CV} {ys:List Int} (h:numsV v=some ys):lsE v=(ys,true):=by
 obtain ⟨k,n,s,l⟩:=v
 unfold numsV listV at h
 by_cases hk:k=3
 ·simp only [hk,if_true,bU] at h
  simp [lsE,h,hk]
 ·simp [hk] at h
theorem z8r {v:CV} (h:numsV v=none):(lsE v).2=false:=by
 obtain ⟨k,n,s,l⟩:=v
 unfold numsV listV at h
 show (match mapC numV l with
  | some ys=>(ys,k == 3)
  | none=>(([]:List Int),false)).2=false
 by_cases hk:k=3
 ·simp only [hk,if_true,bU] at h
  rw [h]
 ·cases mapC numV l with
  | none=>rfl
  | some ys=>simp [hk]
theorem zcp {T:Type} {g:CV->Option T} {e:CV->T × Bool} (h1:∀ v y,g v=some y->e v=(y,true)) (h2:∀ v,g v=none->(e v).2=false):∀ (l:List CV),
  (∀ ys,mapC g l=some ys->l.map (fun w=>(e w).1)=ys/\(l.all fun w=>(e w).2)=true)/\(mapC g l=none->(l.all fun w=>(e w).2)=false)
 | []=>⟨fun ys h=>by simp only [mapC,aa] at h;subst h;exact ⟨rfl,rfl⟩,fun h=>by simp [mapC] at h⟩
 | v::l=>by
  obtain ⟨i1,i2⟩:=zcp h1 h2 l
  cases hv:g v with
  | none=>exact ⟨fun ys h=>by simp [mapC,hv] at h,fun _=>by simp [h2 v hv]⟩
  | some y=>
   have hev:=h1 v y hv
   cases hl:mapC g l with
   | none=>exact ⟨fun ys h=>by simp [mapC,hv,hl] at h,fun _=>by rw [fy,i2 hl,gH]⟩
   | some ys0=>
    obtain ⟨j1,j2⟩:=i1 ys0 hl
    refine ⟨fun ys h=>?_,fun h=>by simp [mapC,hv,hl] at h⟩
    simp only [mapC,hv,hl,aa] at h
    subst h
    rw [ax,fy,hev,j1,j2]
    exact ⟨rfl,rfl⟩
theorem zk8 {v:CV} {x:Leaf} (h:leafV v=some x):lfE v=(x,true):=by
 unfold leafV at h
 unfold lfE
 split at h
 ·rename_i a b c hl
  try rw [hl]
  try simp only []
  split at h
  ·rename_i xa y z ha hb hc
   simp only [aa] at h
   subst h
   unfold multV at hc
   cases hlc:listV c with
   | none=>rw [hlc] at hc;simp at hc
   | some lc=>
    rw [hlc] at hc
    obtain ⟨q1,q2⟩:=(zcp (fun v y=>z8q) (fun v=>z8r) lc).1 z hc
    rw [hb]
    simp only []
    rw [z8q ha,q1,q2]
    rfl
  ·cases h
 ·cases h
theorem zk9 {v:CV} (h:leafV v=none):(lfE v).2=false:=by
 unfold leafV at h
 unfold lfE
 split
 ·rename_i a b c hl
  rw [hl] at h
  simp only [] at h
  cases hb:numV b with
  | none=>rfl
  | some y=>
   cases hlc:listV c with
   | none=>rfl
   | some lc=>
    simp only []
    cases ha:numsV a with
    | none=>rw [z8r ha];rfl
    | some xa=>
     have hc:mapC numsV lc=none:=by
      cases hm:mapC numsV lc with
      | none=>rfl
      | some z=>
       have:multV c=some z:=by unfold multV;rw [hlc];exact hm
       rw [ha,hb,this] at h
       cases h
     rw [(zcp (fun v y=>z8q) (fun v=>z8r) lc).2 hc,gH]
 ·rfl
theorem zqz {v:CV} {c:Cert} (h:certOf v=some c):ceE v=(c,true):=by
 unfold certOf at h
 unfold ceE
 split at h
 ·rename_i a b d hl
  try rw [hl]
  try simp only []
  split at h
  ·rename_i xa y z ha hb hc
   simp only [aa] at h
   subst h
   unfold leavesV at hc
   cases hlc:listV d with
   | none=>rw [hlc] at hc;simp at hc
   | some lc=>
    rw [hlc] at hc
    obtain ⟨q1,q2⟩:=(zcp (fun v y=>zk8) (fun v=>zk9) lc).1 z hc
    simp only []
    rw [z8q ha,z8q hb,q1,q2]
    rfl
  ·cases h
 ·cases h
theorem zr0 {v:CV} (h:certOf v=none):(ceE v).2=false:=by
 unfold certOf at h
 unfold ceE
 split
 ·rename_i a b d hl
  rw [hl] at h
  simp only [] at h
  cases hlc:listV d with
  | none=>rfl
  | some lc=>
   simp only []
   cases ha:numsV a with
   | none=>rw [z8r ha];rfl
   | some xa=>
    cases hb:numsV b with
    | none=>rw [z8r hb,gH];rfl
    | some xb=>
     have hc:mapC leafV lc=none:=by
      cases hm:mapC leafV lc with
      | none=>rfl
      | some z=>
       have:leavesV d=some z:=by unfold leavesV;rw [hlc];exact hm
       rw [ha,hb,this] at h
       cases h
     rw [(zcp (fun v y=>zk8) (fun v=>zk9) lc).2 hc,gH]
 ·rfl
theorem zgn (b:List UInt8):resDecR b=resDec b:=by
 unfold resDecR resDec
 cases deco b with
 | none=>rfl
 | some v=>
  simp only []
  cases h:certOf v with
  | none=>rw [zr0 h];rfl
  | some c=>rw [zqz h];rfl

theorem z7y {T:Type} {g:CV->Option T} {f:T->CV} (h:∀ x,g (f x)=some x):∀ l:List T,mapC g (l.map f)=some l
 | []=>rfl
 | x::l=>by simp [mapC,h,z7y h l]
theorem zju (n:Int):numV (cI n)=some n:=rfl
theorem z8j (l:List Int):numsV (ciL l)=some l:=z7y zju l
theorem zq8 (l:List (List Int)):multV (cL (l.map ciL))=some l:=z7y z8j l
theorem zn9 (l:Leaf):leafV (cvLeaf l)=some l:=by
 unfold leafV cvLeaf
 rw [show listV (cL [ciL l.branch,cI l.kind,cL (l.mult.map ciL)])=some [ciL l.branch,cI l.kind,cL (l.mult.map ciL)] from rfl]
 simp only [z8j,zju,zq8]
theorem zkb (l:List Leaf):leavesV (cL (l.map cvLeaf))=some l:=z7y zn9 l
theorem zlk (c:Cert):certOf (cvC c)=some c:=by
 unfold certOf cvC
 rw [show listV (cL [ciL c.best,ciL c.value,cL (c.leaves.map cvLeaf)])=some [ciL c.best,ciL c.value,cL (c.leaves.map cvLeaf)] from rfl]
 simp only [z8j,zkb]
theorem zco {T:Type} {g:CV->Option T} {f:T->CV} (h:∀ v x,fmd v->g v=some x->f x=v):∀ (l:List CV) (ys:List T),fmdL l->mapC g l=some ys->ys.map f=l
 | [],ys,_,e=>by simp only [mapC,aa] at e;subst e;rfl
 | v::l,ys,hf,e=>by
  rw [fmdL] at hf
  simp only [mapC] at e
  split at e
  ·rename_i y ys0 g1 g2
   simp only [aa] at e
   subst e
   rw [ax,h v y hf.1 g1,zco h l ys0 hf.2 g2]
  ·cases e
theorem z8v {v:CV} {l:List CV} (hf:fmd v) (h:listV v=some l):v=cL l/\fmdL l:=by
 obtain ⟨k,n,s,l'⟩:=v
 change (if k=3 then some l' else none)=some l at h
 rw [fmd] at hf
 by_cases hk:k=3
 ·rw [if_pos hk] at h
  simp only [aa] at h
  subst h
  rcases hf with ⟨rfl,_⟩ | ⟨rfl,_⟩ | ⟨rfl,rfl,rfl,hl⟩
  ·cases hk
  ·cases hk
  ·exact ⟨rfl,hl⟩
 ·rw [if_neg hk] at h;cases h
theorem zf7 (v:CV) (n:Int) (hf:fmd v) (h:numV v=some n):cI n=v:=by
 obtain ⟨k,m,s,l⟩:=v
 change (if k=1 then some m else none)=some n at h
 rw [fmd] at hf
 by_cases hk:k=1
 ·rw [if_pos hk] at h
  simp only [aa] at h
  subst h
  rcases hf with ⟨rfl,_,rfl,rfl⟩ | ⟨rfl,_⟩ | ⟨rfl,_⟩
  ·rfl
  ·cases hk
  ·cases hk
 ·rw [if_neg hk] at h;cases h
theorem z6v {T:Type} {g:CV->Option T} {f:T->CV} (h:∀ v x,fmd v->g v=some x->f x=v) {v:CV} {ys:List T} (hf:fmd v) (e:(listV v).bind (mapC g)=some ys):cL (ys.map f)=v:=by
 cases hl:listV v with
 | none=>rw [hl] at e;cases e
 | some l=>
  rw [hl] at e
  obtain ⟨rfl,hfl⟩:=z8v hf hl
  rw [zco h l ys hfl e]
theorem z69 (v:CV) (ys:List Int) (hf:fmd v) (h:numsV v=some ys):ciL ys=v:=z6v zf7 hf h
theorem zkc (v:CV) (x:Leaf) (hf:fmd v) (h:leafV v=some x):cvLeaf x=v:=by
 unfold leafV at h
 split at h
 ·rename_i a b c hl
  obtain ⟨rfl,hfl⟩:=z8v hf hl
  simp only [fmdL] at hfl
  split at h
  ·rename_i xa y z ha hb hc
   simp only [aa] at h
   subst h
   unfold cvLeaf
   simp only []
   rw [z69 a xa hfl.1 ha,zf7 b y hfl.2.1 hb,z6v z69 hfl.2.2.1 hc]
  ·cases h
 ·cases h
theorem zlj {v:CV} {c:Cert} (hf:fmd v) (h:certOf v=some c):cvC c=v:=by
 unfold certOf at h
 split at h
 ·rename_i a b d hl
  obtain ⟨rfl,hfl⟩:=z8v hf hl
  simp only [fmdL] at hfl
  split at h
  ·rename_i xa y z ha hb hc
   simp only [aa] at h
   subst h
   unfold cvC
   simp only []
   rw [z69 a xa hfl.1 ha,z69 b y hfl.2.1 hb,z6v zkc hfl.2.2.1 hc]
  ·cases h
 ·cases h
end Dv

namespace Dv
attribute [local simp] ae depth dCell dUse dInts dChoice dVar dProb tStart addO Ret
attribute [local congr] z45 z4f z3g z2n z23 z3m z21


def cBE:Cell:=⟨false,2,100⟩
def pBE:Prob:=⟨[cBE],[[0]],[⟨0,0,[0],[⟨0,0,0,[⟨cBE,1⟩]⟩,⟨10,30,1,[]⟩]⟩]⟩
def nBE:Prob:=⟨[],[[]],[]⟩
def kBE:Cert:=⟨[1],[0,10,30,1],[⟨[0],2,[]⟩,⟨[1],1,[]⟩]⟩
def wBE:Cert:=⟨[0],[1,0,0,0],[⟨[0],2,[]⟩,⟨[1],1,[]⟩]⟩
def lBE:Cert:=⟨[1],[0,10,30,1],[⟨[1],1,[]⟩]⟩
def byB:List D:=[3,3,3,1,1,2,3,4,1,0,1,20,1,60,1,2,3,2,3,3,3,1,1,0,1,4,3,0,3,3,3,1,1,2,1,2,3,0].map (D.int .u8)

theorem up31 {k:Nat} {a:List D} {r:D} {n:Nat} (h:runP E (dC E n) k a=some r):runP E (dL E) k a=some r:=z40 (fun _ _ _ h=>z4k _ _ _ h) h

theorem e263:runP E (dL E) 263 []=some (.tup [dProb pBE,dCert kBE]):=up31 (n:=100) (by kernel_rfl)
theorem e230a:runP E (dL E) 230 [dProb nBE,.imm .none []]=some (.tup [.bool false,dI 0]):=up31 (n:=100) (by kernel_rfl)
theorem e230b:runP E (dL E) 230 [dProb pBE,.imm .none [.imm .none []]]=some (.tup [.bool true,dI 0]):=up31 (n:=100) (by kernel_rfl)
theorem e230c:runP E (dL E) 230 [dProb pBE,.imm .none [.imm .none [],.imm .none []]]=some (.tup [.bool false,dI 0]):=up31 (n:=100) (by kernel_rfl)
theorem e252:runP E (dL E) 252 [dCert kBE]=some (.tup [.imm .none byB,dI 0]):=up31 (n:=100) (by kernel_rfl)
theorem e254a:runP E (dL E) 254 [.imm .none byB]=some (.tup [dCert kBE,dI 0]):=up31 (n:=300) (by kernel_rfl)
theorem e264:runP E (dL E) 264 [.agg [.int .i64 1,.int .i64 0,.str [],.imm .none []]]=some (.tup [.imm .none [.int .u8 1,.int .u8 0],dI 0]):=up31 (n:=100) (by kernel_rfl)
theorem e254b:runP E (dL E) 254 [.imm .none [.int .u8 1,.int .u8 0]]=some (.tup [dCert cert0,dI 310]):=up31 (n:=100) (by kernel_rfl)
theorem e216a:runP E (dL E) 216 [dProb pBE,dCert kBE]=some (dI 0):=up31 (n:=100) (by kernel_rfl)
theorem e216b:runP E (dL E) 216 [dProb pBE,dCert wBE]=some (dI 310):=up31 (n:=100) (by kernel_rfl)
theorem e216c:runP E (dL E) 216 [dProb pBE,dCert lBE]=some (dI 310):=up31 (n:=100) (by kernel_rfl)
theorem e216d:runP E (dL E) 216 [dProb nBE,dCert cert0]=some (dI 310):=up31 (n:=100) (by kernel_rfl)
theorem e256:runP E (dL E) 256 [dCert kBE,dCert kBE]=some (.bool true):=up31 (n:=100) (by kernel_rfl)
theorem e231a:runP E (dL E) 231 [dProb pBE,dInts [1],dLeaf ⟨[1],1,[]⟩]=some (dI 0):=up31 (n:=100) (by kernel_rfl)
theorem e231b:runP E (dL E) 231 [dProb pBE,dInts [1],dLeaf ⟨[1],9,[]⟩]=some (dI 310):=up31 (n:=100) (by kernel_rfl)

theorem znh {hp:List Obj} {n:Nat} {s:List UInt8}:frz hp (n+1) (.str s)=some (.str s):=rfl
theorem sane248:runP E (dL E) 248 []=some (.bool true):=by
 refine zi c248 (by simp) ?_
 conv in t248=>reduce;dsimp [ah]
 have h1:=e263
 have h2:=e230a
 have h3:=e230b
 have h4:=e230c
 have h5:=e252
 have h6:=e254a
 have h7:=e264
 have h8:=e254b
 have h9:=e216a
 have h10:=e216b
 have h11:=e216c
 have h12:=e216d
 have h13:=e256
 have h14:=e231a
 have h15:=e231b
 simp only [dProb,dInts,dCert,cert0,pBE,nBE,kBE,wBE,lBE,cBE,dLeaf,dVar,dChoice,dUse,dCell,ax,aG] at h1 h2 h3 h4 h5 h6 h7 h8 h9 h10 h11 h12 h13 h14 h15
 obtain ⟨bb,hb⟩:∃ bb,bb=D.imm .none byB:=⟨_,rfl⟩
 have hf:frz [] 40 bb=some bb:=by rw [hb];rfl
 rw [<- hb] at h5 h6

 have hs:sliceD E 31 (.imm .none [.agg [.imm .none [dI 0],dI 2,.imm .none []],.agg [.imm .none [dI 1],dI 1,.imm .none []]]) (some (.int .i64 1)) none none=some (.imm .none [.agg [.imm .none [dI 1],dI 1,.imm .none []]]):=by kernel_rfl
 simp [t248,n248,hf,znh,hs,h1,h2,h3,h4,h5,h6,h7,h8,h9,h10,h11,h12,h13,h14,h15,z19,z1f]

structure I64L (l:Leaf):Prop where
 b:∀ n ∈ l.branch,i64 n
 k:i64 l.kind
 m:∀ x ∈ l.mult,∀ n ∈ x,i64 n
structure I64C (c:Cert):Prop where
 b:∀ n ∈ c.best,i64 n
 v:∀ n ∈ c.value,i64 n
 l:∀ x ∈ c.leaves,I64L x

theorem zee {T:Type} {f:T->CV} {l:List T} (h:∀ x ∈ l,fmd (f x)):fmd (cL (l.map f)):=zb7 (zfm fun v hv=>by
 obtain ⟨x,hx,rfl⟩:=aT.1 hv
 exact h x hx)
theorem zej {T:Type} {f:T->CV} {l:List T} {n:Nat} (h:∀ x ∈ l,dep (f x)<=n):dep (cL (l.map f))<=n+1:=by
 rw [zbf]
 have:=zfu (l:=l.map f) (n:=n) fun v hv=>by
  obtain ⟨x,hx,rfl⟩:=aT.1 hv
  exact h x hx
 omega
theorem zeh {T:Type} {f:T->CV} {l:List T} {n:Nat} (h:∀ x ∈ l,(enc (f x)).length<=n):(enc (cL (l.map f))).length<=1+(num l.length).length+l.length*n:=by
 have:=zl9 (l:=l.map f) (n:=n) fun v hv=>by
  obtain ⟨x,hx,rfl⟩:=aT.1 hv
  exact h x hx
 rw [zba]
 simp at this ⊢
 omega
theorem num1 {n:Nat} (h:n<128):(num n).length=1:=by rw [z4z h];rfl
theorem zb8 {l:List Int} (h:∀ n ∈ l,i64 n):fmd (ciL l):=zee fun x hx=>zl1 (h x hx)
theorem zbg {l:List Int}:dep (ciL l)<=1:=zej fun x _=>by rw [zlb];exact Nat.le_refl _
theorem zbc {l:List Int} (h:∀ n ∈ l,i64 n) (hl:l.length<=20):(enc (ciL l)).length<=242:=by
 have:=zeh (f:=cI) (l:=l) (n:=12) fun x hx=>zfq (h x hx)
 rw [num1 (by omega)] at this
 unfold ciL
 omega
theorem znx {l:List (List Int)} (h:∀ x ∈ l,∀ n ∈ x,i64 n) (hl:l.length<=8) (hx:∀ x ∈ l,x.length<=20):(enc (cL (l.map ciL))).length<=1938:=by
 have:=zeh (f:=ciL) (l:=l) (n:=242) fun x hx'=>zbc (h x hx') (hx x hx')
 rw [num1 (by omega)] at this
 omega
theorem zl6 {l:Leaf} (h:fewL l=true):l.branch.length<=20/\l.mult.length<=8 /\ ∀ x ∈ l.mult,x.length<=20:=by
 simp only [fewL,ai,aw,decide_eq_true_eq] at h
 exact ⟨h.2.1,h.2.2,h.1⟩
theorem znp {l:Leaf} (h:I64L l):fmd (cvLeaf l):=by
 unfold cvLeaf
 refine zb7 ?_
 simp only [fmdL,and_true]
 exact ⟨zb8 h.b,zl1 h.k,zee fun x hx=>zb8 (h.m x hx)⟩
theorem zo4 {l:Leaf}:dep (cvLeaf l)<=3:=by
 unfold cvLeaf
 rw [zbf]
 have h1:=zbg (l:=l.branch)
 have h2:=zlb (n:=l.kind)
 have h3:dep (cL (l.mult.map ciL))<=2:=zej fun x _=>zbg
 simp only [depL]
 have:∀ a b:Nat,Nat.max a b=max a b:=fun _ _=>rfl
 simp only [this]
 omega
theorem zny {l:Leaf} (h:I64L l) (hf:fewL l=true):(enc (cvLeaf l)).length<=2194:=by
 obtain ⟨f1,f2,f3⟩:=zl6 hf
 have e1:=zbc h.b f1
 have e2:=zfq h.k
 have e3:=znx h.m f2 f3
 have e4:=num1 (n:=3) (by omega)
 unfold cvLeaf
 rw [zba]
 simp [encL] at e1 e2 e3 e4 ⊢
 omega
theorem znt {c:Cert} (h:I64C c) (hf:fewCe c=true):fmdOk (cvC c)/\(enc (cvC c)).length<=900000/\OkCe c:=by
 simp only [fewCe,ai,aw,decide_eq_true_eq] at hf
 obtain ⟨g1,⟨g2,g3⟩,g4⟩:=hf
 have l1:(enc (cL (c.leaves.map cvLeaf))).length<=1+(num c.leaves.length).length+c.leaves.length*2194:=zeh fun x hx=>zny (h.l x hx) (g1 x hx)
 have l2:=z3t (u:=c.leaves.length) (by omega)
 have e1:=zbc h.b g2
 have e2:=zbc h.v g3
 have e4:=num1 (n:=3) (by omega)
 have hlen:(enc (cvC c)).length<=900000:=by
  unfold cvC
  rw [zba]
  simp [encL] at e1 e2 l1 e4 ⊢
  omega
 have hfm:fmd (cvC c):=by
  unfold cvC
  refine zb7 ?_
  simp only [fmdL,and_true]
  exact ⟨zb8 h.b,zb8 h.v,zee fun x hx=>znp (h.l x hx)⟩
 have hdp:dep (cvC c)<=16:=by
  unfold cvC
  rw [zbf]
  have h1:=zbg (l:=c.best)
  have h2:=zbg (l:=c.value)
  have h3:dep (cL (c.leaves.map cvLeaf))<=4:=zej fun x _=>zo4
  simp only [depL]
  have:∀ a b:Nat,Nat.max a b=max a b:=fun _ _=>rfl
  simp only [this]
  omega
 refine ⟨⟨hfm,hdp,by omega⟩,hlen,⟨by omega,by omega,by omega,fun x hx=>?_⟩⟩
 obtain ⟨f1,f2,f3⟩:=zl6 (g1 x hx)
 exact ⟨by omega,by omega,fun y hy=>by have:=f3 y hy;omega⟩

theorem zjt {l:List CV} (h:OkV (cL l)):l.length<=900000 /\ ∀ w ∈ l,OkV w:=⟨h.len,fun w hw=>h.sub hw⟩
theorem z6t {T:Type} {f:T->CV} {l:List T} (h:OkV (cL (l.map f))):l.length<=900000 /\ ∀ x ∈ l,OkV (f x):=by
 obtain ⟨h1,h2⟩:=zjt h
 exact ⟨by simpa using h1,fun x hx=>h2 _ (aT.2 ⟨x,hx,rfl⟩)⟩
theorem zn1 {c:Cert} (h:OkV (cvC c)):OkCe c:=by
 obtain ⟨_,h2⟩:=zjt h
 have hb:=(z6t (h2 (ciL c.best) (by simp))).1
 have hv:=(z6t (h2 (ciL c.value) (by simp))).1
 obtain ⟨hl,hle⟩:=z6t (h2 (cL (c.leaves.map cvLeaf)) (by simp))
 refine ⟨hb,hv,hl,fun x hx=>?_⟩
 obtain ⟨_,k2⟩:=zjt (hle x hx)
 have k3:=(z6t (k2 (ciL x.branch) (by simp))).1
 obtain ⟨k4,k5⟩:=z6t (k2 (cL (x.mult.map ciL)) (by simp))
 exact ⟨k3,k4,fun y hy=>(z6t (k5 y hy)).1⟩

theorem law251 (c:Cert) (hc:I64C c) (hn:c.leaves.length<=9223372036854775807) (hm:∀ l,l ∈ c.leaves->l.mult.length<=9223372036854775807) (raw:List UInt8):runP E (dL E) 251 [dCert c,dBy raw]=some (.bool true):=by
 have e0:=sane248
 have e1:=r213 c hn hm
 have fb:∀ h n,frzL (frz h (n+1)) (raw.map byteD)=some (raw.map byteD):=fun h n=>z1p
 have fl:∀ h n,frzL (frz h (n+4)) (c.leaves.map dLeaf)=some (c.leaves.map dLeaf):=fun h n=>z29
 have bl:(raw.map byteD).length=raw.length:=by simp
 cases hf:fewCe c with
 | false=>
  rw [hf] at e1
  refine zi c251 (by simp) ?_
  conv in t251=>reduce;dsimp [ah]
  simp [t251,n251,e0,e1,z29]
 | true=>
 rw [hf] at e1
 by_cases hr:raw.length<=2000
 case neg=>
  have hr':(2000:Int)<(raw.length:Int):=by omega
  refine zi c251 (by simp) ?_
  conv in t251=>reduce;dsimp [ah]
  simp [t251,n251,e0,e1,z29,hr']
 have hr' : ¬ (2000:Int)<(raw.length:Int):=by omega
 obtain ⟨fo,hlen,oc⟩:=znt hc hf
 have e2:=r252 c oc fo
 have e3:=r253 c oc fo
 have dco:deco (enc (cvC c))=some (cvC c):=zo5 fo.f fo.d (by omega)
 have e4:=r254 (enc (cvC c)) hlen
 have e5:=r254 raw (by omega)
 have e6:=r255 raw (by omega)
 rw [zgn] at e6
 have e7:=r256 c c oc
 rw [decide_eq_true rfl] at e7
 unfold resDec at e4
 rw [dco] at e4
 simp only [zlk] at e4
 have fe:∀ h n,frzL (frz h (n+1)) ((enc (cvC c)).map byteD)=some ((enc (cvC c)).map byteD):=fun h n=>z1p
 have b1:=z75 (enc (cvC c))
 have b2:=z75 raw
 have b3:b2sD E 30 53 (.imm .none ((enc (cvC c)).map byteD))=some (.str (enc (cvC c))):=by rw [z84];rfl
 have b4:b2sD E 30 53 (.imm .none (raw.map byteD))=some (.str raw):=by rw [z84];rfl
 obtain ⟨bs,hbs⟩:∃ bs,bs=enc (cvC c):=⟨_,rfl⟩
 rw [<- hbs] at e2 e3 e4 fe b1 b3
 obtain ⟨x1,x2,x3⟩:=c
 simp only [] at fl
 have fl:=fun h n=>fl h n
 obtain ⟨L,hL⟩:∃ L,L=x3.map dLeaf:=⟨_,rfl⟩
 simp only [dCert,<- hL] at e1 e2 e3 e4 e7 fl ⊢
 unfold resDec at e5 e6
 cases hd:deco raw with
 | none=>
  rw [hd] at e5 e6
  have e8:runP E (dL E) 256 [.agg [.imm .none [],.imm .none [],.imm .none []],.agg [.imm .none [],.imm .none [],.imm .none []]]=some (.bool true):=by
   have:=r256 cert0 cert0 ⟨by simp [cert0],by simp [cert0],by simp [cert0],by simp [cert0]⟩
   rw [decide_eq_true rfl] at this
   exact this
  have k5:runP E (dL E) 254 [dBy raw]=some (.tup [.agg [.imm .none [],.imm .none [],.imm .none []],dI 10]):=e5
  have k6:runP E (dL E) 255 [dBy raw]=some (.tup [.agg [.imm .none [],.imm .none [],.imm .none []],dI 10]):=e6
  refine zi c251 (by simp) ?_
  conv in t251=>reduce;dsimp [ah]
  simp [t251,n251,e0,e1,hr',fl,fb,fe,e2,e3,e4,k5,k6,e7,e8,b3,b4]
 | some v=>
  rw [hd] at e5 e6
  simp only [] at e5 e6
  obtain ⟨hbe,hfv,hdv⟩:=zbb hd
  have ok:OkV v:=⟨hfv,hdv,by rw [<- hbe];omega⟩
  cases hy:certOf v with
  | none=>
  rw [hy] at e5 e6
  have e8:runP E (dL E) 256 [.agg [.imm .none [],.imm .none [],.imm .none []],.agg [.imm .none [],.imm .none [],.imm .none []]]=some (.bool true):=by
   have:=r256 cert0 cert0 ⟨by simp [cert0],by simp [cert0],by simp [cert0],by simp [cert0]⟩
   rw [decide_eq_true rfl] at this
   exact this
  have k5:runP E (dL E) 254 [dBy raw]=some (.tup [.agg [.imm .none [],.imm .none [],.imm .none []],dI 310]):=e5
  have k6:runP E (dL E) 255 [dBy raw]=some (.tup [.agg [.imm .none [],.imm .none [],.imm .none []],dI 310]):=e6
  refine zi c251 (by simp) ?_
  conv in t251=>reduce;dsimp [ah]
  simp [t251,n251,e0,e1,hr',fl,fb,fe,e2,e3,e4,k5,k6,e7,e8,b3,b4]
  | some y=>
  rw [hy] at e5 e6
  simp only [] at e5 e6
  have hb:=zlj hfv hy
  have oy:OkCe y:=zn1 (by rw [hb];exact ok)
  have e9:=r252 y oy (by rw [hb];exact ⟨hfv,hdv,by have:=ok.n;omega⟩)
  rw [hb,<- hbe] at e9
  have e10:=r256 y y oy
  rw [decide_eq_true rfl] at e10
  obtain ⟨y1,y2,y3⟩:=y
  have fm:∀ h n,frzL (frz h (n+4)) (y3.map dLeaf)=some (y3.map dLeaf):=fun h n=>z29
  obtain ⟨M,hM⟩:∃ M,M=y3.map dLeaf:=⟨_,rfl⟩
  simp only [dCert,<- hM] at e5 e6 e9 e10 fm
  refine zi c251 (by simp) ?_
  conv in t251=>reduce;dsimp [ah]
  simp [t251,n251,e0,e1,hr',fl,fm,fb,fe,e2,e3,e4,e5,e6,e7,e9,e10,b3,b4]

theorem zrr {x:D} (h:Typed E 13 x):∃ u:UInt8,x=byteD u:=by
 have h:=z62 h rfl
 generalize hds:[x]=ds at h
 cases h with
 | int h' hw=>
  rename_i k n
  have hk:(E.ty 13).k=.int .u8:=rfl
  rw [hk] at h';cases h'
  simp only [bF,and_true] at hds
  simp [Go.Lit.wf] at hw
  obtain ⟨a1,a2⟩:=hw
  have e1:iY.min=0:=by decide
  have e2:iY.max=255:=by decide
  have b1:0<=n:=by first | exact a1 | (rw [e1] at a1;exact a1)
  have b2:n<=255:=by first | exact a2 | (rw [e2] at a2;exact a2)
  refine ⟨bX n.toNat,?_⟩
  have:(bX n.toNat).toNat=n.toNat:=by simp;omega
  rw [hds]
  simp only [D.int.injEq,true_and,this]
  omega
 | bool h'=>cases h'
 | str h'=>cases h'
 | slice h' _ _ _=>cases h'
 | struct h' _ _=>cases h'
 | arr h' _ _=>cases h'
theorem zpr {x:D} (h:Typed E 30 x):∃ l:List UInt8,x=dBy l:=by
 obtain ⟨els,h3,_,he⟩:=z7q (e:=13) (z62 h rfl) rfl
 simp only [bF,and_true] at h3
 obtain ⟨l,rfl,_⟩:=z8u (f:=byteD) (R:=fun _=>True) (els:=els) fun y hy=>by
  obtain ⟨u,hu⟩:=zrr (he y hy)
  exact ⟨u,hu,trivial⟩
 exact ⟨l,h3⟩
theorem zmf {x:D} (h:Typed E 32 x):∃ l,x=dLeaf l/\(l.mult.length<=9223372036854775807/\I64L l):=by
 obtain ⟨ds,rfl,h1⟩:=zbs h rfl
 obtain ⟨hl,hf⟩:=zbt h1 (fs:=[(0,1),(1,2),(2,9)]) rfl
 obtain ⟨x,y,z,rfl⟩:=three hl
 obtain ⟨b,h2,o2⟩:=zak (hf 0 _ rfl) rfl
 obtain ⟨k,h3,o3⟩:=zoy (hf 1 _ rfl) rfl
 obtain ⟨els,h4,hn,h6⟩:=z7q (hf 2 _ rfl) (e:=6) rfl
 simp [E,tyTab] at h2 h3 h4
 subst h2 h3 h4
 obtain ⟨l,rfl,o4⟩:=z8u (f:=dInts) (R:=okInts) (els:=els) fun x hx=>by
  obtain ⟨l,h5,o⟩:=zak (z62 (h6 x hx) rfl) rfl
  simp at h5;exact ⟨l,h5,o⟩
 have hm:Go.maxLen<=9223372036854775807:=by decide
 exact ⟨⟨b,k,l⟩,rfl,by simp at hn;simp;omega,⟨o2,o3,fun x hx=>o4 x hx⟩⟩
theorem zmg {x:D} (h:Typed E 29 x):∃ c,x=dCert c/\c.leaves.length<=9223372036854775807/\(∀ l,l ∈ c.leaves->l.mult.length<=9223372036854775807)/\I64C c:=by
 obtain ⟨ds,rfl,h1⟩:=zbs h rfl
 obtain ⟨hl,hf⟩:=zbt h1 (fs:=[(0,6),(1,6),(2,31)]) rfl
 obtain ⟨x,y,z,rfl⟩:=three hl
 obtain ⟨b,h2,o2⟩:=zak (hf 0 _ rfl) rfl
 obtain ⟨v,h3,o3⟩:=zak (hf 1 _ rfl) rfl
 obtain ⟨els,h4,hn,h6⟩:=z7q (hf 2 _ rfl) (e:=32) rfl
 simp [E,tyTab] at h2 h3 h4
 subst h2 h3 h4
 obtain ⟨l,rfl,o⟩:=z8u (f:=dLeaf) (R:=fun l=>l.mult.length<=9223372036854775807/\I64L l) (els:=els) fun x hx=>zmf (h6 x hx)
 have hm:Go.maxLen<=9223372036854775807:=by decide
 exact ⟨⟨b,v,l⟩,rfl,by simp at hn;simp;omega,fun l hl=>(o l hl).1,⟨o2,o3,fun l hl=>(o l hl).2⟩⟩

theorem certificateCodeSpec:∀ xs,TypedL E [29,30] xs->∃ n,runP E (dC E n) 251 xs=some (.bool true):=by
 intro xs h
 match xs,h with
 | [x,y],⟨t1,t2,_⟩=>
  obtain ⟨c,rfl,hn,hm,hi⟩:=zmg t1
  obtain ⟨raw,rfl⟩:=zpr t2
  exact zdk (law251 c hi hn hm raw)
 | [],h=>exact h.elim
 | [_],h=>exact h.2.elim
 | _::_::_::_,h=>exact h.2.2.elim

end Dv
