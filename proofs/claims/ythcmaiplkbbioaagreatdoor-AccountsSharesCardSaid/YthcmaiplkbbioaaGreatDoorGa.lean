/- Texts that a proof of this claim uses, joined: Lw.W2, Lw.W3, Lw.W4, Lw.W5, Lw.W6, Lw.W7, Lw.W8, Lw.W9, Lw.W10, Lw.W11, Lw.W199, Lw.W20, Lw.W21, Lw.W22, Lw.W24, Lw.W25, Lw.W26, Lw.W34, Lw.W36, Lw.W35, Lw.W39, Lw.W41, Lw.W43, Lw.W90, Lw.Ty, Lw.S27, Lw.R20, Lw.W40, Lw.W31, Lw.W13, Lw.W27, Lw.S28, Lw.W37, Lw.W14, Lw.W15, Lw.W16, Lw.W17, Lw.W38, Lw.W33, Lw.W80, Lw.W81, Lw.W45, Lw.W82, Lw.Pieces. -/
import Derived.Test.YthcmaiplkbbioaaGreatDoorWa
import Derived.Test.YthcmaiplkbbioaaGreatDoorLwa
import Derived.Test.YthcmaiplkbbioaaGreatDoorTc
import Derived.Test.YthcmaiplkbbioaaGreatDoorDvd
import Derived.KernelRfl
set_option linter.all false
open Bool renaming and_eq_true->ak,and_false->m7,beq_eq_decide_eq->il,false_and->gI,true_and->jc
open Classical renaming byContradiction->eB
open Go.IntKind renaming i64->aH,u8->gY
open Int renaming add_zero->iz,le_refl->eV,le_trans->kV,mul_le_mul_of_nonneg_right->iA,mul_nonneg->kb,negSucc_eq->ai,toNat_natCast->bZ
open List renaming all_cons->cG,all_eq_true->ay,all_nil->dU,append_assoc->bi,cons_append->aJ,countP_append->lh,countP_singleton->ke,dropLast_concat_getLast->dM,drop_length->br,drop_of_length_le->dY,drop_zero->dp,eq_nil_of_length_eq_zero->aI,filter_append->gA,flatMap_cons->bv,foldl_cons->bQ,foldl_nil->gG,getD_cons_succ->b8,getD_cons_zero->bG,getD_eq_getElem?_getD->af,getElem?_append_left->aB,getElem?_eq_getElem->ac,getElem?_eq_none->aT,getElem?_eq_some_iff->ae,getElem?_set_ne->bj,getElem?_set_self->aQ,getElem_cons_succ->dZ,getElem_mem->au,getElem_of_mem->dt,getElem_set_ne->iG,head?_cons->mM,head?_drop->mL,length_append->ar,length_cons->aq,length_nil->aV,length_set->bn,map->bO,map_append->bm,map_cons->av,map_nil->aN,mem_append->aC,mem_cons->aA,mem_iff_getElem->f8,mem_map->aK,mem_of_mem_drop->bW,mem_or_eq_of_mem_set->fh,mem_reverse->ic,mem_singleton->bz,nil_append->bo,prefix_append->i8,prefix_refl->ml,range->bB,range_succ->fL,replicate->ah,replicate_succ->eO,reverse_append->iJ,set_append_right->ei,singleton_append->fW,tail_cons->m9,tail_drop->m8,take_of_length_le->ba,zipIdx_append->lc,zipIdx_cons->jp
open List.IsPrefix renaming trans->iI
open List.Nodup renaming count->vn
open List.Pairwise renaming imp->lN
open List.cons renaming injEq->cb
open Nat renaming add_assoc->da,add_comm->eY,le_of_not_lt->dA,le_refl->aj,lt_succ_iff_lt_or_eq->eJ,zero_le->dD
open Option renaming getD_some->aX,map_some->al
open Option.some renaming inj->cr
set_option maxRecDepth 100000
set_option maxHeartbeats 16000000
namespace Dv
attribute [local simp] ah depth y22 y4y ya y16 y4t ye y2q y2f Ret
attribute [local congr] z1j z1k z19 z12 zw z1a zu
theorem z60{n:Nat}(h:n<=1000000000000):aH.wrap (n:Int)=(n:Int):=za ⟨by omega,by omega⟩
def y37{A:Type}(c:A->A->Int):List A->Bool
 |a::b::r=>decide (c a b<0) && y37 c (b::r)
 |_=>true
theorem zbc{A:Type}{c:A->A->Int}{l:List A}(h:l.length<=1):y37 c l=true:=by
 match l,h with
 |[],_=>rfl
 |[_],_=>rfl
theorem r69(l:List Cell)(k:Nat)(c:Cell->Cell->Int)(hc:∀ a b,yu E (dL E) k [y22 a,y22 b]=some (dI (c a b)))(hl:l.length<=1000000) :
  yu E (dL E) 69 [.imm .none (l.map y22),.fn k []]=some (.bool (y37 c l)):=by
 refine zg c69 (by simp) ?_
 conv in t69=>reduce;dsimp[ai]
 simp[t69,n69];refine zl (l.length+1) (fun i env hp=>∃ c4 c5:D,env=[.imm .none (l.map y22),.fn k [],.bool false,dI i,c4,c5] /\ ∃ j,i=j+1/\y37 c (l.drop j)=y37 c l) 1 (by omega) ⟨_,_,rfl,0,rfl,rfl⟩ ?_
 rintro i env hp hi ⟨c4,c5,rfl,j,rfl,hm⟩
 by_cases hlt:j+1<l.length
 ·have hj:j<l.length:=by omega
  rw[zh hj,zh hlt]at hm;have hk:=hc l[j] l[j+1];have hlt':(j:Int)+1<l.length:=by omega
  have hnn:(0:Int)<=(j:Int)+1:=by omega
  by_cases h0:c l[j] l[j+1]<0
  ·simp[y37,h0]at hm;have h0' : ¬ 0<=c l[j] l[j+1]:=by omega
   simp[hlt,hlt',hj,hnn,z60 (n:=j) (by omega),za (n:=(j:Int)+1) ⟨by omega,by omega⟩,za (n:=(j:Int)+1+1) ⟨by omega,by omega⟩,hk,h0',hm]
  ·simp[y37,h0]at hm;have h0':0<=c l[j] l[j+1]:=by omega
   simp[hlt,hlt',hj,hnn,z60 (n:=j) (by omega),za (n:=(j:Int)+1) ⟨by omega,by omega⟩,hk,h0',hm]
 ·have he:y37 c (l.drop j)=true:=zbc (by simp;omega)
  have hlt' : ¬ (j:Int)+1<l.length:=by omega
  rw[he]at hm;simp[hlt,hlt',<- hm]
theorem r73(l:List Int)(k:Nat)(c:Int->Int->Int)(hc:∀ a b,yu E (dL E) k [dI a,dI b]=some (dI (c a b)))(hl:l.length<=1000000) :
  yu E (dL E) 73 [.imm .none (l.map dI),.fn k []]=some (.bool (y37 c l)):=by
 refine zg c73 (by simp) ?_
 conv in t73=>reduce;dsimp[ai]
 simp[t73,n73];refine zl (l.length+1) (fun i env hp=>∃ c4 c5:D,env=[.imm .none (l.map dI),.fn k [],.bool false,dI i,c4,c5] /\ ∃ j,i=j+1/\y37 c (l.drop j)=y37 c l) 1 (by omega) ⟨_,_,rfl,0,rfl,rfl⟩ ?_
 rintro i env hp hi ⟨c4,c5,rfl,j,rfl,hm⟩
 by_cases hlt:j+1<l.length
 ·have hj:j<l.length:=by omega
  rw[zh hj,zh hlt]at hm;have hk:=hc l[j] l[j+1];have hlt':(j:Int)+1<l.length:=by omega
  have hnn:(0:Int)<=(j:Int)+1:=by omega
  by_cases h0:c l[j] l[j+1]<0
  ·simp[y37,h0]at hm;have h0' : ¬ 0<=c l[j] l[j+1]:=by omega
   simp[hlt,hlt',hj,hnn,z60 (n:=j) (by omega),za (n:=(j:Int)+1) ⟨by omega,by omega⟩,za (n:=(j:Int)+1+1) ⟨by omega,by omega⟩,hk,h0',hm]
  ·simp[y37,h0]at hm;have h0':0<=c l[j] l[j+1]:=by omega
   simp[hlt,hlt',hj,hnn,z60 (n:=j) (by omega),za (n:=(j:Int)+1) ⟨by omega,by omega⟩,hk,h0',hm]
 ·have he:y37 c (l.drop j)=true:=zbc (by simp;omega)
  have hlt' : ¬ (j:Int)+1<l.length:=by omega
  rw[he]at hm;simp[hlt,hlt',<- hm]
theorem r75(l:List Use)(k:Nat)(c:Use->Use->Int)(hc:∀ a b,yu E (dL E) k [y4y a,y4y b]=some (dI (c a b)))(hl:l.length<=1000000) :
  yu E (dL E) 75 [.imm .none (l.map y4y),.fn k []]=some (.bool (y37 c l)):=by
 refine zg c75 (by simp) ?_
 conv in t75=>reduce;dsimp[ai]
 simp[t75,n75];refine zl (l.length+1) (fun i env hp=>∃ c4 c5:D,env=[.imm .none (l.map y4y),.fn k [],.bool false,dI i,c4,c5] /\ ∃ j,i=j+1/\y37 c (l.drop j)=y37 c l) 1 (by omega) ⟨_,_,rfl,0,rfl,rfl⟩ ?_
 rintro i env hp hi ⟨c4,c5,rfl,j,rfl,hm⟩
 by_cases hlt:j+1<l.length
 ·have hj:j<l.length:=by omega
  rw[zh hj,zh hlt]at hm;have hk:=hc l[j] l[j+1];have hlt':(j:Int)+1<l.length:=by omega
  have hnn:(0:Int)<=(j:Int)+1:=by omega
  by_cases h0:c l[j] l[j+1]<0
  ·simp[y37,h0]at hm;have h0' : ¬ 0<=c l[j] l[j+1]:=by omega
   simp[hlt,hlt',hj,hnn,z60 (n:=j) (by omega),za (n:=(j:Int)+1) ⟨by omega,by omega⟩,za (n:=(j:Int)+1+1) ⟨by omega,by omega⟩,hk,h0',hm]
  ·simp[y37,h0]at hm;have h0':0<=c l[j] l[j+1]:=by omega
   simp[hlt,hlt',hj,hnn,z60 (n:=j) (by omega),za (n:=(j:Int)+1) ⟨by omega,by omega⟩,hk,h0',hm]
 ·have he:y37 c (l.drop j)=true:=zbc (by simp;omega)
  have hlt' : ¬ (j:Int)+1<l.length:=by omega
  rw[he]at hm;simp[hlt,hlt',<- hm]
def y56{A:Type}(f:A->Bool):List A->Nat->Int
 |[],_=>-1
 |x::r,i=>if f x then i else y56 f r (i+1)
theorem z6e{A:Type}{f:A->Bool}:∀{l:List A} {i:Nat},decide (0<=y56 f l i)=l.any f
 |[],i=>rfl
 |x::r,i=>by
  simp only[y56,List.any_cons]
  by_cases h:f x=true
  ·simp[h]
  ·have h2:=z6e (f:=f) (l:=r) (i:=i+1);simp at h;simpa[h]using h2
theorem r106(l:List Int)(k:Nat)(f:Int->Bool)(hf:∀ x,yu E (dL E) k [dI x]=some (.bool (f x)))(hl:l.length<=1000000) :
  yu E (dL E) 106 [ya l,.fn k []]=some (dI (y56 f l 0)):=by
 refine zg c106 (by simp) ?_
 conv in t106=>reduce;dsimp[ai]
 simp[t106,n106];refine zl l.length (fun i env hp=>∃ c3 c6 c7:D,env=[ya l,.fn k [],dI 0,c3,dI l.length,dI i,c6,c7]/\y56 f (l.drop i) i=y56 f l 0) 0 (by omega) ⟨_,_,_,rfl,rfl⟩ ?_
 rintro i env hp hi ⟨c3,c6,c7,rfl,hm⟩
 by_cases hlt:i<l.length
 ·rw[zh hlt]at hm;have hk:=hf l[i];cases h0:f l[i]with
  |true=>simp[y56,h0]at hm;simp[hlt,hk,h0,<- hm]
  |false=>simp[y56,h0]at hm;simp[hlt,hk,h0,ze hlt (by omega),hm]
 ·have:i=l.length:=by omega
  subst this;simp[y56]at hm;simp[<- hm]
theorem r71(l:List Int)(k:Nat)(f:Int->Bool)(hf:∀ x,yu E (dL E) k [dI x]=some (.bool (f x)))(hl:l.length<=1000000) :
  yu E (dL E) 71 [ya l,.fn k []]=some (.bool (l.any f)):=by
 refine zg c71 (by simp) ?_
 conv in t71=>reduce;dsimp[ai]
 simp[t71,n71,r106 l k f hf hl,z6e]
def atS(c:Cell):List Cell->Nat->Int
 |[],_=>-1
 |x::l,i=>if x=c then i else atS c l (i+1)
theorem z1h{A:Type}{h r:List A}{x:A}:(h++x::r)[h.length]? = some x:=by simp
theorem z37{A:Type}{h r:List A}{x y:A}:(h++x::r).set h.length y=h++y::r:=by simp
def y87:List Var->Int->Int->Int
 |[],_,n=>n
 |v::r,lim,n=>if n<lim then y87 r lim (n*(if 1<(v.choices.length:Int)then v.choices.length else 1))else n
def ybj(p:yl)(lim:Int):Int:=if lim<y87 p.vars lim 1 then lim else y87 p.vars lim 1
theorem r61(p:yl)(lim:Int)(h8:∀ v,v ∈ p.vars->v.choices.length<=8)(hl:lim<=2000)(hv:p.vars.length<=6) :
  yu E (dL E) 61 [ye p,dI lim]=some (dI (ybj p lim)):=by
 refine zg c61 (by simp) ?_
 conv in t61=>reduce;dsimp[ai]
 unfold ybj;simp[t61,n61];refine zl p.vars.length (fun i env hp=>∃(n:Int) (c:D),env=[ye p,dI lim,.loc 0 0,dI 0,dI n,dI i,c]/\hp=[.cells (ye p).cellsL]/\0<=n/\n<=16000/\y87 (p.vars.drop i) lim n=y87 p.vars lim 1) 0 (dD _) ⟨1,.undef,rfl,rfl,by omega,by omega,rfl⟩ ?_
 rintro i env hp hi ⟨n,c,rfl,rfl,h0,h1,hm⟩
 by_cases hlt:i<p.vars.length
 ·rw[zh hlt]at hm;have hc8:p.vars[i].choices.length<=8:=h8 _ (au hlt)
  by_cases hn:n<lim
  ·simp only[y87,if_pos hn]at hm;have hb:n*p.vars[i].choices.length<=2000*8:=by
    have:=Int.mul_le_mul_of_nonneg_left (show(p.vars[i].choices.length:Int)<=8 by omega) h0
    omega
   have hb0:0<=n*p.vars[i].choices.length:=kb h0 (by omega)
   by_cases h1':1<(p.vars[i].choices.length:Int)
   ·rw[if_pos h1']at hm;simp[hlt,hn,h1',ze hlt (by omega),za (n:=n*p.vars[i].choices.length) ⟨by omega,by omega⟩]
    exact⟨hb0,hb,hm⟩
   ·rw[if_neg h1']at hm;have hn1:n*1=n:=Int.mul_one n;simp only[Int.natCast_one,hn1]at hm;simp[hlt,hn,h1',ze hlt (by omega),za (n:=n) ⟨by omega,by omega⟩]
    exact⟨h0,h1,hm⟩
  ·simp only[y87,if_neg hn]at hm;simp[hlt,hn];subst hm;split <;> simp[*]
 ·have:i=p.vars.length:=by omega
  subst this;simp[y87]at hm;subst hm;simp
def yas(v:Var):Bool:=decide (v.leaves.length<=8) && decide (v.choices.length<=8) && v.choices.all fun c=>decide (c.uses.length<=12)
def yeb(p:yl):Bool:=decide (p.cells.length<=12) && decide (p.capacity.length<=4) && decide (p.vars.length<=6) && (p.capacity.all fun l=>decide (l.length<=16)) && p.vars.all yas && decide (ybj p 2000<2000)
theorem r2(p:yl):yu E (dL E) 2 [ye p]=some (.bool (yeb p)):=by
 refine zg c2 (by simp) ?_
 unfold yeb;simp[t2,n2]
 by_cases h1':(12:Int)<p.cells.length
 ·have h1 : ¬ p.cells.length<=12:=by omega
  simp[h1,h1']
 by_cases h2':(4:Int)<p.capacity.length
 ·have h2 : ¬ p.capacity.length<=4:=by omega
  simp[h1',h2,h2']
 by_cases h3':(6:Int)<p.vars.length
 ·have h3 : ¬ p.vars.length<=6:=by omega
  simp[h1',h2',h3,h3']
 have h1:p.cells.length<=12:=by omega
 have h2:p.capacity.length<=4:=by omega
 have h3:p.vars.length<=6:=by omega
 simp[h1,h1',h2,h2',h3,h3'];refine zl p.capacity.length (fun i env hp=>∃ x4 x5 x6 x7 x8 x9 x10 x11 x12 x13 x14:D,env=[ye p,.loc 0 0,.bool false,dI i,x4,x5,x6,x7,x8,x9,x10,x11,x12,x13,x14]/\hp=[.cells (ye p).cellsL] /\
  ((p.capacity.drop i).all fun l=>decide (l.length<=16))=(p.capacity.all fun l=>decide (l.length<=16))) 0 (by omega) ⟨_,_,_,_,_,_,_,_,_,_,_,rfl,rfl,rfl⟩ ?_
 rintro i env hp hi ⟨x4,x5,x6,x7,x8,x9,x10,x11,x12,x13,x14,rfl,rfl,hm⟩
 by_cases hlt:i<p.capacity.length
 ·rw[zh hlt,cG]at hm
  by_cases h4:p.capacity[i].length<=16
  ·have h4' : ¬ (16:Int)<p.capacity[i].length:=by omega
   simp only[h4,decide_true,jc]at hm;simp[hlt,h4',ze hlt (by omega),hm]
  ·have h4':(16:Int)<p.capacity[i].length:=by omega
   simp only[h4,decide_false,gI]at hm;simp[hlt,h4',<- hm]
 have:i=p.capacity.length:=by omega
 subst this;simp only[br,dU]at hm;simp[<- hm];refine zl p.vars.length (fun i env hp=>∃(x3 x5 x6 x7 x8 x9 x10 x11 x12 x13 x14:D) (h:List Obj),env=[ye p,.loc 0 0,.bool false,x3,dI i,x5,x6,x7,x8,x9,x10,x11,x12,x13,x14]/\hp=.cells (ye p).cellsL::h /\
  (p.vars.drop i).all yas=p.vars.all yas /\ ∀ j (hj:j<p.vars.length),j<i->yas p.vars[j]=true) 0 (by omega) ⟨_,_,_,_,_,_,_,_,_,_,_,_,rfl,rfl,rfl,fun j _ hj=>by omega⟩ ?_
 rintro i env hp hi ⟨x3,x5,x6,x7,x8,x9,x10,x11,x12,x13,x14,h,rfl,rfl,hv,hall⟩
 by_cases hlt:i<p.vars.length
 ·rw[zh hlt,cG]at hv;simp[hlt,z1h,z37]
  by_cases g1':(8:Int)<p.vars[i].leaves.length
  ·have g1 : ¬ p.vars[i].leaves.length<=8:=by omega
   simp only[yas,g1,decide_false,gI]at hv;simp[g1',<- hv]
  by_cases g2':(8:Int)<p.vars[i].choices.length
  ·have g2 : ¬ p.vars[i].choices.length<=8:=by omega
   simp only[yas,g2,decide_false,gI,m7]at hv;simp[g1',g2',<- hv]
  have g1:p.vars[i].leaves.length<=8:=by omega
  have g2:p.vars[i].choices.length<=8:=by omega
  simp[g1',g2'];refine zl p.vars[i].choices.length (fun k env hp=>∃(x3 x7 x8 x9 x10 x11 x12 x13 x14:D),env=[ye p,.loc 0 0,.bool false,x3,dI i,.loc (h.length+1) 0,dI k,x7,x8,x9,x10,x11,x12,x13,x14] /\
   hp=.cells (ye p).cellsL::(h++[.cells (y4t p.vars[i]).cellsL]) /\
   ((p.vars[i].choices.drop k).all fun c=>decide (c.uses.length<=12))=(p.vars[i].choices.all fun c=>decide (c.uses.length<=12))) 0 (by omega) ⟨_,_,_,_,_,_,_,_,_,rfl,rfl,rfl⟩ ?_
  rintro k env hp hk ⟨x3,x7,x8,x9,x10,x11,x12,x13,x14,rfl,rfl,hc⟩
  by_cases hlt2:k<p.vars[i].choices.length
  ·rw[zh hlt2,cG]at hc;simp[hlt,hlt2,z1h]
   by_cases g3':(12:Int)<p.vars[i].choices[k].uses.length
   ·have g3 : ¬ p.vars[i].choices[k].uses.length<=12:=by omega
    simp only[g3,decide_false,gI]at hc;simp only[yas,<- hc,m7,gI]at hv;simp[g3'];intro hh;rw[ay.2 hh]at hv;cases hv
   ·have g3:p.vars[i].choices[k].uses.length<=12:=by omega
    simp only[g3,decide_true,jc]at hc;simp[g3',ze hlt2 (by omega),hc]
  ·have:k=p.vars[i].choices.length:=by omega
   subst this;simp only[br,dU]at hc;have hf:yas p.vars[i]=true:=by simp[yas,g1,g2,<- hc]
   rw[hf,jc]at hv;simp[z1h,ze hlt (by omega),hlt,hv]
   intro j hj hj';rcases eJ.1 hj' with h' | rfl
   ·exact hall j hj h'
   ·exact hf
 ·have:i=p.vars.length:=by omega
  subst this;simp only[br,dU]at hv;have h61:=r61 p 2000 (fun v hv=>by
   obtain⟨j,hj,rfl⟩:=dt hv;have:=hall j hj hj;simp only[yas,ak,decide_eq_true_eq]at this;exact this.1.2) (by omega) h3
  simp[<- hv,h61]
section
variable{E:Env}{Q:Ex->List D->List Obj->Prop}{env:List D}{hp:List Obj}
theorem wT_chk{a:TC}(n:Nat)(P:Nat->Prop)(I:Nat->List D->List Obj->Prop)(h0:I 0 env hp)
  (good:∀ i env hp,i<n->I i env hp->P i->(∀ j,j<i->P j)->wT E a (fun ex env' hp'=>match ex with
   |.normal=>I (i+1) env' hp'
   |_=>False) env hp)
  (bad:∀ i env hp,i<n->I i env hp -> ¬ P i->wT E a (fun ex env' hp'=>match ex with
   |.normal=>False
   |ex=>Q ex env' hp') env hp)
  (last:∀ env hp,I n env hp->(∀ j,j<n->P j)->wT E a (fun ex env' hp'=>match ex with
   |.normal=>False
   |ex=>Q ex env' hp') env hp):wT E (.loop a) Q env hp:=by
 refine zl n (fun i env hp=>I i env hp /\ ∀ j,j<i->P j) 0 (dD _) ⟨h0,fun j hj=>by omega⟩ ?_
 rintro i env hp hi ⟨hI,hP⟩
 by_cases hlt:i<n
 ·by_cases hp':P i
  ·refine z8d ?_ (good i env hp hlt hI hp' hP);intro ex env' hp'' h;cases ex with
   |normal=>
    refine⟨hlt,h,fun j hj=>?_⟩
    rcases eJ.1 hj with h1 | rfl
    ·exact hP j h1
    ·exact hp'
   |exit _=>exact h.elim
   |ret=>exact h.elim
  ·refine z8d ?_ (bad i env hp hlt hI hp');intro ex env' hp'' h;cases ex with
   |normal=>exact h.elim
   |exit _=>exact h
   |ret=>exact h
 ·have:i=n:=by omega
  subst this;refine z8d ?_ (last env hp hI hP);intro ex env' hp'' h;cases ex with
  |normal=>exact h.elim
  |exit _=>exact h
  |ret=>exact h
theorem z5i{a:TC}(n:Nat)(P:Nat->Prop)(I:Nat->List D->List Obj->Prop)(h0:I 0 env hp)
  (step:∀ i env hp,i<n->I i env hp->(∀ j,j<i->P j)->wT E a (fun ex env' hp'=>match ex with
   |.normal=>P i/\I (i+1) env' hp'
   |ex=>Q ex env' hp') env hp)
  (last:∀ env hp,I n env hp->(∀ j,j<n->P j)->wT E a (fun ex env' hp'=>match ex with
   |.normal=>False
   |ex=>Q ex env' hp') env hp):wT E (.loop a) Q env hp:=by
 refine zl n (fun i env hp=>I i env hp /\ ∀ j,j<i->P j) 0 (dD _) ⟨h0,fun j hj=>by omega⟩ ?_
 rintro i env hp hi ⟨hI,hP⟩
 by_cases hlt:i<n
 ·refine z8d ?_ (step i env hp hlt hI hP);intro ex env' hp'' h;cases ex with
  |normal=>
   refine⟨hlt,h.2,fun j hj=>?_⟩
   rcases eJ.1 hj with h1 | rfl
   ·exact hP j h1
   ·exact h.1
  |exit _=>exact h
  |ret=>exact h
 ·have:i=n:=by omega
  subst this;refine z8d ?_ (last env hp hI hP);intro ex env' hp'' h;cases ex with
  |normal=>exact h.elim
  |exit _=>exact h
  |ret=>exact h
end
theorem zp4{i:Nat}(h0:0<i)(h:i<=1000000000000):aH.wrap ((i:Int) - 1)=((i - 1:Nat):Int):=by rw[za ⟨by omega,by omega⟩];omega
def wi(n lo hi:Int):Prop:=lo<=n/\n<=hi
instance{n lo hi:Int}:Decidable (wi n lo hi):=inferInstanceAs (Decidable (_/\_))
structure yb3(p:yl)(u:Use):Prop where
 known:u.cell ∈ p.cells
 places:wi u.places 1 8
structure y6d(p:yl)(c:y1m):Prop where
 delay:wi c.delay 0 1048576
 cost:wi c.cost 0 1048576
 changes:wi c.changes 0 1048576
 uses:∀ u,u ∈ c.uses->yb3 p u
 incr:∀(i:Nat) (h:i+1<c.uses.length),ltC c.uses[i].cell c.uses[i+1].cell=true
structure y8n(p:yl)(v:Var):Prop where
 some:1<=v.leaves.length
 one:1<=v.choices.length
 most:v.choices.length<=96
 leaves:∀ n,n ∈ v.leaves->wi n 0 (p.capacity.length - 1)
 incr:∀(i:Nat) (h:i+1<v.leaves.length),v.leaves[i]<v.leaves[i+1]
 choices:∀ c,c ∈ v.choices->y6d p c
theorem z8i{A:Type}{l:List A}{P:A->Prop}:(∀ x,x ∈ l->P x) ↔ ∀(i:Nat) (h:i<l.length),P l[i]:=by
 constructor
 ·intro h i hi;exact h _ (au hi)
 ·intro h x hx;obtain⟨i,hi,rfl⟩:=dt hx;exact h i hi
structure y1d(p:yl):Prop where
 cells:p.cells.length<=12
 cap:p.capacity.length<=4
 rows:∀ l,l ∈ p.capacity->l.length<=16
 vars:p.vars.length<=6
 leaves:∀ v,v ∈ p.vars->v.leaves.length<=8
 choices:∀ v,v ∈ p.vars->v.choices.length<=8
 uses:∀ v,v ∈ p.vars->∀ c,c ∈ v.choices->c.uses.length<=12
theorem zha{p:yl}(h:yeb p=true):y1d p:=by
 simp only[yeb,ak,decide_eq_true_eq,ay]at h;obtain⟨⟨⟨⟨⟨h1,h2⟩,h3⟩,h4⟩,h5⟩,_⟩:=h;have h6:∀ v,v ∈ p.vars->v.leaves.length<=8/\v.choices.length<=8 /\ ∀ c,c ∈ v.choices->c.uses.length<=12:=fun v hv=>by have:=h5 v hv;simp only[yas,ak,decide_eq_true_eq,ay]at this;exact⟨this.1.1,this.1.2,this.2⟩
 exact⟨h1,h2,h4,h3,fun v hv=>(h6 v hv).1,fun v hv=>(h6 v hv).2.1,fun v hv=>(h6 v hv).2.2⟩
structure OkP(p:yl):Prop where
 some:1<=p.capacity.length
 nonneg:∀ c,c ∈ p.cells->0<=c.index/\0<=c.minute
 incr:∀(i:Nat) (h:i+1<p.cells.length),ltC p.cells[i] p.cells[i+1]=true
 cap:∀ l,l ∈ p.capacity->l.length=p.cells.length /\ ∀ n,n ∈ l->wi n 0 4096
 vars:∀ v,v ∈ p.vars->y8n p v
open Classical in
noncomputable def ck(p:yl):Int:=if OkP p then 0 else 270
def yac(c:Cell):D × D:=(y22 c,.bool true)
theorem zh9{c:Cell}:∀{es:List Cell},y17 (y22 c) (es.map yac)=some (if c ∈ es then some (.bool true)else none)
 |[]=>rfl
 |x::es=>by
  have hq:D.eqb (y22 c) (y22 x)=some (decide (c=x)):=by simp[D.eqb,eqL,y27];cases c;cases x;simp[il]
  simp only[av,y17,yac,hq]
  by_cases h:c=x
  ·simp[h]
  ·simp only[h,decide_false,aA,false_or];exact zh9
theorem zkd{c:Cell}:∀{es:List Cell},y1k (y22 c) (.bool true) (es.map yac)=some ((if c ∈ es then es else es++[c]).map yac)
 |[]=>rfl
 |x::es=>by
  have hq:D.eqb (y22 c) (y22 x)=some (decide (c=x)):=by simp[D.eqb,eqL,y27];cases c;cases x;simp[il]
  simp only[av,y1k,yac,hq]
  by_cases h:c=x
  ·simp[h,yac]
  ·have ih:=zkd (c:=c) (es:=es);simp only[h,decide_false,aA,false_or];rw[ih]
   by_cases hm:c ∈ es <;> simp[hm,yac]
theorem z3t{A:Type}{c:A->A->Int}:∀{l:List A},y37 c l=true ↔ ∀(i:Nat) (h:i+1<l.length),c l[i] l[i+1]<0
 |[]=>⟨fun _ i h=>by simp at h,fun _=>rfl⟩
 |[_]=>⟨fun _ i h=>by simp at h,fun _=>rfl⟩
 |a::b::r=>by
  have ih:=z3t (c:=c) (l:=b::r);simp only[y37,ak,decide_eq_true_eq,ih];constructor
  ·rintro⟨h1,h2⟩ i hi;cases i with
   |zero=>exact h1
   |succ i=>exact h2 i (by simpa using hi)
  ·intro h;exact⟨h 0 (by simp),fun i hi=>h (i+1) (by simpa using hi)⟩
theorem zf9{a b:Int}:y3q a b<0 ↔ a<b:=by
 unfold y3q
 (repeat' split) <;> omega
theorem zew{l:List Int}(h:∀(i:Nat) (hi:i+1<l.length),l[i]<l[i+1]):∀(j i:Nat) (hj:j<l.length) (hij:i<=j),l[i]'(by omega)<=l[j]
 | 0,i,hj,hij=>by
  have:i=0:=by omega
  subst this;exact eV _
 |j+1,i,hj,hij=>by
  rcases eJ.1 (Nat.lt_succ_of_le hij)with h1 | rfl
  ·have:=zew h j i (by omega) (by omega)
   have:=h j hj;omega
  ·exact eV _
theorem zcg{x lo hi:Int}(h:wi x lo hi):lo<=x/\x<=hi /\ ¬ x<lo /\ ¬ hi<x:=by unfold wi at h;omega
theorem zch{x lo hi:Int}(h : ¬ wi x lo hi):(x<lo /\ ¬ lo<=x)\/(hi<x /\ ¬ x<=hi/\lo<=x /\ ¬ x<lo):=by unfold wi at h;omega
theorem r71w(l:List Int)(hl:l.length<=1000000):∃ q:Bool,(q=true ↔ ¬ ∀ n,n ∈ l->wi n 0 4096)/\yu E (dL E) 71 [.imm .none (l.map dI),.fn 72 []]=some (.bool q):=by
 refine⟨_,?_,r71 l 72 (fun n=>!decide (0<=n/\n<=4096)) r72 hl⟩
 rw[List.any_eq_true];constructor
 ·rintro⟨n,hn,h⟩ hall;have:=hall n hn;unfold wi at this;simp[this]at h
 ·intro h;refine eB fun hn=>h fun n hm=>?_
  unfold wi;refine eB fun hw=>hn ⟨n,hm,?_⟩
  simp only[hw,decide_false,Bool.not_false]
theorem r15(p:yl)(S:y1d p):yu E (dL E) 15 [ye p]=some (dI (ck p)):=by
 refine zg c15 (by simp) ?_
 conv in t15=>reduce;dsimp[ai]
 generalize hB:ck p=B;have hBf : ¬ OkP p->B=270:=by intro h;rw[<- hB];simp[ck,h]
 have hBt:OkP p->B=0:=by intro h;rw[<- hB];simp[ck,h]
 have s1:=S.cells;have s2:=S.cap;have s3:=S.vars;have h69:=r69 p.cells 70 yay r70 (by omega)
 simp[t15,n15,r67,h69];have h1 : ¬ (4096:Int)<p.cells.length:=by omega
 by_cases h2:(p.capacity.length:Int)<1
 ·have h2':((p.capacity.length:Int)<1\/(32:Int)<p.capacity.length):=.inl h2;simp[h1,h2',hBf (fun ok=>by have:=ok.some;omega)]
 have h2' : ¬ ((p.capacity.length:Int)<1\/(32:Int)<p.capacity.length):=by omega
 have h4 : ¬ (64:Int)<p.vars.length:=by omega
 cases hinc:y37 yay p.cells with
 |false=>
  simp[h1,h2',h4,hBf (fun ok=>by
   have:y37 yay p.cells=true:=z3t.2 fun i hi=>by have:=ok.incr i hi;rw[<- zeq]at this;exact this
   rw[hinc]at this;cases this)]
 |true=>
 have hincr:=z3t.1 hinc;simp[h1,h2',h4];obtain⟨P,hP⟩:∃ P:Nat->Prop,P=fun i=>∀(h:i<p.cells.length),0<=p.cells[i].index/\0<=p.cells[i].minute:=⟨_,rfl⟩
 refine z5i p.cells.length P
  (fun i env hp=>∃(x4 x5 x6 x7 x8 x9 x10 x11 x15 x16 x17 x18 x19 x20 x21 x22 x23 x24 x25 x26 x27 x28 x29 x30 x31 x32 x33 x34 x35 x36 x37 x38 x39 x40:D) (es:List Cell) (h:List Obj),env=[ye p,.loc 0 0,dI 0,.map (some 1),x4,x5,x6,x7,x8,x9,x10,x11,.imm .none (p.cells.map y22),dI p.cells.length,dI i,x15,x16,x17,x18,x19,x20,x21,x22,x23,x24,x25,x26,x27,x28,x29,x30,x31,x32,x33,x34,x35,x36,x37,x38,x39,x40]/\hp=.cells (ye p).cellsL :: .map (es.map yac)::h /\ ∀ c,c ∈ es ↔ c ∈ p.cells.take i)
  ⟨_,_,_,_,_,_,_,_,_,_,_,_,_,_,_,_,_,_,_,_,_,_,_,_,_,_,_,_,_,_,_,_,_,_,[],_,rfl,rfl,by simp⟩ ?_ ?_
 ·rintro i env hp hi ⟨x4,x5,x6,x7,x8,x9,x10,x11,x15,x16,x17,x18,x19,x20,x21,x22,x23,x24,x25,x26,x27,x28,x29,x30,x31,x32,x33,x34,x35,x36,x37,x38,x39,x40,es,h,rfl,rfl,hes⟩ hall;have hBc : ¬ (0<=p.cells[i].index/\0<=p.cells[i].minute)->B=270:=fun hn=>hBf (fun ok=>hn (ok.nonneg _ (au hi)))
  simp[hi,z1h,z37]
  by_cases g1:p.cells[i].index<0
  ·simp[g1,hBc (by omega)]
  by_cases g2:p.cells[i].minute<0
  ·simp[g1,g2,hBc (by omega)]
  have hPi:P i:=by rw[hP];exact fun _=>⟨by omega,by omega⟩
  have hput:=zkd (c:=p.cells[i]) (es:=es);simp at hput;simp[g1,g2,z1h,hput,ze hi (by omega),hPi]
  refine⟨_,rfl,fun c=>?_⟩
  have hts:p.cells.take (i+1)=p.cells.take i++[p.cells[i]]:=by simp
  rw[hts,aC,<- hes c]
  by_cases hm:p.cells[i] ∈ es
  ·rw[if_pos hm];constructor
   ·exact .inl
   ·rintro(h | h)
    ·exact h
    ·simp at h;rw[h];exact hm
  ·rw[if_neg hm,aC]
 rintro env hp ⟨x4,x5,x6,x7,x8,x9,x10,x11,x15,x16,x17,x18,x19,x20,x21,x22,x23,x24,x25,x26,x27,x28,x29,x30,x31,x32,x33,x34,x35,x36,x37,x38,x39,x40,es,h,rfl,rfl,hes⟩ hcells;rw[hP]at hcells;rw[List.take_length]at hes;simp;clear hP P;obtain⟨P,hP⟩:∃ P:Nat->Prop,P=fun i=>∀(h:i<p.capacity.length),p.capacity[i].length=p.cells.length /\ ∀ n,n ∈ p.capacity[i]->wi n 0 4096:=⟨_,rfl⟩
 refine z5i p.capacity.length P
  (fun i env hp=>∃(x4 x5 x6 x7 x8 x9 x10 x11 x12 x13 x14 x15 x16 x17 x21 x22 x23 x24 x25 x26 x27 x28 x29 x30 x31 x32 x33 x34 x35 x36 x37 x38 x39 x40:D) (h:List Obj),env=[ye p,.loc 0 0,dI 0,.map (some 1),x4,x5,x6,x7,x8,x9,x10,x11,x12,x13,x14,x15,x16,x17,.imm .none (p.capacity.map ya),dI p.capacity.length,dI i,x21,x22,x23,x24,x25,x26,x27,x28,x29,x30,x31,x32,x33,x34,x35,x36,x37,x38,x39,x40]/\hp=.cells (ye p).cellsL :: .map (es.map yac)::h)
  ⟨_,_,_,_,_,_,_,_,_,_,_,_,_,_,_,_,_,_,_,_,_,_,_,_,_,_,_,_,_,_,_,_,_,_,_,rfl,rfl⟩ ?_ ?_
 ·rintro i env hp hi ⟨x4,x5,x6,x7,x8,x9,x10,x11,x12,x13,x14,x15,x16,x17,x21,x22,x23,x24,x25,x26,x27,x28,x29,x30,x31,x32,x33,x34,x35,x36,x37,x38,x39,x40,h,rfl,rfl⟩ hall;have hBc : ¬ (p.capacity[i].length=p.cells.length /\ ∀ n,n ∈ p.capacity[i]->wi n 0 4096)->B=270:=fun hn=>hBf (fun ok=>hn (ok.cap _ (au hi)))
  obtain⟨q,hq,h71⟩:=r71w p.capacity[i] (by have:=S.rows _ (au hi);omega)
  simp[hi,h71]
  by_cases g1:p.capacity[i].length=p.cells.length
  rotate_left
  ·have g1' : ¬ (p.capacity[i].length:Int)=p.cells.length:=by omega
   simp[g1,g1',hBc (fun h=>g1 h.1)]
  simp[g1];cases q with
  |false=>
   have g2:∀ n,n ∈ p.capacity[i]->wi n 0 4096:=eB fun h=>by have:=hq.2 h;cases this
   have hPi:P i:=by rw[hP];exact fun _=>⟨g1,g2⟩
   simp[ze hi (by omega),hPi]
  |true=>simp[hBc (fun h=>hq.1 rfl h.2)]
 rintro env hp ⟨x4,x5,x6,x7,x8,x9,x10,x11,x12,x13,x14,x15,x16,x17,x21,x22,x23,x24,x25,x26,x27,x28,x29,x30,x31,x32,x33,x34,x35,x36,x37,x38,x39,x40,h,rfl,rfl⟩ hcap;rw[hP]at hcap;simp;clear hP P;obtain⟨P,hP⟩:∃ P:Nat->Prop,P=fun i=>∀(h:i<p.vars.length),y8n p p.vars[i]:=⟨_,rfl⟩
 refine z5i p.vars.length P
  (fun i env hp=>∃(x4 x5 x6 x7 x8 x9 x10 x11 x12 x13 x14 x15 x16 x17 x18 x19 x20 x21 x22 x26 x27 x28 x29 x30 x31 x32 x33 x34 x35 x36 x37 x38 x39 x40:D) (h:List Obj),env=[ye p,.loc 0 0,dI 0,.map (some 1),x4,x5,x6,x7,x8,x9,x10,x11,x12,x13,x14,x15,x16,x17,x18,x19,x20,x21,x22,.imm .none (p.vars.map y4t),dI p.vars.length,dI i,x26,x27,x28,x29,x30,x31,x32,x33,x34,x35,x36,x37,x38,x39,x40]/\hp=.cells (ye p).cellsL :: .map (es.map yac)::h)
  ⟨_,_,_,_,_,_,_,_,_,_,_,_,_,_,_,_,_,_,_,_,_,_,_,_,_,_,_,_,_,_,_,_,_,_,_,rfl,rfl⟩ ?_ ?_
 ·rintro i env hp hi ⟨x4,x5,x6,x7,x8,x9,x10,x11,x12,x13,x14,x15,x16,x17,x18,x19,x20,x21,x22,x26,x27,x28,x29,x30,x31,x32,x33,x34,x35,x36,x37,x38,x39,x40,h,rfl,rfl⟩ hall;have hmem:=au hi;have hBv : ¬ y8n p p.vars[i]->B=270:=fun hn=>hBf (fun ok=>hn (ok.vars _ hmem))
  have l1:=S.leaves _ hmem;have l2:=S.choices _ hmem;have h73:=r73 p.vars[i].leaves 74 y3q r74 (by omega)
  have hcapw:=s2;simp[hi,z1h,z37,r67,h73]
  by_cases g1:p.vars[i].leaves=[]
  ·simp[g1,hBv (fun ok=>by have:=ok.some;rw[g1]at this;simp at this)]
  have g1l:p.vars[i].leaves.length ≠ 0:=fun h=>g1 (List.length_eq_zero_iff.1 h)
  by_cases g2:(p.vars[i].choices.length:Int)<1
  ·have g2' : ¬ (1:Int)<=p.vars[i].choices.length:=by omega
   simp[g1,g2',hBv (fun ok=>by have:=ok.one;omega)]
  have g2':(1:Int)<=p.vars[i].choices.length:=by omega
  have g2'':(p.vars[i].choices.length:Int)<=96:=by omega
  cases g3:y37 y3q p.vars[i].leaves with
  |false=>
   simp[g1,g2',g2'',hBv (fun ok=>by
    have:y37 y3q p.vars[i].leaves=true:=z3t.2 fun k hk=>zf9.2 (ok.incr k hk)
    rw[g3]at this;cases this)]
  |true=>
  have g3':=z3t.1 g3;have hl0:0<p.vars[i].leaves.length:=by omega
  by_cases g4:p.vars[i].leaves[0]<0
  ·simp[g1,g2',g2'',hl0,z1h,g4,hBv (fun ok=>by
    have:=ok.leaves _ (au hl0);unfold wi at this;omega)]
  have hl1:p.vars[i].leaves.length - 1<p.vars[i].leaves.length:=by omega
  have hwp:aH.wrap ((p.vars[i].leaves.length:Int) - 1)=((p.vars[i].leaves.length - 1:Nat):Int):=zp4 hl0 (by omega)
  by_cases g5:(p.capacity.length:Int)<=p.vars[i].leaves[p.vars[i].leaves.length - 1]
  ·simp[g1,g2',g2'',hl0,hl1,z1h,g4,g5,hwp,hBv (fun ok=>by
    have:=ok.leaves _ (au hl1);unfold wi at this;omega)]
  simp[g1,g2',g2'',hl0,hl1,z1h,g4,g5,hwp];have hleaves:∀ n,n ∈ p.vars[i].leaves->wi n 0 (p.capacity.length - 1):=z8i.2 fun k hk=>by
   have e:∀(k:Nat) (hk:k+1<p.vars[i].leaves.length),p.vars[i].leaves[k]<p.vars[i].leaves[k+1]:=fun k hk=>zf9.1 (g3' k hk)
   have e1:=zew e k 0 hk (by omega)
   have e2:=zew e (p.vars[i].leaves.length - 1) k hl1 (by omega)
   unfold wi;omega
  obtain⟨P2,hP2⟩:∃ P:Nat->Prop,P=fun k=>∀(h:k<p.vars[i].choices.length),y6d p p.vars[i].choices[k]:=⟨_,rfl⟩
  refine z5i p.vars[i].choices.length P2
   (fun k env hp=>∃(x4 x5 x7 x8 x9 x10 x11 x12 x13 x14 x15 x16 x17 x18 x19 x20 x21 x22 x26 x27 x28 x32 x33 x34 x35 x36 x37 x38 x39 x40:D) (G:List Obj),env=[ye p,.loc 0 0,dI 0,.map (some 1),x4,x5,.loc (h.length+2) 0,x7,x8,x9,x10,x11,x12,x13,x14,x15,x16,x17,x18,x19,x20,x21,x22,.imm .none (p.vars.map y4t),dI p.vars.length,dI i,x26,x27,x28,.imm .none (p.vars[i].choices.map y16),dI p.vars[i].choices.length,dI k,x32,x33,x34,x35,x36,x37,x38,x39,x40]/\hp=.cells (ye p).cellsL :: .map (es.map yac)::G/\G[h.length]? = some (.cells (y4t p.vars[i]).cellsL))
   ⟨_,_,_,_,_,_,_,_,_,_,_,_,_,_,_,_,_,_,_,_,_,_,_,_,_,_,_,_,_,_,_,rfl,rfl,z1h⟩ ?_ ?_
  ·rintro k env hp hk ⟨x4,x5,x7,x8,x9,x10,x11,x12,x13,x14,x15,x16,x17,x18,x19,x20,x21,x22,x26,x27,x28,x32,x33,x34,x35,x36,x37,x38,x39,x40,G,rfl,rfl,hG⟩ hall2;have hBc : ¬ y6d p p.vars[i].choices[k]->B=270:=fun hn=>hBv (fun ok=>hn (ok.choices _ (au hk)))
   have hmemk:=au hk;have l3:=S.uses _ hmem _ hmemk;have h75:=r75 p.vars[i].choices[k].uses 76 (fun a b=>yay a.cell b.cell) r76 (by omega)
   simp[hk,z1h,z37,r67,h75]
   by_cases k1:wi p.vars[i].choices[k].delay 0 1048576
   rotate_left
   ·rcases zch k1 with⟨q1,q2⟩ | ⟨q1,q2,q3,q4⟩
    ·simp[q1,q2,hBc (fun ok=>k1 ok.delay)]
    ·simp[q1,q2,q3,q4,hBc (fun ok=>k1 ok.delay)]
   obtain⟨a1,a2,a3,a4⟩:=zcg k1
   by_cases k2:wi p.vars[i].choices[k].cost 0 1048576
   rotate_left
   ·rcases zch k2 with⟨q1,q2⟩ | ⟨q1,q2,q3,q4⟩
    ·simp[a1,a2,a3,a4,q1,q2,hBc (fun ok=>k2 ok.cost)]
    ·simp[a1,a2,a3,a4,q1,q2,q3,q4,hBc (fun ok=>k2 ok.cost)]
   obtain⟨b1,b2,b3,b4⟩:=zcg k2
   by_cases k3:wi p.vars[i].choices[k].changes 0 1048576
   rotate_left
   ·rcases zch k3 with⟨q1,q2⟩ | ⟨q1,q2,q3,q4⟩
    ·simp[a1,a2,a3,a4,b1,b2,b3,b4,q1,q2,hBc (fun ok=>k3 ok.changes)]
    ·simp[a1,a2,a3,a4,b1,b2,b3,b4,q1,q2,q3,q4,hBc (fun ok=>k3 ok.changes)]
   obtain⟨c1,c2,c3,c4⟩:=zcg k3;cases k4:y37 (fun a b:Use=>yay a.cell b.cell) p.vars[i].choices[k].uses with
   |false=>
    simp[a1,a2,a3,a4,b1,b2,b3,b4,c1,c2,c3,c4,hBc (fun ok=>by
     have:y37 (fun a b:Use=>yay a.cell b.cell) p.vars[i].choices[k].uses=true:=z3t.2 fun q hq=>by have:=ok.incr q hq;rw[<- zeq]at this;exact this
     rw[k4]at this;cases this)]
   |true=>
   have k4':=z3t.1 k4;simp[a1,a2,a3,a4,b1,b2,b3,b4,c1,c2,c3,c4,z1h];obtain⟨P3,hP3⟩:∃ P:Nat->Prop,P=fun q=>∀(h:q<p.vars[i].choices[k].uses.length),yb3 p p.vars[i].choices[k].uses[q]:=⟨_,rfl⟩
   have hGa:∀ r,(G++r)[h.length]? = some (.cells (y4t p.vars[i]).cellsL):=fun r=>by rw[aB (ae.1 hG).1];exact hG
   refine z5i p.vars[i].choices[k].uses.length P3
    (fun q env hp=>∃(x4 x5 x9 x10 x11 x12 x13 x14 x15 x16 x17 x18 x19 x20 x21 x22 x26 x27 x28 x32 x33 x34 x38 x39 x40:D) (G2:List Obj),env=[ye p,.loc 0 0,dI 0,.map (some 1),x4,x5,.loc (h.length+2) 0,.loc (G.length+2) 0,dI 1048576,x9,x10,x11,x12,x13,x14,x15,x16,x17,x18,x19,x20,x21,x22,.imm .none (p.vars.map y4t),dI p.vars.length,dI i,x26,x27,x28,.imm .none (p.vars[i].choices.map y16),dI p.vars[i].choices.length,dI k,x32,x33,x34,.imm .none (p.vars[i].choices[k].uses.map y4y),dI p.vars[i].choices[k].uses.length,dI q,x38,x39,x40]/\hp=.cells (ye p).cellsL :: .map (es.map yac)::G2/\G2[h.length]? = some (.cells (y4t p.vars[i]).cellsL))
    ⟨_,_,_,_,_,_,_,_,_,_,_,_,_,_,_,_,_,_,_,_,_,_,_,_,_,_,rfl,rfl,hGa _⟩ ?_ ?_
   ·rintro q env hp hq ⟨x4,x5,x9,x10,x11,x12,x13,x14,x15,x16,x17,x18,x19,x20,x21,x22,x26,x27,x28,x32,x33,x34,x38,x39,x40,G2,rfl,rfl,hG2⟩ hall3;have hGb:∀ r,(G2++r)[h.length]? = some (.cells (y4t p.vars[i]).cellsL):=fun r=>by rw[aB (ae.1 hG2).1];exact hG2
    have hBu:(¬ yb3 p p.vars[i].choices[k].uses[q])->B=270:=fun hn=>hBc (fun ok=>hn (ok.uses _ (au hq)))
    have hfind:=zh9 (c:=p.vars[i].choices[k].uses[q].cell) (es:=es);simp at hfind;simp[hq,z1h,z37,r67,hfind]
    by_cases m1:p.vars[i].choices[k].uses[q].cell ∈ es
    rotate_left
    ·simp[m1,hBu (fun ok=>m1 ((hes _).2 ok.known))]
    by_cases m2:wi p.vars[i].choices[k].uses[q].places 1 8
    rotate_left
    ·rcases zch m2 with⟨q1,q2⟩ | ⟨q1,q2,q3,q4⟩
     ·simp[m1,q1,q2,hBu (fun ok=>m2 ok.places)]
     ·simp[m1,q1,q2,q3,q4,hBu (fun ok=>m2 ok.places)]
    obtain⟨d1,d2,d3,d4⟩:=zcg m2;have hPq:P3 q:=by rw[hP3];exact fun _=>⟨(hes _).1 m1,m2⟩
    simp[m1,d1,d2,d3,d4,ze hq (by omega),hPq]
    simpa using hGb _
   ·rintro env hp ⟨x4,x5,x9,x10,x11,x12,x13,x14,x15,x16,x17,x18,x19,x20,x21,x22,x26,x27,x28,x32,x33,x34,x38,x39,x40,G2,rfl,rfl,hG2⟩ hall3;rw[hP3]at hall3;have hPk:P2 k:=by
     rw[hP2];exact fun _=>⟨k1,k2,k3,z8i.2 fun q hq=>hall3 q hq hq,fun q hq=>by
      have:=k4' q hq;rw[zeq]at this;exact this⟩
    simp[ze hk (by omega),hPk]
    simpa using hG2
  ·rintro env hp ⟨x4,x5,x7,x8,x9,x10,x11,x12,x13,x14,x15,x16,x17,x18,x19,x20,x21,x22,x26,x27,x28,x32,x33,x34,x35,x36,x37,x38,x39,x40,G,rfl,rfl,hG⟩ hall2;rw[hP2]at hall2;have hPi:P i:=by rw[hP];exact fun _=>⟨by omega,by omega,by omega,hleaves,fun k hk=>zf9.1 (g3' k hk),z8i.2 fun k hk=>hall2 k hk hk⟩
   simp[ze hi (by omega),hPi]
 rintro env hp ⟨x4,x5,x6,x7,x8,x9,x10,x11,x12,x13,x14,x15,x16,x17,x18,x19,x20,x21,x22,x26,x27,x28,x29,x30,x31,x32,x33,x34,x35,x36,x37,x38,x39,x40,h,rfl,rfl⟩ hvars;rw[hP]at hvars;have:B=0:=hBt ⟨by omega,z8i.2 fun i hi=>hcells i hi hi,fun i hi=>by
  have:=hincr i hi;rw[zeq]at this;exact this,z8i.2 fun i hi=>hcap i hi hi,z8i.2 fun i hi=>hvars i hi hi⟩
 simp[this]
structure OkB(p:yl)(b:List Int):Prop where
 len:b.length<=p.vars.length
 each:∀(i:Nat) (h:i<b.length) (h':i<p.vars.length),wi b[i] 0 (p.vars[i].choices.length - 1)
open Classical in
noncomputable def bk(p:yl)(b:List Int)(e:Int):Int:=if OkP p then(if OkB p b then 0 else e)else 270
theorem r66(p:yl)(b:List Int)(S:y1d p)(hb:b.length<=20):yu E (dL E) 66 [ye p,ya b]=some (dI (bk p b 270)):=by
 refine zg c66 (by simp) ?_
 conv in t66=>reduce;dsimp[ai]
 generalize hB:bk p b 270=B;have hBf : ¬ (OkP p/\OkB p b)->B=270:=by
  intro h;rw[<- hB];unfold bk
  by_cases h1:OkP p
  ·have h2 : ¬ OkB p b:=fun h2=>h ⟨h1,h2⟩
   simp[h1,h2]
  ·simp[h1]
 have hBt:OkP p->OkB p b->B=0:=by intro h h';rw[<- hB];simp[bk,h,h']
 have s3:=S.vars;have h15:=r15 p S;simp only[ye]at h15;simp[t66,n66,h15]
 by_cases h0:OkP p
 rotate_left
 ·have e:ck p=270:=by simp[ck,h0]
  simp[e,hBf (fun h=>h0 h.1)]
 have e:ck p=0:=by simp[ck,h0]
 simp[e]
 by_cases h1:p.vars.length<b.length
 ·simp[h1,hBf (fun ok=>by have:=ok.2.len;omega)]
 have h1' : ¬ p.vars.length<b.length:=h1;simp[h1'];obtain⟨P,hP⟩:∃ P:Nat->Prop,P=fun i=>∀(h:i<b.length) (h':i<p.vars.length),wi b[i] 0 (p.vars[i].choices.length - 1):=⟨_,rfl⟩
 refine z5i b.length P
  (fun i env hp=>∃(x4 x5 x6 x7 x8 x12 x13:D) (h:List Obj),env=[ye p,ya b,.loc 0 0,dI 0,x4,x5,x6,x7,x8,ya b,dI b.length,dI i,x12,x13]/\hp=.cells (ye p).cellsL::h)
  ⟨_,_,_,_,_,_,_,_,rfl,rfl⟩ ?_ ?_
 ·rintro i env hp hi ⟨x4,x5,x6,x7,x8,x12,x13,h,rfl,rfl⟩ hall;have hi':i<p.vars.length:=by omega
  have l2:=S.choices _ (au hi');have hcw:=za (n:=(p.vars[i].choices.length:Int) - 1) ⟨by omega,by omega⟩
  by_cases k1:wi b[i] 0 (p.vars[i].choices.length - 1)
  ·obtain⟨a1,a2,a3,a4⟩:=zcg k1;have hPi:P i:=by rw[hP];exact fun _ _=>k1
   simp[hi,hi',r67,hcw,a1,a2,a3,a4,ze hi (by omega),hPi]
  ·have hB':=hBf (fun ok=>k1 (ok.2.each i hi hi'))
   rcases zch k1 with⟨q1,q2⟩ | ⟨q1,q2,q3,q4⟩
   ·simp[hi,hi',r67,hcw,q1,q2,hB']
   ·simp[hi,hi',r67,hcw,q1,q2,q3,q4,hB']
 ·rintro env hp ⟨x4,x5,x6,x7,x8,x12,x13,h,rfl,rfl⟩ hall;rw[hP]at hall;simp[hBt h0 ⟨by omega,fun i hi hi'=>hall i hi hi hi'⟩]
def wr(n:Int):Int:=aH.wrap n
def y7v(p:yl)(r:List Int)(u:Use):List Int:=r.set (atS u.cell p.cells 0).toNat (wr (r.getD (atS u.cell p.cells 0).toNat 0+u.places))
def y4n(v:Var)(n:Int):List Use:=(v.choices.getD n.toNat ⟨0,0,0,[]⟩).uses
def y33:List Var->List Int->Int->List Use
 |v::vs,n::ns,leaf=>(if v.leaves.contains leaf then y4n v n else[])++y33 vs ns leaf
 |_,_,_=>[]
def dem(p:yl)(b:List Int)(leaf:Int):List Int:=(y33 p.vars b leaf).foldl (y7v p) (ah p.cells.length 0)
theorem zly{p:yl}{r:List Int}{u:Use}:(y7v p r u).length=r.length:=by simp[y7v]
theorem z4l{p:yl}:∀{l:List Use} {r:List Int},(l.foldl (y7v p) r).length=r.length
 |[],_=>rfl
 |u::l,r=>by simp only[bQ];rw[z4l,zly]
theorem zz8{c:Cell}:∀{l:List Cell} {i:Nat},c ∈ l->(i:Int)<=atS c l i/\atS c l i<i+l.length
 |x::l,i,h=>by
  unfold atS
  by_cases e:x=c
  ·simp[e];omega
  ·have hm:c ∈ l:=by
    rcases aA.1 h with h | h
    ·exact absurd h.symm e
    ·exact h
   have:=zz8 (i:=i+1) hm;simp only[if_neg e,aq];omega
theorem r104(p:yl)(b:List Int):yu E (dL E) 104 [ye p,ya b]=some (.fn 123 [.iptr [ya b],.iptr (ye p).cellsL]):=by
 refine zg c104 (by simp) ?_
 conv in t104=>reduce;dsimp[ai]
 simp[t104,n104]
def y9j(v:Var)(n:Int):List (Int × Use):=v.leaves.flatMap fun leaf=>(y4n v n).map fun u=>(leaf,u)
def y3t:List Var->List Int->List (Int × Use)
 |v::vs,n::ns=>y9j v n++y3t vs ns
 |_,_=>[]
theorem i123(p:yl)(b:List Int)(S:y1d p)(hb:b.length<=20)(ok:OkP p)(okb:OkB p b)(l:Nat)(J:List (Int × Use)->List Obj->Prop)(Fin:List Obj->Prop)
  (hext:∀ rem hp o,J rem hp->J rem (hp++[o]))
  (hy:∀ x rem hp,J (x::rem) hp->∃ t hp',y3c (dL E) l [dI x.1,y4y x.2] hp=some (.bool t,hp')/\(t=true->J rem hp')/\(t=false->Fin hp')) {hp:List Obj}
  (h0:J (y3t p.vars b) hp) :
  ∃ d hp',y1g E (dL E) 123 [.yld l,.iptr [ya b],.iptr (ye p).cellsL] hp=some (d,hp')/\(J [] hp'\/Fin hp'):=by
 refine z1i c123 (R:=fun _ hp'=>J [] hp'\/Fin hp') (by simp) ?_
 conv in t123=>reduce;dsimp[ai]
 have s3:=S.vars;have hbl:=okb.len;simp[t123,n123];refine zl b.length (fun i env hp=>∃(x3 x4 x5 x6 x10 x11 x12 x13 x14 x15 x16 x17 x18 x19 x20 x21:D),env=[.yld l,.iptr [ya b],.iptr (ye p).cellsL,x3,x4,x5,x6,ya b,dI b.length,dI i,x10,x11,x12,x13,x14,x15,x16,x17,x18,x19,x20,x21] /\
  J (y3t (p.vars.drop i) (b.drop i)) hp) 0 (by omega) ⟨_,_,_,_,_,_,_,_,_,_,_,_,_,_,_,_,rfl,by simpa using h0⟩ ?_
 rintro i env hp hi ⟨x3,x4,x5,x6,x10,x11,x12,x13,x14,x15,x16,x17,x18,x19,x20,x21,rfl,hJ⟩
 by_cases hlt:i<b.length
 rotate_left
 ·have:i=b.length:=by omega
  subst this;have:y3t (p.vars.drop b.length) (b.drop b.length)=[]:=by rw[br];cases p.vars.drop b.length <;> rfl
  rw[this]at hJ;simp[hJ]
 have hi':i<p.vars.length:=by omega
 have okv:=ok.vars _ (au hi');have hw:=okb.each i hlt hi';rw[zh hlt,zh hi']at hJ;obtain⟨m,hm⟩:∃ m:Nat,b[i]=m:=⟨b[i].toNat,by unfold wi at hw;omega⟩
 have hm':m<p.vars[i].choices.length:=by unfold wi at hw;omega
 have hus:y4n p.vars[i] b[i]=p.vars[i].choices[m].uses:=by rw[hm];simp[y4n,hm']
 have l1:=S.leaves _ (au hi');have l3:=S.uses _ (au hi') _ (au hm');obtain⟨us,hus'⟩:∃ us,us=p.vars[i].choices[m].uses:=⟨_,rfl⟩;obtain⟨rest,hrest⟩:∃ rest,rest=y3t (p.vars.drop (i+1)) (b.drop (i+1)):=⟨_,rfl⟩;simp only[y3t,y9j,hus,<- hus',<- hrest]at hJ;simp[hlt,hi',hm];refine zl p.vars[i].leaves.length (fun j env hp=>∃(x5 x6 x10 x14 x15 x16 x17 x18 x19 x20 x21:D),env=[.yld l,.iptr [ya b],.iptr (ye p).cellsL,dI i,dI m,x5,x6,ya b,dI b.length,dI i,x10,ya p.vars[i].leaves,dI p.vars[i].leaves.length,dI j,x14,x15,x16,x17,x18,x19,x20,x21] /\
  J (((p.vars[i].leaves.drop j).flatMap fun leaf=>us.map fun u=>(leaf,u))++rest) hp) 0 (by omega) ⟨_,_,_,_,_,_,_,_,_,_,_,rfl,by simpa using hJ⟩ ?_
 rintro j env hp hj ⟨x5,x6,x10,x14,x15,x16,x17,x18,x19,x20,x21,rfl,hJ⟩
 by_cases hlt2:j<p.vars[i].leaves.length
 rotate_left
 ·have:j=p.vars[i].leaves.length:=by omega
  subst this;simp only[br,List.flatMap_nil,bo]at hJ;rw[hrest]at hJ;simp[hlt,ze hlt (by omega),hJ]
 rw[zh hlt2]at hJ;obtain⟨rest2,hrest2⟩:∃ rest2,rest2=((p.vars[i].leaves.drop (j+1)).flatMap fun leaf=>us.map fun u=>(leaf,u))++rest:=⟨_,rfl⟩
 simp only[bv,bi,<- hrest2]at hJ;simp[hlt2,hi',hm',<- hus'];refine zl us.length (fun k env hp=>∃(x6 x10 x14 x18 x19 x20 x21:D),env=[.yld l,.iptr [ya b],.iptr (ye p).cellsL,dI i,dI m,dI p.vars[i].leaves[j],x6,ya b,dI b.length,dI i,x10,ya p.vars[i].leaves,dI p.vars[i].leaves.length,dI j,x14,.imm .none (us.map y4y),dI us.length,dI k,x18,x19,x20,x21] /\
  J ((us.drop k).map (fun u=>(p.vars[i].leaves[j],u))++rest2) hp) 0 (by omega) ⟨_,_,_,_,_,_,_,rfl,by simpa using hJ⟩ ?_
 rintro k env hp hk ⟨x6,x10,x14,x18,x19,x20,x21,rfl,hJ⟩;rw[<- hus']at l3
 by_cases hlt3:k<us.length
 rotate_left
 ·have:k=us.length:=by omega
  subst this;simp only[br,aN,bo]at hJ;rw[hrest2]at hJ;simp[hlt2,ze hlt2 (by omega),hJ]
 rw[zh hlt3]at hJ;simp only[av,aJ]at hJ;obtain⟨t,hp2,hy1,hy2,hy3⟩:=hy _ _ _ (hext _ _ (.cells (y4y us[k]).cellsL) hJ);simp at hy1;cases t with
 |true=>have hJ2:=hy2 rfl;simp only[List.map_drop]at hJ2;simp[hlt3,z1h,z37,hy1,ze hlt3 (by omega),hJ2]
 |false=>have hF:=hy3 rfl;simp[hlt3,z1h,z37,hy1,hF]
theorem ydk{a:Cell}:ltC a a=false:=by simp[ltC]
theorem zr4{a b c:Cell}(h:ltC a b=true)(h':ltC b c=true):ltC a c=true:=by
 unfold ltC at *
 cases ha:a.airport <;> cases hb:b.airport <;> cases hc:c.airport <;> simp[ha,hb,hc]at h h' ⊢ <;> (repeat' split at h) <;> (repeat' split at h') <;> (repeat' split) <;> omega
theorem zrq{l:List Cell}(h:∀(i:Nat) (hi:i+1<l.length),ltC l[i] l[i+1]=true):∀(j i:Nat) (hj:j<l.length) (hij:i<j),ltC (l[i]'(by omega)) l[j]=true
 |j+1,i,hj,hij=>by
  rcases eJ.1 hij with h1 | rfl
  ·exact zr4 (zrq h j i (by omega) h1) (h j hj)
  ·exact h i hj
theorem ye1{l:List Cell}(h:∀(i:Nat) (hi:i+1<l.length),ltC l[i] l[i+1]=true)(j i:Nat)(hj:j<l.length)(hij:i<j):l[i]'(by omega) ≠ l[j]:=by intro e;have:=zrq h j i hj hij;rw[e,ydk]at this;cases this
def ybv(x:Cell × Nat):D × D:=(y22 x.1,dI x.2)
theorem zlj{c x:Cell}:D.eqb (y22 c) (y22 x)=some (decide (c=x)):=by simp[D.eqb,eqL,y27];cases c;cases x;simp[il]
theorem zh8{c:Cell}:∀{l:List Cell} {n:Nat},y17 (y22 c) ((l.zipIdx n).map ybv)=some (if c ∈ l then some (dI (atS c l n))else none)
 |[],n=>rfl
 |x::l,n=>by
  simp only[jp,av,y17,ybv,zlj]
  by_cases h:c=x
  ·simp[h,atS]
  ·have h' : ¬ x=c:=fun e=>h e.symm
   simp only[h,decide_false,aA,false_or,atS,if_neg h'];exact zh8
theorem zkc{c:Cell}{v:Nat}:∀{es:List (Cell × Nat)},c ∉ es.map (·.1)->y1k (y22 c) (dI v) (es.map ybv)=some ((es++[(c,v)]).map ybv)
 |[],_=>rfl
 |x::es,h=>by
  simp only[av,aA,not_or]at h;simp only[av,y1k,ybv,zlj,h.1,decide_false];have ih:=zkc (v:=v) h.2;rw[ih]
  rfl
end Dv
namespace Dv
theorem zex{A:Type}{hp r:List A}{i:Nat}{o:A}(h:hp[i]? = some o):(hp++r)[i]? = some o:=by rw[aB (ae.1 h).1,h]
theorem zyr{A:Type}{hp:List A}{i:Nat}{o:A}(h:hp[i]? = some o):i<hp.length:=(ae.1 h).1
theorem zh1{A:Type}{hp:List A}{i j:Nat}{x o:A}(h:hp[i]? = some o)(hn:j ≠ i):(hp.set j x)[i]? = some o:=by rw[bj hn,h]
theorem zs2{A:Type}{hp:List A}{i:Nat}{x:A}(h:i<hp.length):(hp.set i x)[i]? = some x:=by rw[aQ h]
theorem z1p{A:Type}{hp r:List A}{k:Nat}:(hp++r)[hp.length+k]? = r[k]?:=by rw[List.getElem?_append_right (by omega)];congr 1;omega
theorem z42{A:Type}{hp r:List A}{k:Nat}{x:A}:(hp++r).set (hp.length+k) x=hp++r.set k x:=by rw[ei _ _ (by omega)];congr 2;omega
theorem z1d{A:Type}{hp r:List A}{i:Nat}{x:A}(h:i<hp.length):(hp++r).set i x=hp.set i x++r:=List.set_append_left _ _ h
def At(hp:List Obj)(i:Nat)(o:Obj):Prop:=hp[i]? = some o
theorem At.eq{hp:List Obj}{i:Nat}{o:Obj}(h:At hp i o):hp[i]? = some o:=h
theorem At.app{hp r:List Obj}{i:Nat}{o:Obj}(h:At hp i o):At (hp++r) i o:=zex h
theorem At.appE{hp r:List Obj}{i:Nat}{o:Obj}(h:At hp i o):(hp++r)[i]? = some o:=zex h
theorem At.ne{hp:List Obj}{i j:Nat}{x o:Obj}(h:At hp i o)(hn:j ≠ i):At (hp.set j x) i o:=zh1 h hn
theorem At.lt{hp:List Obj}{i:Nat}{o:Obj}(h:At hp i o):i<hp.length:=zyr h
theorem At.self{hp:List Obj}{i:Nat}{o:Obj}(h:i<hp.length):At (hp.set i o) i o:=zs2 h
theorem zl4{A:Type}{hp r:List A}{k m:Nat}:(hp++r)[hp.length+k+m]? = r[k+m]?:=by rw[da];exact z1p
theorem zk9{A:Type}{hp r:List A}{k m:Nat}{x:A}:(hp++r).set (hp.length+k+m) x=hp++r.set (k+m) x:=by rw[da];exact z42
def y45(C:Nat)(hp:List Obj)(sp:yt)(n sz:Nat):Prop:=sp=.exact \/ ∃ k,sp=.tok k/\C<=k/\At hp k (.tok (n*sz) sz)
def y2n(i C:Nat)(hp hp':List Obj):Prop:=∀ J:List Obj->Prop,(∀ hp r,J hp->J (hp++r))->(∀ hp j o,J hp->(j=i\/C<=j)->J (hp.set j o))->J hp->J hp'
theorem y2n.at{i C:Nat}{hp hp':List Obj}(h:y2n i C hp hp'){j:Nat}{o:Obj}(hj:j ≠ i)(hC:j<C)(g:At hp j o):At hp' j o:=
 h (fun hp=>At hp j o) (fun _ _ h=>h.app) (fun _ k _ h hk=>h.ne (by rcases hk with rfl | hk;exact fun e=>hj e.symm;omega)) g
theorem y2n.refl{i C:Nat}{hp:List Obj}:y2n i C hp hp:=fun _ _ _ h=>h
theorem y2n.trans{i C:Nat}{hp hp' hp'':List Obj}(h:y2n i C hp hp')(h':y2n i C hp' hp''):y2n i C hp hp'':=fun J h1 h2 h3=>h' J h1 h2 (h J h1 h2 h3)
theorem y2n.app{i C:Nat}{hp r:List Obj}:y2n i C hp (hp++r):=fun _ h1 _ h3=>h1 _ _ h3
theorem y2n.set{i C j:Nat}{o:Obj}{hp:List Obj}(hj:j=i\/C<=j):y2n i C hp (hp.set j o):=fun _ _ h2 h3=>h2 _ _ _ h3 hj
end Dv
namespace Dv
attribute [local simp] ah depth y22 y4y ya y16 y4t ye y2q y2f Ret
attribute [local congr] z1j z1k z19 z12 zw z1a zu
def yad(p:yl)(rows:List (List Int))(x:Int × Use):List (List Int):=rows.set x.1.toNat (y7v p (rows.getD x.1.toNat []) x.2)
def yba(p:yl)(b:List Int):List (List Int):=(y3t p.vars b).foldl (yad p) (ah p.capacity.length (ah p.cells.length 0))
theorem zbu:∀{l:List D},y31 1 false l.length l=some l
 |[]=>rfl
 |x::r=>by simp only[aq,y31,y2b,List.getElem?_cons_zero,ym,List.drop_succ_cons,dp,zbu]
def yc6(p:yl)(x:Int × Use):Prop:=(0<=x.1/\x.1.toNat<p.capacity.length)/\x.2.cell ∈ p.cells
theorem zev{p:yl}(ok:OkP p):∀{vs:List Var} {b:List Int},(∀ v,v ∈ vs->v ∈ p.vars)->∀ x,x ∈ y3t vs b->yc6 p x
 |[],_,_,x,h=>by simp[y3t]at h
 |_::_,[],_,x,h=>by simp[y3t]at h
 |v::vs,n::ns,hv,x,h=>by
  simp only[y3t,aC]at h;rcases h with h | h
  ·simp only[y9j,List.mem_flatMap,aK]at h;obtain⟨leaf,hl,u,hu,rfl⟩:=h;have okv:=ok.vars v (hv v (by simp))
   have h1:=okv.leaves leaf hl;unfold wi at h1;refine⟨by simp only;omega,?_⟩
   unfold y4n at hu
   by_cases hn:n.toNat<v.choices.length
   ·simp only[af,ac hn,aX]at hu;exact((okv.choices _ (au hn)).uses _ hu).known
   ·simp[af,aT (dA hn)]at hu
  ·exact zev ok (fun w hw=>hv w (by simp[hw])) x h
structure y4u(hp:List Obj)(rp c:Nat)(m:Nat)(rows:List (List Int)):Prop where
 ptr:hp[rp]? = some (.cells ((bB rows.length).map fun j=>.sl (c+8*j) 0 m 1 false true))
 row:∀(j:Nat) (h:j<rows.length),hp[c+8*j]? = some (.cells (rows[j].map dI))
 len:∀(j:Nat) (h:j<rows.length),rows[j].length=m
theorem y4u.app{hp r:List Obj}{rp c m:Nat}{rows:List (List Int)}(R:y4u hp rp c m rows):y4u (hp++r) rp c m rows:=
 ⟨zex R.ptr,fun j h=>zex (R.row j h),R.len⟩
theorem y4u.other{hp:List Obj}{rp c m k:Nat}{o:Obj}{rows:List (List Int)}(R:y4u hp rp c m rows)(h1:k ≠ rp)(h2:∀ j,j<rows.length->k ≠ c+8*j):y4u (hp.set k o) rp c m rows:=
 ⟨zh1 R.ptr h1,fun j h=>zh1 (R.row j h) (h2 j h),R.len⟩
theorem y4u.upd{hp:List Obj}{rp c m k:Nat}{r:List Int}{rows:List (List Int)}(R:y4u hp rp c m rows)(hk:k<rows.length)(hr:r.length=m)(hc:rp<c):y4u (hp.set (c+8*k) (.cells (r.map dI))) rp c m (rows.set k r):=by
 refine⟨by rw[bn];exact zh1 R.ptr (by omega),fun j h=>?_,fun j h=>?_⟩
 ·rw[bn]at h
  by_cases e:k=j
  ·subst e;rw[zs2 (zyr (R.row k hk))];simp
  ·rw[zh1 (R.row j h) (by omega)]
   simp[iG e]
 ·rw[bn]at h
  by_cases e:k=j
  ·subst e;simp[hr]
  ·simp[iG e,R.len j h]
theorem zs8{hp:List Obj}{n rp c m:Nat}{rows:List (List Int)}(R:y4u hp rp c m rows) :
  y1h (frz hp (n+2)) ((bB rows.length).map fun j=>.sl (c+8*j) 0 m 1 false true)=some (rows.map ya):=by
 have key:∀(k:Nat),k<=rows.length->y1h (frz hp (n+2)) ((List.range' (rows.length - k) k).map fun j=>.sl (c+8*j) 0 m 1 false true)=some ((rows.drop (rows.length - k)).map ya):=by
  intro k
  induction k with
  |zero=>intro _;simp
  |succ k ih=>
   intro hk;have hlt:rows.length - (k+1)<rows.length:=by omega
   have e1:rows.length - (k+1)+1=rows.length - k:=by omega
   rw[List.range'_succ,e1,av,z1l,ih (by omega),zh hlt,e1]
   have h1:=R.row _ hlt;have h2:=R.len _ hlt;rw[zl6,h1];simp only[z6y,zc,dp,<- h2,za0,z5u,al,av]
 have:=key rows.length (aj _);simpa[List.range_eq_range']using this
theorem zsf{n:Nat}:yr (ah n (.imm .exact []))=ah n (.imm .exact []):=by
 induction n with
 |zero=>rfl
 |succ n ih=>rw[eO];simp only[yr,bv]at ih ⊢;rw[ih];rfl
def y7s(c m n i:Nat):List D:=((bB i).map fun j=>.sl (c+8*j) 0 m 1 false true)++ah (n - i) (.imm .exact [])
theorem zrx{c m n i:Nat}(h:i<=n):(y7s c m n i).length=n:=by simp[y7s];omega
theorem zrw{c m n i:Nat}(h:i<n):(y7s c m n i).set i (.sl (c+8*i) 0 m 1 false true)=y7s c m n (i+1):=by
 unfold y7s;rw[ei _ _ (by simp),fL,bm,bi]
 congr 1;obtain⟨k,hk⟩:∃ k,n - i=k+1:=⟨n - i - 1,by omega⟩
 rw[hk,show n - (i+1)=k from by omega,eO]
 simp
theorem r68(p:yl)(b:List Int)(S:y1d p)(hb:b.length<=20)(ok:OkP p)(okb:OkB p b):yu E (dL E) 68 [ye p,ya b]=some (.imm .none ((yba p b).map ya)):=by
 refine zg c68 (by simp) ?_
 conv in t68=>reduce;dsimp[ai]
 have s1:=S.cells;have s2:=S.cap;simp[t68,n68];refine zl p.cells.length
  (fun i env hp=>∃(x5 x6 x7 x8 x9 x10 x11 x15 x16 x17 x18 x19 x20 x21 x22 x23 x24 x25 x26 x27 x28 x29:D) (h:List Obj),env=[ye p,ya b,.loc 0 0,.imm .exact [],.loc 2 0,x5,x6,x7,x8,x9,x10,x11,.imm .none (p.cells.map y22),dI p.cells.length,dI i,x15,x16,x17,x18,x19,x20,x21,x22,x23,x24,x25,x26,x27,x28,x29]/\hp=.cells (ye p).cellsL :: .map ((p.cells.take i).zipIdx.map ybv) :: .cells [.map (some 1)]::h)
  0 (by omega) ⟨_,_,_,_,_,_,_,_,_,_,_,_,_,_,_,_,_,_,_,_,_,_,_,rfl,rfl⟩ ?_
 rintro i env hp hi ⟨x5,x6,x7,x8,x9,x10,x11,x15,x16,x17,x18,x19,x20,x21,x22,x23,x24,x25,x26,x27,x28,x29,h,rfl,rfl⟩
 by_cases hlt:i<p.cells.length
 ·have hnew:p.cells[i] ∉ ((p.cells.take i).zipIdx).map (·.1):=by intro hm;rw[List.zipIdx_map_fst]at hm;obtain⟨j,hj,e⟩:=dt hm;simp at hj e;exact ye1 ok.incr i j hlt (by omega) e
  have hput:=zkc (v:=i) hnew;have hts:p.cells.take (i+1)=p.cells.take i++[p.cells[i]]:=by simp
  have hz:((p.cells.take (i+1)).zipIdx)=(p.cells.take i).zipIdx++[(p.cells[i],i)]:=by rw[hts,lc];simp[Nat.min_eq_left (Nat.le_of_lt hlt)]
  rw[<- hz]at hput;simp at hput;simp[hlt,z1h,z37,hput,ze hlt (by omega)]
 have hi':i=p.cells.length:=by omega
 subst hi';have hmb:(p.capacity.length:Int)*25<=17592186044416:=by omega
 have hmb2:(p.cells.length:Int)*9<=17592186044416:=by omega
 simp[yg,hmb,z1h,z37,zsf];obtain⟨c,hc⟩:∃ c,c=h.length+1+1+1+2+5:=⟨_,rfl⟩;obtain⟨rp,hrp⟩:∃ rp,rp=h.length+1+1+1:=⟨_,rfl⟩;obtain⟨sp,hsp⟩:∃ sp,sp=h.length+1+1+1+1:=⟨_,rfl⟩;refine zl p.capacity.length
  (fun i env hp=>∃(x5 x6 x8 x9 x10 x11 x12 x13 x14 x15 x16 x17 x18 x21 x22 x23 x24 x25 x26 x27 x28 x29:D) ,env=[ye p,ya b,.loc 0 0,.imm .exact [],.loc 2 0,x5,x6,.loc sp 0,x8,x9,x10,x11,x12,x13,x14,x15,x16,x17,x18,dI p.capacity.length,dI i,x21,x22,x23,x24,x25,x26,x27,x28,x29] /\
   hp.length+5=c+8*i/\At hp 0 (.cells (ye p).cellsL)/\At hp 1 (.map (p.cells.zipIdx.map ybv))/\At hp 2 (.cells [.map (some 1)]) /\
   At hp sp (.cells [.sl rp 0 p.capacity.length 1 false true])/\At hp rp (.cells (y7s c p.cells.length p.capacity.length i)) /\
   ∀ j,j<i->At hp (c+8*j) (.cells (ah p.cells.length (dI 0))))
  0 (by omega) ⟨_,_,_,_,_,_,_,_,_,_,_,_,_,_,_,_,_,_,_,_,_,_,by rw[hsp];rfl,by simp[hc],rfl,rfl,rfl,by rw[hsp,hrp];simp[At],by rw[hrp];simp[y7s,At],by omega⟩ ?_
 rintro i env hp hi ⟨x5,x6,x8,x9,x10,x11,x12,x13,x14,x15,x16,x17,x18,x21,x22,x23,x24,x25,x26,x27,x28,x29,rfl,hlen,g0,g1,g2,gs,gr,grow⟩
 by_cases hlt2:i<p.capacity.length
 ·have l0:=g0.lt;have lr:=gr.lt;have ls:=gs.lt;have hi1:i+1<=p.capacity.length:=hlt2;have hh:=zrx (c:=c) (m:=p.cells.length) hi;simp[hlt2,↓g0.appE,↓gs.appE,↓gr.appE,yg,hmb2,z42,z1d lr,hh,z1p,ze hlt2 (by omega),hi1,hlen,zrw hlt2]
  have hl2:2<hp.length:=g2.lt;have hcl:c+8*i=hp.length+5:=hlen.symm;refine⟨by omega,(g0.ne (by omega)).app,(g1.ne (by omega)).app,(g2.ne (by omega)).app,(gs.ne (by omega)).app,(At.self lr).app,fun j hj=>?_⟩
  by_cases hj':j<i
  ·exact((grow j hj').ne (by omega)).app
  ·have:j=i:=by omega
   subst this;rw[hcl];have e:hp.length+5=(hp.set rp (.cells (y7s c p.cells.length p.capacity.length (j+1)))).length+5:=by simp
   rw[e];exact z1p
 have hi2:i=p.capacity.length:=by omega
 subst hi2;have h104:=r104 p b;simp only[ye,ya]at h104;simp[g0.eq,h104];refine⟨123,_,rfl,?_⟩;intro L hL hcb;have hl2:2<hp.length:=g2.lt;obtain⟨l,hl⟩:∃ l,l=hp.length:=⟨_,rfl⟩;rw[<- hl]at hcb ⊢;obtain⟨J,hJ⟩:∃ J:List (Int × Use)->List Obj->Prop,J=fun rem hp'=>∃ rows:List (List Int),rows.length=p.capacity.length/\y4u hp' rp c p.cells.length rows/\At hp' 0 (.cells (ye p).cellsL) /\
  At hp' 1 (.map (p.cells.zipIdx.map ybv))/\At hp' 2 (.cells [.map (some 1)])/\At hp' sp (.cells [.sl rp 0 p.capacity.length 1 false true])/\At hp' l (L false none)/\(∀ x,x ∈ rem->yc6 p x) /\
  rem.foldl (yad p) rows=yba p b:=⟨_,rfl⟩
 have key:=i123 p b S hb ok okb l J (fun _=>False) (by
   rw[hJ];rintro rem hp' o ⟨rows,a1,a2,a3,a4,a5,a6,a7,a8,a9⟩;exact⟨rows,a1,a2.app,a3.app,a4.app,a5.app,a6.app,a7.app,a8,a9⟩) (by
   intro x rem hp1 hj;rw[hJ]at hj;obtain⟨rows,a1,a2,a3,a4,a5,a6,a7,a8,a9⟩:=hj;obtain⟨⟨hx0,hx1⟩,hx2⟩:=a8 x (by simp)
   obtain⟨leaf,u⟩:=x;obtain⟨k,rfl⟩:∃ k:Nat,leaf=k:=⟨leaf.toNat,by simp only at hx0;omega⟩
   simp only[bZ]at hx1 hx2;have hkr:k<rows.length:=by omega
   have hat:=zz8 (i:=0) hx2;obtain⟨n,hn⟩:∃ n:Nat,atS u.cell p.cells 0=n:=⟨(atS u.cell p.cells 0).toNat,by omega⟩
   have hnm:n<p.cells.length:=by omega
   have hfn:=zh8 (c:=u.cell) (l:=p.cells) (n:=0);simp only[hx2,if_true,hn]at hfn;have hrl:=a2.len k hkr;have hnr:n<rows[k].length:=by omega
   have hn1:n+1<=rows[k].length:=hnr;have hl1:=a7.lt;have L0:=(a3.ne (j:=l) (x:=L true none) (by omega))
   have L1:=(a4.ne (j:=l) (x:=L true none) (by omega))
   have L2:=(a5.ne (j:=l) (x:=L true none) (by omega))
   have L3:=(a6.ne (j:=l) (x:=L true none) (by omega))
   have R1:=a2.other (k:=l) (o:=L true none) (by omega) (fun j hj=>by omega)
   have L4:At (hp1.set l (L true none)) rp _:=R1.ptr;have L5:At (hp1.set l (L true none)) (c+8*k) _:=R1.row k hkr;have LU:∀ r,(hp1.set l (L true none)++r)[hp1.length]? = r[0]?:=fun r=>by have:=z1p (hp:=hp1.set l (L true none)) (r:=r) (k:=0);simpa using this
   have L5l:=L5.lt;rw[a1]at L4;obtain⟨t,hp2,e1,e2⟩:=hcb [dI k,y4y u] hp1 (fun t hp'=>t=true/\J rem hp') rfl a7 (by
    simp[y23,a7.eq,z1d hl1,↓L0.appE,↓L1.appE,↓L2.appE,↓L3.appE,↓L4.appE,↓L5.appE,LU,hx1,hnm,hfn,z1d L5l,hnr,hn1,↓a7.appE];have hadd:(rows[k].map dI).set n (.int .i64 (aH.wrap (rows[k][n]+u.places)))=(y7v p rows[k] u).map dI:=by unfold y7v;rw[hn];simp[wr,hnr]
    rw[hadd];have S7:At ((hp1.set l (L true none)).set (c+8*k) (.cells ((y7v p rows[k] u).map dI))) l (L true none):=At.ne (At.self hl1) (by omega)
    refine⟨S7.app,?_⟩;rw[z1d S7.lt,hJ];have R2:=R1.upd (k:=k) (r:=y7v p rows[k] u) hkr (by rw[zly,hrl]) (by omega)
    have R3:=R2.other (k:=l) (o:=L false none) (by omega) (fun j hj=>by rw[bn]at hj;omega)
    refine⟨rows.set k (y7v p rows[k] u),by simp[a1],R3.app,((L0.ne (by omega)).ne (by omega)).app,((L1.ne (by omega)).ne (by omega)).app,((L2.ne (by omega)).ne (by omega)).app,
     ((L3.ne (by omega)).ne (by omega)).app,(At.self S7.lt).app,fun x hx=>a8 x (by simp[hx]),?_⟩
    rw[<- a9,bQ];congr 1;simp[yad,hkr])
   obtain⟨rfl,e3⟩:=e2;exact⟨true,hp2,e1,fun _=>e3,fun h=>by cases h⟩) (hp:=hp++[L false none]) (by
   rw[hJ];refine⟨ah p.capacity.length (ah p.cells.length 0),by simp,⟨?_,fun j h=>?_,fun j h=>by simp⟩,g0.app,g1.app,g2.app,gs.app,?_,zev ok (fun v hv=>hv),rfl⟩
   ·have:=gr.app (r:=[L false none]);simpa[At,y7s]using this
   ·simp only[List.length_replicate]at h;have:=(grow j h).app (r:=[L false none]);simpa[At]using this
   ·rw[hl];simp[At])
 obtain⟨d,hp',h1,h2⟩:=key;rcases h2 with h2 | h2
 rotate_left
 ·exact h2.elim
 rw[hJ]at h2;obtain⟨rows,a1,a2,a3,a4,a5,a6,a7,a8,a9⟩:=h2;simp only[gG]at a9;subst a9;refine⟨d,hp',h1,.inl ⟨a7,?_⟩⟩;have b6:=a6.ne (j:=l) (x:=.dead) (by omega)
 have b2:=a2.other (k:=l) (o:=.dead) (by omega) (fun j hj=>by omega)
 have hfr:=zs8 (n:=9) b2;rw[a1]at hfr;have hp2:=b2.ptr;rw[a1]at hp2;have hck:=zbu (l:=bO (fun j=>D.sl (c+8*j) 0 p.cells.length 1 false true) (bB p.capacity.length))
 rw[List.length_map,List.length_range]at hck;simp[b6.eq,hp2,hck,hfr]
theorem zm0{p:yl}{k:Nat}:∀{l:List (Int × Use)} {rows:List (List Int)},(∀ x,x ∈ l->0<=x.1/\x.1.toNat<rows.length)->(h:k<rows.length) ->
  (l.foldl (yad p) rows)[k]? = some (((l.filter fun x=>x.1 == (k:Int)).map (·.2)).foldl (y7v p) rows[k])
 |[],rows,_,h=>by simp[h]
 |x::l,rows,hl,h=>by
  obtain⟨h0,h1⟩:=hl x (by simp)
  have hl':∀ y,y ∈ l->0<=y.1/\y.1.toNat<(yad p rows x).length:=fun y hy=>by
   have:=hl y (by simp[hy])
   simpa[yad]using this
  have h':k<(yad p rows x).length:=by simpa[yad]using h
  rw[bQ,zm0 hl' h']
  by_cases e:x.1=(k:Int)
  ·have e':x.1.toNat=k:=by omega
   rw[List.filter_cons_of_pos (by simp[e])]
   simp only[av,bQ,yad,e'];simp[h]
  ·have e':x.1.toNat ≠ k:=by omega
   rw[List.filter_cons_of_neg (by simp[e])]
   simp only[yad];rw[iG e']
theorem zbm{k:Int}{us:List Use}:∀{ls:List Int},ls.Nodup->((ls.flatMap fun leaf=>us.map fun u=>(leaf,u)).filter fun x=>x.1 == k).map (·.2)=if ls.contains k then us else[]
 |[],_=>rfl
 |a::ls,h=>by
  rw[List.nodup_cons]at h;rw[bv,gA,bm,zbm h.2]
  by_cases e:a=k
  ·subst e;have h1:ls.contains a=false:=by simpa using h.1
   have h2:((us.map fun u=>(a,u)).filter fun x=>x.1 == a)=us.map fun u=>(a,u):=by rw[List.filter_eq_self];intro x hx;obtain⟨u,_,rfl⟩:=aK.1 hx;simp
   have h3:(bO ((fun x:Int × Use=>x.2) ∘ fun u=>(a,u)) us)=us:=by
    have:((fun x:Int × Use=>x.2) ∘ fun u=>(a,u))=id:=rfl
    rw[this,List.map_id]
   rw[h2,h1,List.map_map,h3];simp
  ·have h2:((us.map fun u=>(a,u)).filter fun x=>x.1 == k)=[]:=by rw[List.filter_eq_nil_iff];intro x hx;obtain⟨u,_,rfl⟩:=aK.1 hx;simpa using e
   have h3:(a::ls).contains k=ls.contains k:=by
    have h4 : ¬ k=a:=fun h=>e h.symm
    by_cases h5:k ∈ ls <;> simp[h4,h5]
   rw[h2,h3];simp
theorem zgw{l:List Int}(h:∀(i:Nat) (hi:i+1<l.length),l[i]<l[i+1]):l.Nodup:=by
 rw[List.nodup_iff_pairwise_ne,List.pairwise_iff_getElem];intro i j hi hj hij;have h1:=zew h j (i+1) hj hij;have h2:=h i (by omega)
 omega
theorem z9g{p:yl}(ok:OkP p){k:Int}:∀{vs:List Var} {b:List Int},(∀ v,v ∈ vs->v ∈ p.vars)->((y3t vs b).filter fun x=>x.1 == k).map (·.2)=y33 vs b k
 |[],_,_=>by simp[y3t,y33]
 |_::_,[],_=>by simp[y3t,y33]
 |v::vs,n::ns,hv=>by simp only[y3t,y9j,y33,gA,bm];rw[zbm (zgw (ok.vars v (hv v (by simp))).incr),z9g ok (fun w hw=>hv w (by simp[hw]))]
theorem zx0{p:yl}{b:List Int}:(yba p b).length=p.capacity.length:=by
 unfold yba;have:∀(l:List (Int × Use)) (rows:List (List Int)),(l.foldl (yad p) rows).length=rows.length:=by
  intro l
  induction l with
  |nil=>intro rows;rfl
  |cons x l ih=>intro rows;rw[bQ,ih];simp[yad]
 rw[this];simp
theorem zlo{p:yl}(ok:OkP p){b:List Int}{k:Nat}(h:k<p.capacity.length):(yba p b)[k]? = some (dem p b k):=by
 unfold yba;rw[zm0 (fun x hx=>by have:=(zev ok (fun v hv=>hv) x hx).1;simpa using this) (by simpa using h)]
 rw[z9g ok (fun v hv=>hv)]
 simp[dem]
open Classical in
noncomputable def yfo(p:yl)(b:List Int)(leaf:Int):D:=if bk p b 270=0 then(if 0<=leaf/\leaf<=p.capacity.length - 1 then .tup [ya (dem p b leaf),dI 0]else .tup [ya [],dI 270])else .tup [ya [],dI 270]
theorem zxd{p:yl}{b:List Int}{e:Int}(h0:bk p b e=0)(he:e ≠ 0):OkP p/\OkB p b:=by
 unfold bk at h0
 by_cases h1:OkP p
 ·by_cases h2:OkB p b
  ·exact⟨h1,h2⟩
  ·simp[h1,h2]at h0;exact absurd h0 he
 ·simp[h1]at h0
theorem zlv{p:yl}{b:List Int}{e:Int}(h1:OkP p)(h2:OkB p b):bk p b e=0:=by simp[bk,h1,h2]
theorem zto{p:yl}{b:List Int}(h:bk p b 270 ≠ 0):bk p b 270=270:=by
 unfold bk at h ⊢
 by_cases h1:OkP p
 ·by_cases h2:OkB p b
  ·simp[h1,h2]at h
  ·simp[h1,h2]
 ·simp[h1]
theorem r14(p:yl)(b:List Int)(leaf:Int)(S:y1d p)(hb:b.length<=20):yu E (dL E) 14 [ye p,ya b,dI leaf]=some (yfo p b leaf):=by
 refine zg c14 (by simp) ?_
 have h66:=r66 p b S hb;have s2:=S.cap;have hcw:=za (n:=(p.capacity.length:Int) - 1) ⟨by omega,by omega⟩
 simp only[ye,ya]at h66;simp[t14,n14,h66]
 by_cases h0:bk p b 270=0
 rotate_left
 ·have e:=zto h0;simp[e,yfo]
 obtain⟨ok,okb⟩:=zxd h0 (by decide)
 have h68:=r68 p b S hb ok okb;simp only[ye,ya]at h68
 by_cases h1:0<=leaf/\leaf<=p.capacity.length - 1
 rotate_left
 ·simp[h0,yfo,r67,hcw,h1]
 obtain⟨k,rfl⟩:∃ k:Nat,leaf=k:=⟨leaf.toNat,by omega⟩
 have hk:k<p.capacity.length:=by omega
 have hg:=zlo ok (b:=b) hk;have h1':=h1.2;simp[h0,yfo,r67,hcw,h1',h68,hg]
def mn(a b:Int):Int:=if b<a then b else a
def mx(a b:Int):Int:=if a<b then b else a
def y8s(a c:y1m):y1m:=⟨mn a.delay c.delay,mn a.cost c.cost,mn a.changes c.changes,a.uses⟩
theorem r122(c0:y1m)(cs:List y1m)(hl:cs.length<=1000):yu E (dL E) 122 [y16 c0,.imm .none (cs.map y16)]=some (y16 (cs.foldl y8s c0)):=by
 refine zg c122 (by simp) ?_
 conv in t122=>reduce;dsimp[ai]
 generalize hB:cs.foldl y8s c0=R;simp[t122,n122];refine zl cs.length (fun i env hp=>∃(x4 x8 x9:D) (a:y1m) (h:List Obj) (z:List D),env=[y16 c0,.imm .none (cs.map y16),.loc 0 0,.loc 1 0,x4,.imm .none (cs.map y16),dI cs.length,dI i,x8,x9] /\
  hp=.cells (y16 a).cellsL :: .cells z::h/\z.length=4/\(cs.drop i).foldl y8s a=R) 0 (by omega) ⟨_,_,_,c0,_,_,rfl,rfl,rfl,by simpa using hB⟩ ?_
 rintro i env hp hi ⟨x4,x8,x9,a,h,z,rfl,rfl,hz,hR⟩;obtain⟨z0,z1,z2,z3,rfl⟩:=yiw hz
 by_cases hlt:i<cs.length
 ·rw[zh hlt,bQ]at hR;simp[hlt,z1h,z37,ze hlt (by omega)]
  exact⟨y8s a cs[i],_,_,⟨⟨rfl,rfl,rfl,rfl⟩,rfl,rfl⟩,rfl,hR⟩
 ·have:i=cs.length:=by omega
  subst this;simp only[br,gG]at hR;subst hR;simp
theorem zmf{A:Type}{f:A->D}{l:List A}(h:1<=l.length)(hs:y2u 4 (l.map f)=true):y12 E 16 (.imm .none (l.map f)) (some (.int .i64 1)) none none=some (.imm .none ((l.drop 1).map f)):=by
 have e:(l.map f).length=l.length:=by simp
 simp[y12,bnd,y25,e,h,hs];rw[ba (by simp)]
theorem zja{l:List y1m}:y2u 4 (l.map y16)=true:=by cases l <;> rfl
def pick(v:Var):Option Int->y1m
 |some n=>v.choices.getD n.toNat ⟨0,0,0,[]⟩
 |none=>(v.choices.drop 1).foldl y8s (v.choices.getD 0 ⟨0,0,0,[]⟩)
def y30:List Var->List Int->List (Int × y1m)
 |[],_=>[]
 |v::vs,b=>(v.leaves.length,pick v b.head?)::y30 vs b.tail
theorem zyw{A:Type}{J:List A->List Obj->Prop}(hext:∀ rem hp r,J rem hp->J rem (hp++r)){rem:List A}{hp r H:List Obj}(h:hp++r=H)(hJ:J rem hp):J rem H:=h ▸ hext _ _ _ hJ
theorem r63(p:yl)(b:List Int):yu E (dL E) 63 [ye p,ya b]=some (.fn 102 [.iptr (ye p).cellsL,.iptr [ya b]]):=by
 refine zg c63 (by simp) ?_
 conv in t63=>reduce;dsimp[ai]
 simp[t63,n63]
theorem i102(p:yl)(b:List Int)(S:y1d p)(hb:b.length<=20)(ok:OkP p)(okb:OkB p b)(l:Nat)(J:List (Int × y1m)->List Obj->Prop)(Fin:List Obj->Prop)
  (hext:∀ rem hp r,J rem hp->J rem (hp++r))
  (hy:∀ x rem hp,J (x::rem) hp->∃ t hp',y3c (dL E) l [dI x.1,y16 x.2] hp=some (.bool t,hp')/\(t=true->J rem hp')/\(t=false->Fin hp')) {hp:List Obj}
  (h0:J (y30 p.vars b) hp) :
  ∃ d hp',y1g E (dL E) 102 [.yld l,.iptr (ye p).cellsL,.iptr [ya b]] hp=some (d,hp')/\(J [] hp'\/Fin hp'):=by
 refine z1i c102 (R:=fun _ hp'=>J [] hp'\/Fin hp') (by simp) ?_
 conv in t102=>reduce;dsimp[ai]
 have s3:=S.vars;have hbl:=okb.len;simp[t102,n102];refine zl p.vars.length (fun i env hp=>∃(x3 x4 x5 x9 x10 x11 x12 x13 x14:D) ,env=[.yld l,.iptr (ye p).cellsL,.iptr [ya b],x3,x4,x5,.imm .none (p.vars.map y4t),dI p.vars.length,dI i,x9,x10,x11,x12,x13,x14] /\
  J (y30 (p.vars.drop i) (b.drop i)) hp) 0 (by omega) ⟨_,_,_,_,_,_,_,_,_,rfl,by simpa using h0⟩ ?_
 rintro i env hp hi ⟨x3,x4,x5,x9,x10,x11,x12,x13,x14,rfl,hJ⟩
 by_cases hlt:i<p.vars.length
 rotate_left
 ·have:i=p.vars.length:=by omega
  subst this;simp only[br,y30]at hJ;simp[hJ]
 have okv:=ok.vars _ (au hlt);have l2:=S.choices _ (au hlt);rw[zh hlt]at hJ;simp only[y30,m8,mL]at hJ;have hone:=okv.one;have hc0:0<p.vars[i].choices.length:=by omega
 obtain⟨tl,htl⟩:∃ tl,tl=p.vars[i].choices.drop 1:=⟨_,rfl⟩;have h122:=r122 p.vars[i].choices[0] tl (by rw[htl];simp;omega)
 simp only[y16]at h122;have hsl:=zmf (l:=p.vars[i].choices) (by omega) zja
 rw[<- htl]at hsl
 by_cases hib:i<b.length
 ·have hw:=okb.each i hib hlt;obtain⟨m,hm⟩:∃ m:Nat,b[i]=m:=⟨b[i].toNat,by unfold wi at hw;omega⟩
  have hm':m<p.vars[i].choices.length:=by unfold wi at hw;omega
  rw[ac hib,hm]at hJ;simp only[pick,bZ,af,ac hm',aX]at hJ;simp[hlt,↓z1p,↓z42,↓zl4,↓zk9,hc0,h122,hsl,hib,hm,hm'];generalize hH:hp++_=H;have hJH:=zyw hext hH hJ;obtain⟨t,hp2,hy1,hy2,hy3⟩:=hy _ _ _ hJH;simp at hy1;cases t with
  |true=>have hJ2:=hy2 rfl;simp[hy1,ze hlt (by omega),hJ2]
  |false=>have hF:=hy3 rfl;simp[hy1,hF]
 ·rw[aT (by omega)]at hJ
  simp only[pick,af,ac hc0,aX,<- htl]at hJ;simp[hlt,↓z1p,↓z42,↓zl4,↓zk9,hc0,h122,hsl,hib];generalize hH:hp++_=H;have hJH:=zyw hext hH hJ;obtain⟨t,hp2,hy1,hy2,hy3⟩:=hy _ _ _ hJH;simp at hy1;cases t with
  |true=>have hJ2:=hy2 rfl;simp[hy1,ze hlt (by omega),hJ2]
  |false=>have hF:=hy3 rfl;simp[hy1,hF]
end Dv
namespace Dv
theorem zzj{n:Int}(h:i64 n):wr n=n:=za h
theorem zs3{r:List Int}{a:Nat}:r.getD a 0 ∈ r\/r.getD a 0=0:=by
 by_cases h:a<r.length
 ·left;simp[af,ac h]
 ·right;simp[af,aT (dA h)]
theorem zle{p:yl}:∀{l:List Use} {r:List Int} {k:Int},(∀ u,u ∈ l->0<=u.places/\u.places<=8)->0<=k->(∀ x,x ∈ r->0<=x/\x<=k)->k+8*l.length<=1000000 ->
  ∀ x,x ∈ l.foldl (y7v p) r->0<=x/\x<=k+8*l.length
 |[],r,k,_,_,hr,_,x,hx=>by have:=hr x hx;simp only[aV];omega
 |u::l,r,k,hu,hk,hr,hb,x,hx=>by
  simp only[aq]at hb ⊢;rw[bQ]at hx;have hu1:=hu u (by simp)
  have h1:0<=r.getD (atS u.cell p.cells 0).toNat 0/\r.getD (atS u.cell p.cells 0).toNat 0<=k:=by
   rcases zs3 (r:=r) (a:=(atS u.cell p.cells 0).toNat)with h | h
   ·exact hr _ h
   ·rw[h];omega
  have:=zle (p:=p) (l:=l) (r:=y7v p r u) (k:=k+8) (fun v hv=>hu v (by simp[hv])) (by omega) (fun y hy=>by
   unfold y7v at hy;rcases fh hy with h | h
   ·have:=hr y h;omega
   ·rw[h,zzj ⟨by omega,by omega⟩];omega) (by omega) x hx
  omega
theorem zfp{p:yl}{v:Var}(okv:y8n p v){n:Int}:∀ u,u ∈ y4n v n->yb3 p u:=by
 intro u hu;unfold y4n at hu
 by_cases hn:n.toNat<v.choices.length
 ·simp only[af,ac hn,aX]at hu;exact(okv.choices _ (au hn)).uses _ hu
 ·simp[af,aT (dA hn)]at hu
theorem zck{v:Var}{n:Int}(h:∀ c,c ∈ v.choices->c.uses.length<=12):(y4n v n).length<=12:=by
 unfold y4n
 by_cases hn:n.toNat<v.choices.length
 ·simp only[af,ac hn,aX];exact h _ (au hn)
 ·simp[af,aT (dA hn)]
theorem zfo{p:yl}{leaf:Int}:∀{vs:List Var} {b:List Int},(∀ v,v ∈ vs->y8n p v)->∀ u,u ∈ y33 vs b leaf->yb3 p u
 |[],_,_,u,h=>by simp[y33]at h
 |_::_,[],_,u,h=>by simp[y33]at h
 |v::vs,n::ns,hv,u,h=>by
  simp only[y33,aC]at h;rcases h with h | h
  ·by_cases hc:v.leaves.contains leaf=true
   ·rw[if_pos hc]at h;exact zfp (hv v (by simp)) u h
   ·rw[if_neg hc]at h;cases h
  ·exact zfo (fun w hw=>hv w (by simp[hw])) u h
theorem zcj{leaf:Int}:∀{vs:List Var} {b:List Int},(∀ v,v ∈ vs->∀ c,c ∈ v.choices->c.uses.length<=12)->(y33 vs b leaf).length<=12*vs.length
 |[],_,_=>by simp[y33]
 |_::_,[],_=>by simp[y33]
 |v::vs,n::ns,hv=>by
  have h1:=zcj (leaf:=leaf) (vs:=vs) (b:=ns) (fun w hw=>hv w (by simp[hw]))
  have h2:=zck (v:=v) (n:=n) (hv v (by simp))
  simp only[y33,ar,aq]
  by_cases hc:v.leaves.contains leaf=true
  ·rw[if_pos hc];omega
  ·rw[if_neg hc];simp only[aV];omega
theorem zln{p:yl}(S:y1d p)(ok:OkP p){b:List Int}{leaf:Int}:∀ x,x ∈ dem p b leaf->0<=x/\x<=576:=by
 intro x hx;have h1:=zcj (leaf:=leaf) (vs:=p.vars) (b:=b) S.uses;have s3:=S.vars;have:=zle (p:=p) (l:=y33 p.vars b leaf) (r:=ah p.cells.length 0) (k:=0) (fun u hu=>(zfo ok.vars u hu).places |> fun h=>by unfold wi at h;omega) (by omega)
  (fun y hy=>by rw[(List.mem_replicate.1 hy).2];omega) (by omega) x hx
 omega
def ovR:List Int->List Int->Int
 |d::ds,c::cs=>mx (d - c) 0+ovR ds cs
 |_,_=>0
def ovL(p:yl)(b:List Int):Nat->List (List Int)->Int
 |_,[]=>0
 |k,c::cs=>ovR (dem p b k) c+ovL p b (k+1) cs
def ov(p:yl)(b:List Int):Int:=ovL p b 0 p.capacity
theorem mx0{a:Int}:0<=mx a 0:=by unfold mx;split <;> omega
theorem zie:∀{d c:List Int},0<=ovR d c
 |[],_=>by simp[ovR]
 |_::_,[]=>by simp[ovR]
 |d::ds,c::cs=>by have:=zie (d:=ds) (c:=cs);have:=mx0 (a:=d - c);simp only[ovR];omega
theorem zyo{k:Int}(hk:0<=k):∀{d c:List Int},(∀ x,x ∈ d->x<=k)->(∀ x,x ∈ c->0<=x)->ovR d c<=k*d.length
 |[],_,_,_=>by simp[ovR]
 |d::ds,[],_,_=>by simp only[ovR];exact kb hk (by omega)
 |d::ds,c::cs,hd,hc=>by
  have h1:=zyo hk (d:=ds) (c:=cs) (fun x hx=>hd x (by simp[hx])) (fun x hx=>hc x (by simp[hx]))
  have h2:=hd d (by simp)
  have h3:=hc c (by simp)
  have h4:mx (d - c) 0<=k:=by unfold mx;split <;> omega
  simp only[ovR,aq];have:k*((ds.length+1:Nat):Int)=k*ds.length+k:=by rw[Int.natCast_add,Int.mul_add];simp
  omega
theorem zql{p:yl}{b:List Int}:∀{cs:List (List Int)} {k:Nat},0<=ovL p b k cs
 |[],_=>by simp[ovL]
 |c::cs,k=>by have:=zql (p:=p) (b:=b) (cs:=cs) (k:=k+1);have:=zie (d:=dem p b k) (c:=c);simp only[ovL];omega
theorem zyp{p:yl}(S:y1d p)(ok:OkP p){b:List Int}:∀{cs:List (List Int)} {k:Nat},(∀ l,l ∈ cs->l ∈ p.capacity)->ovL p b k cs<=7000*cs.length
 |[],_,_=>by simp[ovL]
 |c::cs,k,hm=>by
  have h1:=zyp S ok (b:=b) (cs:=cs) (k:=k+1) (fun l hl=>hm l (by simp[hl]))
  have s1:=S.cells;have h2:=zyo (k:=576) (by omega) (d:=dem p b k) (c:=c) (fun x hx=>(zln S ok x hx).2) (fun x hx=>by
   have:=(ok.cap c (hm c (by simp))).2 x hx;unfold wi at this;omega)
  have h3:(dem p b k).length=p.cells.length:=by simp[dem,z4l]
  rw[h3]at h2;simp only[ovL,aq];omega
theorem ygu{p:yl}(S:y1d p)(ok:OkP p){b:List Int}:ov p b<=28000:=by
 have:=zyp S ok (b:=b) (cs:=p.capacity) (k:=0) (fun l hl=>hl)
 have:=S.cap;unfold ov;omega
def bdC(c:y1m):Prop:=(0<=c.delay/\c.delay<=1048576)/\(0<=c.cost/\c.cost<=1048576)/\(0<=c.changes/\c.changes<=1048576)
theorem zz7{p:yl}{c:y1m}(h:y6d p c):bdC c:=by obtain⟨h1,h2,h3,_,_⟩:=h;exact⟨h1,h2,h3⟩
theorem yi4{a c:y1m}(h:bdC a)(h':bdC c):bdC (y8s a c):=by
 unfold bdC y8s mn at *
 simp only;refine⟨?_,?_,?_⟩ <;> split <;> omega
theorem ztv:∀{l:List y1m} {a:y1m},bdC a->(∀ c,c ∈ l->bdC c)->bdC (l.foldl y8s a)
 |[],_,h,_=>h
 |c::l,a,h,h'=>by rw[bQ];exact ztv (yi4 h (h' c (by simp))) (fun d hd=>h' d (by simp[hd]))
theorem yez:bdC ⟨0,0,0,[]⟩:=by unfold bdC;simp
theorem ztu{p:yl}{v:Var}(okv:y8n p v){n:Nat}:bdC (v.choices.getD n ⟨0,0,0,[]⟩):=by
 by_cases hn:n<v.choices.length
 ·simp only[af,ac hn,aX];exact zz7 (okv.choices _ (au hn))
 ·simp only[af,aT (dA hn),Option.getD_none];exact yez
theorem ztt{p:yl}{v:Var}(okv:y8n p v){n:Option Int}:bdC (pick v n):=by
 cases n with
 |some n=>exact ztu okv
 |none=>exact ztv (ztu okv) (fun c hc=>zz7 (okv.choices c (bW hc)))
def y71:List (Int × y1m)->Int
 |[]=>0
 |x::r=>x.2.cost*x.1+y71 r
def y70:List (Int × y1m)->Int
 |[]=>0
 |x::r=>x.2.changes*x.1+y70 r
def y8t(a:Int)(l:List (Int × y1m)):Int:=l.foldl (fun a x=>mx a x.2.delay) a
def bdP(x:Int × y1m):Prop:=(0<=x.1/\x.1<=8)/\bdC x.2
theorem za2{p:yl}:∀{vs:List Var} {b:List Int},(∀ v,v ∈ vs->y8n p v/\v.leaves.length<=8)->∀ x,x ∈ y30 vs b->bdP x
 |[],_,_,x,h=>by simp[y30]at h
 |v::vs,b,hv,x,h=>by
  simp only[y30,aA]at h;rcases h with rfl | h
  ·have:=hv v (by simp)
   exact⟨⟨by simp only;omega,by simp only;omega⟩,ztt this.1⟩
  ·exact za2 (fun w hw=>hv w (by simp[hw])) x h
theorem zav:∀{vs:List Var} {b:List Int},(y30 vs b).length=vs.length
 |[],_=>rfl
 |v::vs,b=>by simp[y30,zav]
theorem zd2{a n:Int}(h1:0<=a)(h2:a<=1048576)(h3:0<=n)(h4:n<=8):0<=a*n/\a*n<=8388608:=
 ⟨kb h1 h3,by have:=Int.mul_le_mul h2 h4 h3 (by omega);omega⟩
theorem zag:∀{l:List (Int × y1m)},(∀ x,x ∈ l->bdP x)->0<=y71 l/\y71 l<=8388608*l.length
 |[],_=>by simp[y71]
 |x::r,h=>by
  have h1:=zag (l:=r) (fun y hy=>h y (by simp[hy]))
  obtain⟨⟨a1,a2⟩,_,⟨b1,b2⟩,_⟩:=h x (by simp)
  have:=zd2 b1 b2 a1 a2;simp only[y71,aq];omega
theorem zaf:∀{l:List (Int × y1m)},(∀ x,x ∈ l->bdP x)->0<=y70 l/\y70 l<=8388608*l.length
 |[],_=>by simp[y70]
 |x::r,h=>by
  have h1:=zaf (l:=r) (fun y hy=>h y (by simp[hy]))
  obtain⟨⟨a1,a2⟩,_,_,⟨b1,b2⟩⟩:=h x (by simp)
  have:=zd2 b1 b2 a1 a2;simp only[y70,aq];omega
def yk(p:yl)(b:List Int):List Int:=[ov p b,y8t 0 (y30 p.vars b),y71 (y30 p.vars b),y70 (y30 p.vars b)]
end Dv
namespace Dv
attribute [local simp] ah depth y22 y4y ya y16 y4t ye y2q y2f Ret
attribute [local congr] z1j z1k z19 z12 zw z1a zu
def gdD(t:D)(b:Bool):Bool:=match t with
 |.bool c=>c == b
 |_=>false
theorem z3y{c b:Bool}:gdD (.bool c) b=(c == b):=rfl
theorem z13{E:Env}{cP:Nat->List D->Option D}{cS cY:Nat->List D->List Obj->Option (D × List Obj)}{base:Nat}{env:List D}{hp:List Obj}{x:Xp}{b:Bool}{dst:Option Nat}{op:DOp}{ks:Xs}{k:Option Nat}{r:List TS} :
  rTS E cP cS cY base (.eff (some (x,b)) dst op ks k::r) env hp=ob (xv E cP env hp x) fun t=>if gdD t b=true then rTS E cP cS cY base (.eff none dst op ks k::r) env hp else rTS E cP cS cY base r (y9y env dst .undef) hp:=by
 simp only[rTS,gdT];cases xv E cP env hp x with
 |none=>rfl
 |some d=>
  cases d with
  |bool c=>cases c <;> cases b <;> rfl
  |_=>rfl
def Whole(p:yl)(b:List Int):Prop:=OkP p/\OkB p b/\b.length=p.vars.length
open Classical in
noncomputable def wk(p:yl)(b:List Int):Int:=if Whole p b then 0 else 270
theorem zyc{p:yl}{b:List Int}(h:Whole p b):wk p b=0:=by simp[wk,h]
theorem zfm{p:yl}{b:List Int}(h : ¬ Whole p b):wk p b=270:=by simp[wk,h]
theorem r83(p:yl)(b:List Int)(S:y1d p)(hb:b.length<=20):yu E (dL E) 83 [ye p,ya b]=some (dI (wk p b)):=by
 refine zg c83 (by simp) ?_
 conv in t83=>reduce;dsimp[ai]
 have h66:=r66 p b S hb;simp only[ye,ya]at h66;simp[t83,n83,h66]
 by_cases h0:bk p b 270=0
 rotate_left
 ·have e:wk p b=270:=zfm fun h=>h0 (zlv h.1 h.2.1)
  simp[zto h0,e]
 obtain⟨ok,okb⟩:=zxd h0 (by decide)
 by_cases h1:b.length=p.vars.length
 ·have e:wk p b=0:=zyc ⟨ok,okb,h1⟩;have h1':(b.length:Int)=p.vars.length:=by omega
  simp[h0,h1',e]
 ·have e:wk p b=270:=zfm fun h=>h1 h.2.2
  have h1' : ¬ (b.length:Int)=p.vars.length:=by omega
  simp[h0,h1',e]
theorem r84(p:yl)(b:List Int):yu E (dL E) 84 [ye p,ya b]=some (.fn 110 [.iptr (ye p).cellsL,.iptr [ya b]]):=by
 refine zg c84 (by simp) ?_
 conv in t84=>reduce;dsimp[ai]
 simp[t84,n84]
structure yb2 where
 leaf:Int
 cell:Int
 more:Int
def y9g(leaf:Nat):Nat->List Int->List Int->List yb2
 |k,d::ds,c::cs=>(if 0<d - c then[⟨leaf,k,d - c⟩]else[])++y9g leaf (k+1) ds cs
 |_,_,_=>[]
def yaa(p:yl)(b:List Int):Nat->List (List Int)->List yb2
 |_,[]=>[]
 |k,c::cs=>y9g k 0 (dem p b k) c++yaa p b (k+1) cs
def ovI(p:yl)(b:List Int):List yb2:=yaa p b 0 p.capacity
abbrev ybz(x:yb2):D:=.agg [dI x.leaf,dI x.cell]
theorem i110(p:yl)(b:List Int)(S:y1d p)(hb:b.length<=20)(ok:OkP p)(okb:OkB p b)(l:Nat)(J:List yb2->List Obj->Prop)(Fin:List Obj->Prop)
  (hext:∀ rem hp r,J rem hp->J rem (hp++r))
  (hy:∀ x rem hp,J (x::rem) hp->∃ t hp',y3c (dL E) l [ybz x,dI x.more] hp=some (.bool t,hp')/\(t=true->J rem hp')/\(t=false->Fin hp')) {hp:List Obj}
  (h0:J (ovI p b) hp) :
  ∃ d hp',y1g E (dL E) 110 [.yld l,.iptr (ye p).cellsL,.iptr [ya b]] hp=some (d,hp')/\(J [] hp'\/Fin hp'):=by
 refine z1i c110 (R:=fun _ hp'=>J [] hp'\/Fin hp') (by simp) ?_
 conv in t110=>reduce;dsimp[ai]
 have s1:=S.cells;have s2:=S.cap;have h68:=r68 p b S hb ok okb;have hAl:=zx0 (p:=p) (b:=b);simp only[ye,ya]at h68;simp[t110,n110,h68,hAl];refine zl p.capacity.length (fun i env hp=>∃(x3 x4 x5 x6 x7 x11 x12 x13 x14 x15 x16 x17:D) ,env=[.yld l,.iptr (ye p).cellsL,.iptr [ya b],x3,x4,x5,x6,x7,.imm .none ((yba p b).map ya),dI p.capacity.length,dI i,x11,x12,x13,x14,x15,x16,x17] /\
  J (yaa p b i (p.capacity.drop i)) hp) 0 (by omega) ⟨_,_,_,_,_,_,_,_,_,_,_,_,rfl,by simpa[ovI]using h0⟩ ?_
 rintro i env hp hi ⟨x3,x4,x5,x6,x7,x11,x12,x13,x14,x15,x16,x17,rfl,hJ⟩
 by_cases hlt:i<p.capacity.length
 rotate_left
 ·have:i=p.capacity.length:=by omega
  subst this;simp only[br,yaa]at hJ;simp[hJ]
 have hget:=zlo ok (b:=b) hlt;have hgi:∀ h:i<(yba p b).length,(yba p b)[i]'h=dem p b i:=fun h=>by rw[ac h]at hget;exact cr hget
 have hcap:=ok.cap _ (au hlt);have hdl:(dem p b i).length=p.cells.length:=by simp[dem,z4l]
 have hdb:=zln S ok (b:=b) (leaf:=i);obtain⟨d,hd⟩:∃ d,d=dem p b i:=⟨_,rfl⟩;obtain⟨c,hc⟩:∃ c,c=p.capacity[i]:=⟨_,rfl⟩;obtain⟨rest,hre⟩:∃ rest,rest=yaa p b (i+1) (p.capacity.drop (i+1)):=⟨_,rfl⟩;rw[zh hlt]at hJ;simp only[yaa,<- hd,<- hc,<- hre]at hJ;rw[<- hc]at hcap;rw[<- hd]at hdl hdb;simp[hlt,hAl,hgi,<- hd];refine zl d.length (fun j env hp=>∃(x4 x5 x6 x7 x11 x15 x16 x17:D) ,env=[.yld l,.iptr (ye p).cellsL,.iptr [ya b],dI i,x4,x5,x6,x7,.imm .none ((yba p b).map ya),dI p.capacity.length,dI i,x11,ya d,dI d.length,dI j,x15,x16,x17] /\
  J (y9g i j (d.drop j) (c.drop j)++rest) hp) 0 (by omega) ⟨_,_,_,_,_,_,_,_,rfl,by simpa using hJ⟩ ?_
 rintro j env hp hj ⟨x4,x5,x6,x7,x11,x15,x16,x17,rfl,hJ⟩
 by_cases hlt2:j<d.length
 rotate_left
 ·have:j=d.length:=by omega
  subst this;simp only[br,y9g,bo]at hJ;rw[hre]at hJ;simp[ze hlt (by omega),hlt,hJ]
 have hjc:j<c.length:=by omega
 have hjc':j<p.capacity[i].length:=by rw[<- hc];exact hjc
 have e1:p.capacity[i][j]=c[j]:=by simp only[hc]
 rw[zh hlt2,zh hjc]at hJ;simp only[y9g]at hJ;have hd1:=hdb _ (au hlt2);have hc1:=hcap.2 _ (au hjc);unfold wi at hc1;have w1:=za (n:=d[j] - c[j]) ⟨by omega,by omega⟩
 by_cases hg:0<d[j] - c[j]
 ·have hg':c[j]<d[j]:=by omega
  rw[if_pos hg]at hJ;change J ((⟨(i:Int),(j:Int),d[j] - c[j]⟩:yb2)::(y9g i (j+1) (d.drop (j+1)) (c.drop (j+1))++rest)) hp at hJ;obtain⟨t,hp2,hy1,hy2,hy3⟩:=hy _ _ _ hJ;simp at hy1;cases t with
  |true=>have hJ2:=hy2 rfl;simp[hlt,hlt2,hjc',e1,w1,z13,z3y,hg',hy1,ze hlt2 (by omega),hJ2]
  |false=>have hF:=hy3 rfl;simp[hlt,hlt2,hjc',e1,w1,z13,z3y,hg',hy1,hF]
 ·have hg' : ¬ c[j]<d[j]:=by omega
  rw[if_neg hg]at hJ;simp only[bo]at hJ;simp[hlt,hlt2,hjc',e1,w1,z13,z3y,hg',ze hlt2 (by omega),hJ]
def y7d:List yb2->Int
 |[]=>0
 |x::r=>x.more+y7d r
theorem ze6:∀{l r:List yb2},y7d (l++r)=y7d l+y7d r
 |[],r=>by simp[y7d]
 |x::l,r=>by simp only[aJ,y7d,ze6];omega
theorem zyh{leaf:Nat}:∀{k:Nat} {d c:List Int},y7d (y9g leaf k d c)=ovR d c
 |_,[],_=>by simp[y9g,ovR,y7d]
 |_,_::_,[]=>by simp[y9g,ovR,y7d]
 |k,d::ds,c::cs=>by
  simp only[y9g,ovR,ze6,zyh]
  by_cases h:0<d - c
  ·have:mx (d - c) 0=d - c:=by unfold mx;rw[if_neg (by omega)]
   rw[if_pos h,this];simp[y7d]
  ·have:mx (d - c) 0=0:=by unfold mx;split <;> omega
   rw[if_neg h,this];simp[y7d]
theorem zyi{p:yl}{b:List Int}:∀{cs:List (List Int)} {k:Nat},y7d (yaa p b k cs)=ovL p b k cs
 |[],_=>by simp[yaa,ovL,y7d]
 |c::cs,k=>by simp only[yaa,ovL,ze6,zyh,zyi]
theorem ycm{p:yl}{b:List Int}:y7d (ovI p b)=ov p b:=zyi
def okO(p:yl)(x:yb2):Prop:=0<x.more/\(0<=x.leaf/\x.leaf<=1000)/\0<=x.cell/\x.cell<=1000
theorem ygx{p:yl}{leaf:Nat}(hl:leaf<=1000):∀{k:Nat} {d c:List Int},k+d.length<=1000->∀ x,x ∈ y9g leaf k d c->okO p x
 |_,[],_,_,x,h=>by simp[y9g]at h
 |_,_::_,[],_,x,h=>by simp[y9g]at h
 |k,d::ds,c::cs,hk,x,h=>by
  simp only[aq]at hk;simp only[y9g,aC]at h;rcases h with h | h
  ·by_cases hg:0<d - c
   ·rw[if_pos hg]at h;simp only[bz]at h;subst h;exact⟨hg,⟨by simp only;omega,by simp only;omega⟩,by simp only;omega,by simp only;omega⟩
   ·rw[if_neg hg]at h;cases h
  ·exact ygx hl (by omega) x h
theorem ygy{p:yl}{b:List Int}(h1:p.cells.length<=12):∀{cs:List (List Int)} {k:Nat},k+cs.length<=1000->∀ x,x ∈ yaa p b k cs->okO p x
 |[],_,_,x,h=>by simp[yaa]at h
 |c::cs,k,hk,x,h=>by
  simp only[aq]at hk;simp only[yaa,aC]at h;rcases h with h | h
  ·exact ygx (by omega) (by have:(dem p b k).length=p.cells.length:=(by simp[dem,z4l]);omega) x h
  ·exact ygy h1 (by omega) x h
theorem zk5:∀{l:List yb2},(∀ x,x ∈ l->0<x.more)->0<=y7d l
 |[],_=>by simp[y7d]
 |x::l,h=>by
  have h1:=h x (by simp)
  have h2:=zk5 (l:=l) fun y hy=>h y (by simp[hy])
  simp only[y7d];omega
open Classical in
noncomputable def ybt(p:yl)(b:List Int):D:=if Whole p b then .tup [ya (yk p b),dI 0]else .tup [ya [],dI 270]
theorem r22(p:yl)(b:List Int)(S:y1d p)(hb:b.length<=20):yu E (dL E) 22 [ye p,ya b]=some (ybt p b):=by
 refine zg c22 (by simp) ?_
 conv in t22=>reduce;dsimp[ai]
 have h83:=r83 p b S hb;have s1:=S.cells;have s2:=S.cap;have s3:=S.vars;simp only[ye,ya]at h83;simp[t22,n22,h83]
 by_cases h0:Whole p b
 rotate_left
 ·simp[zfm h0,ybt,h0]
 simp only[ybt,h0,if_true];simp[zyc h0];obtain⟨ok,okb,hbl⟩:=h0;have h84:=r84 p b;simp only[ye,ya]at h84;simp[h84];have hov:=ygu S ok (b:=b);obtain⟨V,hV⟩:∃ V,V=ov p b:=⟨_,rfl⟩;rw[<- hV]at hov;have hbd:=za2 (vs:=p.vars) (b:=b) (fun v hv=>⟨ok.vars v hv,S.leaves v hv⟩)
 have hpl:=zav (vs:=p.vars) (b:=b);have hCb:=zag hbd;have hGb:=zaf hbd;obtain⟨M,hM⟩:∃ M,M=y8t 0 (y30 p.vars b):=⟨_,rfl⟩;obtain⟨C,hC⟩:∃ C,C=y71 (y30 p.vars b):=⟨_,rfl⟩;obtain⟨G,hG⟩:∃ G,G=y70 (y30 p.vars b):=⟨_,rfl⟩;rw[<- hC]at hCb;rw[<- hG]at hGb;have hfin:yk p b=[V,M,C,G]:=by rw[hV,hM,hC,hG];rfl
 rw[hfin];clear hfin;refine⟨110,_,rfl,?_⟩;intro L hL hcb;obtain⟨J,hJ⟩:∃ J:List yb2->List Obj->Prop,J=fun rem hp'=>∃(s:Int) (h':List Obj),hp'=.cells (ye p).cellsL :: .cells [dI s,dI 0,dI 0,dI 0]::h' /\
  At h' 0 (L false none)/\0<=s/\s+y7d rem=V/\(∀ x,x ∈ rem->okO p x):=⟨_,rfl⟩
 have key:=i110 p b S hb ok okb 2 J (fun _=>False) (by
   rw[hJ];rintro rem hp' r ⟨s,h',rfl,a1,a2⟩;exact⟨s,h'++r,rfl,a1.app,a2⟩) (by
   intro x rem hp1 hj;rw[hJ]at hj;obtain⟨s,h',rfl,a1,a2,a3,a4⟩:=hj;have hx:=(a4 x (by simp)).1
   have hr2:=zk5 (l:=rem) (fun y hy=>(a4 y (by simp[hy])).1)
   simp only[y7d]at a3;have w1:=za (n:=s+x.more) ⟨by omega,by omega⟩
   have hl1:=a1.lt;obtain⟨t,hp2,e1,e2⟩:=hcb [ybz x,dI x.more] (.cells (ye p).cellsL :: .cells [dI s,dI 0,dI 0,dI 0]::h') (fun t hp'=>t=true/\J rem hp') rfl (by simpa[At]using a1) (by
    simp[y23,w1];refine⟨a1,At.self hl1,?_⟩;rw[hJ];exact⟨s+x.more,_,rfl,At.self hl1,by omega,by omega,fun y hy=>a4 y (by simp[hy])⟩)
   obtain⟨rfl,e3⟩:=e2;exact⟨true,hp2,e1,fun _=>e3,fun h=>by cases h⟩) (hp:=.cells (ye p).cellsL :: .cells [dI 0,dI 0,dI 0,dI 0]::[L false none]) (by
   rw[hJ];exact⟨0,_,rfl,rfl,by omega,by rw[ycm,hV];omega,ygy s1 (by omega)⟩)
 obtain⟨d,hp',h1,h2⟩:=key;rcases h2 with h2 | h2
 rotate_left
 ·exact h2.elim
 rw[hJ]at h2;obtain⟨s,h',rfl,a1,a2,a3,a4⟩:=h2;simp only[y7d,iz]at a3;subst a3;refine⟨d,_,h1,.inl ⟨a1,?_⟩⟩;simp;refine zl p.vars.length (fun i env hp=>∃(x6 x7 x8 x9 x10 x11 x12 x13 x14 x18 x19 x20 x21 x22 x23:D) (v1 v2 v3:Int) (h:List Obj),env=[ye p,ya b,.loc 0 0,.imm .exact [],dI 0,.loc 1 0,x6,x7,x8,x9,x10,x11,x12,x13,x14,ya b,dI b.length,dI i,x18,x19,x20,x21,x22,x23] /\
  hp=.cells (ye p).cellsL :: .cells [dI s,dI v1,dI v2,dI v3]::h/\0<=v2/\0<=v3/\y8t v1 (y30 (p.vars.drop i) (b.drop i))=M/\v2+y71 (y30 (p.vars.drop i) (b.drop i))=C /\
  v3+y70 (y30 (p.vars.drop i) (b.drop i))=G) 0 (by omega) ⟨_,_,_,_,_,_,_,_,_,_,_,_,_,_,_,0,0,0,_,rfl,rfl,by omega,by omega,by simp[hM],by simp[hC],by simp[hG]⟩ ?_
 rintro i env hp hi ⟨x6,x7,x8,x9,x10,x11,x12,x13,x14,x18,x19,x20,x21,x22,x23,v1,v2,v3,h,rfl,rfl,a2,a3,a4,a5,a6⟩
 by_cases hlt2:i<p.vars.length
 ·have hib:i<b.length:=by omega
  have okv:=ok.vars _ (au hlt2);have l1:=S.leaves _ (au hlt2);have hr:=za2 (vs:=p.vars.drop (i+1)) (b:=b.drop (i+1)) (fun v hv=>⟨ok.vars v (bW hv),S.leaves v (bW hv)⟩)
  have hr2:=zag hr;have hr3:=zaf hr;have hbp:=ztt okv (n:=b[i]?);rw[zh hlt2]at a4 a5 a6;simp only[y30,m8,mL,y71,y70]at a4 a5 a6;obtain⟨n,hn⟩:∃ n:Int,n=p.vars[i].leaves.length:=⟨_,rfl⟩;rw[<- hn]at a4 a5 a6;obtain⟨⟨d1,d2⟩,⟨c1,c2⟩,⟨g1,g2⟩⟩:=hbp;obtain⟨c,hc⟩:∃ c,c=pick p.vars[i] b[i]?:=⟨_,rfl⟩;rw[<- hc]at a4 a5 a6 d1 d2 c1 c2 g1 g2;have m1:=zd2 c1 c2 (n:=n) (by omega) (by omega)
  have m2:=zd2 g1 g2 (n:=n) (by omega) (by omega)
  have w1:=za (n:=c.cost*n) ⟨by omega,by omega⟩
  have w2:=za (n:=v2+c.cost*n) ⟨by omega,by omega⟩
  have w3:=za (n:=c.changes*n) ⟨by omega,by omega⟩
  have w4:=za (n:=v3+c.changes*n) ⟨by omega,by omega⟩
  have hmx:y8t (mx v1 c.delay) (y30 (p.vars.drop (i+1)) (b.drop (i+1)))=M:=a4;have hw:=okb.each i hib hlt2;obtain⟨m,hm⟩:∃ m:Nat,b[i]=m:=⟨b[i].toNat,by unfold wi at hw;omega⟩
  have hm':m<p.vars[i].choices.length:=by unfold wi at hw;omega
  rw[ac hib,hm]at hc;simp only[pick,bZ,af,ac hm',aX]at hc;simp[hlt2,hib,hm,hm',↓z1p,↓z42,<- hc,<- hn,w1,w2,w3,w4,ze hib (by omega),zta,zxa,yhz,did,y93]
  exact⟨_,_,_,⟨rfl,rfl,rfl⟩,by omega,by omega,hmx,by omega,by omega⟩
 ·have:i=p.vars.length:=by omega
  subst this;simp only[br,y30,y8t,gG,y71,y70,iz]at a4 a5 a6;subst a4 a5 a6;simp[y31,hbl,y12,bnd]
def y2e:List Int->List Int->Int
 |[],[]=>0
 |[],_::_=>-1
 |_::_,[]=>1
 |x::xs,y::ys=>if y3q x y=0 then y2e xs ys else y3q x y
theorem z35{a b:Int}:y3q a b=0 ↔ a=b:=by unfold y3q;split <;> (try split) <;> omega
theorem zbt{a b:Int}:y3q a b<0 ↔ a<b:=by unfold y3q;split <;> (try split) <;> omega
theorem zx9{a b:Int}:y3q a b = -1\/y3q a b=0\/y3q a b=1:=by unfold y3q;split <;> (try split) <;> omega
theorem r87(a b:List Int)(ha:a.length<=1000000)(hb:b.length<=1000000):yu E (dL E) 87 [ya a,ya b]=some (dI (y2e a b)):=by
 refine zg c87 (by simp) ?_
 conv in t87=>reduce;dsimp[ai]
 generalize hB:y2e a b=B;simp[t87,n87];refine zl a.length (fun i env hp=>∃(x3 x4 x5 x6 x10 x11 x12 x13:D) ,env=[ya a,ya b,dI 0,x3,x4,x5,x6,ya a,dI a.length,dI i,x10,x11,x12,x13]/\i<=b.length/\y2e (a.drop i) (b.drop i)=B) 0 (by omega) ⟨_,_,_,_,_,_,_,_,rfl,by omega,by simpa using hB⟩ ?_
 rintro i env hp hi ⟨x3,x4,x5,x6,x10,x11,x12,x13,rfl,hib,hc⟩
 by_cases hlt:i<a.length
 ·rw[zh hlt]at hc
  by_cases h2:i<b.length
  ·rw[zh h2]at hc;simp only[y2e]at hc
   by_cases h0:y3q a[i] b[i]=0
   ·rw[if_pos h0]at hc;have h2' : ¬ b.length<=i:=by omega
    simp[hlt,h2,h2',r74,h0,ze hlt (by omega)]
    exact⟨by omega,hc⟩
   ·rw[if_neg h0]at hc;have h2' : ¬ b.length<=i:=by omega
    rw[hc]at h0;simp[hlt,h2,h2',r74,h0,hc]
  ·have hbd:b.drop i=[]:=dY (by omega)
   rw[hbd]at hc;simp only[y2e]at hc;have h2':b.length<=i:=by omega
   simp[hlt,h2',hc]
 ·have hi':i=a.length:=by omega
  subst hi';rw[br]at hc
  by_cases h2:a.length<b.length
  ·rw[zh h2]at hc;simp only[y2e]at hc;simp[h2,hc]
  ·have hbd:b.drop a.length=[]:=dY (by omega)
   rw[hbd]at hc;simp only[y2e]at hc;simp[h2,hc]
theorem z89:∀{a:List Int},y2e a a=0
 |[]=>rfl
 |x::a=>by simp only[y2e,z35.2 rfl,if_true,z89]
theorem z4n:∀{a b:List Int},a.length=b.length->(y2e a b=0 ↔ a=b)
 |[],[],_=>by simp[y2e]
 |[],_::_,h=>by simp at h
 |_::_,[],h=>by simp at h
 |x::a,y::b,h=>by
  have ih:=z4n (a:=a) (b:=b) (by simpa using h)
  simp only[y2e]
  by_cases e:y3q x y=0
  ·rw[if_pos e,ih,z35.1 e];simp
  ·rw[if_neg e];have:x ≠ y:=fun h=>e (z35.2 h)
   simp[e,this]
theorem zx8:∀{a b:List Int},y2e a b = -1\/y2e a b=0\/y2e a b=1
 |[],[]=>by simp[y2e]
 |[],_::_=>by simp[y2e]
 |_::_,[]=>by simp[y2e]
 |x::a,y::b=>by
  simp only[y2e]
  by_cases e:y3q x y=0
  ·rw[if_pos e];exact zx8
  ·rw[if_neg e];exact zx9
theorem z4o:∀{a b:List Int},y2e b a = - y2e a b
 |[],[]=>by simp[y2e]
 |[],_::_=>by simp[y2e]
 |_::_,[]=>by simp[y2e]
 |x::a,y::b=>by
  have ih:=z4o (a:=a) (b:=b);have e:y3q y x = - y3q x y:=by unfold y3q;split <;> split <;> (try split) <;> omega
  simp only[y2e]
  by_cases h:y3q x y=0
  ·rw[if_pos h,if_pos (by omega),ih]
  ·rw[if_neg h,if_neg (by omega),e]
theorem z6i:∀{a b c:List Int},y2e a b<0->y2e b c<0->y2e a c<0
 |[],[],_,h,_=>by simp[y2e]at h
 |[],_::_,[],_,h=>by simp[y2e]at h
 |[],_::_,_::_,_,_=>by simp[y2e]
 |_::_,[],_,h,_=>by simp[y2e]at h
 |_::_,_::_,[],_,h=>by simp[y2e]at h
 |x::a,y::b,z::c,h1,h2=>by
  simp only[y2e]at h1 h2 ⊢
  by_cases e1:y3q x y=0
  ·rw[if_pos e1]at h1;rw[z35.1 e1]
   by_cases e2:y3q y z=0
   ·rw[if_pos e2]at h2 ⊢;exact z6i h1 h2
   ·rw[if_neg e2]at h2 ⊢;exact h2
  ·rw[if_neg e1]at h1
   by_cases e2:y3q y z=0
   ·rw[<- z35.1 e2,if_neg e1];exact h1
   ·rw[if_neg e2]at h2;have h3:=zbt.1 h1;have h4:=zbt.1 h2;have h5:x<z:=by omega
    rw[if_neg (fun h=>by have:=z35.1 h;omega)]
    exact zbt.2 h5
theorem zdl:∀{a b:List Int},a.length=b.length->(∀ n,a.getD n 0<=b.getD n 0)->y2e a b<=0
 |[],[],_,_=>by simp[y2e]
 |[],_::_,h,_=>by simp at h
 |_::_,[],h,_=>by simp at h
 |x::a,y::b,h,hn=>by
  have h0:=hn 0;simp only[bG]at h0;simp only[y2e]
  by_cases e:y3q x y=0
  ·rw[if_pos e];exact zdl (by simpa using h) fun n=>by have:=hn (n+1);simpa using this
  ·rw[if_neg e];have:x<y:=by
    have:x ≠ y:=fun h=>e (z35.2 h)
    omega
   have:=zbt.2 this;omega
def y1z(p:yl)(a b:List Int):Int:=if y2e (yk p a) (yk p b)=0 then y2e a b else y2e (yk p a) (yk p b)
theorem At.get0{hp:List Obj}{o:Obj}(a:At hp 0 o)(h:0<hp.length):hp[0]'h=o:=by have:=a.eq;rw[ac h]at this;exact cr this
theorem zes{p:yl}{b:List Int}(S:y1d p)(h : ¬ b.length<=20) : ¬ OkB p b:=fun ok=>by have:=ok.len;have:=S.vars;omega
theorem zis{p:yl}{b:List Int}(S:y1d p)(h : ¬ b.length<=20) : ¬ Whole p b:=fun w=>zes S h w.2.1
theorem q66(p:yl)(b:List Int)(S:y1d p):yu E (dL E) 66 [ye p,ya b]=some (dI (bk p b 270)):=by
 by_cases hb:b.length<=20
 ·exact r66 p b S hb
 refine zg c66 (by simp) ?_
 conv in t66=>reduce;dsimp[ai]
 have s3:=S.vars;have h1:p.vars.length<b.length:=by omega
 have h15:=r15 p S;simp only[ye]at h15
 by_cases h0:OkP p
 ·have e:ck p=0:=by simp[ck,h0]
  have e2:bk p b 270=270:=by simp[bk,h0,zes S hb]
  simp[t66,n66,h15,e,e2,h1]
 ·have e:ck p=270:=by simp[ck,h0]
  have e2:bk p b 270=270:=by simp[bk,h0]
  simp[t66,n66,h15,e,e2]
theorem q83(p:yl)(b:List Int)(S:y1d p):yu E (dL E) 83 [ye p,ya b]=some (dI (wk p b)):=by
 by_cases hb:b.length<=20
 ·exact r83 p b S hb
 refine zg c83 (by simp) ?_
 conv in t83=>reduce;dsimp[ai]
 have h66:=q66 p b S;simp only[ye,ya]at h66;have h0:bk p b 270 ≠ 0:=fun h=>zes S hb (zxd h (by decide)).2
 have e:wk p b=270:=zfm (zis S hb);simp[t83,n83,h66,zto h0,e]
theorem q22(p:yl)(b:List Int)(S:y1d p):yu E (dL E) 22 [ye p,ya b]=some (ybt p b):=by
 by_cases hb:b.length<=20
 ·exact r22 p b S hb
 refine zg c22 (by simp) ?_
 conv in t22=>reduce;dsimp[ai]
 have h83:=q83 p b S;simp only[ye,ya]at h83;simp[t22,n22,h83,zfm (zis S hb),ybt,zis S hb]
end Dv
namespace Dv
theorem ycg{x:D}{c:Nat}(h:y59 E c x)(hk:(E.ty c).k=.slice 2):∃ l,x=ya l/\y83 l:=by
 have ha:(E.ty c).ag=false:=by unfold TI.ag;rw[hk]
 obtain⟨l,h3,ho⟩:=ze2 (z4d h ha) hk;simp only[cb,and_true]at h3;exact⟨l,h3,ho⟩
theorem yj2{x:D}{c:Nat}(h:y59 E c x)(hk:(E.ty c).k=.int .u8):∃ m:Nat,x=.int .u8 m/\m<=255:=by
 have ha:(E.ty c).ag=false:=by unfold TI.ag;rw[hk]
 have h1:=z4d h ha;clear h;cases h1 with
 |int h' hw=>
  rename_i n;rw[hk]at h';cases h';simp[Go.Lit.wf]at hw;obtain⟨a1,a2⟩:=hw;have e1:gY.min=0:=by decide
  have e2:gY.max=255:=by decide
  have b1:0<=n:=by first | exact a1 | (rw[e1]at a1;exact a1)
  have b2:n<=255:=by first | exact a2 | (rw[e2]at a2;exact a2)
  exact⟨n.toNat,by rw[Int.toNat_of_nonneg b1],by omega⟩
 |bool h'=>rw[hk]at h';cases h'
 |str h'=>rw[hk]at h';cases h'
 |slice h' _ _ _=>rw[hk]at h';cases h'
 |struct h' _ _=>rw[hk]at h';cases h'
 |arr h' _ _=>rw[hk]at h';cases h'
end Dv
namespace Dv
attribute [local simp] ah depth y22 y4y ya y16 y4t ye y2q y2f Ret
attribute [local congr] z1j z1k z19 z12 zw z1a zu
theorem z7b{p:yl}{a b:List Int}:y1z p b a = - y1z p a b:=by
 unfold y1z;rw[z4o (a:=yk p a) (b:=yk p b),z4o (a:=a) (b:=b)]
 by_cases h:y2e (yk p a) (yk p b)=0
 ·rw[if_pos h,if_pos (by omega)]
 ·rw[if_neg h,if_neg (by omega)]
theorem z5e{p:yl}{a b:List Int}(h:a.length=b.length):y1z p a b=0 ↔ a=b:=by
 unfold y1z;constructor
 ·intro h1
  by_cases h2:y2e (yk p a) (yk p b)=0
  ·rw[if_pos h2]at h1;exact(z4n h).1 h1
  ·rw[if_neg h2]at h1;exact absurd h1 h2
 ·rintro rfl;rw[if_pos z89,z89]
theorem zhi{p:yl}{a b c:List Int}(h1:y1z p a b<0)(h2:y1z p b c<0):y1z p a c<0:=by
 unfold y1z at *
 by_cases e1:y2e (yk p a) (yk p b)=0
 ·rw[if_pos e1]at h1;have e:=(z4n (a:=yk p a) (b:=yk p b) rfl).1 e1;rw[e]
  by_cases e2:y2e (yk p b) (yk p c)=0
  ·rw[if_pos e2]at h2 ⊢;exact z6i h1 h2
  ·rw[if_neg e2]at h2 ⊢;exact h2
 ·rw[if_neg e1]at h1
  by_cases e2:y2e (yk p b) (yk p c)=0
  ·have e:=(z4n (a:=yk p b) (b:=yk p c) rfl).1 e2;rw[<- e,if_neg e1];exact h1
  ·rw[if_neg e2]at h2;have:=z6i h1 h2;rw[if_neg (by omega)];exact this
end Dv
namespace Dv
theorem zab{leaf i:Int}:∀{vs:List Var} {b:List Int} (h:b.length<vs.length),y33 vs (b++[i]) leaf=y33 vs b leaf++(if vs[b.length].leaves.contains leaf then y4n vs[b.length] i else[])
 |v::vs,[],_=>by cases vs <;> simp[y33]
 |v::vs,n::ns,h=>by
  have h':ns.length<vs.length:=by simpa using h
  simp only[aJ,y33,zab h',bi,aq,dZ]
theorem zld{p:yl}:∀{l:List Use} {r:List Int} {k:Int},(∀ u,u ∈ l->0<=u.places/\u.places<=8)->0<=k->(∀ x,x ∈ r->0<=x/\x<=k)->k+8*l.length<=1000000 ->
  ∀ n,r.getD n 0<=(l.foldl (y7v p) r).getD n 0
 |[],r,k,_,_,hr,_,n=>by simp
 |u::l,r,k,hu,hk,hr,hb,n=>by
  simp only[aq]at hb ⊢;rw[bQ];have hu1:=hu u (by simp)
  have h1:0<=r.getD (atS u.cell p.cells 0).toNat 0/\r.getD (atS u.cell p.cells 0).toNat 0<=k:=by
   rcases zs3 (r:=r) (a:=(atS u.cell p.cells 0).toNat)with h | h
   ·exact hr _ h
   ·rw[h];omega
  have:=zld (p:=p) (l:=l) (r:=y7v p r u) (k:=k+8) (fun v hv=>hu v (by simp[hv])) (by omega) (fun y hy=>by
   unfold y7v at hy;rcases fh hy with h | h
   ·have:=hr y h;omega
   ·rw[h,zzj ⟨by omega,by omega⟩];omega) (by omega) n
  refine kV ?_ this;unfold y7v;rw[zzj ⟨by omega,by omega⟩]
  by_cases e:(atS u.cell p.cells 0).toNat=n
  ·subst e
   by_cases hn:(atS u.cell p.cells 0).toNat<r.length
   ·rw[af,af,aQ hn,aX,ac hn,aX];omega
   ·rw[List.set_eq_of_length_le (by omega)]
    exact eV _
  ·rw[af (l:=List.set _ _ _),bj e,<- af];exact eV _
theorem yht{p:yl}(S:y1d p)(ok:OkP p){b:List Int}{i leaf:Int}(h:b.length<p.vars.length)(n:Nat):(dem p b leaf).getD n 0<=(dem p (b++[i]) leaf).getD n 0:=by
 have e:dem p (b++[i]) leaf=(if p.vars[b.length].leaves.contains leaf then y4n p.vars[b.length] i else[]).foldl (y7v p) (dem p b leaf):=by unfold dem;rw[zab h,List.foldl_append]
 rw[e];have okv:=ok.vars _ (au h);have hl:=zck (v:=p.vars[b.length]) (n:=i) (S.uses _ (au h))
 by_cases hc:p.vars[b.length].leaves.contains leaf=true
 ·rw[if_pos hc];exact zld (k:=576) (fun u hu=>(zfp okv u hu).places |> fun h=>by unfold wi at h;omega) (by omega) (zln S ok) (by omega) n
 ·rw[if_neg hc];exact eV _
theorem ydg{a b:Int}(h:a<=b):mx a 0<=mx b 0:=by unfold mx;split <;> split <;> omega
theorem zki:∀{d d' c:List Int},d.length=d'.length->(∀ n,d.getD n 0<=d'.getD n 0)->ovR d c<=ovR d' c
 |[],[],_,_,_=>by simp[ovR]
 |[],_::_,_,h,_=>by simp at h
 |_::_,[],_,h,_=>by simp at h
 |d::ds,d'::ds',[],_,_=>by simp[ovR]
 |d::ds,d'::ds',c::cs,h,hn=>by
  have h1:=zki (d:=ds) (d':=ds') (c:=cs) (by simpa using h) (fun n=>by have:=hn (n+1);simpa using this)
  have h2:=hn 0;simp only[bG]at h2;have h3:=ydg (a:=d - c) (b:=d' - c) (by omega)
  simp only[ovR];omega
theorem zkj{p:yl}{b b':List Int}(h:∀(leaf:Int) n,(dem p b leaf).getD n 0<=(dem p b' leaf).getD n 0):∀{cs:List (List Int)} {k:Nat},ovL p b k cs<=ovL p b' k cs
 |[],_=>by simp[ovL]
 |c::cs,k=>by
  have h1:=zkj h (cs:=cs) (k:=k+1);have h2:=zki (d:=dem p b k) (d':=dem p b' k) (c:=c) (by simp[dem,z4l]) (h k)
  simp only[ovL];omega
theorem zva{p:yl}(S:y1d p)(ok:OkP p){b:List Int}{i:Int}(h:b.length<p.vars.length):ov p b<=ov p (b++[i]):=
 zkj fun leaf n=>yht S ok h n
theorem zd0:∀{vs:List Var} {b:List Int} (h:b.length<vs.length),∃ pre post,y30 vs b=pre++((vs[b.length].leaves.length:Int),pick vs[b.length] none)::post /\
  ∀ i,y30 vs (b++[i])=pre++((vs[b.length].leaves.length:Int),pick vs[b.length] (some i))::post
 |v::vs,[],_=>⟨[],y30 vs [],rfl,fun _=>rfl⟩
 |v::vs,n::ns,h=>by
  have h':ns.length<vs.length:=by simpa using h
  obtain⟨pre,post,h1,h2⟩:=zd0 h';refine⟨((v.leaves.length:Int),pick v (some n))::pre,post,?_,fun i=>?_⟩
  ·simp only[y30,mM,m9,h1,aq,dZ,aJ]
  ·simp only[aJ,y30,mM,m9,h2 i,aq,dZ]
theorem ze8:∀{l r:List (Int × y1m)},y71 (l++r)=y71 l+y71 r
 |[],r=>by simp[y71]
 |x::l,r=>by simp only[aJ,y71,ze8];omega
theorem ze7:∀{l r:List (Int × y1m)},y70 (l++r)=y70 l+y70 r
 |[],r=>by simp[y70]
 |x::l,r=>by simp only[aJ,y70,ze7];omega
theorem zks{a:Int}{l r:List (Int × y1m)}:y8t a (l++r)=y8t (y8t a l) r:=by simp[y8t]
theorem z7t{a:Int}{x:Int × y1m}{r:List (Int × y1m)}:y8t a (x::r)=y8t (mx a x.2.delay) r:=rfl
theorem zgr:∀{l:List (Int × y1m)} {a b:Int},a<=b->y8t a l<=y8t b l
 |[],_,_,h=>h
 |x::l,a,b,h=>by rw[z7t,z7t];exact zgr (by unfold mx;split <;> split <;> omega)
theorem zlc(f:y1m->Int)(hf:∀ a c,f (y8s a c)=mn (f a) (f c)):∀(l:List y1m) (a:y1m),f (l.foldl y8s a)<=f a/\(∀ c,c ∈ l->f (l.foldl y8s a)<=f c)/\(f (l.foldl y8s a)=f a \/ ∃ c,c ∈ l/\f (l.foldl y8s a)=f c)
 |[],a=>⟨eV _,fun c h=>by simp at h,.inl rfl⟩
 |x::l,a=>by
  obtain⟨h1,h2,h3⟩:=zlc f hf l (y8s a x);rw[bQ];have h4:=hf a x;have h5:mn (f a) (f x)<=f a/\mn (f a) (f x)<=f x/\(mn (f a) (f x)=f a\/mn (f a) (f x)=f x):=by unfold mn;split <;> omega
  refine⟨by omega,fun c hc=>?_,?_⟩
  ·rcases aA.1 hc with rfl | hc
   ·omega
   ·exact h2 c hc
  ·rcases h3 with h3 | ⟨c,hc,h3⟩
   ·rcases h5.2.2 with h6 | h6
    ·exact .inl (by omega)
    ·exact .inr ⟨x,by simp,by omega⟩
   ·exact .inr ⟨c,by simp[hc],h3⟩
theorem zej(f:y1m->Int)(hf:∀ a c,f (y8s a c)=mn (f a) (f c)){v:Var}(h1:1<=v.choices.length) :
  (∀ i:Nat,i<v.choices.length->f (pick v none)<=f (pick v (some i))) /\ ∃ i:Nat,i<v.choices.length/\f (pick v none)=f (pick v (some i)):=by
 have h0:0<v.choices.length:=by omega
 have e0:v.choices.getD 0 ⟨0,0,0,[]⟩=v.choices[0]:=by simp[af,ac h0]
 have es:∀(i:Nat) (hi:i<v.choices.length),pick v (some i)=v.choices[i]:=fun i hi=>by simp[pick,af,ac hi]
 have en:pick v none=(v.choices.drop 1).foldl y8s v.choices[0]:=by simp only[pick,e0]
 obtain⟨g1,g2,g3⟩:=zlc f hf (v.choices.drop 1) v.choices[0];rw[en];refine⟨fun i hi=>?_,?_⟩
 ·rw[es i hi];cases i with
  |zero=>exact g1
  |succ i=>refine g2 _ ?_;rw[f8];exact⟨i,by simp;omega,by simp[eY]⟩
 ·rcases g3 with g3 | ⟨c,hc,g3⟩
  ·exact⟨0,h0,by rw[es 0 h0];exact g3⟩
  ·obtain⟨i,hi,e⟩:=f8.1 hc;simp only[List.length_drop]at hi;refine⟨i+1,by omega,?_⟩
   rw[es (i+1) (by omega),g3,<- e]
   simp[eY]
theorem zjn{p:yl}(S:y1d p)(ok:OkP p){b:List Int}(h:b.length<p.vars.length) :
  (∀ i:Nat,i<p.vars[b.length].choices.length->∀ k,(yk p b).getD k 0<=(yk p (b++[(i:Int)])).getD k 0) /\
  ∀ k,1<=k->∃ i:Nat,i<p.vars[b.length].choices.length/\(yk p (b++[(i:Int)])).getD k 0=(yk p b).getD k 0:=by
 have okv:=ok.vars _ (au h);have hone:=okv.one;obtain⟨pre,post,e1,e2⟩:=zd0 h;obtain⟨a1,a2⟩:=zej (·.delay) (fun _ _=>rfl) hone
 obtain⟨b1,b2⟩:=zej (·.cost) (fun _ _=>rfl) hone
 obtain⟨c1,c2⟩:=zej (·.changes) (fun _ _=>rfl) hone
 obtain⟨v,hv⟩:∃ v,v=p.vars[b.length]:=⟨_,rfl⟩;rw[<- hv]at e1 e2 a1 a2 b1 b2 c1 c2 ⊢;have hn:(0:Int)<=v.leaves.length:=by omega
 constructor
 ·intro i hi k;unfold yk;rw[e1,e2]
  match k with
  | 0=>exact zva S ok h
  | 1=>simp only[b8,bG,zks,z7t];refine zgr ?_;have:=a1 i hi;unfold mx;split <;> split <;> omega
  | 2=>simp only[b8,bG,ze8,y71];have:=iA (b1 i hi) hn;omega
  | 3=>simp only[b8,bG,ze7,y70];have:=iA (c1 i hi) hn;omega
  |k+4=>simp
 ·intro k hk
  match k,hk with
  | 1,_=>obtain⟨i,hi,e⟩:=a2;refine⟨i,hi,?_⟩;unfold yk;rw[e1,e2];simp only[b8,bG,zks,z7t,e]
  | 2,_=>obtain⟨i,hi,e⟩:=b2;refine⟨i,hi,?_⟩;unfold yk;rw[e1,e2];simp only[b8,bG,ze8,y71,e]
  | 3,_=>obtain⟨i,hi,e⟩:=c2;refine⟨i,hi,?_⟩;unfold yk;rw[e1,e2];simp only[b8,bG,ze7,y70,e]
  |k+4,_=>exact⟨0,by omega,by simp[yk]⟩
theorem zvb{p:yl}{b:List Int}(okb:OkB p b)(h:b.length<p.vars.length){i:Nat}(hi:i<p.vars[b.length].choices.length):OkB p (b++[(i:Int)]):=by
 refine⟨by simp;omega,fun j hj hj'=>?_⟩
 by_cases e:j<b.length
 ·rw[List.getElem_append_left e];exact okb.each j e hj'
 ·have:j=b.length:=by simp at hj;omega
  subst this;unfold wi;simp;omega
end Dv
namespace Dv
attribute [local simp] ah depth y22 y4y ya y16 y4t ye y2q y2f Ret
attribute [local congr] z1j z1k z19 z12 zw z1a zu
theorem r62(p:yl)(b:List Int)(S:y1d p)(hb:b.length<=20):yu E (dL E) 62 [ye p,ya b]=some (dI (bk p b 280)):=by
 refine zg c62 (by simp) ?_
 conv in t62=>reduce;dsimp[ai]
 generalize hB:bk p b 280=B;have hB0 : ¬ OkP p->B=270:=by intro h;rw[<- hB];simp[bk,h]
 have hBf:OkP p -> ¬ OkB p b->B=280:=by intro h h';rw[<- hB];simp[bk,h,h']
 have hBt:OkP p->OkB p b->B=0:=by intro h h';rw[<- hB];simp[bk,h,h']
 have s3:=S.vars;have h15:=r15 p S;simp only[ye]at h15;simp[t62,n62,h15]
 by_cases h0:OkP p
 rotate_left
 ·have e:ck p=270:=by simp[ck,h0]
  simp[e,hB0 h0]
 have e:ck p=0:=by simp[ck,h0]
 simp[e]
 by_cases h1:p.vars.length<b.length
 ·simp[h1,hBf h0 (fun ok=>by have:=ok.len;omega)]
 have h1' : ¬ p.vars.length<b.length:=h1;simp[h1'];obtain⟨P,hP⟩:∃ P:Nat->Prop,P=fun i=>∀(h:i<b.length) (h':i<p.vars.length),wi b[i] 0 (p.vars[i].choices.length - 1):=⟨_,rfl⟩
 refine z5i b.length P
  (fun i env hp=>∃(x4 x5 x6 x7 x11 x12:D) (h:List Obj),env=[ye p,ya b,.loc 0 0,dI 0,x4,x5,x6,x7,ya b,dI b.length,dI i,x11,x12]/\hp=.cells (ye p).cellsL::h)
  ⟨_,_,_,_,_,_,_,rfl,rfl⟩ ?_ ?_
 ·rintro i env hp hi ⟨x4,x5,x6,x7,x11,x12,h,rfl,rfl⟩ hall;have hi':i<p.vars.length:=by omega
  have l2:=S.choices _ (au hi');have hcw:=za (n:=(p.vars[i].choices.length:Int) - 1) ⟨by omega,by omega⟩
  by_cases k1:wi b[i] 0 (p.vars[i].choices.length - 1)
  ·obtain⟨a1,a2,a3,a4⟩:=zcg k1;have hPi:P i:=by rw[hP];exact fun _ _=>k1
   have a5 : ¬ (p.vars[i].choices.length:Int)<=b[i]:=by omega
   simp[hi,hi',a1,a3,a5,ze hi (by omega),hPi]
  ·have hB':=hBf h0 (fun ok=>k1 (ok.each i hi hi'))
   rcases zch k1 with⟨q1,q2⟩ | ⟨q1,q2,q3,q4⟩
   ·simp[hi,hi',q1,q2,hB']
   ·have a5:(p.vars[i].choices.length:Int)<=b[i]:=by omega
    simp[hi,hi',q3,q4,a5,hB']
 ·rintro env hp ⟨x4,x5,x6,x7,x11,x12,h,rfl,rfl⟩ hall;rw[hP]at hall;simp[hBt h0 ⟨by omega,fun i hi hi'=>hall i hi hi hi'⟩]
open Classical in
noncomputable def yim(p:yl)(b:List Int):D:=if bk p b 280=0 then .tup [ya (yk p b),dI 0]else .tup [ya [],dI (bk p b 280)]
theorem r3(p:yl)(b:List Int)(S:y1d p)(hb:b.length<=20):yu E (dL E) 3 [ye p,ya b]=some (yim p b):=by
 refine zg c3 (by simp) ?_
 have h62:=r62 p b S hb;have s1:=S.cells;have s2:=S.cap;have s3:=S.vars;simp only[ye,ya]at h62;simp[t3,n3,h62]
 by_cases h0:bk p b 280=0
 rotate_left
 ·simp[h0,yim]
 obtain⟨ok,okb⟩:=zxd h0 (by decide)
 have hb0:=zlv (e:=270) ok okb;simp only[yim,h0,if_true];simp[h0,yg];have hov:=ygu S ok (b:=b);obtain⟨V,hV⟩:∃ V,V=ov p b:=⟨_,rfl⟩;rw[<- hV]at hov;refine zl p.capacity.length (fun i env hp=>∃(x5 x6 x7 x8 x9 x10 x11 x12 x13 x17 x18 x19 x20 x21 x22 x23 x24 x25 x26:D) (v:Int) (h:List Obj),env=[ye p,ya b,.loc 0 0,.loc 1 0,dI 0,x5,x6,x7,x8,x9,x10,x11,x12,x13,.imm .none (p.capacity.map ya),dI p.capacity.length,dI i,x17,x18,x19,x20,x21,x22,x23,x24,x25,x26] /\
  hp=.cells (ye p).cellsL :: .cells [.sl 2 0 4 1 false true] :: .cells [dI v,dI 0,dI 0,dI 0]::h/\0<=v/\v+ovL p b i (p.capacity.drop i)=V) 0 (by omega) ⟨_,_,_,_,_,_,_,_,_,_,_,_,_,_,_,_,_,_,_,0,_,rfl,rfl,by omega,by simp[hV,ov]⟩ ?_
 rintro i env hp hi ⟨x5,x6,x7,x8,x9,x10,x11,x12,x13,x17,x18,x19,x20,x21,x22,x23,x24,x25,x26,v,h,rfl,rfl,hv0,hv⟩
 by_cases hlt:i<p.capacity.length
 ·rw[zh hlt]at hv;simp only[ovL]at hv;have hrest:=zql (p:=p) (b:=b) (cs:=p.capacity.drop (i+1)) (k:=i+1);have hcap:=ok.cap _ (au hlt);have h14:=r14 p b i S hb;have hQ:yfo p b i=.tup [.imm .none ((dem p b i).map dI),dI 0]:=by
   have:(0:Int)<=i/\(i:Int)<=p.capacity.length - 1:=by omega
   unfold yfo;rw[if_pos hb0,if_pos this]
  rw[hQ]at h14;simp only[ye,ya]at h14;have hdl:(dem p b i).length=p.cells.length:=by simp[dem,z4l]
  have hdb:=zln S ok (b:=b) (leaf:=i);obtain⟨d,hd⟩:∃ d,d=dem p b i:=⟨_,rfl⟩;rw[<- hd]at h14 hdl hdb hv;obtain⟨c,hc⟩:∃ c,c=p.capacity[i]:=⟨_,rfl⟩;rw[<- hc]at hcap hv;simp[hlt,h14];simp only[<- hc];obtain⟨rest,hre⟩:∃ rest,rest=ovL p b (i+1) (p.capacity.drop (i+1)):=⟨_,rfl⟩;rw[<- hre]at hv hrest;refine zl d.length (fun j env hp=>∃(x7 x8 x9 x10 x11 x12 x13 x17 x18 x19 x23 x24 x25 x26:D) (v:Int) (h:List Obj),env=[ye p,ya b,.loc 0 0,.loc 1 0,dI 0,dI i,ya c,x7,x8,x9,x10,x11,x12,x13,.imm .none (p.capacity.map ya),dI p.capacity.length,dI i,x17,x18,x19,ya d,dI d.length,dI j,x23,x24,x25,x26] /\
   hp=.cells (ye p).cellsL :: .cells [.sl 2 0 4 1 false true] :: .cells [dI v,dI 0,dI 0,dI 0]::h/\0<=v/\v+(ovR (d.drop j) (c.drop j)+rest)=V) 0 (by omega) ⟨_,_,_,_,_,_,_,_,_,_,_,_,_,_,v,_,rfl,rfl,hv0,by simpa using hv⟩ ?_
  rintro j env hp hj ⟨x7,x8,x9,x10,x11,x12,x13,x17,x18,x19,x23,x24,x25,x26,v,h,rfl,rfl,hv0,hv⟩
  by_cases hlt2:j<d.length
  ·have hjc:j<c.length:=by omega
   rw[zh hlt2,zh hjc]at hv;simp only[ovR]at hv;have hrp:=zie (d:=d.drop (j+1)) (c:=c.drop (j+1));have hd1:=hdb _ (au hlt2);have hc1:=hcap.2 _ (au hjc);unfold wi at hc1;have hm0:=mx0 (a:=d[j] - c[j]);have w1:=za (n:=d[j] - c[j]) ⟨by omega,by omega⟩
   have w2:=za (n:=v+mx (d[j] - c[j]) 0) ⟨by omega,by omega⟩
   unfold mx at w2;simp[hlt2,hjc,w1,w2,ze hlt2 (by omega)]
   have hv':v+mx (d[j] - c[j]) 0+(ovR (d.drop (j+1)) (c.drop (j+1))+rest)=V:=by omega
   exact⟨Int.add_nonneg hv0 hm0,hv'⟩
  ·have:j=d.length:=by omega
   subst this;simp only[br,ovR,Int.zero_add]at hv;simp[ze hlt (by omega)]
   exact⟨hv0,by rw[<- hre];exact hv⟩
 ·have:i=p.capacity.length:=by omega
  subst this;simp only[br,ovL,iz]at hv;have h63:=r63 p b;simp only[ye,ya]at h63;simp[h63];refine⟨102,_,rfl,?_⟩;intro L hL hcb;obtain⟨l,hl⟩:∃ l,l=h.length:=⟨_,rfl⟩;simp only[aq,<- hl]at hcb ⊢;have hbd:=za2 (vs:=p.vars) (b:=b) (fun v hv=>⟨ok.vars v hv,S.leaves v hv⟩)
  have hpl:=zav (vs:=p.vars) (b:=b);have hCb:=zag hbd;have hGb:=zaf hbd;obtain⟨M,hM⟩:∃ M,M=y8t 0 (y30 p.vars b):=⟨_,rfl⟩;obtain⟨C,hC⟩:∃ C,C=y71 (y30 p.vars b):=⟨_,rfl⟩;obtain⟨G,hG⟩:∃ G,G=y70 (y30 p.vars b):=⟨_,rfl⟩;rw[<- hC]at hCb;rw[<- hG]at hGb;obtain⟨J,hJ⟩:∃ J:List (Int × y1m)->List Obj->Prop,J=fun rem hp'=>∃(v1 v2 v3:Int) (h':List Obj),hp'=.cells (ye p).cellsL :: .cells [.sl 2 0 4 1 false true] :: .cells [dI V,dI v1,dI v2,dI v3]::h' /\
   At h' l (L false none)/\0<=v2/\0<=v3/\y8t v1 rem=M/\v2+y71 rem=C/\v3+y70 rem=G/\(∀ x,x ∈ rem->bdP x):=⟨_,rfl⟩
  have key:=i102 p b S hb ok okb (l+1+1+1) J (fun _=>False) (by
    rw[hJ];rintro rem hp' r ⟨v1,v2,v3,h',rfl,a1,a2⟩;exact⟨v1,v2,v3,h'++r,rfl,a1.app,a2⟩) (by
    intro x rem hp1 hj;rw[hJ]at hj;obtain⟨v1,v2,v3,h',rfl,a1,a2,a3,a4,a5,a6,a7⟩:=hj;obtain⟨n,c⟩:=x;have hx:=a7 (n,c) (by simp)
    have hr2:=zag (l:=rem) (fun y hy=>a7 y (by simp[hy]))
    have hr3:=zaf (l:=rem) (fun y hy=>a7 y (by simp[hy]))
    simp only[y71]at a5;simp only[y70]at a6;obtain⟨⟨n1,n2⟩,⟨d1,d2⟩,⟨c1,c2⟩,⟨g1,g2⟩⟩:=hx;simp only at n1 n2 d1 d2 c1 c2 g1 g2;have m1:=zd2 c1 c2 n1 n2;have m2:=zd2 g1 g2 n1 n2;have w1:=za (n:=c.cost*n) ⟨by omega,by omega⟩
    have w2:=za (n:=v2+c.cost*n) ⟨by omega,by omega⟩
    have w3:=za (n:=c.changes*n) ⟨by omega,by omega⟩
    have w4:=za (n:=v3+c.changes*n) ⟨by omega,by omega⟩
    have hl1:=a1.lt;have LU:∀ r,(h'.set l (L true none)++r)[h'.length]? = r[0]?:=fun r=>by have:=z1p (hp:=h'.set l (L true none)) (r:=r) (k:=0);simpa using this
    obtain⟨t,hp2,e1,e2⟩:=hcb [dI n,y16 c] (.cells (ye p).cellsL :: .cells [.sl 2 0 4 1 false true] :: .cells [dI V,dI v1,dI v2,dI v3]::h') (fun t hp'=>t=true/\J rem hp') rfl (by simpa[At]using a1) (by
     simp[y23,w1,w2,w3,w4,z1d hl1,LU,↓a1.appE];have T:=At.self (o:=L true none) hl1;refine⟨T.appE,?_⟩;rw[z1d T.lt,hJ];exact⟨mx v1 c.delay,v2+c.cost*n,v3+c.changes*n,_,rfl,(At.self T.lt).app,by omega,by omega,a4,by omega,by omega,fun y hy=>a7 y (by simp[hy])⟩)
    obtain⟨rfl,e3⟩:=e2;exact⟨true,hp2,e1,fun _=>e3,fun h=>by cases h⟩) (hp:=.cells (ye p).cellsL :: .cells [.sl 2 0 4 1 false true] :: .cells [dI v,dI 0,dI 0,dI 0]::(h++[L false none])) (by
    rw[hJ];exact⟨0,0,0,_,by rw[hv],by rw[hl];simp[At],by omega,by omega,hM.symm,by omega,by omega,hbd⟩)
  obtain⟨d,hp',h1,h2⟩:=key;rcases h2 with h2 | h2
  rotate_left
  ·exact h2.elim
  rw[hJ]at h2;obtain⟨v1,v2,v3,h',rfl,a1,a2,a3,a4,a5,a6,a7⟩:=h2;simp only[y8t,gG,y71,y70,iz]at a4 a5 a6;refine⟨d,_,h1,.inl ⟨a1,?_⟩⟩;simp[y31,yk,<- hV,<- hM,<- hC,<- hG,a4,a5,a6]
theorem zxc{p:yl}(S:y1d p){a:List Int}(h:Whole p a):∀(m k:Nat),k+m=a.length->∀ n,(yk p (a.take k)).getD n 0<=(yk p a).getD n 0:=by
 intro m
 induction m with
 |zero=>
  intro k hk n;rw[ba (by omega)]
  exact eV _
 |succ m ih=>
  intro k hk n;refine kV ?_ (ih (k+1) (by omega) n)
  have hlt:k<a.length:=by omega
  have hl:(a.take k).length=k:=by simp;omega
  have hv:(a.take k).length<p.vars.length:=by rw[hl];have:=h.2.2;omega
  have hw:=h.2.1.each k hlt (by have:=h.2.2;omega)
  unfold wi at hw;obtain⟨i,hi⟩:∃ i:Nat,a[k]=i:=⟨a[k].toNat,by omega⟩
  have:=(zjn S h.1 hv).1 i (by simp only[hl];omega) n
  rw[List.take_succ_eq_append_getElem hlt,hi];exact this
theorem zsk{l:List Int}:y2j 1 (l.map dI)=true:=by
 unfold y2j;rw[ay];intro d hd;obtain⟨n,_,rfl⟩:=aK.1 hd
 rfl
def y54(f:Nat->yt)(l:List (List Int)):List D:=(l.zipIdx).map fun x=>.imm (f x.2) (x.1.map dI)
theorem zsj{f:Nat->yt}{l:List (List Int)}:y2j 1 (y54 f l)=true:=by
 unfold y2j y54;rw[ay];intro d hd;obtain⟨n,_,rfl⟩:=aK.1 hd
 rfl
theorem zw2{hp:List Obj}{n:Nat}{f:Nat->yt}{l:List (List Int)}:y1h (frz hp (n+2)) (y54 f l)=some (l.map ya):=by
 unfold y54;have key:∀(l:List (List Int)) (k:Nat),y1h (frz hp (n+2)) ((l.zipIdx k).map fun x=>.imm (f x.2) (x.1.map dI))=some (l.map ya):=by
  intro l
  induction l with
  |nil=>intro k;rfl
  |cons x r ih=>intro k;simp only[jp,av,z1l,z3v,z5u,al,zc,ih]
 exact key l 0
theorem zq5{f:Nat->yt}{l:List (List Int)}{x:List Int}{sp:yt}:y54 f l++[.imm sp (x.map dI)]=y54 (fun k=>if k=l.length then sp else f k) (l++[x]):=by
 unfold y54;rw[lc,bm];congr 1
 ·refine List.map_congr_left fun y hy=>?_
  have:=List.snd_lt_of_mem_zipIdx hy;have hne : ¬ y.2=l.length:=by omega
  simp only[hne,if_false]
 ·simp
def y5r(p:yl)(b:List Int):List (List Int):=(bB (p.vars.getD b.length ⟨0,0,[],[]⟩).choices.length).map fun(i:Nat)=>b++[(i:Int)]
theorem zz9{l:List Int}:((l.map dI).all fun d=>d.storable && d.cellsL.length == 1)=true:=zsk
open Classical in
noncomputable def yfp(p:yl)(b:List Int):D:=
 if bk p b 280=0 then(if b.length=p.vars.length then .tup [.imm .none [],dI 280]else .tup [.imm .none ((y5r p b).map ya),dI 0])else .tup [.imm .none [],dI (bk p b 280)]
def y5q(b:List Int)(i:Nat):List (List Int):=(bB i).map fun(k:Nat)=>b++[(k:Int)]
theorem zgq{b:List Int}{i:Nat}:(y5q b i).length=i:=by simp[y5q]
theorem zmy{b:List Int}{i:Nat}:y5q b (i+1)=y5q b i++[b++[(i:Int)]]:=by simp[y5q,fL]
theorem zka{f:Nat->yt}{l:List (List Int)}:(y54 f l).length=l.length:=by simp[y54]
theorem zoo{f:Nat->yt}{l:List (List Int)}{new:List D}(h:l.length+new.length<=1000):y2o E 1 (y54 f l) new:=by
 refine⟨?_,?_,?_,zsj⟩ <;> simp[yg,zka]
 omega
theorem zy0{l:List Int}{new:List D}(h:l.length+new.length<=1000):y2o E 2 (l.map dI) new:=by
 refine⟨?_,?_,?_,zsk⟩ <;> simp[yg]
 omega
theorem z7d{E:Env}{cP:Nat->List D->Option D}{env:List D}{hp:List Obj}{t a c d:Nat}{x y z:Xp}(h1:c ≠ a)(h2:d ≠ a)(h3:d ≠ c) :
  xv E cP env hp (.n (.slice t (.t a) none (some (.t c)) (some (.t d))) (.cons a x (.cons c y (.cons d z .nil))))=ob (xv E cP env hp x) fun u=>ob (xv E cP env hp y) fun v=>ob (xv E cP env hp z) fun w=>y12 E t u none (some v) (some w):=by
 simp only[xv,xvs];cases xv E cP env hp x <;> try rfl
 cases xv E cP env hp y <;> try rfl
 cases xv E cP env hp z <;> try rfl
 simp only[yb,al,Option.map_none,gOf,kv,zc,if_true,if_false,h1,h2,h3,↓reduceIte];exact z17
theorem zcs{b:List Int}:y12 E 1 (.imm .none (b.map dI)) none (some (dI b.length)) (some (dI b.length))=some (.imm .exact (b.map dI)):=by
 have hh:y2u 1 (b.map dI)=true:=by cases b <;> rfl
 have ht:(b.map dI).take b.length=b.map dI:=ba (by simp)
 simp[y12,bnd,y25,hh,ht]
theorem r7(p:yl)(b:List Int)(S:y1d p)(hb:b.length<=20):yu E (dL E) 7 [ye p,ya b]=some (yfp p b):=by
 refine zg c7 (by simp) ?_
 conv in t7=>reduce;dsimp[ai]
 have h62:=r62 p b S hb;have s3:=S.vars;simp only[ye,ya]at h62;simp[t7,n7,h62]
 by_cases h0:bk p b 280=0
 rotate_left
 ·simp[h0,yfp]
 have hbl:b.length<=p.vars.length:=by
  unfold bk at h0
  by_cases h1:OkP p
  ·by_cases h2:OkB p b
   ·exact h2.len
   ·simp[h1,h2]at h0
  ·simp[h1]at h0
 by_cases he:b.length=p.vars.length
 ·have he':(b.length:Int)=p.vars.length:=by omega
  simp[h0,he,he',yfp]
 have he' : ¬ (b.length:Int)=p.vars.length:=by omega
 have hlt0:b.length<p.vars.length:=by omega
 have hres:yfp p b=.tup [.imm .none ((y5q b p.vars[b.length].choices.length).map ya),dI 0]:=by simp[yfp,h0,he,y5r,y5q,hlt0]
 have l2:=S.choices _ (au hlt0);simp only[hres];simp[h0,he,he',hlt0];refine zl p.vars[b.length].choices.length (fun i env hp=>∃(x6 x7 x8 x11 x12 x13:D) (sp:yt) (f:Nat->yt) (h:List Obj),env=[ye p,ya b,.loc 0 0,.imm sp (y54 f (y5q b i)),dI 0,dI b.length,x6,x7,x8,dI p.vars[b.length].choices.length,dI i,x11,x12,x13] /\
  hp=.cells (ye p).cellsL::h/\((sp=.exact/\i=0) \/ ∃ k,sp=.tok (k+1)/\h[k]? = some (.tok i 1))) 0 (by omega) ⟨_,_,_,_,_,_,.exact,fun _=>.none,_,rfl,rfl,.inl ⟨rfl,rfl⟩⟩ ?_
 rintro i env hp hi ⟨x6,x7,x8,x11,x12,x13,sp,f,h,rfl,rfl,hsp⟩
 by_cases hlt:i<p.vars[b.length].choices.length
 ·have a2:y2o E 2 (b.map dI) [dI i]:=zy0 (by simp;omega)
  have a3:∀ x:D,y2o E 1 (y54 f (y5q b i)) [x]:=fun x=>zoo (by simp[zgq];omega)
  obtain⟨F,hF⟩:∃ F:Nat->yt,y54 f (y5q b i)++[.imm (.tok (h.length+1)) (bO dI b++[dI i])]=y54 F (y5q b (i+1)):=by
   refine⟨fun k=>if k=(y5q b i).length then .tok (h.length+1)else f k,?_⟩
   rw[zmy,<- zq5];simp
  have hrl:(y54 f (y5q b i)).length=i:=by rw[zka,zgq]
  rcases hsp with⟨rfl,hi0⟩ | ⟨k,rfl,hk⟩
  ·simp[hlt,hlt0,zo,zz,z14,zz9,a2,z7d,zcs,a3,hF,hrl,ze hlt (by omega),z1h,z37]
   exact⟨_,_,_,_,_,_,_,⟨⟨rfl,F,rfl⟩,rfl,rfl,rfl,rfl,rfl,rfl⟩,h.length+1,rfl,by simp⟩
  ·have hkl:=(ae.1 hk).1;have hk2:∀ r,(h++r)[k]? = some (.tok i 1):=fun r=>by rw[aB hkl];exact hk
   simp[hlt,hlt0,zo,zz,z14,zz9,a2,z7d,zcs,z1h,z37];simp[z14,a3,hF,hrl,hk2,ze hlt (by omega)]
   exact⟨_,_,_,_,_,_,_,⟨⟨rfl,F,rfl⟩,rfl,rfl,rfl,rfl,rfl,rfl⟩,h.length+1,rfl,by simp⟩
 ·have hi':i=p.vars[b.length].choices.length:=by omega
  subst hi';simp[hlt0,zw2]
theorem yd7{p:yl}:OkB p []:=⟨by simp,fun i h=>by simp at h⟩
end Dv
namespace Dv
structure y5x where
 branch:List Int
 kind:Int
 mult:List (List Int)
structure y4e where
 opn:List (List Int)
 best:List Int
 value:List Int
 leaves:List y5x
def bet(p:yl)(b:List Int)(v:List Int):Bool:=decide (v.length=0) || decide (y2e (yk p b) v<0)
def yik(p:yl)(b:List Int)(v:List Int):Bool:=decide (0<v.length) && decide (0<=y2e (yk p b) v)
def y8f(p:yl)(b:List Int)(s:y4e):y4e:=
 if b.length=p.vars.length then(if bet p b s.value=true then⟨s.opn,b,yk p b,s.leaves++[⟨b,1,[]⟩]⟩else⟨s.opn,s.best,s.value,s.leaves++[⟨b,1,[]⟩]⟩)
 else if yik p b s.value=true then⟨s.opn,s.best,s.value,s.leaves++[⟨b,2,[]⟩]⟩
 else⟨s.opn++(y5r p b).reverse,s.best,s.value,s.leaves⟩
def exam(p:yl)(s:y4e):y4e:=match s.opn.getLast? with
 |none=>s
 |some b=>y8f p b ⟨s.opn.dropLast,s.best,s.value,s.leaves⟩
theorem z9y{p:yl}{s:y4e}(h:s.opn=[]):exam p s=s:=by simp[exam,h]
theorem z5v{p:yl}{s:y4e}{l:List (List Int)}{b:List Int}(h:s.opn=l++[b]):exam p s=y8f p b ⟨l,s.best,s.value,s.leaves⟩:=by simp[exam,h]
def iter(p:yl):Nat->y4e->y4e
 | 0,s=>s
 |n+1,s=>iter p n (exam p s)
theorem z9u{p:yl}{s:y4e}(h:s.opn=[]):∀{n:Nat},iter p n s=s
 | 0=>rfl
 |n+1=>by rw[iter,z9y h,z9u h]
theorem z9v{p:yl}:∀{n m:Nat} {s:y4e},iter p m (iter p n s)=iter p (n+m) s
 | 0,m,s=>by rw[Nat.zero_add];rfl
 |n+1,m,s=>by rw[show n+1+m=(n+m)+1 from by omega,iter,iter,z9v]
theorem zrk{p:yl}{n:Nat}{s:y4e}:iter p (n+1) s=exam p (iter p n s):=(z9v (n:=n) (m:=1) (s:=s)).symm
def wgt:List Var->Nat
 |[]=>1
 |v::vs=>1+v.choices.length*wgt vs
def wB(p:yl)(b:List Int):Nat:=wgt (p.vars.drop b.length)
def wO(p:yl):List (List Int)->Nat
 |[]=>0
 |b::l=>wB p b+wO p l
theorem zjz{p:yl}:∀{l r:List (List Int)},wO p (l++r)=wO p l+wO p r
 |[],r=>by simp[wO]
 |b::l,r=>by simp only[aJ,wO,zjz];omega
theorem zye{p:yl}:∀{l:List (List Int)},wO p l.reverse=wO p l
 |[]=>rfl
 |b::l=>by rw[List.reverse_cons,zjz,zye];simp only[wO];omega
theorem zp8:∀{vs:List Var},1<=wgt vs
 |[]=>by simp[wgt]
 |v::vs=>by simp only[wgt];omega
theorem zpa{p:yl}{b:List Int}:1<=wB p b:=zp8
theorem zp9{p:yl}{w:Nat}:∀{l:List (List Int)},(∀ b,b ∈ l->wB p b=w)->wO p l=l.length*w
 |[],_=>by simp[wO]
 |b::l,h=>by rw[wO,h b (by simp),zp9 fun c hc=>h c (by simp[hc]),aq,Nat.succ_mul];omega
theorem zj6{p:yl}{n:Nat}(h:n<p.vars.length):p.vars.getD n ⟨0,0,[],[]⟩=p.vars[n]:=by rw[af,ac h,aX]
theorem z6a{p:yl}{b c:List Int}(h:b.length<p.vars.length):c ∈ y5r p b ↔ ∃ i:Nat,i<p.vars[b.length].choices.length/\c=b++[(i:Int)]:=by
 unfold y5r;rw[zj6 h,aK];constructor
 ·rintro⟨i,hi,rfl⟩;exact⟨i,by simpa using hi,rfl⟩
 ·rintro⟨i,hi,rfl⟩;exact⟨i,by simpa using hi,rfl⟩
theorem zkn{p:yl}{b:List Int}(h:b.length<p.vars.length):(y5r p b).length=p.vars[b.length].choices.length:=by unfold y5r;rw[zj6 h];simp
theorem zzw{p:yl}{b:List Int}(h:b.length<p.vars.length):wO p (y5r p b)+1=wB p b:=by
 rw[zp9 (w:=wgt (p.vars.drop (b.length+1))) fun c hc=>by
  obtain⟨i,_,rfl⟩:=(z6a h).1 hc;simp[wB],zkn h]
 unfold wB;rw[zh h,wgt];omega
theorem zbo{p:yl}{s:y4e}(h:s.opn ≠ [])(ho:∀ b,b ∈ s.opn->OkB p b):wO p (exam p s).opn+1<=wO p s.opn:=by
 obtain⟨l,b,hl⟩:∃ l b,s.opn=l++[b]:=⟨s.opn.dropLast,s.opn.getLast h,(dM h).symm⟩;rw[z5v hl,hl,zjz];have h1:wO p [b]=wB p b:=by simp[wO]
 have h2:=zpa (p:=p) (b:=b);rw[h1];unfold y8f;split
 ·split
  ·simp only[];omega
  ·simp only[];omega
 ·rename_i hb;have hlt:b.length<p.vars.length:=by have:=(ho b (by rw[hl];simp)).len;omega
  split
  ·simp only[];omega
  ·simp only[];have:=zzw hlt;rw[zjz,zye];omega
def y4p(p:yl)(l:y5x):Prop:=OkB p l.branch/\l.mult=[]/\(l.kind=1/\l.branch.length=p.vars.length\/l.kind=2)
structure OkS(p:yl)(s:y4e):Prop where
 opn:∀ b,b ∈ s.opn->OkB p b
 leaf:∀ l,l ∈ s.leaves->y4p p l
 val:s.value=[]/\s.best=[]\/Whole p s.best/\s.value=yk p s.best
theorem OkS.exam{p:yl}{s:y4e}(ok:OkP p)(h:OkS p s):OkS p (exam p s):=by
 by_cases hn:s.opn=[]
 ·rw[z9y hn];exact h
 obtain⟨l,b,hl⟩:∃ l b,s.opn=l++[b]:=⟨s.opn.dropLast,s.opn.getLast hn,(dM hn).symm⟩;rw[z5v hl];have hb:=h.opn b (by rw[hl];simp)
 have ho:∀ c,c ∈ l->OkB p c:=fun c hc=>h.opn c (by rw[hl];simp[hc])
 have hleaf:∀ x:y5x,y4p p x->∀ y,y ∈ s.leaves++[x]->y4p p y:=fun x hx y hy=>by
  rcases aC.1 hy with hy | hy
  ·exact h.leaf y hy
  ·rw[bz.1 hy];exact hx
 unfold y8f;split
 ·rename_i e;have h1:y4p p ⟨b,1,[]⟩:=⟨hb,rfl,.inl ⟨rfl,e⟩⟩;split
  ·exact⟨ho,hleaf _ h1,.inr ⟨⟨ok,hb,e⟩,rfl⟩⟩
  ·exact⟨ho,hleaf _ h1,h.val⟩
 ·rename_i e;have hlt:b.length<p.vars.length:=by have:=hb.len;omega
  split
  ·exact⟨ho,hleaf _ ⟨hb,rfl,.inr rfl⟩,h.val⟩
  ·refine⟨fun c hc=>?_,h.leaf,h.val⟩
   rcases aC.1 hc with hc | hc
   ·exact ho c hc
   ·obtain⟨i,hi,rfl⟩:=(z6a hlt).1 (ic.1 hc);exact zvb hb hlt hi
theorem OkS.iter{p:yl}(ok:OkP p):∀{n:Nat} {s:y4e},OkS p s->OkS p (iter p n s)
 | 0,_,h=>h
 |n+1,s,h=>OkS.iter (n:=n) (s:=Dv.exam p s) ok (h.exam ok)
theorem zkz{p:yl}(ok:OkP p):∀{n:Nat} {s:y4e},OkS p s->wO p s.opn<=n->(iter p n s).opn=[]
 | 0,s,_,hn=>by
  cases h:s.opn with
  |nil=>exact h
  |cons b l=>rw[h,wO]at hn;have:=zpa (p:=p) (b:=b);omega
 |n+1,s,h,hn=>by
  by_cases e:s.opn=[]
  ·rw[z9u e];exact e
  ·have:=zbo e h.opn;exact zkz (n:=n) (s:=Dv.exam p s) ok (h.exam ok) (by omega)
def y3l:y4e:=⟨[[]],[],[],[]⟩
theorem z5k{p:yl}:OkS p y3l:=⟨fun b hb=>by
 rw[bz.1 hb];exact yd7,fun l hl=>by simp[y3l]at hl,.inl ⟨rfl,rfl⟩⟩
def y2y(p:yl):y4e:=iter p (wO p [[]]) y3l
theorem zaj{p:yl}(ok:OkP p):(y2y p).opn=[]:=zkz ok z5k (aj _)
theorem zvr{p:yl}{n:Nat}(ok:OkP p)(h:(iter p n y3l).opn=[]):iter p n y3l=y2y p:=by
 unfold y2y;rcases Nat.le_total n (wO p [[]])with hl | hl
 ·obtain⟨k,hk⟩:∃ k,wO p [[]]=n+k:=⟨wO p [[]] - n,by omega⟩
  rw[hk,<- z9v,z9u h]
 ·obtain⟨k,hk⟩:∃ k,n=wO p [[]]+k:=⟨n - wO p [[]],by omega⟩
  rw[hk,<- z9v];exact z9u (zaj ok)
theorem zt8{a b c:List Int}(h1:a.length=b.length)(h2:b.length=c.length)(h3:y2e a b<=0)(h4:y2e b c<=0):y2e a c<=0:=by
 by_cases e1:y2e a b=0
 ·rw[(z4n h1).1 e1];exact h4
 ·by_cases e2:y2e b c=0
  ·rw[<- (z4n h2).1 e2];exact h3
  ·have:=z6i (a:=a) (b:=b) (c:=c) (by omega) (by omega);omega
theorem zhj{p:yl}{a b c:List Int}(h1:a.length=b.length)(h2:b.length=c.length)(h3:y1z p a b<=0)(h4:y1z p b c<=0):y1z p a c<=0:=by
 by_cases e1:y1z p a b=0
 ·rw[(z5e h1).1 e1];exact h4
 ·by_cases e2:y1z p b c=0
  ·rw[<- (z5e h2).1 e2];exact h3
  ·have:=zhi (p:=p) (a:=a) (b:=b) (c:=c) (by omega) (by omega);omega
end Dv
namespace Dv
def Bef(p:yl)(b c:List Int):Prop:=∀ x y,Whole p x->Whole p y->b <+: x->c <+: y->y2e x y<0
theorem zls:∀{b u v:List Int},y2e (b++u) (b++v)=y2e u v
 |[],_,_=>rfl
 |x::b,u,v=>by simp only[aJ,y2e,z35.2 rfl,if_true,zls]
theorem zxt{p:yl}{b:List Int}{i j:Int}(h:i<j):Bef p (b++[i]) (b++[j]):=by rintro x y _ _ ⟨u,rfl⟩ ⟨v,rfl⟩;rw[bi,bi,zls];simp only[fW,y2e];have:=zbt.2 h;rw[if_neg (by omega)];exact this
structure Inv(p:yl)(s:y4e):Prop where
 ok:OkS p s
 dom:∀ x,Whole p x->(∃ b,b ∈ s.opn/\b <+: x)\/s.value ≠ []/\y1z p s.best x<=0
 ord:s.opn.reverse.Pairwise (Bef p)
 old:s.value ≠ []->∀ b,b ∈ s.opn->∀ x,Whole p x->b <+: x->y2e s.best x<0
 leaf:∀ l,l ∈ s.leaves->s.value ≠ []/\0<=y2e (yk p l.branch) s.value/\(l.kind=1/\l.branch.length=p.vars.length/\0<=y1z p l.branch s.best\/l.kind=2/\l.branch.length ≠ p.vars.length)
 cnt:∀ x,Whole p x->(s.opn++s.leaves.map (·.branch)).countP (fun b=>b.isPrefixOf x)=1
theorem zbx{p:yl}{b:List Int}:yk p b ≠ []:=by simp[yk]
theorem zqg{p:yl}{b x:List Int}(hx:Whole p x)(hb:b.length=p.vars.length)(h:b <+: x):b=x:=by
 obtain⟨u,rfl⟩:=h;have:=hx.2.2;rw[ar]at this;have:u=[]:=aI (by omega)
 simp[this]
theorem ztj{p:yl}(S:y1d p){b x:List Int}(hx:Whole p x)(h:b <+: x):y2e (yk p b) (yk p x)<=0:=by
 obtain⟨u,rfl⟩:=h;have:=zxc S hx u.length b.length (by simp)
 rw[List.take_left']at this
 ·exact zdl rfl this
 ·rfl
theorem zke{p:yl}{b x:List Int}(hx:Whole p x)(hlt:b.length<p.vars.length)(h:b <+: x):∃ i:Nat,i<p.vars[b.length].choices.length/\b++[(i:Int)] <+: x:=by
 obtain⟨u,rfl⟩:=h;have hl:=hx.2.2;rw[ar]at hl;cases u with
 |nil=>simp at hl;omega
 |cons k u=>
  have hw:=hx.2.1.each b.length (by simp) hlt
  rw[List.getElem_append_right (aj _)]at hw;simp only[Nat.sub_self,List.getElem_cons_zero]at hw;unfold wi at hw;exact⟨k.toNat,by omega,⟨u,by simp;omega⟩⟩
theorem yap{b x:List Int}:b.isPrefixOf x=true ↔ b <+: x:=List.isPrefixOf_iff_prefix
theorem zt6{k:Nat}:∀{n:Nat},k<n->(bB n).countP (fun i=>decide (k=i))=1:=by
 intro n h;have h1:(bB n).countP (fun i=>decide (k=i))=(bB n).count k:=by
  unfold List.count;congr 1;funext i
  by_cases e:k=i
  ·simp[e]
  ·have : ¬ i=k:=fun h=>e h.symm
   simp[e,this]
 rw[h1];exact vn List.nodup_range |>.trans (by simp[h])
theorem zx7{p:yl}{b x:List Int}(hx:Whole p x)(hlt:b.length<p.vars.length):(y5r p b).countP (fun c=>c.isPrefixOf x)=[b].countP (fun c=>c.isPrefixOf x):=by
 by_cases h:b <+: x
 ·rw[ke,if_pos (yap.2 h)];obtain⟨k,hk,hp⟩:=zke hx hlt h;unfold y5r;rw[zj6 hlt,List.countP_map];rw[show((fun c:List Int=>c.isPrefixOf x) ∘ fun(i:Nat)=>b++[(i:Int)])=fun i=>decide (k=i)from ?_]
  ·exact zt6 hk
  funext i;simp only[Function.comp]
  by_cases e:k=i
  ·subst e;rw[yap.2 hp];simp
  ·simp only[e,decide_false];cases hh:(b++[(i:Int)]).isPrefixOf x with
   |false=>rfl
   |true=>obtain⟨u,hu⟩:=yap.1 hh;obtain⟨v,hv⟩:=hp;rw[<- hv,bi,bi,List.append_cancel_left_eq]at hu;simp only[fW,cb]at hu;omega
 ·rw[ke,if_neg (fun e=>h (yap.1 e)),List.countP_eq_zero]
  intro c hc hh;obtain⟨i,_,rfl⟩:=(z6a hlt).1 hc;exact h (iI (i8 _ _) (yap.1 hh))
theorem zpu{p:yl}:Inv p y3l where
 ok:=z5k
 dom:=fun x _=>.inl ⟨[],by simp[y3l],List.nil_prefix⟩
 ord:=by simp[y3l]
 old:=fun h=>absurd rfl h
 leaf:=fun l hl=>by simp[y3l]at hl
 cnt:=fun x _=>by simp[y3l]
theorem Inv.exam{p:yl}(S:y1d p)(ok:OkP p){s:y4e}(I:Inv p s):Inv p (exam p s):=by
 by_cases hn:s.opn=[]
 ·rw[z9y hn];exact I
 obtain⟨l,b,hl⟩:∃ l b,s.opn=l++[b]:=⟨s.opn.dropLast,s.opn.getLast hn,(dM hn).symm⟩;have hok:=I.ok.exam ok;rw[z5v hl]at hok ⊢;have hb:=I.ok.opn b (by rw[hl];simp)
 have hord:=I.ord;rw[hl,iJ]at hord;simp only[List.reverse_singleton,fW,List.pairwise_cons]at hord;obtain⟨hbl,hord⟩:=hord;have hcnt:=I.cnt;rw[hl]at hcnt;have hdom:=I.dom;have y57:=I.old;rw[hl]at y57;simp only[hl]at hdom;have hbest:s.value ≠ []->Whole p s.best/\s.value=yk p s.best:=fun h=>by
  rcases I.ok.val with⟨e,_⟩ | e
  ·exact absurd e h
  ·exact e
 have hc2:∀ x,Whole p x->∀ y:y5x,y.branch=b->(l++(s.leaves++[y]).map (·.branch)).countP (fun b=>b.isPrefixOf x)=1:=fun x hx y hy=>by have:=hcnt x hx;simp only[lh,bm,av,aN,hy]at this ⊢;omega
 have hge0:∀ x,Whole p x->b <+: x->s.value ≠ []->0<=y2e (yk p b) s.value->y1z p s.best x<=0:=fun x hx hp hv h0=>by
  obtain⟨w,e⟩:=hbest hv;have h1:=ztj S hx hp;have h2:y2e s.value (yk p b)<=0:=by rw[z4o];omega
  have h3:y2e (yk p s.best) (yk p x)<=0:=by rw[<- e];exact zt8 (a:=s.value) (b:=yk p b) (c:=yk p x) (by rw[e];rfl) rfl h2 h1
  unfold y1z;split
  ·have:=y57 hv b (by simp) x hx hp;omega
  ·exact h3
 unfold y8f at hok ⊢
 by_cases e:b.length=p.vars.length
 ·rw[if_pos e]at hok ⊢;have wb:Whole p b:=⟨ok,hb,e⟩
  by_cases hbt:bet p b s.value=true
  ·rw[if_pos hbt]at hok ⊢;have hle:s.value ≠ []->y1z p b s.best<0:=fun hv=>by
    obtain⟨w,ev⟩:=hbest hv;have h0 : ¬ s.value.length=0:=fun h=>hv (aI h)
    have:y2e (yk p b) s.value<0:=by simpa[bet,h0]using hbt
    rw[ev]at this;unfold y1z;rw[if_neg (by omega)];exact this
   refine⟨hok,fun x hx=>?_,hord,fun _ c hc x hx hp=>?_,fun y hy=>⟨zbx,?_⟩,fun x hx=>hc2 x hx _ rfl⟩
   ·rcases hdom x hx with⟨c,hc,hp⟩ | ⟨hv,h1⟩
    ·rcases aC.1 hc with hc | hc
     ·exact .inl ⟨c,hc,hp⟩
     ·rw[bz.1 hc]at hp;rw[<- zqg hx e hp];exact .inr ⟨zbx,by rw[(z5e rfl).2 rfl];exact eV _⟩
    ·refine .inr ⟨zbx,?_⟩;have:=hle hv;exact zhj (e.trans (hbest hv).1.2.2.symm) ((hbest hv).1.2.2.trans hx.2.2.symm) (by simp only[];omega) h1
   ·exact hbl c (ic.2 hc) b x wb hx (ml _) hp
   ·rcases aC.1 hy with hy | hy
    ·obtain⟨h1,h2,h3⟩:=I.leaf y hy;obtain⟨w,ev⟩:=hbest h1;have hl1:=hle h1;have h5:y2e (yk p b) (yk p s.best)<=0:=by
      have h0 : ¬ s.value.length=0:=fun h=>h1 (aI h)
      have:y2e (yk p b) s.value<0:=by simpa[bet,h0]using hbt
      rw[ev]at this;omega
     refine⟨?_,?_⟩
     ·have h4:y2e s.value (yk p y.branch)<=0:=by rw[z4o];omega
      rw[ev]at h4;have:=zt8 (a:=yk p b) (b:=yk p s.best) (c:=yk p y.branch) rfl rfl h5 h4;rw[z4o];simp only[];omega
     ·rcases h3 with⟨k1,k2,k3⟩ | h3
      ·refine .inl ⟨k1,k2,?_⟩;have h6:y1z p s.best y.branch<=0:=by rw[z7b];omega
       have:=zhj (e.trans w.2.2.symm) (w.2.2.trans k2.symm) (Int.le_of_lt hl1) h6;rw[z7b];simp only[];omega
      ·exact .inr h3
    ·rw[bz.1 hy];refine⟨by rw[z89];exact eV _,.inl ⟨rfl,e,?_⟩⟩
     rw[(z5e rfl).2 rfl];exact eV _
  ·rw[if_neg hbt]at hok ⊢;have hv:s.value ≠ []:=fun h=>hbt (by simp[bet,h])
   have h0 : ¬ s.value.length=0:=fun h=>hv (aI h)
   have hge:0<=y2e (yk p b) s.value:=by
    have : ¬ y2e (yk p b) s.value<0:=by simpa[bet,h0]using hbt
    omega
   refine⟨hok,fun x hx=>?_,hord,fun hv' c hc x hx hp=>y57 hv' c (by simp[hc]) x hx hp,fun y hy=>⟨hv,?_⟩,fun x hx=>hc2 x hx _ rfl⟩
   ·rcases hdom x hx with⟨c,hc,hp⟩ | h1
    ·rcases aC.1 hc with hc | hc
     ·exact .inl ⟨c,hc,hp⟩
     ·rw[bz.1 hc]at hp;exact .inr ⟨hv,hge0 x hx hp hv hge⟩
    ·exact .inr h1
   ·rcases aC.1 hy with hy | hy
    ·exact(I.leaf y hy).2
    ·rw[bz.1 hy];refine⟨hge,.inl ⟨rfl,e,?_⟩⟩;have:=hge0 b wb (ml _) hv hge;rw[z7b];simp only[];omega
 ·rw[if_neg e]at hok ⊢;have hlt:b.length<p.vars.length:=by have:=hb.len;omega
  by_cases hs:yik p b s.value=true
  ·rw[if_pos hs]at hok ⊢;obtain⟨hv0,hge⟩:0<s.value.length/\0<=y2e (yk p b) s.value:=by simpa[yik]using hs
   have hv:s.value ≠ []:=fun h=>by rw[h]at hv0;simp at hv0
   refine⟨hok,fun x hx=>?_,hord,fun hv' c hc x hx hp=>y57 hv' c (by simp[hc]) x hx hp,fun y hy=>⟨hv,?_⟩,fun x hx=>hc2 x hx _ rfl⟩
   ·rcases hdom x hx with⟨c,hc,hp⟩ | h1
    ·rcases aC.1 hc with hc | hc
     ·exact .inl ⟨c,hc,hp⟩
     ·rw[bz.1 hc]at hp;exact .inr ⟨hv,hge0 x hx hp hv hge⟩
    ·exact .inr h1
   ·rcases aC.1 hy with hy | hy
    ·exact(I.leaf y hy).2
    ·rw[bz.1 hy];exact⟨hge,.inr ⟨rfl,e⟩⟩
  ·rw[if_neg hs]at hok ⊢;refine⟨hok,fun x hx=>?_,?_,fun hv c hc x hx hp=>?_,I.leaf,fun x hx=>?_⟩
   ·rcases hdom x hx with⟨c,hc,hp⟩ | h1
    ·rcases aC.1 hc with hc | hc
     ·exact .inl ⟨c,by simp[hc],hp⟩
     ·rw[bz.1 hc]at hp;obtain⟨i,hi,hq⟩:=zke hx hlt hp;exact .inl ⟨_,List.mem_append_right _ (ic.2 ((z6a hlt).2 ⟨i,hi,rfl⟩)),hq⟩
    ·exact .inr h1
   ·simp only[];rw[iJ,List.reverse_reverse,List.pairwise_append];refine⟨?_,hord,fun c hc d hd x y hx hy h1 h2=>?_⟩
    ·unfold y5r;rw[List.pairwise_map];exact lN (fun h=>zxt (by omega)) List.pairwise_lt_range
    ·obtain⟨i,_,rfl⟩:=(z6a hlt).1 hc;exact hbl d hd x y hx hy (iI (i8 _ _) h1) h2
   ·rcases aC.1 hc with hc | hc
    ·exact y57 hv c (by simp[hc]) x hx hp
    ·obtain⟨i,_,rfl⟩:=(z6a hlt).1 (ic.1 hc);exact y57 hv b (by simp) x hx (iI (i8 _ _) hp)
   ·have h1:=hcnt x hx;have h2:=zx7 hx hlt;simp only[lh,List.countP_reverse]at h1 ⊢;omega
theorem Inv.iter{p:yl}(S:y1d p)(ok:OkP p):∀{n:Nat} {s:y4e},Inv p s->Inv p (iter p n s)
 | 0,_,h=>h
 |n+1,s,h=>Inv.iter (n:=n) (s:=Dv.exam p s) S ok (h.exam S ok)
theorem zsl{p:yl}(ok:OkP p):Whole p (ah p.vars.length 0):=by
 refine⟨ok,⟨by simp,fun i h h'=>?_⟩,by simp⟩
 have:=(ok.vars _ (au h')).one;rw[List.getElem_replicate];unfold wi;omega
theorem z8g{p:yl}(S:y1d p)(ok:OkP p):Whole p (y2y p).best/\(y2y p).value=yk p (y2y p).best /\ ∀ x,Whole p x->y1z p (y2y p).best x<=0:=by
 have I:Inv p (y2y p):=zpu.iter S ok;have he:=zaj ok;have hd:∀ x,Whole p x->(y2y p).value ≠ []/\y1z p (y2y p).best x<=0:=fun x hx=>by
  rcases I.dom x hx with⟨b,hb,_⟩ | h
  ·rw[he]at hb;cases hb
  ·exact h
 have hv:=(hd _ (zsl ok)).1;rcases I.ok.val with⟨e,_⟩ | ⟨w,e⟩
 ·exact absurd e hv
 ·exact⟨w,e,fun x hx=>(hd x hx).2⟩
end Dv
namespace Dv
attribute [local simp] ah depth y22 y4y ya y16 y4t ye y2q y2f Ret
attribute [local congr] z1j z1k z19 z12 zw z1a zu
theorem zsg{l:List (List Int)}:yr (l.map ya)=l.map ya:=by
 induction l with
 |nil=>rfl
 |cons x r ih=>simp only[av,yr,bv]at ih ⊢;rw[ih];rfl
theorem zy6{l:List Int}:((l.map dI).all fun d=>d.storable && d.cellsL.length == 1)=true:=by
 rw[ay];intro d hd;obtain⟨n,_,rfl⟩:=aK.1 hd
 rfl
theorem zu2{hp:List Obj}{id:Nat}{cs:List Int}(h1:1<=cs.length)(h2:cs.length<=1000) :
  y1o E hp id 6 6 (.imm .exact []) (.imm .none (cs.map dI))=some ⟨.sl id 0 cs.length 1 false true,some (.cells (cs.map dI)),none⟩:=by
 have h3 : ¬ cs.length=0:=by omega
 have h4 : ¬ cs=[]:=fun e=>h3 (by rw[e];rfl)
 have h5:cs.length*9<=17592186044416:=by omega
 simp[y1o,zy6,h4,y2j,zj9,yg,h5]
 rfl
def room(p:yl)(i k:Nat)(x:Int):yl:={ p with capacity:=p.capacity.set i ((p.capacity.getD i []).set k x) }
end Dv
