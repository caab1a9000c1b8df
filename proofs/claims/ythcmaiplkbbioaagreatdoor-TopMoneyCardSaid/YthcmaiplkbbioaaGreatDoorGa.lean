/- Texts that a proof of this claim uses, joined: Lw.W2, Lw.W3, Lw.W4, Lw.W5, Lw.W6, Lw.W7, Lw.W8, Lw.W9, Lw.W10, Lw.W11, Lw.W199, Lw.W20, Lw.W21, Lw.W22, Lw.W24, Lw.W25, Lw.W26, Lw.W34, Lw.W36, Lw.W35, Lw.W39, Lw.W41, Lw.W43, Lw.W90, Lw.Ty, Lw.S27, Lw.R20, Lw.W40, Lw.W31, Lw.W13, Lw.W27, Lw.S28, Lw.W37, Lw.W14, Lw.W15, Lw.W16, Lw.W17, Lw.W38, Lw.W33, Lw.W80, Lw.W81, Lw.W45, Lw.W82, Lw.Pieces. -/
import Derived.Test.YthcmaiplkbbioaaGreatDoorWa
import Derived.Test.YthcmaiplkbbioaaGreatDoorLwa
import Derived.Test.YthcmaiplkbbioaaGreatDoorTc
import Derived.Test.YthcmaiplkbbioaaGreatDoorDvd
import Derived.KernelRfl
set_option linter.all false
open Bool renaming and_eq_true->ak,and_false->ni,beq_eq_decide_eq->iy,false_and->gS,true_and->ji
open Classical renaming byContradiction->cU
open Go.IntKind renaming i64->aJ
open Int renaming add_zero->iI,le_refl->eH,le_trans->lg,mul_le_mul_of_nonneg_right->iJ,mul_nonneg->ko,negSucc_eq->ai,toNat_natCast->bT
open List renaming all_cons->cG,all_eq_true->ay,all_nil->ec,append_assoc->bi,cons_append->aG,countP_append->lA,countP_singleton->kp,dropLast_concat_getLast->dQ,drop_length->bv,drop_of_length_le->ed,drop_zero->dz,eq_nil_of_length_eq_zero->aK,filter_append->gK,flatMap_cons->bm,foldl_cons->bS,foldl_nil->gQ,getD_cons_succ->cb,getD_cons_zero->bI,getD_eq_getElem?_getD->af,getElem?_append_left->aD,getElem?_eq_getElem->ac,getElem?_eq_none->aU,getElem?_eq_some_iff->ae,getElem?_set_ne->bo,getElem?_set_self->aR,getElem_cons_succ->ee,getElem_mem->av,getElem_of_mem->dD,getElem_set_ne->iN,head?_cons->mV,head?_drop->mU,length_append->ao,length_cons->ar,length_nil->aY,length_set->bq,map->bP,map_append->bp,map_cons->al,map_nil->aO,mem_append->aB,mem_cons->aA,mem_iff_getElem->gh,mem_map->aL,mem_of_mem_drop->bY,mem_or_eq_of_mem_set->ft,mem_reverse->ip,mem_singleton->bz,nil_append->bn,prefix_append->je,prefix_refl->mD,range->bD,range_succ->fk,replicate->ah,replicate_succ->eV,reverse_append->iP,set_append_right->et,singleton_append->ga,tail_cons->nk,tail_drop->nj,take_of_length_le->bd,zipIdx_append->lw,zipIdx_cons->jv
open List.IsPrefix renaming trans->iO
open List.Nodup renaming count->vI
open List.Pairwise renaming imp->lZ
open List.cons renaming injEq->bZ
open Nat renaming add_assoc->dq,add_comm->fd,le_of_not_lt->dH,le_refl->aj,lt_succ_iff_lt_or_eq->eQ,zero_le->dJ
open Option renaming getD_some->aX,map_some->aq
open Option.some renaming inj->cr
set_option maxRecDepth 100000
set_option maxHeartbeats 16000000
namespace Dv
attribute [local simp] ah depth y1z y51 ya y15 y4p ye y2p y2e Ret
attribute [local congr] z1f z1g z16 z12 zx z17 zw
def z62{n:Nat}(h:n<=1000000000000):aJ.wrap (n:Int)=(n:Int):=za ⟨by omega,by omega⟩
def y37{A:Type}(c:A->A->Int):List A->Bool
 |a::b::r=>decide (c a b<0) && y37 c (b::r)
 |_=>true
def zbe{A:Type}{c:A->A->Int}{l:List A}(h:l.length<=1):y37 c l=true:=by
 match l,h with
 |[],_=>rfl
 |[_],_=>rfl
def r69(l:List Cell)(k:Nat)(c:Cell->Cell->Int)(hc:∀ a b,yu E (dL E) k [y1z a,y1z b]=some (dI (c a b)))(hl:l.length<=1000000) :
  yu E (dL E) 69 [.imm .none (l.map y1z),.fn k []]=some (.bool (y37 c l)):=by
 refine zg c69 (by simp) ?_
 conv in t69=>reduce;dsimp[ai]
 simp[t69,n69];refine zo (l.length+1) (fun i env hp=>∃ c4 c5:D,env=[.imm .none (l.map y1z),.fn k [],.bool false,dI i,c4,c5] /\ ∃ j,i=j+1/\y37 c (l.drop j)=y37 c l) 1 (by omega) ⟨_,_,rfl,0,rfl,rfl⟩ ?_
 rintro i env hp hi ⟨c4,c5,rfl,j,rfl,hm⟩
 by_cases hlt:j+1<l.length
 ·have hj:j<l.length:=by omega
  rw[zh hj,zh hlt]at hm;have hk:=hc l[j] l[j+1];have hlt':(j:Int)+1<l.length:=by omega
  have hnn:(0:Int)<=(j:Int)+1:=by omega
  by_cases h0:c l[j] l[j+1]<0
  ·simp[y37,h0]at hm;have h0' : ¬ 0<=c l[j] l[j+1]:=by omega
   simp[hlt,hlt',hj,hnn,z62 (n:=j) (by omega),za (n:=(j:Int)+1) ⟨by omega,by omega⟩,za (n:=(j:Int)+1+1) ⟨by omega,by omega⟩,hk,h0',hm]
  ·simp[y37,h0]at hm;have h0':0<=c l[j] l[j+1]:=by omega
   simp[hlt,hlt',hj,hnn,z62 (n:=j) (by omega),za (n:=(j:Int)+1) ⟨by omega,by omega⟩,hk,h0',hm]
 ·have he:y37 c (l.drop j)=true:=zbe (by simp;omega)
  have hlt' : ¬ (j:Int)+1<l.length:=by omega
  rw[he]at hm;simp[hlt,hlt',<- hm]
def r73(l:List Int)(k:Nat)(c:Int->Int->Int)(hc:∀ a b,yu E (dL E) k [dI a,dI b]=some (dI (c a b)))(hl:l.length<=1000000) :
  yu E (dL E) 73 [.imm .none (l.map dI),.fn k []]=some (.bool (y37 c l)):=by
 refine zg c73 (by simp) ?_
 conv in t73=>reduce;dsimp[ai]
 simp[t73,n73];refine zo (l.length+1) (fun i env hp=>∃ c4 c5:D,env=[.imm .none (l.map dI),.fn k [],.bool false,dI i,c4,c5] /\ ∃ j,i=j+1/\y37 c (l.drop j)=y37 c l) 1 (by omega) ⟨_,_,rfl,0,rfl,rfl⟩ ?_
 rintro i env hp hi ⟨c4,c5,rfl,j,rfl,hm⟩
 by_cases hlt:j+1<l.length
 ·have hj:j<l.length:=by omega
  rw[zh hj,zh hlt]at hm;have hk:=hc l[j] l[j+1];have hlt':(j:Int)+1<l.length:=by omega
  have hnn:(0:Int)<=(j:Int)+1:=by omega
  by_cases h0:c l[j] l[j+1]<0
  ·simp[y37,h0]at hm;have h0' : ¬ 0<=c l[j] l[j+1]:=by omega
   simp[hlt,hlt',hj,hnn,z62 (n:=j) (by omega),za (n:=(j:Int)+1) ⟨by omega,by omega⟩,za (n:=(j:Int)+1+1) ⟨by omega,by omega⟩,hk,h0',hm]
  ·simp[y37,h0]at hm;have h0':0<=c l[j] l[j+1]:=by omega
   simp[hlt,hlt',hj,hnn,z62 (n:=j) (by omega),za (n:=(j:Int)+1) ⟨by omega,by omega⟩,hk,h0',hm]
 ·have he:y37 c (l.drop j)=true:=zbe (by simp;omega)
  have hlt' : ¬ (j:Int)+1<l.length:=by omega
  rw[he]at hm;simp[hlt,hlt',<- hm]
def r75(l:List Use)(k:Nat)(c:Use->Use->Int)(hc:∀ a b,yu E (dL E) k [y51 a,y51 b]=some (dI (c a b)))(hl:l.length<=1000000) :
  yu E (dL E) 75 [.imm .none (l.map y51),.fn k []]=some (.bool (y37 c l)):=by
 refine zg c75 (by simp) ?_
 conv in t75=>reduce;dsimp[ai]
 simp[t75,n75];refine zo (l.length+1) (fun i env hp=>∃ c4 c5:D,env=[.imm .none (l.map y51),.fn k [],.bool false,dI i,c4,c5] /\ ∃ j,i=j+1/\y37 c (l.drop j)=y37 c l) 1 (by omega) ⟨_,_,rfl,0,rfl,rfl⟩ ?_
 rintro i env hp hi ⟨c4,c5,rfl,j,rfl,hm⟩
 by_cases hlt:j+1<l.length
 ·have hj:j<l.length:=by omega
  rw[zh hj,zh hlt]at hm;have hk:=hc l[j] l[j+1];have hlt':(j:Int)+1<l.length:=by omega
  have hnn:(0:Int)<=(j:Int)+1:=by omega
  by_cases h0:c l[j] l[j+1]<0
  ·simp[y37,h0]at hm;have h0' : ¬ 0<=c l[j] l[j+1]:=by omega
   simp[hlt,hlt',hj,hnn,z62 (n:=j) (by omega),za (n:=(j:Int)+1) ⟨by omega,by omega⟩,za (n:=(j:Int)+1+1) ⟨by omega,by omega⟩,hk,h0',hm]
  ·simp[y37,h0]at hm;have h0':0<=c l[j] l[j+1]:=by omega
   simp[hlt,hlt',hj,hnn,z62 (n:=j) (by omega),za (n:=(j:Int)+1) ⟨by omega,by omega⟩,hk,h0',hm]
 ·have he:y37 c (l.drop j)=true:=zbe (by simp;omega)
  have hlt' : ¬ (j:Int)+1<l.length:=by omega
  rw[he]at hm;simp[hlt,hlt',<- hm]
def y5b{A:Type}(f:A->Bool):List A->Nat->Int
 |[],_=>-1
 |x::r,i=>if f x then i else y5b f r (i+1)
def z6h{A:Type}{f:A->Bool}:∀{l:List A} {i:Nat},decide (0<=y5b f l i)=l.any f
 |[],i=>rfl
 |x::r,i=>by
  simp only[y5b,List.any_cons]
  by_cases h:f x=true
  ·simp[h]
  ·have h2:=z6h (f:=f) (l:=r) (i:=i+1);simp at h;simpa[h]using h2
def r106(l:List Int)(k:Nat)(f:Int->Bool)(hf:∀ x,yu E (dL E) k [dI x]=some (.bool (f x)))(hl:l.length<=1000000) :
  yu E (dL E) 106 [ya l,.fn k []]=some (dI (y5b f l 0)):=by
 refine zg c106 (by simp) ?_
 conv in t106=>reduce;dsimp[ai]
 simp[t106,n106];refine zo l.length (fun i env hp=>∃ c3 c6 c7:D,env=[ya l,.fn k [],dI 0,c3,dI l.length,dI i,c6,c7]/\y5b f (l.drop i) i=y5b f l 0) 0 (by omega) ⟨_,_,_,rfl,rfl⟩ ?_
 rintro i env hp hi ⟨c3,c6,c7,rfl,hm⟩
 by_cases hlt:i<l.length
 ·rw[zh hlt]at hm;have hk:=hf l[i];cases h0:f l[i]with
  |true=>simp[y5b,h0]at hm;simp[hlt,hk,h0,<- hm]
  |false=>simp[y5b,h0]at hm;simp[hlt,hk,h0,ze hlt (by omega),hm]
 ·have:i=l.length:=by omega
  subst this;simp[y5b]at hm;simp[<- hm]
def r71(l:List Int)(k:Nat)(f:Int->Bool)(hf:∀ x,yu E (dL E) k [dI x]=some (.bool (f x)))(hl:l.length<=1000000) :
  yu E (dL E) 71 [ya l,.fn k []]=some (.bool (l.any f)):=by
 refine zg c71 (by simp) ?_
 conv in t71=>reduce;dsimp[ai]
 simp[t71,n71,r106 l k f hf hl,z6h]
def atS(c:Cell):List Cell->Nat->Int
 |[],_=>-1
 |x::l,i=>if x=c then i else atS c l (i+1)
def z1i{A:Type}{h r:List A}{x:A}:(h++x::r)[h.length]? = some x:=by simp
def z34{A:Type}{h r:List A}{x y:A}:(h++x::r).set h.length y=h++y::r:=by simp
def y8d:List Var->Int->Int->Int
 |[],_,n=>n
 |v::r,lim,n=>if n<lim then y8d r lim (n*(if 1<(v.choices.length:Int)then v.choices.length else 1))else n
def ybo(p:yj)(lim:Int):Int:=if lim<y8d p.vars lim 1 then lim else y8d p.vars lim 1
def r61(p:yj)(lim:Int)(h8:∀ v,v ∈ p.vars->v.choices.length<=8)(hl:lim<=2000)(hv:p.vars.length<=6) :
  yu E (dL E) 61 [ye p,dI lim]=some (dI (ybo p lim)):=by
 refine zg c61 (by simp) ?_
 conv in t61=>reduce;dsimp[ai]
 unfold ybo;simp[t61,n61];refine zo p.vars.length (fun i env hp=>∃(n:Int) (c:D),env=[ye p,dI lim,.loc 0 0,dI 0,dI n,dI i,c]/\hp=[.cells (ye p).cellsL]/\0<=n/\n<=16000/\y8d (p.vars.drop i) lim n=y8d p.vars lim 1) 0 (dJ _) ⟨1,.undef,rfl,rfl,by omega,by omega,rfl⟩ ?_
 rintro i env hp hi ⟨n,c,rfl,rfl,h0,h1,hm⟩
 by_cases hlt:i<p.vars.length
 ·rw[zh hlt]at hm;have hc8:p.vars[i].choices.length<=8:=h8 _ (av hlt)
  by_cases hn:n<lim
  ·simp only[y8d,if_pos hn]at hm;have hb:n*p.vars[i].choices.length<=2000*8:=by
    have:=Int.mul_le_mul_of_nonneg_left (show(p.vars[i].choices.length:Int)<=8 by omega) h0
    omega
   have hb0:0<=n*p.vars[i].choices.length:=ko h0 (by omega)
   by_cases h1':1<(p.vars[i].choices.length:Int)
   ·rw[if_pos h1']at hm;simp[hlt,hn,h1',ze hlt (by omega),za (n:=n*p.vars[i].choices.length) ⟨by omega,by omega⟩]
    exact⟨hb0,hb,hm⟩
   ·rw[if_neg h1']at hm;have hn1:n*1=n:=Int.mul_one n;simp only[Int.natCast_one,hn1]at hm;simp[hlt,hn,h1',ze hlt (by omega),za (n:=n) ⟨by omega,by omega⟩]
    exact⟨h0,h1,hm⟩
  ·simp only[y8d,if_neg hn]at hm;simp[hlt,hn];subst hm;split <;> simp[*]
 ·have:i=p.vars.length:=by omega
  subst this;simp[y8d]at hm;subst hm;simp
def yax(v:Var):Bool:=decide (v.leaves.length<=8) && decide (v.choices.length<=8) && v.choices.all fun c=>decide (c.uses.length<=12)
def yc6(p:yj):Bool:=decide (p.cells.length<=12) && decide (p.capacity.length<=4) && decide (p.vars.length<=6) && (p.capacity.all fun l=>decide (l.length<=16)) && p.vars.all yax && decide (ybo p 2000<2000)
def r2(p:yj):yu E (dL E) 2 [ye p]=some (.bool (yc6 p)):=by
 refine zg c2 (by simp) ?_
 unfold yc6;simp[t2,n2]
 by_cases h1':(12:Int)<p.cells.length
 ·have h1 : ¬ p.cells.length<=12:=by omega
  simp[h1,h1']
 by_cases h2':(4:Int)<p.capacity.length
 ·have h2 : ¬ p.capacity.length<=4:=by omega
  simp[h1',h2,h2']
 by_cases h3':(6:Int)<p.vars.length
 ·have h3 : ¬ p.vars.length<=6:=by omega
  simp[h1',h2',h3,h3']
 have h1:p.cells.length<=12:=by omega
 have h2:p.capacity.length<=4:=by omega
 have h3:p.vars.length<=6:=by omega
 simp[h1,h1',h2,h2',h3,h3'];refine zo p.capacity.length (fun i env hp=>∃ x4 x5 x6 x7 x8 x9 x10 x11 x12 x13 x14:D,env=[ye p,.loc 0 0,.bool false,dI i,x4,x5,x6,x7,x8,x9,x10,x11,x12,x13,x14]/\hp=[.cells (ye p).cellsL] /\
  ((p.capacity.drop i).all fun l=>decide (l.length<=16))=(p.capacity.all fun l=>decide (l.length<=16))) 0 (by omega) ⟨_,_,_,_,_,_,_,_,_,_,_,rfl,rfl,rfl⟩ ?_
 rintro i env hp hi ⟨x4,x5,x6,x7,x8,x9,x10,x11,x12,x13,x14,rfl,rfl,hm⟩
 by_cases hlt:i<p.capacity.length
 ·rw[zh hlt,cG]at hm
  by_cases h4:p.capacity[i].length<=16
  ·have h4' : ¬ (16:Int)<p.capacity[i].length:=by omega
   simp only[h4,decide_true,ji]at hm;simp[hlt,h4',ze hlt (by omega),hm]
  ·have h4':(16:Int)<p.capacity[i].length:=by omega
   simp only[h4,decide_false,gS]at hm;simp[hlt,h4',<- hm]
 have:i=p.capacity.length:=by omega
 subst this;simp only[bv,ec]at hm;simp[<- hm];refine zo p.vars.length (fun i env hp=>∃(x3 x5 x6 x7 x8 x9 x10 x11 x12 x13 x14:D) (h:List Obj),env=[ye p,.loc 0 0,.bool false,x3,dI i,x5,x6,x7,x8,x9,x10,x11,x12,x13,x14]/\hp=.cells (ye p).cellsL::h /\
  (p.vars.drop i).all yax=p.vars.all yax /\ ∀ j (hj:j<p.vars.length),j<i->yax p.vars[j]=true) 0 (by omega) ⟨_,_,_,_,_,_,_,_,_,_,_,_,rfl,rfl,rfl,fun j _ hj=>by omega⟩ ?_
 rintro i env hp hi ⟨x3,x5,x6,x7,x8,x9,x10,x11,x12,x13,x14,h,rfl,rfl,hv,hall⟩
 by_cases hlt:i<p.vars.length
 ·rw[zh hlt,cG]at hv;simp[hlt,z1i,z34]
  by_cases g1':(8:Int)<p.vars[i].leaves.length
  ·have g1 : ¬ p.vars[i].leaves.length<=8:=by omega
   simp only[yax,g1,decide_false,gS]at hv;simp[g1',<- hv]
  by_cases g2':(8:Int)<p.vars[i].choices.length
  ·have g2 : ¬ p.vars[i].choices.length<=8:=by omega
   simp only[yax,g2,decide_false,gS,ni]at hv;simp[g1',g2',<- hv]
  have g1:p.vars[i].leaves.length<=8:=by omega
  have g2:p.vars[i].choices.length<=8:=by omega
  simp[g1',g2'];refine zo p.vars[i].choices.length (fun k env hp=>∃(x3 x7 x8 x9 x10 x11 x12 x13 x14:D),env=[ye p,.loc 0 0,.bool false,x3,dI i,.loc (h.length+1) 0,dI k,x7,x8,x9,x10,x11,x12,x13,x14] /\
   hp=.cells (ye p).cellsL::(h++[.cells (y4p p.vars[i]).cellsL]) /\
   ((p.vars[i].choices.drop k).all fun c=>decide (c.uses.length<=12))=(p.vars[i].choices.all fun c=>decide (c.uses.length<=12))) 0 (by omega) ⟨_,_,_,_,_,_,_,_,_,rfl,rfl,rfl⟩ ?_
  rintro k env hp hk ⟨x3,x7,x8,x9,x10,x11,x12,x13,x14,rfl,rfl,hc⟩
  by_cases hlt2:k<p.vars[i].choices.length
  ·rw[zh hlt2,cG]at hc;simp[hlt,hlt2,z1i]
   by_cases g3':(12:Int)<p.vars[i].choices[k].uses.length
   ·have g3 : ¬ p.vars[i].choices[k].uses.length<=12:=by omega
    simp only[g3,decide_false,gS]at hc;simp only[yax,<- hc,ni,gS]at hv;simp[g3'];intro hh;rw[ay.2 hh]at hv;cases hv
   ·have g3:p.vars[i].choices[k].uses.length<=12:=by omega
    simp only[g3,decide_true,ji]at hc;simp[g3',ze hlt2 (by omega),hc]
  ·have:k=p.vars[i].choices.length:=by omega
   subst this;simp only[bv,ec]at hc;have hf:yax p.vars[i]=true:=by simp[yax,g1,g2,<- hc]
   rw[hf,ji]at hv;simp[z1i,ze hlt (by omega),hlt,hv]
   intro j hj hj';rcases eQ.1 hj' with h' | rfl
   ·exact hall j hj h'
   ·exact hf
 ·have:i=p.vars.length:=by omega
  subst this;simp only[bv,ec]at hv;have h61:=r61 p 2000 (fun v hv=>by
   obtain⟨j,hj,rfl⟩:=dD hv;have:=hall j hj hj;simp only[yax,ak,decide_eq_true_eq]at this;exact this.1.2) (by omega) h3
  simp[<- hv,h61]
section
variable{E:Env}{Q:Ex->List D->List Obj->Prop}{env:List D}{hp:List Obj}
def wT_chk{a:TC}(n:Nat)(P:Nat->Prop)(I:Nat->List D->List Obj->Prop)(h0:I 0 env hp)
  (good:∀ i env hp,i<n->I i env hp->P i->(∀ j,j<i->P j)->wT E a (fun ex env' hp'=>match ex with
   |.normal=>I (i+1) env' hp'
   |_=>False) env hp)
  (bad:∀ i env hp,i<n->I i env hp -> ¬ P i->wT E a (fun ex env' hp'=>match ex with
   |.normal=>False
   |ex=>Q ex env' hp') env hp)
  (last:∀ env hp,I n env hp->(∀ j,j<n->P j)->wT E a (fun ex env' hp'=>match ex with
   |.normal=>False
   |ex=>Q ex env' hp') env hp):wT E (.loop a) Q env hp:=by
 refine zo n (fun i env hp=>I i env hp /\ ∀ j,j<i->P j) 0 (dJ _) ⟨h0,fun j hj=>by omega⟩ ?_
 rintro i env hp hi ⟨hI,hP⟩
 by_cases hlt:i<n
 ·by_cases hp':P i
  ·refine z8c ?_ (good i env hp hlt hI hp' hP);intro ex env' hp'' h;cases ex with
   |normal=>
    refine⟨hlt,h,fun j hj=>?_⟩
    rcases eQ.1 hj with h1 | rfl
    ·exact hP j h1
    ·exact hp'
   |exit _=>exact h.elim
   |ret=>exact h.elim
  ·refine z8c ?_ (bad i env hp hlt hI hp');intro ex env' hp'' h;cases ex with
   |normal=>exact h.elim
   |exit _=>exact h
   |ret=>exact h
 ·have:i=n:=by omega
  subst this;refine z8c ?_ (last env hp hI hP);intro ex env' hp'' h;cases ex with
  |normal=>exact h.elim
  |exit _=>exact h
  |ret=>exact h
def z5k{a:TC}(n:Nat)(P:Nat->Prop)(I:Nat->List D->List Obj->Prop)(h0:I 0 env hp)
  (step:∀ i env hp,i<n->I i env hp->(∀ j,j<i->P j)->wT E a (fun ex env' hp'=>match ex with
   |.normal=>P i/\I (i+1) env' hp'
   |ex=>Q ex env' hp') env hp)
  (last:∀ env hp,I n env hp->(∀ j,j<n->P j)->wT E a (fun ex env' hp'=>match ex with
   |.normal=>False
   |ex=>Q ex env' hp') env hp):wT E (.loop a) Q env hp:=by
 refine zo n (fun i env hp=>I i env hp /\ ∀ j,j<i->P j) 0 (dJ _) ⟨h0,fun j hj=>by omega⟩ ?_
 rintro i env hp hi ⟨hI,hP⟩
 by_cases hlt:i<n
 ·refine z8c ?_ (step i env hp hlt hI hP);intro ex env' hp'' h;cases ex with
  |normal=>
   refine⟨hlt,h.2,fun j hj=>?_⟩
   rcases eQ.1 hj with h1 | rfl
   ·exact hP j h1
   ·exact h.1
  |exit _=>exact h
  |ret=>exact h
 ·have:i=n:=by omega
  subst this;refine z8c ?_ (last env hp hI hP);intro ex env' hp'' h;cases ex with
  |normal=>exact h.elim
  |exit _=>exact h
  |ret=>exact h
end
def zpn{i:Nat}(h0:0<i)(h:i<=1000000000000):aJ.wrap ((i:Int) - 1)=((i - 1:Nat):Int):=by rw[za ⟨by omega,by omega⟩];omega
def wi(n lo hi:Int):Prop:=lo<=n/\n<=hi
instance{n lo hi:Int}:Decidable (wi n lo hi):=inferInstanceAs (Decidable (_/\_))
structure yb9(p:yj)(u:Use):Prop where
 known:u.cell ∈ p.cells
 places:wi u.places 1 8
structure y6j(p:yj)(c:y1p):Prop where
 delay:wi c.delay 0 1048576
 cost:wi c.cost 0 1048576
 changes:wi c.changes 0 1048576
 uses:∀ u,u ∈ c.uses->yb9 p u
 incr:∀(i:Nat) (h:i+1<c.uses.length),ltC c.uses[i].cell c.uses[i+1].cell=true
structure y8r(p:yj)(v:Var):Prop where
 some:1<=v.leaves.length
 one:1<=v.choices.length
 most:v.choices.length<=96
 leaves:∀ n,n ∈ v.leaves->wi n 0 (p.capacity.length - 1)
 incr:∀(i:Nat) (h:i+1<v.leaves.length),v.leaves[i]<v.leaves[i+1]
 choices:∀ c,c ∈ v.choices->y6j p c
def z8h{A:Type}{l:List A}{P:A->Prop}:(∀ x,x ∈ l->P x) ↔ ∀(i:Nat) (h:i<l.length),P l[i]:=by
 constructor
 ·intro h i hi;exact h _ (av hi)
 ·intro h x hx;obtain⟨i,hi,rfl⟩:=dD hx;exact h i hi
structure y19(p:yj):Prop where
 cells:p.cells.length<=12
 cap:p.capacity.length<=4
 rows:∀ l,l ∈ p.capacity->l.length<=16
 vars:p.vars.length<=6
 leaves:∀ v,v ∈ p.vars->v.leaves.length<=8
 choices:∀ v,v ∈ p.vars->v.choices.length<=8
 uses:∀ v,v ∈ p.vars->∀ c,c ∈ v.choices->c.uses.length<=12
def zhi{p:yj}(h:yc6 p=true):y19 p:=by
 simp only[yc6,ak,decide_eq_true_eq,ay]at h;obtain⟨⟨⟨⟨⟨h1,h2⟩,h3⟩,h4⟩,h5⟩,_⟩:=h;have h6:∀ v,v ∈ p.vars->v.leaves.length<=8/\v.choices.length<=8 /\ ∀ c,c ∈ v.choices->c.uses.length<=12:=fun v hv=>by have:=h5 v hv;simp only[yax,ak,decide_eq_true_eq,ay]at this;exact⟨this.1.1,this.1.2,this.2⟩
 exact⟨h1,h2,h4,h3,fun v hv=>(h6 v hv).1,fun v hv=>(h6 v hv).2.1,fun v hv=>(h6 v hv).2.2⟩
structure OkP(p:yj):Prop where
 some:1<=p.capacity.length
 nonneg:∀ c,c ∈ p.cells->0<=c.index/\0<=c.minute
 incr:∀(i:Nat) (h:i+1<p.cells.length),ltC p.cells[i] p.cells[i+1]=true
 cap:∀ l,l ∈ p.capacity->l.length=p.cells.length /\ ∀ n,n ∈ l->wi n 0 4096
 vars:∀ v,v ∈ p.vars->y8r p v
open Classical in
noncomputable def ck(p:yj):Int:=if OkP p then 0 else 270
def yaf(c:Cell):D × D:=(y1z c,.bool true)
def zhh{c:Cell}:∀{es:List Cell},y17 (y1z c) (es.map yaf)=some (if c ∈ es then some (.bool true)else none)
 |[]=>rfl
 |x::es=>by
  have hq:D.eqb (y1z c) (y1z x)=some (decide (c=x)):=by simp[D.eqb,eqL,y2a];cases c;cases x;simp[iy]
  simp only[al,y17,yaf,hq]
  by_cases h:c=x
  ·simp[h]
  ·simp only[h,decide_false,aA,false_or];exact zhh
def zks{c:Cell}:∀{es:List Cell},y1n (y1z c) (.bool true) (es.map yaf)=some ((if c ∈ es then es else es++[c]).map yaf)
 |[]=>rfl
 |x::es=>by
  have hq:D.eqb (y1z c) (y1z x)=some (decide (c=x)):=by simp[D.eqb,eqL,y2a];cases c;cases x;simp[iy]
  simp only[al,y1n,yaf,hq]
  by_cases h:c=x
  ·simp[h,yaf]
  ·have ih:=zks (c:=c) (es:=es);simp only[h,decide_false,aA,false_or];rw[ih]
   by_cases hm:c ∈ es <;> simp[hm,yaf]
def z3s{A:Type}{c:A->A->Int}:∀{l:List A},y37 c l=true ↔ ∀(i:Nat) (h:i+1<l.length),c l[i] l[i+1]<0
 |[]=>⟨fun _ i h=>by simp at h,fun _=>rfl⟩
 |[_]=>⟨fun _ i h=>by simp at h,fun _=>rfl⟩
 |a::b::r=>by
  have ih:=z3s (c:=c) (l:=b::r);simp only[y37,ak,decide_eq_true_eq,ih];constructor
  ·rintro⟨h1,h2⟩ i hi;cases i with
   |zero=>exact h1
   |succ i=>exact h2 i (by simpa using hi)
  ·intro h;exact⟨h 0 (by simp),fun i hi=>h (i+1) (by simpa using hi)⟩
def zfd{a b:Int}:y3r a b<0 ↔ a<b:=by
 unfold y3r
 (repeat' split) <;> omega
def zf1{l:List Int}(h:∀(i:Nat) (hi:i+1<l.length),l[i]<l[i+1]):∀(j i:Nat) (hj:j<l.length) (hij:i<=j),l[i]'(by omega)<=l[j]
 | 0,i,hj,hij=>by
  have:i=0:=by omega
  subst this;exact eH _
 |j+1,i,hj,hij=>by
  rcases eQ.1 (Nat.lt_succ_of_le hij)with h1 | rfl
  ·have:=zf1 h j i (by omega) (by omega)
   have:=h j hj;omega
  ·exact eH _
def zci{x lo hi:Int}(h:wi x lo hi):lo<=x/\x<=hi /\ ¬ x<lo /\ ¬ hi<x:=by unfold wi at h;omega
def zcj{x lo hi:Int}(h : ¬ wi x lo hi):(x<lo /\ ¬ lo<=x)\/(hi<x /\ ¬ x<=hi/\lo<=x /\ ¬ x<lo):=by unfold wi at h;omega
def r71w(l:List Int)(hl:l.length<=1000000):∃ q:Bool,(q=true ↔ ¬ ∀ n,n ∈ l->wi n 0 4096)/\yu E (dL E) 71 [.imm .none (l.map dI),.fn 72 []]=some (.bool q):=by
 refine⟨_,?_,r71 l 72 (fun n=>!decide (0<=n/\n<=4096)) r72 hl⟩
 rw[List.any_eq_true];constructor
 ·rintro⟨n,hn,h⟩ hall;have:=hall n hn;unfold wi at this;simp[this]at h
 ·intro h;refine cU fun hn=>h fun n hm=>?_
  unfold wi;refine cU fun hw=>hn ⟨n,hm,?_⟩
  simp only[hw,decide_false,Bool.not_false]
def r15(p:yj)(S:y19 p):yu E (dL E) 15 [ye p]=some (dI (ck p)):=by
 refine zg c15 (by simp) ?_
 conv in t15=>reduce;dsimp[ai]
 generalize hB:ck p=B;have hBf : ¬ OkP p->B=270:=by intro h;rw[<- hB];simp[ck,h]
 have hBt:OkP p->B=0:=by intro h;rw[<- hB];simp[ck,h]
 have s1:=S.cells;have s2:=S.cap;have s3:=S.vars;have h69:=r69 p.cells 70 yb3 r70 (by omega)
 simp[t15,n15,r67,h69];have h1 : ¬ (4096:Int)<p.cells.length:=by omega
 by_cases h2:(p.capacity.length:Int)<1
 ·have h2':((p.capacity.length:Int)<1\/(32:Int)<p.capacity.length):=.inl h2;simp[h1,h2',hBf (fun ok=>by have:=ok.some;omega)]
 have h2' : ¬ ((p.capacity.length:Int)<1\/(32:Int)<p.capacity.length):=by omega
 have h4 : ¬ (64:Int)<p.vars.length:=by omega
 cases hinc:y37 yb3 p.cells with
 |false=>
  simp[h1,h2',h4,hBf (fun ok=>by
   have:y37 yb3 p.cells=true:=z3s.2 fun i hi=>by have:=ok.incr i hi;rw[<- zew]at this;exact this
   rw[hinc]at this;cases this)]
 |true=>
 have hincr:=z3s.1 hinc;simp[h1,h2',h4];obtain⟨P,hP⟩:∃ P:Nat->Prop,P=fun i=>∀(h:i<p.cells.length),0<=p.cells[i].index/\0<=p.cells[i].minute:=⟨_,rfl⟩
 refine z5k p.cells.length P
  (fun i env hp=>∃(x4 x5 x6 x7 x8 x9 x10 x11 x15 x16 x17 x18 x19 x20 x21 x22 x23 x24 x25 x26 x27 x28 x29 x30 x31 x32 x33 x34 x35 x36 x37 x38 x39 x40:D) (es:List Cell) (h:List Obj),env=[ye p,.loc 0 0,dI 0,.map (some 1),x4,x5,x6,x7,x8,x9,x10,x11,.imm .none (p.cells.map y1z),dI p.cells.length,dI i,x15,x16,x17,x18,x19,x20,x21,x22,x23,x24,x25,x26,x27,x28,x29,x30,x31,x32,x33,x34,x35,x36,x37,x38,x39,x40]/\hp=.cells (ye p).cellsL :: .map (es.map yaf)::h /\ ∀ c,c ∈ es ↔ c ∈ p.cells.take i)
  ⟨_,_,_,_,_,_,_,_,_,_,_,_,_,_,_,_,_,_,_,_,_,_,_,_,_,_,_,_,_,_,_,_,_,_,[],_,rfl,rfl,by simp⟩ ?_ ?_
 ·rintro i env hp hi ⟨x4,x5,x6,x7,x8,x9,x10,x11,x15,x16,x17,x18,x19,x20,x21,x22,x23,x24,x25,x26,x27,x28,x29,x30,x31,x32,x33,x34,x35,x36,x37,x38,x39,x40,es,h,rfl,rfl,hes⟩ hall;have hBc : ¬ (0<=p.cells[i].index/\0<=p.cells[i].minute)->B=270:=fun hn=>hBf (fun ok=>hn (ok.nonneg _ (av hi)))
  simp[hi,z1i,z34]
  by_cases g1:p.cells[i].index<0
  ·simp[g1,hBc (by omega)]
  by_cases g2:p.cells[i].minute<0
  ·simp[g1,g2,hBc (by omega)]
  have hPi:P i:=by rw[hP];exact fun _=>⟨by omega,by omega⟩
  have hput:=zks (c:=p.cells[i]) (es:=es);simp at hput;simp[g1,g2,z1i,hput,ze hi (by omega),hPi]
  refine⟨_,rfl,fun c=>?_⟩
  have hts:p.cells.take (i+1)=p.cells.take i++[p.cells[i]]:=by simp
  rw[hts,aB,<- hes c]
  by_cases hm:p.cells[i] ∈ es
  ·rw[if_pos hm];constructor
   ·exact .inl
   ·rintro(h | h)
    ·exact h
    ·simp at h;rw[h];exact hm
  ·rw[if_neg hm,aB]
 rintro env hp ⟨x4,x5,x6,x7,x8,x9,x10,x11,x15,x16,x17,x18,x19,x20,x21,x22,x23,x24,x25,x26,x27,x28,x29,x30,x31,x32,x33,x34,x35,x36,x37,x38,x39,x40,es,h,rfl,rfl,hes⟩ hcells;rw[hP]at hcells;rw[List.take_length]at hes;simp;clear hP P;obtain⟨P,hP⟩:∃ P:Nat->Prop,P=fun i=>∀(h:i<p.capacity.length),p.capacity[i].length=p.cells.length /\ ∀ n,n ∈ p.capacity[i]->wi n 0 4096:=⟨_,rfl⟩
 refine z5k p.capacity.length P
  (fun i env hp=>∃(x4 x5 x6 x7 x8 x9 x10 x11 x12 x13 x14 x15 x16 x17 x21 x22 x23 x24 x25 x26 x27 x28 x29 x30 x31 x32 x33 x34 x35 x36 x37 x38 x39 x40:D) (h:List Obj),env=[ye p,.loc 0 0,dI 0,.map (some 1),x4,x5,x6,x7,x8,x9,x10,x11,x12,x13,x14,x15,x16,x17,.imm .none (p.capacity.map ya),dI p.capacity.length,dI i,x21,x22,x23,x24,x25,x26,x27,x28,x29,x30,x31,x32,x33,x34,x35,x36,x37,x38,x39,x40]/\hp=.cells (ye p).cellsL :: .map (es.map yaf)::h)
  ⟨_,_,_,_,_,_,_,_,_,_,_,_,_,_,_,_,_,_,_,_,_,_,_,_,_,_,_,_,_,_,_,_,_,_,_,rfl,rfl⟩ ?_ ?_
 ·rintro i env hp hi ⟨x4,x5,x6,x7,x8,x9,x10,x11,x12,x13,x14,x15,x16,x17,x21,x22,x23,x24,x25,x26,x27,x28,x29,x30,x31,x32,x33,x34,x35,x36,x37,x38,x39,x40,h,rfl,rfl⟩ hall;have hBc : ¬ (p.capacity[i].length=p.cells.length /\ ∀ n,n ∈ p.capacity[i]->wi n 0 4096)->B=270:=fun hn=>hBf (fun ok=>hn (ok.cap _ (av hi)))
  obtain⟨q,hq,h71⟩:=r71w p.capacity[i] (by have:=S.rows _ (av hi);omega)
  simp[hi,h71]
  by_cases g1:p.capacity[i].length=p.cells.length
  rotate_left
  ·have g1' : ¬ (p.capacity[i].length:Int)=p.cells.length:=by omega
   simp[g1,g1',hBc (fun h=>g1 h.1)]
  simp[g1];cases q with
  |false=>
   have g2:∀ n,n ∈ p.capacity[i]->wi n 0 4096:=cU fun h=>by have:=hq.2 h;cases this
   have hPi:P i:=by rw[hP];exact fun _=>⟨g1,g2⟩
   simp[ze hi (by omega),hPi]
  |true=>simp[hBc (fun h=>hq.1 rfl h.2)]
 rintro env hp ⟨x4,x5,x6,x7,x8,x9,x10,x11,x12,x13,x14,x15,x16,x17,x21,x22,x23,x24,x25,x26,x27,x28,x29,x30,x31,x32,x33,x34,x35,x36,x37,x38,x39,x40,h,rfl,rfl⟩ hcap;rw[hP]at hcap;simp;clear hP P;obtain⟨P,hP⟩:∃ P:Nat->Prop,P=fun i=>∀(h:i<p.vars.length),y8r p p.vars[i]:=⟨_,rfl⟩
 refine z5k p.vars.length P
  (fun i env hp=>∃(x4 x5 x6 x7 x8 x9 x10 x11 x12 x13 x14 x15 x16 x17 x18 x19 x20 x21 x22 x26 x27 x28 x29 x30 x31 x32 x33 x34 x35 x36 x37 x38 x39 x40:D) (h:List Obj),env=[ye p,.loc 0 0,dI 0,.map (some 1),x4,x5,x6,x7,x8,x9,x10,x11,x12,x13,x14,x15,x16,x17,x18,x19,x20,x21,x22,.imm .none (p.vars.map y4p),dI p.vars.length,dI i,x26,x27,x28,x29,x30,x31,x32,x33,x34,x35,x36,x37,x38,x39,x40]/\hp=.cells (ye p).cellsL :: .map (es.map yaf)::h)
  ⟨_,_,_,_,_,_,_,_,_,_,_,_,_,_,_,_,_,_,_,_,_,_,_,_,_,_,_,_,_,_,_,_,_,_,_,rfl,rfl⟩ ?_ ?_
 ·rintro i env hp hi ⟨x4,x5,x6,x7,x8,x9,x10,x11,x12,x13,x14,x15,x16,x17,x18,x19,x20,x21,x22,x26,x27,x28,x29,x30,x31,x32,x33,x34,x35,x36,x37,x38,x39,x40,h,rfl,rfl⟩ hall;have hmem:=av hi;have hBv : ¬ y8r p p.vars[i]->B=270:=fun hn=>hBf (fun ok=>hn (ok.vars _ hmem))
  have l1:=S.leaves _ hmem;have l2:=S.choices _ hmem;have h73:=r73 p.vars[i].leaves 74 y3r r74 (by omega)
  have hcapw:=s2;simp[hi,z1i,z34,r67,h73]
  by_cases g1:p.vars[i].leaves=[]
  ·simp[g1,hBv (fun ok=>by have:=ok.some;rw[g1]at this;simp at this)]
  have g1l:p.vars[i].leaves.length ≠ 0:=fun h=>g1 (List.length_eq_zero_iff.1 h)
  by_cases g2:(p.vars[i].choices.length:Int)<1
  ·have g2' : ¬ (1:Int)<=p.vars[i].choices.length:=by omega
   simp[g1,g2',hBv (fun ok=>by have:=ok.one;omega)]
  have g2':(1:Int)<=p.vars[i].choices.length:=by omega
  have g2'':(p.vars[i].choices.length:Int)<=96:=by omega
  cases g3:y37 y3r p.vars[i].leaves with
  |false=>
   simp[g1,g2',g2'',hBv (fun ok=>by
    have:y37 y3r p.vars[i].leaves=true:=z3s.2 fun k hk=>zfd.2 (ok.incr k hk)
    rw[g3]at this;cases this)]
  |true=>
  have g3':=z3s.1 g3;have hl0:0<p.vars[i].leaves.length:=by omega
  by_cases g4:p.vars[i].leaves[0]<0
  ·simp[g1,g2',g2'',hl0,z1i,g4,hBv (fun ok=>by
    have:=ok.leaves _ (av hl0);unfold wi at this;omega)]
  have hl1:p.vars[i].leaves.length - 1<p.vars[i].leaves.length:=by omega
  have hwp:aJ.wrap ((p.vars[i].leaves.length:Int) - 1)=((p.vars[i].leaves.length - 1:Nat):Int):=zpn hl0 (by omega)
  by_cases g5:(p.capacity.length:Int)<=p.vars[i].leaves[p.vars[i].leaves.length - 1]
  ·simp[g1,g2',g2'',hl0,hl1,z1i,g4,g5,hwp,hBv (fun ok=>by
    have:=ok.leaves _ (av hl1);unfold wi at this;omega)]
  simp[g1,g2',g2'',hl0,hl1,z1i,g4,g5,hwp];have hleaves:∀ n,n ∈ p.vars[i].leaves->wi n 0 (p.capacity.length - 1):=z8h.2 fun k hk=>by
   have e:∀(k:Nat) (hk:k+1<p.vars[i].leaves.length),p.vars[i].leaves[k]<p.vars[i].leaves[k+1]:=fun k hk=>zfd.1 (g3' k hk)
   have e1:=zf1 e k 0 hk (by omega)
   have e2:=zf1 e (p.vars[i].leaves.length - 1) k hl1 (by omega)
   unfold wi;omega
  obtain⟨P2,hP2⟩:∃ P:Nat->Prop,P=fun k=>∀(h:k<p.vars[i].choices.length),y6j p p.vars[i].choices[k]:=⟨_,rfl⟩
  refine z5k p.vars[i].choices.length P2
   (fun k env hp=>∃(x4 x5 x7 x8 x9 x10 x11 x12 x13 x14 x15 x16 x17 x18 x19 x20 x21 x22 x26 x27 x28 x32 x33 x34 x35 x36 x37 x38 x39 x40:D) (G:List Obj),env=[ye p,.loc 0 0,dI 0,.map (some 1),x4,x5,.loc (h.length+2) 0,x7,x8,x9,x10,x11,x12,x13,x14,x15,x16,x17,x18,x19,x20,x21,x22,.imm .none (p.vars.map y4p),dI p.vars.length,dI i,x26,x27,x28,.imm .none (p.vars[i].choices.map y15),dI p.vars[i].choices.length,dI k,x32,x33,x34,x35,x36,x37,x38,x39,x40]/\hp=.cells (ye p).cellsL :: .map (es.map yaf)::G/\G[h.length]? = some (.cells (y4p p.vars[i]).cellsL))
   ⟨_,_,_,_,_,_,_,_,_,_,_,_,_,_,_,_,_,_,_,_,_,_,_,_,_,_,_,_,_,_,_,rfl,rfl,z1i⟩ ?_ ?_
  ·rintro k env hp hk ⟨x4,x5,x7,x8,x9,x10,x11,x12,x13,x14,x15,x16,x17,x18,x19,x20,x21,x22,x26,x27,x28,x32,x33,x34,x35,x36,x37,x38,x39,x40,G,rfl,rfl,hG⟩ hall2;have hBc : ¬ y6j p p.vars[i].choices[k]->B=270:=fun hn=>hBv (fun ok=>hn (ok.choices _ (av hk)))
   have hmemk:=av hk;have l3:=S.uses _ hmem _ hmemk;have h75:=r75 p.vars[i].choices[k].uses 76 (fun a b=>yb3 a.cell b.cell) r76 (by omega)
   simp[hk,z1i,z34,r67,h75]
   by_cases k1:wi p.vars[i].choices[k].delay 0 1048576
   rotate_left
   ·rcases zcj k1 with⟨q1,q2⟩ | ⟨q1,q2,q3,q4⟩
    ·simp[q1,q2,hBc (fun ok=>k1 ok.delay)]
    ·simp[q1,q2,q3,q4,hBc (fun ok=>k1 ok.delay)]
   obtain⟨a1,a2,a3,a4⟩:=zci k1
   by_cases k2:wi p.vars[i].choices[k].cost 0 1048576
   rotate_left
   ·rcases zcj k2 with⟨q1,q2⟩ | ⟨q1,q2,q3,q4⟩
    ·simp[a1,a2,a3,a4,q1,q2,hBc (fun ok=>k2 ok.cost)]
    ·simp[a1,a2,a3,a4,q1,q2,q3,q4,hBc (fun ok=>k2 ok.cost)]
   obtain⟨b1,b2,b3,b4⟩:=zci k2
   by_cases k3:wi p.vars[i].choices[k].changes 0 1048576
   rotate_left
   ·rcases zcj k3 with⟨q1,q2⟩ | ⟨q1,q2,q3,q4⟩
    ·simp[a1,a2,a3,a4,b1,b2,b3,b4,q1,q2,hBc (fun ok=>k3 ok.changes)]
    ·simp[a1,a2,a3,a4,b1,b2,b3,b4,q1,q2,q3,q4,hBc (fun ok=>k3 ok.changes)]
   obtain⟨c1,c2,c3,c4⟩:=zci k3;cases k4:y37 (fun a b:Use=>yb3 a.cell b.cell) p.vars[i].choices[k].uses with
   |false=>
    simp[a1,a2,a3,a4,b1,b2,b3,b4,c1,c2,c3,c4,hBc (fun ok=>by
     have:y37 (fun a b:Use=>yb3 a.cell b.cell) p.vars[i].choices[k].uses=true:=z3s.2 fun q hq=>by have:=ok.incr q hq;rw[<- zew]at this;exact this
     rw[k4]at this;cases this)]
   |true=>
   have k4':=z3s.1 k4;simp[a1,a2,a3,a4,b1,b2,b3,b4,c1,c2,c3,c4,z1i];obtain⟨P3,hP3⟩:∃ P:Nat->Prop,P=fun q=>∀(h:q<p.vars[i].choices[k].uses.length),yb9 p p.vars[i].choices[k].uses[q]:=⟨_,rfl⟩
   have hGa:∀ r,(G++r)[h.length]? = some (.cells (y4p p.vars[i]).cellsL):=fun r=>by rw[aD (ae.1 hG).1];exact hG
   refine z5k p.vars[i].choices[k].uses.length P3
    (fun q env hp=>∃(x4 x5 x9 x10 x11 x12 x13 x14 x15 x16 x17 x18 x19 x20 x21 x22 x26 x27 x28 x32 x33 x34 x38 x39 x40:D) (G2:List Obj),env=[ye p,.loc 0 0,dI 0,.map (some 1),x4,x5,.loc (h.length+2) 0,.loc (G.length+2) 0,dI 1048576,x9,x10,x11,x12,x13,x14,x15,x16,x17,x18,x19,x20,x21,x22,.imm .none (p.vars.map y4p),dI p.vars.length,dI i,x26,x27,x28,.imm .none (p.vars[i].choices.map y15),dI p.vars[i].choices.length,dI k,x32,x33,x34,.imm .none (p.vars[i].choices[k].uses.map y51),dI p.vars[i].choices[k].uses.length,dI q,x38,x39,x40]/\hp=.cells (ye p).cellsL :: .map (es.map yaf)::G2/\G2[h.length]? = some (.cells (y4p p.vars[i]).cellsL))
    ⟨_,_,_,_,_,_,_,_,_,_,_,_,_,_,_,_,_,_,_,_,_,_,_,_,_,_,rfl,rfl,hGa _⟩ ?_ ?_
   ·rintro q env hp hq ⟨x4,x5,x9,x10,x11,x12,x13,x14,x15,x16,x17,x18,x19,x20,x21,x22,x26,x27,x28,x32,x33,x34,x38,x39,x40,G2,rfl,rfl,hG2⟩ hall3;have hGb:∀ r,(G2++r)[h.length]? = some (.cells (y4p p.vars[i]).cellsL):=fun r=>by rw[aD (ae.1 hG2).1];exact hG2
    have hBu:(¬ yb9 p p.vars[i].choices[k].uses[q])->B=270:=fun hn=>hBc (fun ok=>hn (ok.uses _ (av hq)))
    have hfind:=zhh (c:=p.vars[i].choices[k].uses[q].cell) (es:=es);simp at hfind;simp[hq,z1i,z34,r67,hfind]
    by_cases m1:p.vars[i].choices[k].uses[q].cell ∈ es
    rotate_left
    ·simp[m1,hBu (fun ok=>m1 ((hes _).2 ok.known))]
    by_cases m2:wi p.vars[i].choices[k].uses[q].places 1 8
    rotate_left
    ·rcases zcj m2 with⟨q1,q2⟩ | ⟨q1,q2,q3,q4⟩
     ·simp[m1,q1,q2,hBu (fun ok=>m2 ok.places)]
     ·simp[m1,q1,q2,q3,q4,hBu (fun ok=>m2 ok.places)]
    obtain⟨d1,d2,d3,d4⟩:=zci m2;have hPq:P3 q:=by rw[hP3];exact fun _=>⟨(hes _).1 m1,m2⟩
    simp[m1,d1,d2,d3,d4,ze hq (by omega),hPq]
    simpa using hGb _
   ·rintro env hp ⟨x4,x5,x9,x10,x11,x12,x13,x14,x15,x16,x17,x18,x19,x20,x21,x22,x26,x27,x28,x32,x33,x34,x38,x39,x40,G2,rfl,rfl,hG2⟩ hall3;rw[hP3]at hall3;have hPk:P2 k:=by
     rw[hP2];exact fun _=>⟨k1,k2,k3,z8h.2 fun q hq=>hall3 q hq hq,fun q hq=>by
      have:=k4' q hq;rw[zew]at this;exact this⟩
    simp[ze hk (by omega),hPk]
    simpa using hG2
  ·rintro env hp ⟨x4,x5,x7,x8,x9,x10,x11,x12,x13,x14,x15,x16,x17,x18,x19,x20,x21,x22,x26,x27,x28,x32,x33,x34,x35,x36,x37,x38,x39,x40,G,rfl,rfl,hG⟩ hall2;rw[hP2]at hall2;have hPi:P i:=by rw[hP];exact fun _=>⟨by omega,by omega,by omega,hleaves,fun k hk=>zfd.1 (g3' k hk),z8h.2 fun k hk=>hall2 k hk hk⟩
   simp[ze hi (by omega),hPi]
 rintro env hp ⟨x4,x5,x6,x7,x8,x9,x10,x11,x12,x13,x14,x15,x16,x17,x18,x19,x20,x21,x22,x26,x27,x28,x29,x30,x31,x32,x33,x34,x35,x36,x37,x38,x39,x40,h,rfl,rfl⟩ hvars;rw[hP]at hvars;have:B=0:=hBt ⟨by omega,z8h.2 fun i hi=>hcells i hi hi,fun i hi=>by
  have:=hincr i hi;rw[zew]at this;exact this,z8h.2 fun i hi=>hcap i hi hi,z8h.2 fun i hi=>hvars i hi hi⟩
 simp[this]
structure OkB(p:yj)(b:List Int):Prop where
 len:b.length<=p.vars.length
 each:∀(i:Nat) (h:i<b.length) (h':i<p.vars.length),wi b[i] 0 (p.vars[i].choices.length - 1)
open Classical in
noncomputable def bk(p:yj)(b:List Int)(e:Int):Int:=if OkP p then(if OkB p b then 0 else e)else 270
def r66(p:yj)(b:List Int)(S:y19 p)(hb:b.length<=20):yu E (dL E) 66 [ye p,ya b]=some (dI (bk p b 270)):=by
 refine zg c66 (by simp) ?_
 conv in t66=>reduce;dsimp[ai]
 generalize hB:bk p b 270=B;have hBf : ¬ (OkP p/\OkB p b)->B=270:=by
  intro h;rw[<- hB];unfold bk
  by_cases h1:OkP p
  ·have h2 : ¬ OkB p b:=fun h2=>h ⟨h1,h2⟩
   simp[h1,h2]
  ·simp[h1]
 have hBt:OkP p->OkB p b->B=0:=by intro h h';rw[<- hB];simp[bk,h,h']
 have s3:=S.vars;have h15:=r15 p S;simp only[ye]at h15;simp[t66,n66,h15]
 by_cases h0:OkP p
 rotate_left
 ·have e:ck p=270:=by simp[ck,h0]
  simp[e,hBf (fun h=>h0 h.1)]
 have e:ck p=0:=by simp[ck,h0]
 simp[e]
 by_cases h1:p.vars.length<b.length
 ·simp[h1,hBf (fun ok=>by have:=ok.2.len;omega)]
 have h1' : ¬ p.vars.length<b.length:=h1;simp[h1'];obtain⟨P,hP⟩:∃ P:Nat->Prop,P=fun i=>∀(h:i<b.length) (h':i<p.vars.length),wi b[i] 0 (p.vars[i].choices.length - 1):=⟨_,rfl⟩
 refine z5k b.length P
  (fun i env hp=>∃(x4 x5 x6 x7 x8 x12 x13:D) (h:List Obj),env=[ye p,ya b,.loc 0 0,dI 0,x4,x5,x6,x7,x8,ya b,dI b.length,dI i,x12,x13]/\hp=.cells (ye p).cellsL::h)
  ⟨_,_,_,_,_,_,_,_,rfl,rfl⟩ ?_ ?_
 ·rintro i env hp hi ⟨x4,x5,x6,x7,x8,x12,x13,h,rfl,rfl⟩ hall;have hi':i<p.vars.length:=by omega
  have l2:=S.choices _ (av hi');have hcw:=za (n:=(p.vars[i].choices.length:Int) - 1) ⟨by omega,by omega⟩
  by_cases k1:wi b[i] 0 (p.vars[i].choices.length - 1)
  ·obtain⟨a1,a2,a3,a4⟩:=zci k1;have hPi:P i:=by rw[hP];exact fun _ _=>k1
   simp[hi,hi',r67,hcw,a1,a2,a3,a4,ze hi (by omega),hPi]
  ·have hB':=hBf (fun ok=>k1 (ok.2.each i hi hi'))
   rcases zcj k1 with⟨q1,q2⟩ | ⟨q1,q2,q3,q4⟩
   ·simp[hi,hi',r67,hcw,q1,q2,hB']
   ·simp[hi,hi',r67,hcw,q1,q2,q3,q4,hB']
 ·rintro env hp ⟨x4,x5,x6,x7,x8,x12,x13,h,rfl,rfl⟩ hall;rw[hP]at hall;simp[hBt h0 ⟨by omega,fun i hi hi'=>hall i hi hi hi'⟩]
def wr(n:Int):Int:=aJ.wrap n
def y80(p:yj)(r:List Int)(u:Use):List Int:=r.set (atS u.cell p.cells 0).toNat (wr (r.getD (atS u.cell p.cells 0).toNat 0+u.places))
def y4r(v:Var)(n:Int):List Use:=(v.choices.getD n.toNat ⟨0,0,0,[]⟩).uses
def y32:List Var->List Int->Int->List Use
 |v::vs,n::ns,leaf=>(if v.leaves.contains leaf then y4r v n else[])++y32 vs ns leaf
 |_,_,_=>[]
def dem(p:yj)(b:List Int)(leaf:Int):List Int:=(y32 p.vars b leaf).foldl (y80 p) (ah p.cells.length 0)
def zmf{p:yj}{r:List Int}{u:Use}:(y80 p r u).length=r.length:=by simp[y80]
def z4l{p:yj}:∀{l:List Use} {r:List Int},(l.foldl (y80 p) r).length=r.length
 |[],_=>rfl
 |u::l,r=>by simp only[bS];rw[z4l,zmf]
def zzx{c:Cell}:∀{l:List Cell} {i:Nat},c ∈ l->(i:Int)<=atS c l i/\atS c l i<i+l.length
 |x::l,i,h=>by
  unfold atS
  by_cases e:x=c
  ·simp[e];omega
  ·have hm:c ∈ l:=by
    rcases aA.1 h with h | h
    ·exact absurd h.symm e
    ·exact h
   have:=zzx (i:=i+1) hm;simp only[if_neg e,ar];omega
def r104(p:yj)(b:List Int):yu E (dL E) 104 [ye p,ya b]=some (.fn 123 [.iptr [ya b],.iptr (ye p).cellsL]):=by
 refine zg c104 (by simp) ?_
 conv in t104=>reduce;dsimp[ai]
 simp[t104,n104]
def y9n(v:Var)(n:Int):List (Int × Use):=v.leaves.flatMap fun leaf=>(y4r v n).map fun u=>(leaf,u)
def y3v:List Var->List Int->List (Int × Use)
 |v::vs,n::ns=>y9n v n++y3v vs ns
 |_,_=>[]
def i123(p:yj)(b:List Int)(S:y19 p)(hb:b.length<=20)(ok:OkP p)(okb:OkB p b)(l:Nat)(J:List (Int × Use)->List Obj->Prop)(Fin:List Obj->Prop)
  (hext:∀ rem hp o,J rem hp->J rem (hp++[o]))
  (hy:∀ x rem hp,J (x::rem) hp->∃ t hp',y3d (dL E) l [dI x.1,y51 x.2] hp=some (.bool t,hp')/\(t=true->J rem hp')/\(t=false->Fin hp')) {hp:List Obj}
  (h0:J (y3v p.vars b) hp) :
  ∃ d hp',y1j E (dL E) 123 [.yld l,.iptr [ya b],.iptr (ye p).cellsL] hp=some (d,hp')/\(J [] hp'\/Fin hp'):=by
 refine z1j c123 (R:=fun _ hp'=>J [] hp'\/Fin hp') (by simp) ?_
 conv in t123=>reduce;dsimp[ai]
 have s3:=S.vars;have hbl:=okb.len;simp[t123,n123];refine zo b.length (fun i env hp=>∃(x3 x4 x5 x6 x10 x11 x12 x13 x14 x15 x16 x17 x18 x19 x20 x21:D),env=[.yld l,.iptr [ya b],.iptr (ye p).cellsL,x3,x4,x5,x6,ya b,dI b.length,dI i,x10,x11,x12,x13,x14,x15,x16,x17,x18,x19,x20,x21] /\
  J (y3v (p.vars.drop i) (b.drop i)) hp) 0 (by omega) ⟨_,_,_,_,_,_,_,_,_,_,_,_,_,_,_,_,rfl,by simpa using h0⟩ ?_
 rintro i env hp hi ⟨x3,x4,x5,x6,x10,x11,x12,x13,x14,x15,x16,x17,x18,x19,x20,x21,rfl,hJ⟩
 by_cases hlt:i<b.length
 rotate_left
 ·have:i=b.length:=by omega
  subst this;have:y3v (p.vars.drop b.length) (b.drop b.length)=[]:=by rw[bv];cases p.vars.drop b.length <;> rfl
  rw[this]at hJ;simp[hJ]
 have hi':i<p.vars.length:=by omega
 have okv:=ok.vars _ (av hi');have hw:=okb.each i hlt hi';rw[zh hlt,zh hi']at hJ;obtain⟨m,hm⟩:∃ m:Nat,b[i]=m:=⟨b[i].toNat,by unfold wi at hw;omega⟩
 have hm':m<p.vars[i].choices.length:=by unfold wi at hw;omega
 have hus:y4r p.vars[i] b[i]=p.vars[i].choices[m].uses:=by rw[hm];simp[y4r,hm']
 have l1:=S.leaves _ (av hi');have l3:=S.uses _ (av hi') _ (av hm');obtain⟨us,hus'⟩:∃ us,us=p.vars[i].choices[m].uses:=⟨_,rfl⟩;obtain⟨rest,hrest⟩:∃ rest,rest=y3v (p.vars.drop (i+1)) (b.drop (i+1)):=⟨_,rfl⟩;simp only[y3v,y9n,hus,<- hus',<- hrest]at hJ;simp[hlt,hi',hm];refine zo p.vars[i].leaves.length (fun j env hp=>∃(x5 x6 x10 x14 x15 x16 x17 x18 x19 x20 x21:D),env=[.yld l,.iptr [ya b],.iptr (ye p).cellsL,dI i,dI m,x5,x6,ya b,dI b.length,dI i,x10,ya p.vars[i].leaves,dI p.vars[i].leaves.length,dI j,x14,x15,x16,x17,x18,x19,x20,x21] /\
  J (((p.vars[i].leaves.drop j).flatMap fun leaf=>us.map fun u=>(leaf,u))++rest) hp) 0 (by omega) ⟨_,_,_,_,_,_,_,_,_,_,_,rfl,by simpa using hJ⟩ ?_
 rintro j env hp hj ⟨x5,x6,x10,x14,x15,x16,x17,x18,x19,x20,x21,rfl,hJ⟩
 by_cases hlt2:j<p.vars[i].leaves.length
 rotate_left
 ·have:j=p.vars[i].leaves.length:=by omega
  subst this;simp only[bv,List.flatMap_nil,bn]at hJ;rw[hrest]at hJ;simp[hlt,ze hlt (by omega),hJ]
 rw[zh hlt2]at hJ;obtain⟨rest2,hrest2⟩:∃ rest2,rest2=((p.vars[i].leaves.drop (j+1)).flatMap fun leaf=>us.map fun u=>(leaf,u))++rest:=⟨_,rfl⟩
 simp only[bm,bi,<- hrest2]at hJ;simp[hlt2,hi',hm',<- hus'];refine zo us.length (fun k env hp=>∃(x6 x10 x14 x18 x19 x20 x21:D),env=[.yld l,.iptr [ya b],.iptr (ye p).cellsL,dI i,dI m,dI p.vars[i].leaves[j],x6,ya b,dI b.length,dI i,x10,ya p.vars[i].leaves,dI p.vars[i].leaves.length,dI j,x14,.imm .none (us.map y51),dI us.length,dI k,x18,x19,x20,x21] /\
  J ((us.drop k).map (fun u=>(p.vars[i].leaves[j],u))++rest2) hp) 0 (by omega) ⟨_,_,_,_,_,_,_,rfl,by simpa using hJ⟩ ?_
 rintro k env hp hk ⟨x6,x10,x14,x18,x19,x20,x21,rfl,hJ⟩;rw[<- hus']at l3
 by_cases hlt3:k<us.length
 rotate_left
 ·have:k=us.length:=by omega
  subst this;simp only[bv,aO,bn]at hJ;rw[hrest2]at hJ;simp[hlt2,ze hlt2 (by omega),hJ]
 rw[zh hlt3]at hJ;simp only[al,aG]at hJ;obtain⟨t,hp2,hy1,hy2,hy3⟩:=hy _ _ _ (hext _ _ (.cells (y51 us[k]).cellsL) hJ);simp at hy1;cases t with
 |true=>have hJ2:=hy2 rfl;simp only[List.map_drop]at hJ2;simp[hlt3,z1i,z34,hy1,ze hlt3 (by omega),hJ2]
 |false=>have hF:=hy3 rfl;simp[hlt3,z1i,z34,hy1,hF]
def yej{a:Cell}:ltC a a=false:=by simp[ltC]
def zrj{a b c:Cell}(h:ltC a b=true)(h':ltC b c=true):ltC a c=true:=by
 unfold ltC at *
 cases ha:a.airport <;> cases hb:b.airport <;> cases hc:c.airport <;> simp[ha,hb,hc]at h h' ⊢ <;> (repeat' split at h) <;> (repeat' split at h') <;> (repeat' split) <;> omega
def zs9{l:List Cell}(h:∀(i:Nat) (hi:i+1<l.length),ltC l[i] l[i+1]=true):∀(j i:Nat) (hj:j<l.length) (hij:i<j),ltC (l[i]'(by omega)) l[j]=true
 |j+1,i,hj,hij=>by
  rcases eQ.1 hij with h1 | rfl
  ·exact zrj (zs9 h j i (by omega) h1) (h j hj)
  ·exact h i hj
def yf2{l:List Cell}(h:∀(i:Nat) (hi:i+1<l.length),ltC l[i] l[i+1]=true)(j i:Nat)(hj:j<l.length)(hij:i<j):l[i]'(by omega) ≠ l[j]:=by intro e;have:=zs9 h j i hj hij;rw[e,yej]at this;cases this
def yc1(x:Cell × Nat):D × D:=(y1z x.1,dI x.2)
def zlx{c x:Cell}:D.eqb (y1z c) (y1z x)=some (decide (c=x)):=by simp[D.eqb,eqL,y2a];cases c;cases x;simp[iy]
def zhg{c:Cell}:∀{l:List Cell} {n:Nat},y17 (y1z c) ((l.zipIdx n).map yc1)=some (if c ∈ l then some (dI (atS c l n))else none)
 |[],n=>rfl
 |x::l,n=>by
  simp only[jv,al,y17,yc1,zlx]
  by_cases h:c=x
  ·simp[h,atS]
  ·have h' : ¬ x=c:=fun e=>h e.symm
   simp only[h,decide_false,aA,false_or,atS,if_neg h'];exact zhg
def zkr{c:Cell}{v:Nat}:∀{es:List (Cell × Nat)},c ∉ es.map (·.1)->y1n (y1z c) (dI v) (es.map yc1)=some ((es++[(c,v)]).map yc1)
 |[],_=>rfl
 |x::es,h=>by
  simp only[al,aA,not_or]at h;simp only[al,y1n,yc1,zlx,h.1,decide_false];have ih:=zkr (v:=v) h.2;rw[ih]
  rfl
end Dv
namespace Dv
def zf2{A:Type}{hp r:List A}{i:Nat}{o:A}(h:hp[i]? = some o):(hp++r)[i]? = some o:=by rw[aD (ae.1 h).1,h]
def zzj{A:Type}{hp:List A}{i:Nat}{o:A}(h:hp[i]? = some o):i<hp.length:=(ae.1 h).1
def zh9{A:Type}{hp:List A}{i j:Nat}{x o:A}(h:hp[i]? = some o)(hn:j ≠ i):(hp.set j x)[i]? = some o:=by rw[bo hn,h]
def zsl{A:Type}{hp:List A}{i:Nat}{x:A}(h:i<hp.length):(hp.set i x)[i]? = some x:=by rw[aR h]
def z1o{A:Type}{hp r:List A}{k:Nat}:(hp++r)[hp.length+k]? = r[k]?:=by rw[List.getElem?_append_right (by omega)];congr 1;omega
def z40{A:Type}{hp r:List A}{k:Nat}{x:A}:(hp++r).set (hp.length+k) x=hp++r.set k x:=by rw[et _ _ (by omega)];congr 2;omega
def z1d{A:Type}{hp r:List A}{i:Nat}{x:A}(h:i<hp.length):(hp++r).set i x=hp.set i x++r:=List.set_append_left _ _ h
def At(hp:List Obj)(i:Nat)(o:Obj):Prop:=hp[i]? = some o
def At.eq{hp:List Obj}{i:Nat}{o:Obj}(h:At hp i o):hp[i]? = some o:=h
def At.app{hp r:List Obj}{i:Nat}{o:Obj}(h:At hp i o):At (hp++r) i o:=zf2 h
def At.appE{hp r:List Obj}{i:Nat}{o:Obj}(h:At hp i o):(hp++r)[i]? = some o:=zf2 h
def At.ne{hp:List Obj}{i j:Nat}{x o:Obj}(h:At hp i o)(hn:j ≠ i):At (hp.set j x) i o:=zh9 h hn
def At.lt{hp:List Obj}{i:Nat}{o:Obj}(h:At hp i o):i<hp.length:=zzj h
def At.self{hp:List Obj}{i:Nat}{o:Obj}(h:i<hp.length):At (hp.set i o) i o:=zsl h
def zli{A:Type}{hp r:List A}{k m:Nat}:(hp++r)[hp.length+k+m]? = r[k+m]?:=by rw[dq];exact z1o
def zko{A:Type}{hp r:List A}{k m:Nat}{x:A}:(hp++r).set (hp.length+k+m) x=hp++r.set (k+m) x:=by rw[dq];exact z40
def y47(C:Nat)(hp:List Obj)(sp:yt)(n sz:Nat):Prop:=sp=.exact \/ ∃ k,sp=.tok k/\C<=k/\At hp k (.tok (n*sz) sz)
def y2n(i C:Nat)(hp hp':List Obj):Prop:=∀ J:List Obj->Prop,(∀ hp r,J hp->J (hp++r))->(∀ hp j o,J hp->(j=i\/C<=j)->J (hp.set j o))->J hp->J hp'
def y2n.at{i C:Nat}{hp hp':List Obj}(h:y2n i C hp hp'){j:Nat}{o:Obj}(hj:j ≠ i)(hC:j<C)(g:At hp j o):At hp' j o:=
 h (fun hp=>At hp j o) (fun _ _ h=>h.app) (fun _ k _ h hk=>h.ne (by rcases hk with rfl | hk;exact fun e=>hj e.symm;omega)) g
def y2n.refl{i C:Nat}{hp:List Obj}:y2n i C hp hp:=fun _ _ _ h=>h
def y2n.trans{i C:Nat}{hp hp' hp'':List Obj}(h:y2n i C hp hp')(h':y2n i C hp' hp''):y2n i C hp hp'':=fun J h1 h2 h3=>h' J h1 h2 (h J h1 h2 h3)
def y2n.app{i C:Nat}{hp r:List Obj}:y2n i C hp (hp++r):=fun _ h1 _ h3=>h1 _ _ h3
def y2n.set{i C j:Nat}{o:Obj}{hp:List Obj}(hj:j=i\/C<=j):y2n i C hp (hp.set j o):=fun _ _ h2 h3=>h2 _ _ _ h3 hj
end Dv
namespace Dv
attribute [local simp] ah depth y1z y51 ya y15 y4p ye y2p y2e Ret
attribute [local congr] z1f z1g z16 z12 zx z17 zw
def yah(p:yj)(rows:List (List Int))(x:Int × Use):List (List Int):=rows.set x.1.toNat (y80 p (rows.getD x.1.toNat []) x.2)
def ybg(p:yj)(b:List Int):List (List Int):=(y3v p.vars b).foldl (yah p) (ah p.capacity.length (ah p.cells.length 0))
def zbw:∀{l:List D},y31 1 false l.length l=some l
 |[]=>rfl
 |x::r=>by simp only[ar,y31,y2d,List.getElem?_cons_zero,ym,List.drop_succ_cons,dz,zbw]
def ycd(p:yj)(x:Int × Use):Prop:=(0<=x.1/\x.1.toNat<p.capacity.length)/\x.2.cell ∈ p.cells
def zf0{p:yj}(ok:OkP p):∀{vs:List Var} {b:List Int},(∀ v,v ∈ vs->v ∈ p.vars)->∀ x,x ∈ y3v vs b->ycd p x
 |[],_,_,x,h=>by simp[y3v]at h
 |_::_,[],_,x,h=>by simp[y3v]at h
 |v::vs,n::ns,hv,x,h=>by
  simp only[y3v,aB]at h;rcases h with h | h
  ·simp only[y9n,List.mem_flatMap,aL]at h;obtain⟨leaf,hl,u,hu,rfl⟩:=h;have okv:=ok.vars v (hv v (by simp))
   have h1:=okv.leaves leaf hl;unfold wi at h1;refine⟨by simp only;omega,?_⟩
   unfold y4r at hu
   by_cases hn:n.toNat<v.choices.length
   ·simp only[af,ac hn,aX]at hu;exact((okv.choices _ (av hn)).uses _ hu).known
   ·simp[af,aU (dH hn)]at hu
  ·exact zf0 ok (fun w hw=>hv w (by simp[hw])) x h
structure y4z(hp:List Obj)(rp c:Nat)(m:Nat)(rows:List (List Int)):Prop where
 ptr:hp[rp]? = some (.cells ((bD rows.length).map fun j=>.sl (c+8*j) 0 m 1 false true))
 row:∀(j:Nat) (h:j<rows.length),hp[c+8*j]? = some (.cells (rows[j].map dI))
 len:∀(j:Nat) (h:j<rows.length),rows[j].length=m
def y4z.app{hp r:List Obj}{rp c m:Nat}{rows:List (List Int)}(R:y4z hp rp c m rows):y4z (hp++r) rp c m rows:=
 ⟨zf2 R.ptr,fun j h=>zf2 (R.row j h),R.len⟩
def y4z.other{hp:List Obj}{rp c m k:Nat}{o:Obj}{rows:List (List Int)}(R:y4z hp rp c m rows)(h1:k ≠ rp)(h2:∀ j,j<rows.length->k ≠ c+8*j):y4z (hp.set k o) rp c m rows:=
 ⟨zh9 R.ptr h1,fun j h=>zh9 (R.row j h) (h2 j h),R.len⟩
def y4z.upd{hp:List Obj}{rp c m k:Nat}{r:List Int}{rows:List (List Int)}(R:y4z hp rp c m rows)(hk:k<rows.length)(hr:r.length=m)(hc:rp<c):y4z (hp.set (c+8*k) (.cells (r.map dI))) rp c m (rows.set k r):=by
 refine⟨by rw[bq];exact zh9 R.ptr (by omega),fun j h=>?_,fun j h=>?_⟩
 ·rw[bq]at h
  by_cases e:k=j
  ·subst e;rw[zsl (zzj (R.row k hk))];simp
  ·rw[zh9 (R.row j h) (by omega)]
   simp[iN e]
 ·rw[bq]at h
  by_cases e:k=j
  ·subst e;simp[hr]
  ·simp[iN e,R.len j h]
def zss{hp:List Obj}{n rp c m:Nat}{rows:List (List Int)}(R:y4z hp rp c m rows) :
  y1k (frz hp (n+2)) ((bD rows.length).map fun j=>.sl (c+8*j) 0 m 1 false true)=some (rows.map ya):=by
 have key:∀(k:Nat),k<=rows.length->y1k (frz hp (n+2)) ((List.range' (rows.length - k) k).map fun j=>.sl (c+8*j) 0 m 1 false true)=some ((rows.drop (rows.length - k)).map ya):=by
  intro k
  induction k with
  |zero=>intro _;simp
  |succ k ih=>
   intro hk;have hlt:rows.length - (k+1)<rows.length:=by omega
   have e1:rows.length - (k+1)+1=rows.length - k:=by omega
   rw[List.range'_succ,e1,al,z1k,ih (by omega),zh hlt,e1]
   have h1:=R.row _ hlt;have h2:=R.len _ hlt;rw[zlk,h1];simp only[z6y,zc,dz,<- h2,za3,z5x,aq,al]
 have:=key rows.length (aj _);simpa[List.range_eq_range']using this
def zsz{n:Nat}:yr (ah n (.imm .exact []))=ah n (.imm .exact []):=by
 induction n with
 |zero=>rfl
 |succ n ih=>rw[eV];simp only[yr,bm]at ih ⊢;rw[ih];rfl
def y7u(c m n i:Nat):List D:=((bD i).map fun j=>.sl (c+8*j) 0 m 1 false true)++ah (n - i) (.imm .exact [])
def zsg{c m n i:Nat}(h:i<=n):(y7u c m n i).length=n:=by simp[y7u];omega
def zsf{c m n i:Nat}(h:i<n):(y7u c m n i).set i (.sl (c+8*i) 0 m 1 false true)=y7u c m n (i+1):=by
 unfold y7u;rw[et _ _ (by simp),fk,bp,bi]
 congr 1;obtain⟨k,hk⟩:∃ k,n - i=k+1:=⟨n - i - 1,by omega⟩
 rw[hk,show n - (i+1)=k from by omega,eV]
 simp
def r68(p:yj)(b:List Int)(S:y19 p)(hb:b.length<=20)(ok:OkP p)(okb:OkB p b):yu E (dL E) 68 [ye p,ya b]=some (.imm .none ((ybg p b).map ya)):=by
 refine zg c68 (by simp) ?_
 conv in t68=>reduce;dsimp[ai]
 have s1:=S.cells;have s2:=S.cap;simp[t68,n68];refine zo p.cells.length
  (fun i env hp=>∃(x5 x6 x7 x8 x9 x10 x11 x15 x16 x17 x18 x19 x20 x21 x22 x23 x24 x25 x26 x27 x28 x29:D) (h:List Obj),env=[ye p,ya b,.loc 0 0,.imm .exact [],.loc 2 0,x5,x6,x7,x8,x9,x10,x11,.imm .none (p.cells.map y1z),dI p.cells.length,dI i,x15,x16,x17,x18,x19,x20,x21,x22,x23,x24,x25,x26,x27,x28,x29]/\hp=.cells (ye p).cellsL :: .map ((p.cells.take i).zipIdx.map yc1) :: .cells [.map (some 1)]::h)
  0 (by omega) ⟨_,_,_,_,_,_,_,_,_,_,_,_,_,_,_,_,_,_,_,_,_,_,_,rfl,rfl⟩ ?_
 rintro i env hp hi ⟨x5,x6,x7,x8,x9,x10,x11,x15,x16,x17,x18,x19,x20,x21,x22,x23,x24,x25,x26,x27,x28,x29,h,rfl,rfl⟩
 by_cases hlt:i<p.cells.length
 ·have hnew:p.cells[i] ∉ ((p.cells.take i).zipIdx).map (·.1):=by intro hm;rw[List.zipIdx_map_fst]at hm;obtain⟨j,hj,e⟩:=dD hm;simp at hj e;exact yf2 ok.incr i j hlt (by omega) e
  have hput:=zkr (v:=i) hnew;have hts:p.cells.take (i+1)=p.cells.take i++[p.cells[i]]:=by simp
  have hz:((p.cells.take (i+1)).zipIdx)=(p.cells.take i).zipIdx++[(p.cells[i],i)]:=by rw[hts,lw];simp[Nat.min_eq_left (Nat.le_of_lt hlt)]
  rw[<- hz]at hput;simp at hput;simp[hlt,z1i,z34,hput,ze hlt (by omega)]
 have hi':i=p.cells.length:=by omega
 subst hi';have hmb:(p.capacity.length:Int)*25<=17592186044416:=by omega
 have hmb2:(p.cells.length:Int)*9<=17592186044416:=by omega
 simp[yg,hmb,z1i,z34,zsz];obtain⟨c,hc⟩:∃ c,c=h.length+1+1+1+2+5:=⟨_,rfl⟩;obtain⟨rp,hrp⟩:∃ rp,rp=h.length+1+1+1:=⟨_,rfl⟩;obtain⟨sp,hsp⟩:∃ sp,sp=h.length+1+1+1+1:=⟨_,rfl⟩;refine zo p.capacity.length
  (fun i env hp=>∃(x5 x6 x8 x9 x10 x11 x12 x13 x14 x15 x16 x17 x18 x21 x22 x23 x24 x25 x26 x27 x28 x29:D) ,env=[ye p,ya b,.loc 0 0,.imm .exact [],.loc 2 0,x5,x6,.loc sp 0,x8,x9,x10,x11,x12,x13,x14,x15,x16,x17,x18,dI p.capacity.length,dI i,x21,x22,x23,x24,x25,x26,x27,x28,x29] /\
   hp.length+5=c+8*i/\At hp 0 (.cells (ye p).cellsL)/\At hp 1 (.map (p.cells.zipIdx.map yc1))/\At hp 2 (.cells [.map (some 1)]) /\
   At hp sp (.cells [.sl rp 0 p.capacity.length 1 false true])/\At hp rp (.cells (y7u c p.cells.length p.capacity.length i)) /\
   ∀ j,j<i->At hp (c+8*j) (.cells (ah p.cells.length (dI 0))))
  0 (by omega) ⟨_,_,_,_,_,_,_,_,_,_,_,_,_,_,_,_,_,_,_,_,_,_,by rw[hsp];rfl,by simp[hc],rfl,rfl,rfl,by rw[hsp,hrp];simp[At],by rw[hrp];simp[y7u,At],by omega⟩ ?_
 rintro i env hp hi ⟨x5,x6,x8,x9,x10,x11,x12,x13,x14,x15,x16,x17,x18,x21,x22,x23,x24,x25,x26,x27,x28,x29,rfl,hlen,g0,g1,g2,gs,gr,grow⟩
 by_cases hlt2:i<p.capacity.length
 ·have l0:=g0.lt;have lr:=gr.lt;have ls:=gs.lt;have hi1:i+1<=p.capacity.length:=hlt2;have hh:=zsg (c:=c) (m:=p.cells.length) hi;simp[hlt2,↓g0.appE,↓gs.appE,↓gr.appE,yg,hmb2,z40,z1d lr,hh,z1o,ze hlt2 (by omega),hi1,hlen,zsf hlt2]
  have hl2:2<hp.length:=g2.lt;have hcl:c+8*i=hp.length+5:=hlen.symm;refine⟨by omega,(g0.ne (by omega)).app,(g1.ne (by omega)).app,(g2.ne (by omega)).app,(gs.ne (by omega)).app,(At.self lr).app,fun j hj=>?_⟩
  by_cases hj':j<i
  ·exact((grow j hj').ne (by omega)).app
  ·have:j=i:=by omega
   subst this;rw[hcl];have e:hp.length+5=(hp.set rp (.cells (y7u c p.cells.length p.capacity.length (j+1)))).length+5:=by simp
   rw[e];exact z1o
 have hi2:i=p.capacity.length:=by omega
 subst hi2;have h104:=r104 p b;simp only[ye,ya]at h104;simp[g0.eq,h104];refine⟨123,_,rfl,?_⟩;intro L hL hcb;have hl2:2<hp.length:=g2.lt;obtain⟨l,hl⟩:∃ l,l=hp.length:=⟨_,rfl⟩;rw[<- hl]at hcb ⊢;obtain⟨J,hJ⟩:∃ J:List (Int × Use)->List Obj->Prop,J=fun rem hp'=>∃ rows:List (List Int),rows.length=p.capacity.length/\y4z hp' rp c p.cells.length rows/\At hp' 0 (.cells (ye p).cellsL) /\
  At hp' 1 (.map (p.cells.zipIdx.map yc1))/\At hp' 2 (.cells [.map (some 1)])/\At hp' sp (.cells [.sl rp 0 p.capacity.length 1 false true])/\At hp' l (L false none)/\(∀ x,x ∈ rem->ycd p x) /\
  rem.foldl (yah p) rows=ybg p b:=⟨_,rfl⟩
 have key:=i123 p b S hb ok okb l J (fun _=>False) (by
   rw[hJ];rintro rem hp' o ⟨rows,a1,a2,a3,a4,a5,a6,a7,a8,a9⟩;exact⟨rows,a1,a2.app,a3.app,a4.app,a5.app,a6.app,a7.app,a8,a9⟩) (by
   intro x rem hp1 hj;rw[hJ]at hj;obtain⟨rows,a1,a2,a3,a4,a5,a6,a7,a8,a9⟩:=hj;obtain⟨⟨hx0,hx1⟩,hx2⟩:=a8 x (by simp)
   obtain⟨leaf,u⟩:=x;obtain⟨k,rfl⟩:∃ k:Nat,leaf=k:=⟨leaf.toNat,by simp only at hx0;omega⟩
   simp only[bT]at hx1 hx2;have hkr:k<rows.length:=by omega
   have hat:=zzx (i:=0) hx2;obtain⟨n,hn⟩:∃ n:Nat,atS u.cell p.cells 0=n:=⟨(atS u.cell p.cells 0).toNat,by omega⟩
   have hnm:n<p.cells.length:=by omega
   have hfn:=zhg (c:=u.cell) (l:=p.cells) (n:=0);simp only[hx2,if_true,hn]at hfn;have hrl:=a2.len k hkr;have hnr:n<rows[k].length:=by omega
   have hn1:n+1<=rows[k].length:=hnr;have hl1:=a7.lt;have L0:=(a3.ne (j:=l) (x:=L true none) (by omega))
   have L1:=(a4.ne (j:=l) (x:=L true none) (by omega))
   have L2:=(a5.ne (j:=l) (x:=L true none) (by omega))
   have L3:=(a6.ne (j:=l) (x:=L true none) (by omega))
   have R1:=a2.other (k:=l) (o:=L true none) (by omega) (fun j hj=>by omega)
   have L4:At (hp1.set l (L true none)) rp _:=R1.ptr;have L5:At (hp1.set l (L true none)) (c+8*k) _:=R1.row k hkr;have LU:∀ r,(hp1.set l (L true none)++r)[hp1.length]? = r[0]?:=fun r=>by have:=z1o (hp:=hp1.set l (L true none)) (r:=r) (k:=0);simpa using this
   have L5l:=L5.lt;rw[a1]at L4;obtain⟨t,hp2,e1,e2⟩:=hcb [dI k,y51 u] hp1 (fun t hp'=>t=true/\J rem hp') rfl a7 (by
    simp[y23,a7.eq,z1d hl1,↓L0.appE,↓L1.appE,↓L2.appE,↓L3.appE,↓L4.appE,↓L5.appE,LU,hx1,hnm,hfn,z1d L5l,hnr,hn1,↓a7.appE];have hadd:(rows[k].map dI).set n (.int .i64 (aJ.wrap (rows[k][n]+u.places)))=(y80 p rows[k] u).map dI:=by unfold y80;rw[hn];simp[wr,hnr]
    rw[hadd];have S7:At ((hp1.set l (L true none)).set (c+8*k) (.cells ((y80 p rows[k] u).map dI))) l (L true none):=At.ne (At.self hl1) (by omega)
    refine⟨S7.app,?_⟩;rw[z1d S7.lt,hJ];have R2:=R1.upd (k:=k) (r:=y80 p rows[k] u) hkr (by rw[zmf,hrl]) (by omega)
    have R3:=R2.other (k:=l) (o:=L false none) (by omega) (fun j hj=>by rw[bq]at hj;omega)
    refine⟨rows.set k (y80 p rows[k] u),by simp[a1],R3.app,((L0.ne (by omega)).ne (by omega)).app,((L1.ne (by omega)).ne (by omega)).app,((L2.ne (by omega)).ne (by omega)).app,
     ((L3.ne (by omega)).ne (by omega)).app,(At.self S7.lt).app,fun x hx=>a8 x (by simp[hx]),?_⟩
    rw[<- a9,bS];congr 1;simp[yah,hkr])
   obtain⟨rfl,e3⟩:=e2;exact⟨true,hp2,e1,fun _=>e3,fun h=>by cases h⟩) (hp:=hp++[L false none]) (by
   rw[hJ];refine⟨ah p.capacity.length (ah p.cells.length 0),by simp,⟨?_,fun j h=>?_,fun j h=>by simp⟩,g0.app,g1.app,g2.app,gs.app,?_,zf0 ok (fun v hv=>hv),rfl⟩
   ·have:=gr.app (r:=[L false none]);simpa[At,y7u]using this
   ·simp only[List.length_replicate]at h;have:=(grow j h).app (r:=[L false none]);simpa[At]using this
   ·rw[hl];simp[At])
 obtain⟨d,hp',h1,h2⟩:=key;rcases h2 with h2 | h2
 rotate_left
 ·exact h2.elim
 rw[hJ]at h2;obtain⟨rows,a1,a2,a3,a4,a5,a6,a7,a8,a9⟩:=h2;simp only[gQ]at a9;subst a9;refine⟨d,hp',h1,.inl ⟨a7,?_⟩⟩;have b6:=a6.ne (j:=l) (x:=.dead) (by omega)
 have b2:=a2.other (k:=l) (o:=.dead) (by omega) (fun j hj=>by omega)
 have hfr:=zss (n:=9) b2;rw[a1]at hfr;have hp2:=b2.ptr;rw[a1]at hp2;have hck:=zbw (l:=bP (fun j=>D.sl (c+8*j) 0 p.cells.length 1 false true) (bD p.capacity.length))
 rw[List.length_map,List.length_range]at hck;simp[b6.eq,hp2,hck,hfr]
def zmh{p:yj}{k:Nat}:∀{l:List (Int × Use)} {rows:List (List Int)},(∀ x,x ∈ l->0<=x.1/\x.1.toNat<rows.length)->(h:k<rows.length) ->
  (l.foldl (yah p) rows)[k]? = some (((l.filter fun x=>x.1 == (k:Int)).map (·.2)).foldl (y80 p) rows[k])
 |[],rows,_,h=>by simp[h]
 |x::l,rows,hl,h=>by
  obtain⟨h0,h1⟩:=hl x (by simp)
  have hl':∀ y,y ∈ l->0<=y.1/\y.1.toNat<(yah p rows x).length:=fun y hy=>by
   have:=hl y (by simp[hy])
   simpa[yah]using this
  have h':k<(yah p rows x).length:=by simpa[yah]using h
  rw[bS,zmh hl' h']
  by_cases e:x.1=(k:Int)
  ·have e':x.1.toNat=k:=by omega
   rw[List.filter_cons_of_pos (by simp[e])]
   simp only[al,bS,yah,e'];simp[h]
  ·have e':x.1.toNat ≠ k:=by omega
   rw[List.filter_cons_of_neg (by simp[e])]
   simp only[yah];rw[iN e']
def zbo{k:Int}{us:List Use}:∀{ls:List Int},ls.Nodup->((ls.flatMap fun leaf=>us.map fun u=>(leaf,u)).filter fun x=>x.1 == k).map (·.2)=if ls.contains k then us else[]
 |[],_=>rfl
 |a::ls,h=>by
  rw[List.nodup_cons]at h;rw[bm,gK,bp,zbo h.2]
  by_cases e:a=k
  ·subst e;have h1:ls.contains a=false:=by simpa using h.1
   have h2:((us.map fun u=>(a,u)).filter fun x=>x.1 == a)=us.map fun u=>(a,u):=by rw[List.filter_eq_self];intro x hx;obtain⟨u,_,rfl⟩:=aL.1 hx;simp
   have h3:(bP ((fun x:Int × Use=>x.2) ∘ fun u=>(a,u)) us)=us:=by
    have:((fun x:Int × Use=>x.2) ∘ fun u=>(a,u))=id:=rfl
    rw[this,List.map_id]
   rw[h2,h1,List.map_map,h3];simp
  ·have h2:((us.map fun u=>(a,u)).filter fun x=>x.1 == k)=[]:=by rw[List.filter_eq_nil_iff];intro x hx;obtain⟨u,_,rfl⟩:=aL.1 hx;simpa using e
   have h3:(a::ls).contains k=ls.contains k:=by
    have h4 : ¬ k=a:=fun h=>e h.symm
    by_cases h5:k ∈ ls <;> simp[h4,h5]
   rw[h2,h3];simp
def zh3{l:List Int}(h:∀(i:Nat) (hi:i+1<l.length),l[i]<l[i+1]):l.Nodup:=by
 rw[List.nodup_iff_pairwise_ne,List.pairwise_iff_getElem];intro i j hi hj hij;have h1:=zf1 h j (i+1) hj hij;have h2:=h i (by omega)
 omega
def z9g{p:yj}(ok:OkP p){k:Int}:∀{vs:List Var} {b:List Int},(∀ v,v ∈ vs->v ∈ p.vars)->((y3v vs b).filter fun x=>x.1 == k).map (·.2)=y32 vs b k
 |[],_,_=>by simp[y3v,y32]
 |_::_,[],_=>by simp[y3v,y32]
 |v::vs,n::ns,hv=>by simp only[y3v,y9n,y32,gK,bp];rw[zbo (zh3 (ok.vars v (hv v (by simp))).incr),z9g ok (fun w hw=>hv w (by simp[hw]))]
def zxq{p:yj}{b:List Int}:(ybg p b).length=p.capacity.length:=by
 unfold ybg;have:∀(l:List (Int × Use)) (rows:List (List Int)),(l.foldl (yah p) rows).length=rows.length:=by
  intro l
  induction l with
  |nil=>intro rows;rfl
  |cons x l ih=>intro rows;rw[bS,ih];simp[yah]
 rw[this];simp
def zm2{p:yj}(ok:OkP p){b:List Int}{k:Nat}(h:k<p.capacity.length):(ybg p b)[k]? = some (dem p b k):=by
 unfold ybg;rw[zmh (fun x hx=>by have:=(zf0 ok (fun v hv=>hv) x hx).1;simpa using this) (by simpa using h)]
 rw[z9g ok (fun v hv=>hv)]
 simp[dem]
open Classical in
noncomputable def ygl(p:yj)(b:List Int)(leaf:Int):D:=if bk p b 270=0 then(if 0<=leaf/\leaf<=p.capacity.length - 1 then .tup [ya (dem p b leaf),dI 0]else .tup [ya [],dI 270])else .tup [ya [],dI 270]
def zy4{p:yj}{b:List Int}{e:Int}(h0:bk p b e=0)(he:e ≠ 0):OkP p/\OkB p b:=by
 unfold bk at h0
 by_cases h1:OkP p
 ·by_cases h2:OkB p b
  ·exact⟨h1,h2⟩
  ·simp[h1,h2]at h0;exact absurd h0 he
 ·simp[h1]at h0
def zma{p:yj}{b:List Int}{e:Int}(h1:OkP p)(h2:OkB p b):bk p b e=0:=by simp[bk,h1,h2]
def zu9{p:yj}{b:List Int}(h:bk p b 270 ≠ 0):bk p b 270=270:=by
 unfold bk at h ⊢
 by_cases h1:OkP p
 ·by_cases h2:OkB p b
  ·simp[h1,h2]at h
  ·simp[h1,h2]
 ·simp[h1]
def r14(p:yj)(b:List Int)(leaf:Int)(S:y19 p)(hb:b.length<=20):yu E (dL E) 14 [ye p,ya b,dI leaf]=some (ygl p b leaf):=by
 refine zg c14 (by simp) ?_
 have h66:=r66 p b S hb;have s2:=S.cap;have hcw:=za (n:=(p.capacity.length:Int) - 1) ⟨by omega,by omega⟩
 simp only[ye,ya]at h66;simp[t14,n14,h66]
 by_cases h0:bk p b 270=0
 rotate_left
 ·have e:=zu9 h0;simp[e,ygl]
 obtain⟨ok,okb⟩:=zy4 h0 (by decide)
 have h68:=r68 p b S hb ok okb;simp only[ye,ya]at h68
 by_cases h1:0<=leaf/\leaf<=p.capacity.length - 1
 rotate_left
 ·simp[h0,ygl,r67,hcw,h1]
 obtain⟨k,rfl⟩:∃ k:Nat,leaf=k:=⟨leaf.toNat,by omega⟩
 have hk:k<p.capacity.length:=by omega
 have hg:=zm2 ok (b:=b) hk;have h1':=h1.2;simp[h0,ygl,r67,hcw,h1',h68,hg]
def mn(a b:Int):Int:=if b<a then b else a
def mx(a b:Int):Int:=if a<b then b else a
def y8x(a c:y1p):y1p:=⟨mn a.delay c.delay,mn a.cost c.cost,mn a.changes c.changes,a.uses⟩
def r122(c0:y1p)(cs:List y1p)(hl:cs.length<=1000):yu E (dL E) 122 [y15 c0,.imm .none (cs.map y15)]=some (y15 (cs.foldl y8x c0)):=by
 refine zg c122 (by simp) ?_
 conv in t122=>reduce;dsimp[ai]
 generalize hB:cs.foldl y8x c0=R;simp[t122,n122];refine zo cs.length (fun i env hp=>∃(x4 x8 x9:D) (a:y1p) (h:List Obj) (z:List D),env=[y15 c0,.imm .none (cs.map y15),.loc 0 0,.loc 1 0,x4,.imm .none (cs.map y15),dI cs.length,dI i,x8,x9] /\
  hp=.cells (y15 a).cellsL :: .cells z::h/\z.length=4/\(cs.drop i).foldl y8x a=R) 0 (by omega) ⟨_,_,_,c0,_,_,rfl,rfl,rfl,by simpa using hB⟩ ?_
 rintro i env hp hi ⟨x4,x8,x9,a,h,z,rfl,rfl,hz,hR⟩;obtain⟨z0,z1,z2,z3,rfl⟩:=yjv hz
 by_cases hlt:i<cs.length
 ·rw[zh hlt,bS]at hR;simp[hlt,z1i,z34,ze hlt (by omega)]
  exact⟨y8x a cs[i],_,_,⟨⟨rfl,rfl,rfl,rfl⟩,rfl,rfl⟩,rfl,hR⟩
 ·have:i=cs.length:=by omega
  subst this;simp only[bv,gQ]at hR;subst hR;simp
def zmx{A:Type}{f:A->D}{l:List A}(h:1<=l.length)(hs:y2u 4 (l.map f)=true):y13 E 16 (.imm .none (l.map f)) (some (.int .i64 1)) none none=some (.imm .none ((l.drop 1).map f)):=by
 have e:(l.map f).length=l.length:=by simp
 simp[y13,bnd,y27,e,h,hs];rw[bd (by simp)]
def zjn{l:List y1p}:y2u 4 (l.map y15)=true:=by cases l <;> rfl
def pick(v:Var):Option Int->y1p
 |some n=>v.choices.getD n.toNat ⟨0,0,0,[]⟩
 |none=>(v.choices.drop 1).foldl y8x (v.choices.getD 0 ⟨0,0,0,[]⟩)
def y30:List Var->List Int->List (Int × y1p)
 |[],_=>[]
 |v::vs,b=>(v.leaves.length,pick v b.head?)::y30 vs b.tail
def zzo{A:Type}{J:List A->List Obj->Prop}(hext:∀ rem hp r,J rem hp->J rem (hp++r)){rem:List A}{hp r H:List Obj}(h:hp++r=H)(hJ:J rem hp):J rem H:=h ▸ hext _ _ _ hJ
def r63(p:yj)(b:List Int):yu E (dL E) 63 [ye p,ya b]=some (.fn 102 [.iptr (ye p).cellsL,.iptr [ya b]]):=by
 refine zg c63 (by simp) ?_
 conv in t63=>reduce;dsimp[ai]
 simp[t63,n63]
def i102(p:yj)(b:List Int)(S:y19 p)(hb:b.length<=20)(ok:OkP p)(okb:OkB p b)(l:Nat)(J:List (Int × y1p)->List Obj->Prop)(Fin:List Obj->Prop)
  (hext:∀ rem hp r,J rem hp->J rem (hp++r))
  (hy:∀ x rem hp,J (x::rem) hp->∃ t hp',y3d (dL E) l [dI x.1,y15 x.2] hp=some (.bool t,hp')/\(t=true->J rem hp')/\(t=false->Fin hp')) {hp:List Obj}
  (h0:J (y30 p.vars b) hp) :
  ∃ d hp',y1j E (dL E) 102 [.yld l,.iptr (ye p).cellsL,.iptr [ya b]] hp=some (d,hp')/\(J [] hp'\/Fin hp'):=by
 refine z1j c102 (R:=fun _ hp'=>J [] hp'\/Fin hp') (by simp) ?_
 conv in t102=>reduce;dsimp[ai]
 have s3:=S.vars;have hbl:=okb.len;simp[t102,n102];refine zo p.vars.length (fun i env hp=>∃(x3 x4 x5 x9 x10 x11 x12 x13 x14:D) ,env=[.yld l,.iptr (ye p).cellsL,.iptr [ya b],x3,x4,x5,.imm .none (p.vars.map y4p),dI p.vars.length,dI i,x9,x10,x11,x12,x13,x14] /\
  J (y30 (p.vars.drop i) (b.drop i)) hp) 0 (by omega) ⟨_,_,_,_,_,_,_,_,_,rfl,by simpa using h0⟩ ?_
 rintro i env hp hi ⟨x3,x4,x5,x9,x10,x11,x12,x13,x14,rfl,hJ⟩
 by_cases hlt:i<p.vars.length
 rotate_left
 ·have:i=p.vars.length:=by omega
  subst this;simp only[bv,y30]at hJ;simp[hJ]
 have okv:=ok.vars _ (av hlt);have l2:=S.choices _ (av hlt);rw[zh hlt]at hJ;simp only[y30,nj,mU]at hJ;have hone:=okv.one;have hc0:0<p.vars[i].choices.length:=by omega
 obtain⟨tl,htl⟩:∃ tl,tl=p.vars[i].choices.drop 1:=⟨_,rfl⟩;have h122:=r122 p.vars[i].choices[0] tl (by rw[htl];simp;omega)
 simp only[y15]at h122;have hsl:=zmx (l:=p.vars[i].choices) (by omega) zjn
 rw[<- htl]at hsl
 by_cases hib:i<b.length
 ·have hw:=okb.each i hib hlt;obtain⟨m,hm⟩:∃ m:Nat,b[i]=m:=⟨b[i].toNat,by unfold wi at hw;omega⟩
  have hm':m<p.vars[i].choices.length:=by unfold wi at hw;omega
  rw[ac hib,hm]at hJ;simp only[pick,bT,af,ac hm',aX]at hJ;simp[hlt,↓z1o,↓z40,↓zli,↓zko,hc0,h122,hsl,hib,hm,hm'];generalize hH:hp++_=H;have hJH:=zzo hext hH hJ;obtain⟨t,hp2,hy1,hy2,hy3⟩:=hy _ _ _ hJH;simp at hy1;cases t with
  |true=>have hJ2:=hy2 rfl;simp[hy1,ze hlt (by omega),hJ2]
  |false=>have hF:=hy3 rfl;simp[hy1,hF]
 ·rw[aU (by omega)]at hJ
  simp only[pick,af,ac hc0,aX,<- htl]at hJ;simp[hlt,↓z1o,↓z40,↓zli,↓zko,hc0,h122,hsl,hib];generalize hH:hp++_=H;have hJH:=zzo hext hH hJ;obtain⟨t,hp2,hy1,hy2,hy3⟩:=hy _ _ _ hJH;simp at hy1;cases t with
  |true=>have hJ2:=hy2 rfl;simp[hy1,ze hlt (by omega),hJ2]
  |false=>have hF:=hy3 rfl;simp[hy1,hF]
end Dv
namespace Dv
def ycq{n:Int}(h:i64 n):wr n=n:=za h
def zsm{r:List Int}{a:Nat}:r.getD a 0 ∈ r\/r.getD a 0=0:=by
 by_cases h:a<r.length
 ·left;simp[af,ac h]
 ·right;simp[af,aU (dH h)]
def zls{p:yj}:∀{l:List Use} {r:List Int} {k:Int},(∀ u,u ∈ l->0<=u.places/\u.places<=8)->0<=k->(∀ x,x ∈ r->0<=x/\x<=k)->k+8*l.length<=1000000 ->
  ∀ x,x ∈ l.foldl (y80 p) r->0<=x/\x<=k+8*l.length
 |[],r,k,_,_,hr,_,x,hx=>by have:=hr x hx;simp only[aY];omega
 |u::l,r,k,hu,hk,hr,hb,x,hx=>by
  simp only[ar]at hb ⊢;rw[bS]at hx;have hu1:=hu u (by simp)
  have h1:0<=r.getD (atS u.cell p.cells 0).toNat 0/\r.getD (atS u.cell p.cells 0).toNat 0<=k:=by
   rcases zsm (r:=r) (a:=(atS u.cell p.cells 0).toNat)with h | h
   ·exact hr _ h
   ·rw[h];omega
  have:=zls (p:=p) (l:=l) (r:=y80 p r u) (k:=k+8) (fun v hv=>hu v (by simp[hv])) (by omega) (fun y hy=>by
   unfold y80 at hy;rcases ft hy with h | h
   ·have:=hr y h;omega
   ·rw[h,ycq ⟨by omega,by omega⟩];omega) (by omega) x hx
  omega
def zfu{p:yj}{v:Var}(okv:y8r p v){n:Int}:∀ u,u ∈ y4r v n->yb9 p u:=by
 intro u hu;unfold y4r at hu
 by_cases hn:n.toNat<v.choices.length
 ·simp only[af,ac hn,aX]at hu;exact(okv.choices _ (av hn)).uses _ hu
 ·simp[af,aU (dH hn)]at hu
def zcn{v:Var}{n:Int}(h:∀ c,c ∈ v.choices->c.uses.length<=12):(y4r v n).length<=12:=by
 unfold y4r
 by_cases hn:n.toNat<v.choices.length
 ·simp only[af,ac hn,aX];exact h _ (av hn)
 ·simp[af,aU (dH hn)]
def zft{p:yj}{leaf:Int}:∀{vs:List Var} {b:List Int},(∀ v,v ∈ vs->y8r p v)->∀ u,u ∈ y32 vs b leaf->yb9 p u
 |[],_,_,u,h=>by simp[y32]at h
 |_::_,[],_,u,h=>by simp[y32]at h
 |v::vs,n::ns,hv,u,h=>by
  simp only[y32,aB]at h;rcases h with h | h
  ·by_cases hc:v.leaves.contains leaf=true
   ·rw[if_pos hc]at h;exact zfu (hv v (by simp)) u h
   ·rw[if_neg hc]at h;cases h
  ·exact zft (fun w hw=>hv w (by simp[hw])) u h
def zcl{leaf:Int}:∀{vs:List Var} {b:List Int},(∀ v,v ∈ vs->∀ c,c ∈ v.choices->c.uses.length<=12)->(y32 vs b leaf).length<=12*vs.length
 |[],_,_=>by simp[y32]
 |_::_,[],_=>by simp[y32]
 |v::vs,n::ns,hv=>by
  have h1:=zcl (leaf:=leaf) (vs:=vs) (b:=ns) (fun w hw=>hv w (by simp[hw]))
  have h2:=zcn (v:=v) (n:=n) (hv v (by simp))
  simp only[y32,ao,ar]
  by_cases hc:v.leaves.contains leaf=true
  ·rw[if_pos hc];omega
  ·rw[if_neg hc];simp only[aY];omega
def zm1{p:yj}(S:y19 p)(ok:OkP p){b:List Int}{leaf:Int}:∀ x,x ∈ dem p b leaf->0<=x/\x<=576:=by
 intro x hx;have h1:=zcl (leaf:=leaf) (vs:=p.vars) (b:=b) S.uses;have s3:=S.vars;have:=zls (p:=p) (l:=y32 p.vars b leaf) (r:=ah p.cells.length 0) (k:=0) (fun u hu=>(zft ok.vars u hu).places |> fun h=>by unfold wi at h;omega) (by omega)
  (fun y hy=>by rw[(List.mem_replicate.1 hy).2];omega) (by omega) x hx
 omega
def ovR:List Int->List Int->Int
 |d::ds,c::cs=>mx (d - c) 0+ovR ds cs
 |_,_=>0
def ovL(p:yj)(b:List Int):Nat->List (List Int)->Int
 |_,[]=>0
 |k,c::cs=>ovR (dem p b k) c+ovL p b (k+1) cs
def ov(p:yj)(b:List Int):Int:=ovL p b 0 p.capacity
def mx0{a:Int}:0<=mx a 0:=by unfold mx;split <;> omega
def zis:∀{d c:List Int},0<=ovR d c
 |[],_=>by simp[ovR]
 |_::_,[]=>by simp[ovR]
 |d::ds,c::cs=>by have:=zis (d:=ds) (c:=cs);have:=mx0 (a:=d - c);simp only[ovR];omega
def zzg{k:Int}(hk:0<=k):∀{d c:List Int},(∀ x,x ∈ d->x<=k)->(∀ x,x ∈ c->0<=x)->ovR d c<=k*d.length
 |[],_,_,_=>by simp[ovR]
 |d::ds,[],_,_=>by simp only[ovR];exact ko hk (by omega)
 |d::ds,c::cs,hd,hc=>by
  have h1:=zzg hk (d:=ds) (c:=cs) (fun x hx=>hd x (by simp[hx])) (fun x hx=>hc x (by simp[hx]))
  have h2:=hd d (by simp)
  have h3:=hc c (by simp)
  have h4:mx (d - c) 0<=k:=by unfold mx;split <;> omega
  simp only[ovR,ar];have:k*((ds.length+1:Nat):Int)=k*ds.length+k:=by rw[Int.natCast_add,Int.mul_add];simp
  omega
def zr0{p:yj}{b:List Int}:∀{cs:List (List Int)} {k:Nat},0<=ovL p b k cs
 |[],_=>by simp[ovL]
 |c::cs,k=>by have:=zr0 (p:=p) (b:=b) (cs:=cs) (k:=k+1);have:=zis (d:=dem p b k) (c:=c);simp only[ovL];omega
def zzh{p:yj}(S:y19 p)(ok:OkP p){b:List Int}:∀{cs:List (List Int)} {k:Nat},(∀ l,l ∈ cs->l ∈ p.capacity)->ovL p b k cs<=7000*cs.length
 |[],_,_=>by simp[ovL]
 |c::cs,k,hm=>by
  have h1:=zzh S ok (b:=b) (cs:=cs) (k:=k+1) (fun l hl=>hm l (by simp[hl]))
  have s1:=S.cells;have h2:=zzg (k:=576) (by omega) (d:=dem p b k) (c:=c) (fun x hx=>(zm1 S ok x hx).2) (fun x hx=>by
   have:=(ok.cap c (hm c (by simp))).2 x hx;unfold wi at this;omega)
  have h3:(dem p b k).length=p.cells.length:=by simp[dem,z4l]
  rw[h3]at h2;simp only[ovL,ar];omega
def yhp{p:yj}(S:y19 p)(ok:OkP p){b:List Int}:ov p b<=28000:=by
 have:=zzh S ok (b:=b) (cs:=p.capacity) (k:=0) (fun l hl=>hl)
 have:=S.cap;unfold ov;omega
def bdC(c:y1p):Prop:=(0<=c.delay/\c.delay<=1048576)/\(0<=c.cost/\c.cost<=1048576)/\(0<=c.changes/\c.changes<=1048576)
def zzw{p:yj}{c:y1p}(h:y6j p c):bdC c:=by obtain⟨h1,h2,h3,_,_⟩:=h;exact⟨h1,h2,h3⟩
def yj0{a c:y1p}(h:bdC a)(h':bdC c):bdC (y8x a c):=by
 unfold bdC y8x mn at *
 simp only;refine⟨?_,?_,?_⟩ <;> split <;> omega
def zuj:∀{l:List y1p} {a:y1p},bdC a->(∀ c,c ∈ l->bdC c)->bdC (l.foldl y8x a)
 |[],_,h,_=>h
 |c::l,a,h,h'=>by rw[bS];exact zuj (yj0 h (h' c (by simp))) (fun d hd=>h' d (by simp[hd]))
def yfw:bdC ⟨0,0,0,[]⟩:=by unfold bdC;simp
def zui{p:yj}{v:Var}(okv:y8r p v){n:Nat}:bdC (v.choices.getD n ⟨0,0,0,[]⟩):=by
 by_cases hn:n<v.choices.length
 ·simp only[af,ac hn,aX];exact zzw (okv.choices _ (av hn))
 ·simp only[af,aU (dH hn),Option.getD_none];exact yfw
def zuh{p:yj}{v:Var}(okv:y8r p v){n:Option Int}:bdC (pick v n):=by
 cases n with
 |some n=>exact zui okv
 |none=>exact zuj (zui okv) (fun c hc=>zzw (okv.choices c (bY hc)))
def y74:List (Int × y1p)->Int
 |[]=>0
 |x::r=>x.2.cost*x.1+y74 r
def y73:List (Int × y1p)->Int
 |[]=>0
 |x::r=>x.2.changes*x.1+y73 r
def y8y(a:Int)(l:List (Int × y1p)):Int:=l.foldl (fun a x=>mx a x.2.delay) a
def bdP(x:Int × y1p):Prop:=(0<=x.1/\x.1<=8)/\bdC x.2
def za5{p:yj}:∀{vs:List Var} {b:List Int},(∀ v,v ∈ vs->y8r p v/\v.leaves.length<=8)->∀ x,x ∈ y30 vs b->bdP x
 |[],_,_,x,h=>by simp[y30]at h
 |v::vs,b,hv,x,h=>by
  simp only[y30,aA]at h;rcases h with rfl | h
  ·have:=hv v (by simp)
   exact⟨⟨by simp only;omega,by simp only;omega⟩,zuh this.1⟩
  ·exact za5 (fun w hw=>hv w (by simp[hw])) x h
def zax:∀{vs:List Var} {b:List Int},(y30 vs b).length=vs.length
 |[],_=>rfl
 |v::vs,b=>by simp[y30,zax]
def zd5{a n:Int}(h1:0<=a)(h2:a<=1048576)(h3:0<=n)(h4:n<=8):0<=a*n/\a*n<=8388608:=
 ⟨ko h1 h3,by have:=Int.mul_le_mul h2 h4 h3 (by omega);omega⟩
def zai:∀{l:List (Int × y1p)},(∀ x,x ∈ l->bdP x)->0<=y74 l/\y74 l<=8388608*l.length
 |[],_=>by simp[y74]
 |x::r,h=>by
  have h1:=zai (l:=r) (fun y hy=>h y (by simp[hy]))
  obtain⟨⟨a1,a2⟩,_,⟨b1,b2⟩,_⟩:=h x (by simp)
  have:=zd5 b1 b2 a1 a2;simp only[y74,ar];omega
def zah:∀{l:List (Int × y1p)},(∀ x,x ∈ l->bdP x)->0<=y73 l/\y73 l<=8388608*l.length
 |[],_=>by simp[y73]
 |x::r,h=>by
  have h1:=zah (l:=r) (fun y hy=>h y (by simp[hy]))
  obtain⟨⟨a1,a2⟩,_,_,⟨b1,b2⟩⟩:=h x (by simp)
  have:=zd5 b1 b2 a1 a2;simp only[y73,ar];omega
def yl(p:yj)(b:List Int):List Int:=[ov p b,y8y 0 (y30 p.vars b),y74 (y30 p.vars b),y73 (y30 p.vars b)]
end Dv
namespace Dv
attribute [local simp] ah depth y1z y51 ya y15 y4p ye y2p y2e Ret
attribute [local congr] z1f z1g z16 z12 zx z17 zw
def gdD(t:D)(b:Bool):Bool:=match t with
 |.bool c=>c == b
 |_=>false
def z3x{c b:Bool}:gdD (.bool c) b=(c == b):=rfl
def z13{E:Env}{cP:Nat->List D->Option D}{cS cY:Nat->List D->List Obj->Option (D × List Obj)}{base:Nat}{env:List D}{hp:List Obj}{x:Xp}{b:Bool}{dst:Option Nat}{op:DOp}{ks:Xs}{k:Option Nat}{r:List TS} :
  rTS E cP cS cY base (.eff (some (x,b)) dst op ks k::r) env hp=ob (xv E cP env hp x) fun t=>if gdD t b=true then rTS E cP cS cY base (.eff none dst op ks k::r) env hp else rTS E cP cS cY base r (ya2 env dst .undef) hp:=by
 simp only[rTS,gdT];cases xv E cP env hp x with
 |none=>rfl
 |some d=>
  cases d with
  |bool c=>cases c <;> cases b <;> rfl
  |_=>rfl
def Whole(p:yj)(b:List Int):Prop:=OkP p/\OkB p b/\b.length=p.vars.length
open Classical in
noncomputable def wk(p:yj)(b:List Int):Int:=if Whole p b then 0 else 270
def zz2{p:yj}{b:List Int}(h:Whole p b):wk p b=0:=by simp[wk,h]
def zfq{p:yj}{b:List Int}(h : ¬ Whole p b):wk p b=270:=by simp[wk,h]
def r83(p:yj)(b:List Int)(S:y19 p)(hb:b.length<=20):yu E (dL E) 83 [ye p,ya b]=some (dI (wk p b)):=by
 refine zg c83 (by simp) ?_
 conv in t83=>reduce;dsimp[ai]
 have h66:=r66 p b S hb;simp only[ye,ya]at h66;simp[t83,n83,h66]
 by_cases h0:bk p b 270=0
 rotate_left
 ·have e:wk p b=270:=zfq fun h=>h0 (zma h.1 h.2.1)
  simp[zu9 h0,e]
 obtain⟨ok,okb⟩:=zy4 h0 (by decide)
 by_cases h1:b.length=p.vars.length
 ·have e:wk p b=0:=zz2 ⟨ok,okb,h1⟩;have h1':(b.length:Int)=p.vars.length:=by omega
  simp[h0,h1',e]
 ·have e:wk p b=270:=zfq fun h=>h1 h.2.2
  have h1' : ¬ (b.length:Int)=p.vars.length:=by omega
  simp[h0,h1',e]
def r84(p:yj)(b:List Int):yu E (dL E) 84 [ye p,ya b]=some (.fn 110 [.iptr (ye p).cellsL,.iptr [ya b]]):=by
 refine zg c84 (by simp) ?_
 conv in t84=>reduce;dsimp[ai]
 simp[t84,n84]
structure yb8 where
 leaf:Int
 cell:Int
 more:Int
def y9k(leaf:Nat):Nat->List Int->List Int->List yb8
 |k,d::ds,c::cs=>(if 0<d - c then[⟨leaf,k,d - c⟩]else[])++y9k leaf (k+1) ds cs
 |_,_,_=>[]
def yae(p:yj)(b:List Int):Nat->List (List Int)->List yb8
 |_,[]=>[]
 |k,c::cs=>y9k k 0 (dem p b k) c++yae p b (k+1) cs
def ovI(p:yj)(b:List Int):List yb8:=yae p b 0 p.capacity
abbrev yc7(x:yb8):D:=.agg [dI x.leaf,dI x.cell]
def i110(p:yj)(b:List Int)(S:y19 p)(hb:b.length<=20)(ok:OkP p)(okb:OkB p b)(l:Nat)(J:List yb8->List Obj->Prop)(Fin:List Obj->Prop)
  (hext:∀ rem hp r,J rem hp->J rem (hp++r))
  (hy:∀ x rem hp,J (x::rem) hp->∃ t hp',y3d (dL E) l [yc7 x,dI x.more] hp=some (.bool t,hp')/\(t=true->J rem hp')/\(t=false->Fin hp')) {hp:List Obj}
  (h0:J (ovI p b) hp) :
  ∃ d hp',y1j E (dL E) 110 [.yld l,.iptr (ye p).cellsL,.iptr [ya b]] hp=some (d,hp')/\(J [] hp'\/Fin hp'):=by
 refine z1j c110 (R:=fun _ hp'=>J [] hp'\/Fin hp') (by simp) ?_
 conv in t110=>reduce;dsimp[ai]
 have s1:=S.cells;have s2:=S.cap;have h68:=r68 p b S hb ok okb;have hAl:=zxq (p:=p) (b:=b);simp only[ye,ya]at h68;simp[t110,n110,h68,hAl];refine zo p.capacity.length (fun i env hp=>∃(x3 x4 x5 x6 x7 x11 x12 x13 x14 x15 x16 x17:D) ,env=[.yld l,.iptr (ye p).cellsL,.iptr [ya b],x3,x4,x5,x6,x7,.imm .none ((ybg p b).map ya),dI p.capacity.length,dI i,x11,x12,x13,x14,x15,x16,x17] /\
  J (yae p b i (p.capacity.drop i)) hp) 0 (by omega) ⟨_,_,_,_,_,_,_,_,_,_,_,_,rfl,by simpa[ovI]using h0⟩ ?_
 rintro i env hp hi ⟨x3,x4,x5,x6,x7,x11,x12,x13,x14,x15,x16,x17,rfl,hJ⟩
 by_cases hlt:i<p.capacity.length
 rotate_left
 ·have:i=p.capacity.length:=by omega
  subst this;simp only[bv,yae]at hJ;simp[hJ]
 have hget:=zm2 ok (b:=b) hlt;have hgi:∀ h:i<(ybg p b).length,(ybg p b)[i]'h=dem p b i:=fun h=>by rw[ac h]at hget;exact cr hget
 have hcap:=ok.cap _ (av hlt);have hdl:(dem p b i).length=p.cells.length:=by simp[dem,z4l]
 have hdb:=zm1 S ok (b:=b) (leaf:=i);obtain⟨d,hd⟩:∃ d,d=dem p b i:=⟨_,rfl⟩;obtain⟨c,hc⟩:∃ c,c=p.capacity[i]:=⟨_,rfl⟩;obtain⟨rest,hre⟩:∃ rest,rest=yae p b (i+1) (p.capacity.drop (i+1)):=⟨_,rfl⟩;rw[zh hlt]at hJ;simp only[yae,<- hd,<- hc,<- hre]at hJ;rw[<- hc]at hcap;rw[<- hd]at hdl hdb;simp[hlt,hAl,hgi,<- hd];refine zo d.length (fun j env hp=>∃(x4 x5 x6 x7 x11 x15 x16 x17:D) ,env=[.yld l,.iptr (ye p).cellsL,.iptr [ya b],dI i,x4,x5,x6,x7,.imm .none ((ybg p b).map ya),dI p.capacity.length,dI i,x11,ya d,dI d.length,dI j,x15,x16,x17] /\
  J (y9k i j (d.drop j) (c.drop j)++rest) hp) 0 (by omega) ⟨_,_,_,_,_,_,_,_,rfl,by simpa using hJ⟩ ?_
 rintro j env hp hj ⟨x4,x5,x6,x7,x11,x15,x16,x17,rfl,hJ⟩
 by_cases hlt2:j<d.length
 rotate_left
 ·have:j=d.length:=by omega
  subst this;simp only[bv,y9k,bn]at hJ;rw[hre]at hJ;simp[ze hlt (by omega),hlt,hJ]
 have hjc:j<c.length:=by omega
 have hjc':j<p.capacity[i].length:=by rw[<- hc];exact hjc
 have e1:p.capacity[i][j]=c[j]:=by simp only[hc]
 rw[zh hlt2,zh hjc]at hJ;simp only[y9k]at hJ;have hd1:=hdb _ (av hlt2);have hc1:=hcap.2 _ (av hjc);unfold wi at hc1;have w1:=za (n:=d[j] - c[j]) ⟨by omega,by omega⟩
 by_cases hg:0<d[j] - c[j]
 ·have hg':c[j]<d[j]:=by omega
  rw[if_pos hg]at hJ;change J ((⟨(i:Int),(j:Int),d[j] - c[j]⟩:yb8)::(y9k i (j+1) (d.drop (j+1)) (c.drop (j+1))++rest)) hp at hJ;obtain⟨t,hp2,hy1,hy2,hy3⟩:=hy _ _ _ hJ;simp at hy1;cases t with
  |true=>have hJ2:=hy2 rfl;simp[hlt,hlt2,hjc',e1,w1,z13,z3x,hg',hy1,ze hlt2 (by omega),hJ2]
  |false=>have hF:=hy3 rfl;simp[hlt,hlt2,hjc',e1,w1,z13,z3x,hg',hy1,hF]
 ·have hg' : ¬ c[j]<d[j]:=by omega
  rw[if_neg hg]at hJ;simp only[bn]at hJ;simp[hlt,hlt2,hjc',e1,w1,z13,z3x,hg',ze hlt2 (by omega),hJ]
def y7g:List yb8->Int
 |[]=>0
 |x::r=>x.more+y7g r
def zea:∀{l r:List yb8},y7g (l++r)=y7g l+y7g r
 |[],r=>by simp[y7g]
 |x::l,r=>by simp only[aG,y7g,zea];omega
def zz9{leaf:Nat}:∀{k:Nat} {d c:List Int},y7g (y9k leaf k d c)=ovR d c
 |_,[],_=>by simp[y9k,ovR,y7g]
 |_,_::_,[]=>by simp[y9k,ovR,y7g]
 |k,d::ds,c::cs=>by
  simp only[y9k,ovR,zea,zz9]
  by_cases h:0<d - c
  ·have:mx (d - c) 0=d - c:=by unfold mx;rw[if_neg (by omega)]
   rw[if_pos h,this];simp[y7g]
  ·have:mx (d - c) 0=0:=by unfold mx;split <;> omega
   rw[if_neg h,this];simp[y7g]
def zza{p:yj}{b:List Int}:∀{cs:List (List Int)} {k:Nat},y7g (yae p b k cs)=ovL p b k cs
 |[],_=>by simp[yae,ovL,y7g]
 |c::cs,k=>by simp only[yae,ovL,zea,zz9,zza]
def ydi{p:yj}{b:List Int}:y7g (ovI p b)=ov p b:=zza
def okO(p:yj)(x:yb8):Prop:=0<x.more/\(0<=x.leaf/\x.leaf<=1000)/\0<=x.cell/\x.cell<=1000
def yhs{p:yj}{leaf:Nat}(hl:leaf<=1000):∀{k:Nat} {d c:List Int},k+d.length<=1000->∀ x,x ∈ y9k leaf k d c->okO p x
 |_,[],_,_,x,h=>by simp[y9k]at h
 |_,_::_,[],_,x,h=>by simp[y9k]at h
 |k,d::ds,c::cs,hk,x,h=>by
  simp only[ar]at hk;simp only[y9k,aB]at h;rcases h with h | h
  ·by_cases hg:0<d - c
   ·rw[if_pos hg]at h;simp only[bz]at h;subst h;exact⟨hg,⟨by simp only;omega,by simp only;omega⟩,by simp only;omega,by simp only;omega⟩
   ·rw[if_neg hg]at h;cases h
  ·exact yhs hl (by omega) x h
def yht{p:yj}{b:List Int}(h1:p.cells.length<=12):∀{cs:List (List Int)} {k:Nat},k+cs.length<=1000->∀ x,x ∈ yae p b k cs->okO p x
 |[],_,_,x,h=>by simp[yae]at h
 |c::cs,k,hk,x,h=>by
  simp only[ar]at hk;simp only[yae,aB]at h;rcases h with h | h
  ·exact yhs (by omega) (by have:(dem p b k).length=p.cells.length:=(by simp[dem,z4l]);omega) x h
  ·exact yht h1 (by omega) x h
def zki:∀{l:List yb8},(∀ x,x ∈ l->0<x.more)->0<=y7g l
 |[],_=>by simp[y7g]
 |x::l,h=>by
  have h1:=h x (by simp)
  have h2:=zki (l:=l) fun y hy=>h y (by simp[hy])
  simp only[y7g];omega
open Classical in
noncomputable def ybz(p:yj)(b:List Int):D:=if Whole p b then .tup [ya (yl p b),dI 0]else .tup [ya [],dI 270]
def r22(p:yj)(b:List Int)(S:y19 p)(hb:b.length<=20):yu E (dL E) 22 [ye p,ya b]=some (ybz p b):=by
 refine zg c22 (by simp) ?_
 conv in t22=>reduce;dsimp[ai]
 have h83:=r83 p b S hb;have s1:=S.cells;have s2:=S.cap;have s3:=S.vars;simp only[ye,ya]at h83;simp[t22,n22,h83]
 by_cases h0:Whole p b
 rotate_left
 ·simp[zfq h0,ybz,h0]
 simp only[ybz,h0,if_true];simp[zz2 h0];obtain⟨ok,okb,hbl⟩:=h0;have h84:=r84 p b;simp only[ye,ya]at h84;simp[h84];have hov:=yhp S ok (b:=b);obtain⟨V,hV⟩:∃ V,V=ov p b:=⟨_,rfl⟩;rw[<- hV]at hov;have hbd:=za5 (vs:=p.vars) (b:=b) (fun v hv=>⟨ok.vars v hv,S.leaves v hv⟩)
 have hpl:=zax (vs:=p.vars) (b:=b);have hCb:=zai hbd;have hGb:=zah hbd;obtain⟨M,hM⟩:∃ M,M=y8y 0 (y30 p.vars b):=⟨_,rfl⟩;obtain⟨C,hC⟩:∃ C,C=y74 (y30 p.vars b):=⟨_,rfl⟩;obtain⟨G,hG⟩:∃ G,G=y73 (y30 p.vars b):=⟨_,rfl⟩;rw[<- hC]at hCb;rw[<- hG]at hGb;have hfin:yl p b=[V,M,C,G]:=by rw[hV,hM,hC,hG];rfl
 rw[hfin];clear hfin;refine⟨110,_,rfl,?_⟩;intro L hL hcb;obtain⟨J,hJ⟩:∃ J:List yb8->List Obj->Prop,J=fun rem hp'=>∃(s:Int) (h':List Obj),hp'=.cells (ye p).cellsL :: .cells [dI s,dI 0,dI 0,dI 0]::h' /\
  At h' 0 (L false none)/\0<=s/\s+y7g rem=V/\(∀ x,x ∈ rem->okO p x):=⟨_,rfl⟩
 have key:=i110 p b S hb ok okb 2 J (fun _=>False) (by
   rw[hJ];rintro rem hp' r ⟨s,h',rfl,a1,a2⟩;exact⟨s,h'++r,rfl,a1.app,a2⟩) (by
   intro x rem hp1 hj;rw[hJ]at hj;obtain⟨s,h',rfl,a1,a2,a3,a4⟩:=hj;have hx:=(a4 x (by simp)).1
   have hr2:=zki (l:=rem) (fun y hy=>(a4 y (by simp[hy])).1)
   simp only[y7g]at a3;have w1:=za (n:=s+x.more) ⟨by omega,by omega⟩
   have hl1:=a1.lt;obtain⟨t,hp2,e1,e2⟩:=hcb [yc7 x,dI x.more] (.cells (ye p).cellsL :: .cells [dI s,dI 0,dI 0,dI 0]::h') (fun t hp'=>t=true/\J rem hp') rfl (by simpa[At]using a1) (by
    simp[y23,w1];refine⟨a1,At.self hl1,?_⟩;rw[hJ];exact⟨s+x.more,_,rfl,At.self hl1,by omega,by omega,fun y hy=>a4 y (by simp[hy])⟩)
   obtain⟨rfl,e3⟩:=e2;exact⟨true,hp2,e1,fun _=>e3,fun h=>by cases h⟩) (hp:=.cells (ye p).cellsL :: .cells [dI 0,dI 0,dI 0,dI 0]::[L false none]) (by
   rw[hJ];exact⟨0,_,rfl,rfl,by omega,by rw[ydi,hV];omega,yht s1 (by omega)⟩)
 obtain⟨d,hp',h1,h2⟩:=key;rcases h2 with h2 | h2
 rotate_left
 ·exact h2.elim
 rw[hJ]at h2;obtain⟨s,h',rfl,a1,a2,a3,a4⟩:=h2;simp only[y7g,iI]at a3;subst a3;refine⟨d,_,h1,.inl ⟨a1,?_⟩⟩;simp;refine zo p.vars.length (fun i env hp=>∃(x6 x7 x8 x9 x10 x11 x12 x13 x14 x18 x19 x20 x21 x22 x23:D) (v1 v2 v3:Int) (h:List Obj),env=[ye p,ya b,.loc 0 0,.imm .exact [],dI 0,.loc 1 0,x6,x7,x8,x9,x10,x11,x12,x13,x14,ya b,dI b.length,dI i,x18,x19,x20,x21,x22,x23] /\
  hp=.cells (ye p).cellsL :: .cells [dI s,dI v1,dI v2,dI v3]::h/\0<=v2/\0<=v3/\y8y v1 (y30 (p.vars.drop i) (b.drop i))=M/\v2+y74 (y30 (p.vars.drop i) (b.drop i))=C /\
  v3+y73 (y30 (p.vars.drop i) (b.drop i))=G) 0 (by omega) ⟨_,_,_,_,_,_,_,_,_,_,_,_,_,_,_,0,0,0,_,rfl,rfl,by omega,by omega,by simp[hM],by simp[hC],by simp[hG]⟩ ?_
 rintro i env hp hi ⟨x6,x7,x8,x9,x10,x11,x12,x13,x14,x18,x19,x20,x21,x22,x23,v1,v2,v3,h,rfl,rfl,a2,a3,a4,a5,a6⟩
 by_cases hlt2:i<p.vars.length
 ·have hib:i<b.length:=by omega
  have okv:=ok.vars _ (av hlt2);have l1:=S.leaves _ (av hlt2);have hr:=za5 (vs:=p.vars.drop (i+1)) (b:=b.drop (i+1)) (fun v hv=>⟨ok.vars v (bY hv),S.leaves v (bY hv)⟩)
  have hr2:=zai hr;have hr3:=zah hr;have hbp:=zuh okv (n:=b[i]?);rw[zh hlt2]at a4 a5 a6;simp only[y30,nj,mU,y74,y73]at a4 a5 a6;obtain⟨n,hn⟩:∃ n:Int,n=p.vars[i].leaves.length:=⟨_,rfl⟩;rw[<- hn]at a4 a5 a6;obtain⟨⟨d1,d2⟩,⟨c1,c2⟩,⟨g1,g2⟩⟩:=hbp;obtain⟨c,hc⟩:∃ c,c=pick p.vars[i] b[i]?:=⟨_,rfl⟩;rw[<- hc]at a4 a5 a6 d1 d2 c1 c2 g1 g2;have m1:=zd5 c1 c2 (n:=n) (by omega) (by omega)
  have m2:=zd5 g1 g2 (n:=n) (by omega) (by omega)
  have w1:=za (n:=c.cost*n) ⟨by omega,by omega⟩
  have w2:=za (n:=v2+c.cost*n) ⟨by omega,by omega⟩
  have w3:=za (n:=c.changes*n) ⟨by omega,by omega⟩
  have w4:=za (n:=v3+c.changes*n) ⟨by omega,by omega⟩
  have hmx:y8y (mx v1 c.delay) (y30 (p.vars.drop (i+1)) (b.drop (i+1)))=M:=a4;have hw:=okb.each i hib hlt2;obtain⟨m,hm⟩:∃ m:Nat,b[i]=m:=⟨b[i].toNat,by unfold wi at hw;omega⟩
  have hm':m<p.vars[i].choices.length:=by unfold wi at hw;omega
  rw[ac hib,hm]at hc;simp only[pick,bT,af,ac hm',aX]at hc;simp[hlt2,hib,hm,hm',↓z1o,↓z40,<- hc,<- hn,w1,w2,w3,w4,ze hib (by omega),ztw,zy0,yiv,did,y98]
  exact⟨_,_,_,⟨rfl,rfl,rfl⟩,by omega,by omega,hmx,by omega,by omega⟩
 ·have:i=p.vars.length:=by omega
  subst this;simp only[bv,y30,y8y,gQ,y74,y73,iI]at a4 a5 a6;subst a4 a5 a6;simp[y31,hbl,y13,bnd]
def y2h:List Int->List Int->Int
 |[],[]=>0
 |[],_::_=>-1
 |_::_,[]=>1
 |x::xs,y::ys=>if y3r x y=0 then y2h xs ys else y3r x y
def z33{a b:Int}:y3r a b=0 ↔ a=b:=by unfold y3r;split <;> (try split) <;> omega
def zbv{a b:Int}:y3r a b<0 ↔ a<b:=by unfold y3r;split <;> (try split) <;> omega
def zxz{a b:Int}:y3r a b = -1\/y3r a b=0\/y3r a b=1:=by unfold y3r;split <;> (try split) <;> omega
def r87(a b:List Int)(ha:a.length<=1000000)(hb:b.length<=1000000):yu E (dL E) 87 [ya a,ya b]=some (dI (y2h a b)):=by
 refine zg c87 (by simp) ?_
 conv in t87=>reduce;dsimp[ai]
 generalize hB:y2h a b=B;simp[t87,n87];refine zo a.length (fun i env hp=>∃(x3 x4 x5 x6 x10 x11 x12 x13:D) ,env=[ya a,ya b,dI 0,x3,x4,x5,x6,ya a,dI a.length,dI i,x10,x11,x12,x13]/\i<=b.length/\y2h (a.drop i) (b.drop i)=B) 0 (by omega) ⟨_,_,_,_,_,_,_,_,rfl,by omega,by simpa using hB⟩ ?_
 rintro i env hp hi ⟨x3,x4,x5,x6,x10,x11,x12,x13,rfl,hib,hc⟩
 by_cases hlt:i<a.length
 ·rw[zh hlt]at hc
  by_cases h2:i<b.length
  ·rw[zh h2]at hc;simp only[y2h]at hc
   by_cases h0:y3r a[i] b[i]=0
   ·rw[if_pos h0]at hc;have h2' : ¬ b.length<=i:=by omega
    simp[hlt,h2,h2',r74,h0,ze hlt (by omega)]
    exact⟨by omega,hc⟩
   ·rw[if_neg h0]at hc;have h2' : ¬ b.length<=i:=by omega
    rw[hc]at h0;simp[hlt,h2,h2',r74,h0,hc]
  ·have hbd:b.drop i=[]:=ed (by omega)
   rw[hbd]at hc;simp only[y2h]at hc;have h2':b.length<=i:=by omega
   simp[hlt,h2',hc]
 ·have hi':i=a.length:=by omega
  subst hi';rw[bv]at hc
  by_cases h2:a.length<b.length
  ·rw[zh h2]at hc;simp only[y2h]at hc;simp[h2,hc]
  ·have hbd:b.drop a.length=[]:=ed (by omega)
   rw[hbd]at hc;simp only[y2h]at hc;simp[h2,hc]
def z88:∀{a:List Int},y2h a a=0
 |[]=>rfl
 |x::a=>by simp only[y2h,z33.2 rfl,if_true,z88]
def z4n:∀{a b:List Int},a.length=b.length->(y2h a b=0 ↔ a=b)
 |[],[],_=>by simp[y2h]
 |[],_::_,h=>by simp at h
 |_::_,[],h=>by simp at h
 |x::a,y::b,h=>by
  have ih:=z4n (a:=a) (b:=b) (by simpa using h)
  simp only[y2h]
  by_cases e:y3r x y=0
  ·rw[if_pos e,ih,z33.1 e];simp
  ·rw[if_neg e];have:x ≠ y:=fun h=>e (z33.2 h)
   simp[e,this]
def zxy:∀{a b:List Int},y2h a b = -1\/y2h a b=0\/y2h a b=1
 |[],[]=>by simp[y2h]
 |[],_::_=>by simp[y2h]
 |_::_,[]=>by simp[y2h]
 |x::a,y::b=>by
  simp only[y2h]
  by_cases e:y3r x y=0
  ·rw[if_pos e];exact zxy
  ·rw[if_neg e];exact zxz
def z4o:∀{a b:List Int},y2h b a = - y2h a b
 |[],[]=>by simp[y2h]
 |[],_::_=>by simp[y2h]
 |_::_,[]=>by simp[y2h]
 |x::a,y::b=>by
  have ih:=z4o (a:=a) (b:=b);have e:y3r y x = - y3r x y:=by unfold y3r;split <;> split <;> (try split) <;> omega
  simp only[y2h]
  by_cases h:y3r x y=0
  ·rw[if_pos h,if_pos (by omega),ih]
  ·rw[if_neg h,if_neg (by omega),e]
def z6l:∀{a b c:List Int},y2h a b<0->y2h b c<0->y2h a c<0
 |[],[],_,h,_=>by simp[y2h]at h
 |[],_::_,[],_,h=>by simp[y2h]at h
 |[],_::_,_::_,_,_=>by simp[y2h]
 |_::_,[],_,h,_=>by simp[y2h]at h
 |_::_,_::_,[],_,h=>by simp[y2h]at h
 |x::a,y::b,z::c,h1,h2=>by
  simp only[y2h]at h1 h2 ⊢
  by_cases e1:y3r x y=0
  ·rw[if_pos e1]at h1;rw[z33.1 e1]
   by_cases e2:y3r y z=0
   ·rw[if_pos e2]at h2 ⊢;exact z6l h1 h2
   ·rw[if_neg e2]at h2 ⊢;exact h2
  ·rw[if_neg e1]at h1
   by_cases e2:y3r y z=0
   ·rw[<- z33.1 e2,if_neg e1];exact h1
   ·rw[if_neg e2]at h2;have h3:=zbv.1 h1;have h4:=zbv.1 h2;have h5:x<z:=by omega
    rw[if_neg (fun h=>by have:=z33.1 h;omega)]
    exact zbv.2 h5
def zdn:∀{a b:List Int},a.length=b.length->(∀ n,a.getD n 0<=b.getD n 0)->y2h a b<=0
 |[],[],_,_=>by simp[y2h]
 |[],_::_,h,_=>by simp at h
 |_::_,[],h,_=>by simp at h
 |x::a,y::b,h,hn=>by
  have h0:=hn 0;simp only[bI]at h0;simp only[y2h]
  by_cases e:y3r x y=0
  ·rw[if_pos e];exact zdn (by simpa using h) fun n=>by have:=hn (n+1);simpa using this
  ·rw[if_neg e];have:x<y:=by
    have:x ≠ y:=fun h=>e (z33.2 h)
    omega
   have:=zbv.2 this;omega
def y20(p:yj)(a b:List Int):Int:=if y2h (yl p a) (yl p b)=0 then y2h a b else y2h (yl p a) (yl p b)
def At.get0{hp:List Obj}{o:Obj}(a:At hp 0 o)(h:0<hp.length):hp[0]'h=o:=by have:=a.eq;rw[ac h]at this;exact cr this
def zey{p:yj}{b:List Int}(S:y19 p)(h : ¬ b.length<=20) : ¬ OkB p b:=fun ok=>by have:=ok.len;have:=S.vars;omega
def zj3{p:yj}{b:List Int}(S:y19 p)(h : ¬ b.length<=20) : ¬ Whole p b:=fun w=>zey S h w.2.1
def q66(p:yj)(b:List Int)(S:y19 p):yu E (dL E) 66 [ye p,ya b]=some (dI (bk p b 270)):=by
 by_cases hb:b.length<=20
 ·exact r66 p b S hb
 refine zg c66 (by simp) ?_
 conv in t66=>reduce;dsimp[ai]
 have s3:=S.vars;have h1:p.vars.length<b.length:=by omega
 have h15:=r15 p S;simp only[ye]at h15
 by_cases h0:OkP p
 ·have e:ck p=0:=by simp[ck,h0]
  have e2:bk p b 270=270:=by simp[bk,h0,zey S hb]
  simp[t66,n66,h15,e,e2,h1]
 ·have e:ck p=270:=by simp[ck,h0]
  have e2:bk p b 270=270:=by simp[bk,h0]
  simp[t66,n66,h15,e,e2]
def q83(p:yj)(b:List Int)(S:y19 p):yu E (dL E) 83 [ye p,ya b]=some (dI (wk p b)):=by
 by_cases hb:b.length<=20
 ·exact r83 p b S hb
 refine zg c83 (by simp) ?_
 conv in t83=>reduce;dsimp[ai]
 have h66:=q66 p b S;simp only[ye,ya]at h66;have h0:bk p b 270 ≠ 0:=fun h=>zey S hb (zy4 h (by decide)).2
 have e:wk p b=270:=zfq (zj3 S hb);simp[t83,n83,h66,zu9 h0,e]
def q22(p:yj)(b:List Int)(S:y19 p):yu E (dL E) 22 [ye p,ya b]=some (ybz p b):=by
 by_cases hb:b.length<=20
 ·exact r22 p b S hb
 refine zg c22 (by simp) ?_
 conv in t22=>reduce;dsimp[ai]
 have h83:=q83 p b S;simp only[ye,ya]at h83;simp[t22,n22,h83,zfq (zj3 S hb),ybz,zj3 S hb]
end Dv
namespace Dv
def zpz{x:D}{c:Nat}(h:y5e E c x)(hk:(E.ty c).k=.slice 2):∃ l,x=ya l/\y88 l:=by
 have ha:(E.ty c).ag=false:=by unfold TI.ag;rw[hk]
 obtain⟨l,h3,ho⟩:=ze5 (z4c h ha) hk;simp only[bZ,and_true]at h3;exact⟨l,h3,ho⟩
def zz5{x:D}{c:Nat}(h:y5e E c x)(hk:(E.ty c).k=.int .i64):∃ n,x=dI n/\i64 n:=by
 have ha:(E.ty c).ag=false:=by unfold TI.ag;rw[hk]
 obtain⟨n,h3,ho⟩:=z5l (z4c h ha) hk;simp only[bZ,and_true]at h3;exact⟨n,h3,ho⟩
end Dv
namespace Dv
attribute [local simp] ah depth y1z y51 ya y15 y4p ye y2p y2e Ret
attribute [local congr] z1f z1g z16 z12 zx z17 zw
def z7a{p:yj}{a b:List Int}:y20 p b a = - y20 p a b:=by
 unfold y20;rw[z4o (a:=yl p a) (b:=yl p b),z4o (a:=a) (b:=b)]
 by_cases h:y2h (yl p a) (yl p b)=0
 ·rw[if_pos h,if_pos (by omega)]
 ·rw[if_neg h,if_neg (by omega)]
def z5h{p:yj}{a b:List Int}(h:a.length=b.length):y20 p a b=0 ↔ a=b:=by
 unfold y20;constructor
 ·intro h1
  by_cases h2:y2h (yl p a) (yl p b)=0
  ·rw[if_pos h2]at h1;exact(z4n h).1 h1
  ·rw[if_neg h2]at h1;exact absurd h1 h2
 ·rintro rfl;rw[if_pos z88,z88]
def zhr{p:yj}{a b c:List Int}(h1:y20 p a b<0)(h2:y20 p b c<0):y20 p a c<0:=by
 unfold y20 at *
 by_cases e1:y2h (yl p a) (yl p b)=0
 ·rw[if_pos e1]at h1;have e:=(z4n (a:=yl p a) (b:=yl p b) rfl).1 e1;rw[e]
  by_cases e2:y2h (yl p b) (yl p c)=0
  ·rw[if_pos e2]at h2 ⊢;exact z6l h1 h2
  ·rw[if_neg e2]at h2 ⊢;exact h2
 ·rw[if_neg e1]at h1
  by_cases e2:y2h (yl p b) (yl p c)=0
  ·have e:=(z4n (a:=yl p b) (b:=yl p c) rfl).1 e2;rw[<- e,if_neg e1];exact h1
  ·rw[if_neg e2]at h2;have:=z6l h1 h2;rw[if_neg (by omega)];exact this
end Dv
namespace Dv
def zad{leaf i:Int}:∀{vs:List Var} {b:List Int} (h:b.length<vs.length),y32 vs (b++[i]) leaf=y32 vs b leaf++(if vs[b.length].leaves.contains leaf then y4r vs[b.length] i else[])
 |v::vs,[],_=>by cases vs <;> simp[y32]
 |v::vs,n::ns,h=>by
  have h':ns.length<vs.length:=by simpa using h
  simp only[aG,y32,zad h',bi,ar,ee]
def zlr{p:yj}:∀{l:List Use} {r:List Int} {k:Int},(∀ u,u ∈ l->0<=u.places/\u.places<=8)->0<=k->(∀ x,x ∈ r->0<=x/\x<=k)->k+8*l.length<=1000000 ->
  ∀ n,r.getD n 0<=(l.foldl (y80 p) r).getD n 0
 |[],r,k,_,_,hr,_,n=>by simp
 |u::l,r,k,hu,hk,hr,hb,n=>by
  simp only[ar]at hb ⊢;rw[bS];have hu1:=hu u (by simp)
  have h1:0<=r.getD (atS u.cell p.cells 0).toNat 0/\r.getD (atS u.cell p.cells 0).toNat 0<=k:=by
   rcases zsm (r:=r) (a:=(atS u.cell p.cells 0).toNat)with h | h
   ·exact hr _ h
   ·rw[h];omega
  have:=zlr (p:=p) (l:=l) (r:=y80 p r u) (k:=k+8) (fun v hv=>hu v (by simp[hv])) (by omega) (fun y hy=>by
   unfold y80 at hy;rcases ft hy with h | h
   ·have:=hr y h;omega
   ·rw[h,ycq ⟨by omega,by omega⟩];omega) (by omega) n
  refine lg ?_ this;unfold y80;rw[ycq ⟨by omega,by omega⟩]
  by_cases e:(atS u.cell p.cells 0).toNat=n
  ·subst e
   by_cases hn:(atS u.cell p.cells 0).toNat<r.length
   ·rw[af,af,aR hn,aX,ac hn,aX];omega
   ·rw[List.set_eq_of_length_le (by omega)]
    exact eH _
  ·rw[af (l:=List.set _ _ _),bo e,<- af];exact eH _
def yip{p:yj}(S:y19 p)(ok:OkP p){b:List Int}{i leaf:Int}(h:b.length<p.vars.length)(n:Nat):(dem p b leaf).getD n 0<=(dem p (b++[i]) leaf).getD n 0:=by
 have e:dem p (b++[i]) leaf=(if p.vars[b.length].leaves.contains leaf then y4r p.vars[b.length] i else[]).foldl (y80 p) (dem p b leaf):=by unfold dem;rw[zad h,List.foldl_append]
 rw[e];have okv:=ok.vars _ (av h);have hl:=zcn (v:=p.vars[b.length]) (n:=i) (S.uses _ (av h))
 by_cases hc:p.vars[b.length].leaves.contains leaf=true
 ·rw[if_pos hc];exact zlr (k:=576) (fun u hu=>(zfu okv u hu).places |> fun h=>by unfold wi at h;omega) (by omega) (zm1 S ok) (by omega) n
 ·rw[if_neg hc];exact eH _
def yef{a b:Int}(h:a<=b):mx a 0<=mx b 0:=by unfold mx;split <;> split <;> omega
def zkx:∀{d d' c:List Int},d.length=d'.length->(∀ n,d.getD n 0<=d'.getD n 0)->ovR d c<=ovR d' c
 |[],[],_,_,_=>by simp[ovR]
 |[],_::_,_,h,_=>by simp at h
 |_::_,[],_,h,_=>by simp at h
 |d::ds,d'::ds',[],_,_=>by simp[ovR]
 |d::ds,d'::ds',c::cs,h,hn=>by
  have h1:=zkx (d:=ds) (d':=ds') (c:=cs) (by simpa using h) (fun n=>by have:=hn (n+1);simpa using this)
  have h2:=hn 0;simp only[bI]at h2;have h3:=yef (a:=d - c) (b:=d' - c) (by omega)
  simp only[ovR];omega
def zky{p:yj}{b b':List Int}(h:∀(leaf:Int) n,(dem p b leaf).getD n 0<=(dem p b' leaf).getD n 0):∀{cs:List (List Int)} {k:Nat},ovL p b k cs<=ovL p b' k cs
 |[],_=>by simp[ovL]
 |c::cs,k=>by
  have h1:=zky h (cs:=cs) (k:=k+1);have h2:=zkx (d:=dem p b k) (d':=dem p b' k) (c:=c) (by simp[dem,z4l]) (h k)
  simp only[ovL];omega
def zw0{p:yj}(S:y19 p)(ok:OkP p){b:List Int}{i:Int}(h:b.length<p.vars.length):ov p b<=ov p (b++[i]):=
 zky fun leaf n=>yip S ok h n
def zd2:∀{vs:List Var} {b:List Int} (h:b.length<vs.length),∃ pre post,y30 vs b=pre++((vs[b.length].leaves.length:Int),pick vs[b.length] none)::post /\
  ∀ i,y30 vs (b++[i])=pre++((vs[b.length].leaves.length:Int),pick vs[b.length] (some i))::post
 |v::vs,[],_=>⟨[],y30 vs [],rfl,fun _=>rfl⟩
 |v::vs,n::ns,h=>by
  have h':ns.length<vs.length:=by simpa using h
  obtain⟨pre,post,h1,h2⟩:=zd2 h';refine⟨((v.leaves.length:Int),pick v (some n))::pre,post,?_,fun i=>?_⟩
  ·simp only[y30,mV,nk,h1,ar,ee,aG]
  ·simp only[aG,y30,mV,nk,h2 i,ar,ee]
def zec:∀{l r:List (Int × y1p)},y74 (l++r)=y74 l+y74 r
 |[],r=>by simp[y74]
 |x::l,r=>by simp only[aG,y74,zec];omega
def zeb:∀{l r:List (Int × y1p)},y73 (l++r)=y73 l+y73 r
 |[],r=>by simp[y73]
 |x::l,r=>by simp only[aG,y73,zeb];omega
def zl6{a:Int}{l r:List (Int × y1p)}:y8y a (l++r)=y8y (y8y a l) r:=by simp[y8y]
def z7s{a:Int}{x:Int × y1p}{r:List (Int × y1p)}:y8y a (x::r)=y8y (mx a x.2.delay) r:=rfl
def zgy:∀{l:List (Int × y1p)} {a b:Int},a<=b->y8y a l<=y8y b l
 |[],_,_,h=>h
 |x::l,a,b,h=>by rw[z7s,z7s];exact zgy (by unfold mx;split <;> split <;> omega)
def zlq(f:y1p->Int)(hf:∀ a c,f (y8x a c)=mn (f a) (f c)):∀(l:List y1p) (a:y1p),f (l.foldl y8x a)<=f a/\(∀ c,c ∈ l->f (l.foldl y8x a)<=f c)/\(f (l.foldl y8x a)=f a \/ ∃ c,c ∈ l/\f (l.foldl y8x a)=f c)
 |[],a=>⟨eH _,fun c h=>by simp at h,.inl rfl⟩
 |x::l,a=>by
  obtain⟨h1,h2,h3⟩:=zlq f hf l (y8x a x);rw[bS];have h4:=hf a x;have h5:mn (f a) (f x)<=f a/\mn (f a) (f x)<=f x/\(mn (f a) (f x)=f a\/mn (f a) (f x)=f x):=by unfold mn;split <;> omega
  refine⟨by omega,fun c hc=>?_,?_⟩
  ·rcases aA.1 hc with rfl | hc
   ·omega
   ·exact h2 c hc
  ·rcases h3 with h3 | ⟨c,hc,h3⟩
   ·rcases h5.2.2 with h6 | h6
    ·exact .inl (by omega)
    ·exact .inr ⟨x,by simp,by omega⟩
   ·exact .inr ⟨c,by simp[hc],h3⟩
def zen(f:y1p->Int)(hf:∀ a c,f (y8x a c)=mn (f a) (f c)){v:Var}(h1:1<=v.choices.length) :
  (∀ i:Nat,i<v.choices.length->f (pick v none)<=f (pick v (some i))) /\ ∃ i:Nat,i<v.choices.length/\f (pick v none)=f (pick v (some i)):=by
 have h0:0<v.choices.length:=by omega
 have e0:v.choices.getD 0 ⟨0,0,0,[]⟩=v.choices[0]:=by simp[af,ac h0]
 have es:∀(i:Nat) (hi:i<v.choices.length),pick v (some i)=v.choices[i]:=fun i hi=>by simp[pick,af,ac hi]
 have en:pick v none=(v.choices.drop 1).foldl y8x v.choices[0]:=by simp only[pick,e0]
 obtain⟨g1,g2,g3⟩:=zlq f hf (v.choices.drop 1) v.choices[0];rw[en];refine⟨fun i hi=>?_,?_⟩
 ·rw[es i hi];cases i with
  |zero=>exact g1
  |succ i=>refine g2 _ ?_;rw[gh];exact⟨i,by simp;omega,by simp[fd]⟩
 ·rcases g3 with g3 | ⟨c,hc,g3⟩
  ·exact⟨0,h0,by rw[es 0 h0];exact g3⟩
  ·obtain⟨i,hi,e⟩:=gh.1 hc;simp only[List.length_drop]at hi;refine⟨i+1,by omega,?_⟩
   rw[es (i+1) (by omega),g3,<- e]
   simp[fd]
def zk0{p:yj}(S:y19 p)(ok:OkP p){b:List Int}(h:b.length<p.vars.length) :
  (∀ i:Nat,i<p.vars[b.length].choices.length->∀ k,(yl p b).getD k 0<=(yl p (b++[(i:Int)])).getD k 0) /\
  ∀ k,1<=k->∃ i:Nat,i<p.vars[b.length].choices.length/\(yl p (b++[(i:Int)])).getD k 0=(yl p b).getD k 0:=by
 have okv:=ok.vars _ (av h);have hone:=okv.one;obtain⟨pre,post,e1,e2⟩:=zd2 h;obtain⟨a1,a2⟩:=zen (·.delay) (fun _ _=>rfl) hone
 obtain⟨b1,b2⟩:=zen (·.cost) (fun _ _=>rfl) hone
 obtain⟨c1,c2⟩:=zen (·.changes) (fun _ _=>rfl) hone
 obtain⟨v,hv⟩:∃ v,v=p.vars[b.length]:=⟨_,rfl⟩;rw[<- hv]at e1 e2 a1 a2 b1 b2 c1 c2 ⊢;have hn:(0:Int)<=v.leaves.length:=by omega
 constructor
 ·intro i hi k;unfold yl;rw[e1,e2]
  match k with
  | 0=>exact zw0 S ok h
  | 1=>simp only[cb,bI,zl6,z7s];refine zgy ?_;have:=a1 i hi;unfold mx;split <;> split <;> omega
  | 2=>simp only[cb,bI,zec,y74];have:=iJ (b1 i hi) hn;omega
  | 3=>simp only[cb,bI,zeb,y73];have:=iJ (c1 i hi) hn;omega
  |k+4=>simp
 ·intro k hk
  match k,hk with
  | 1,_=>obtain⟨i,hi,e⟩:=a2;refine⟨i,hi,?_⟩;unfold yl;rw[e1,e2];simp only[cb,bI,zl6,z7s,e]
  | 2,_=>obtain⟨i,hi,e⟩:=b2;refine⟨i,hi,?_⟩;unfold yl;rw[e1,e2];simp only[cb,bI,zec,y74,e]
  | 3,_=>obtain⟨i,hi,e⟩:=c2;refine⟨i,hi,?_⟩;unfold yl;rw[e1,e2];simp only[cb,bI,zeb,y73,e]
  |k+4,_=>exact⟨0,by omega,by simp[yl]⟩
def zw1{p:yj}{b:List Int}(okb:OkB p b)(h:b.length<p.vars.length){i:Nat}(hi:i<p.vars[b.length].choices.length):OkB p (b++[(i:Int)]):=by
 refine⟨by simp;omega,fun j hj hj'=>?_⟩
 by_cases e:j<b.length
 ·rw[List.getElem_append_left e];exact okb.each j e hj'
 ·have:j=b.length:=by simp at hj;omega
  subst this;unfold wi;simp;omega
end Dv
namespace Dv
attribute [local simp] ah depth y1z y51 ya y15 y4p ye y2p y2e Ret
attribute [local congr] z1f z1g z16 z12 zx z17 zw
def r62(p:yj)(b:List Int)(S:y19 p)(hb:b.length<=20):yu E (dL E) 62 [ye p,ya b]=some (dI (bk p b 280)):=by
 refine zg c62 (by simp) ?_
 conv in t62=>reduce;dsimp[ai]
 generalize hB:bk p b 280=B;have hB0 : ¬ OkP p->B=270:=by intro h;rw[<- hB];simp[bk,h]
 have hBf:OkP p -> ¬ OkB p b->B=280:=by intro h h';rw[<- hB];simp[bk,h,h']
 have hBt:OkP p->OkB p b->B=0:=by intro h h';rw[<- hB];simp[bk,h,h']
 have s3:=S.vars;have h15:=r15 p S;simp only[ye]at h15;simp[t62,n62,h15]
 by_cases h0:OkP p
 rotate_left
 ·have e:ck p=270:=by simp[ck,h0]
  simp[e,hB0 h0]
 have e:ck p=0:=by simp[ck,h0]
 simp[e]
 by_cases h1:p.vars.length<b.length
 ·simp[h1,hBf h0 (fun ok=>by have:=ok.len;omega)]
 have h1' : ¬ p.vars.length<b.length:=h1;simp[h1'];obtain⟨P,hP⟩:∃ P:Nat->Prop,P=fun i=>∀(h:i<b.length) (h':i<p.vars.length),wi b[i] 0 (p.vars[i].choices.length - 1):=⟨_,rfl⟩
 refine z5k b.length P
  (fun i env hp=>∃(x4 x5 x6 x7 x11 x12:D) (h:List Obj),env=[ye p,ya b,.loc 0 0,dI 0,x4,x5,x6,x7,ya b,dI b.length,dI i,x11,x12]/\hp=.cells (ye p).cellsL::h)
  ⟨_,_,_,_,_,_,_,rfl,rfl⟩ ?_ ?_
 ·rintro i env hp hi ⟨x4,x5,x6,x7,x11,x12,h,rfl,rfl⟩ hall;have hi':i<p.vars.length:=by omega
  have l2:=S.choices _ (av hi');have hcw:=za (n:=(p.vars[i].choices.length:Int) - 1) ⟨by omega,by omega⟩
  by_cases k1:wi b[i] 0 (p.vars[i].choices.length - 1)
  ·obtain⟨a1,a2,a3,a4⟩:=zci k1;have hPi:P i:=by rw[hP];exact fun _ _=>k1
   have a5 : ¬ (p.vars[i].choices.length:Int)<=b[i]:=by omega
   simp[hi,hi',a1,a3,a5,ze hi (by omega),hPi]
  ·have hB':=hBf h0 (fun ok=>k1 (ok.each i hi hi'))
   rcases zcj k1 with⟨q1,q2⟩ | ⟨q1,q2,q3,q4⟩
   ·simp[hi,hi',q1,q2,hB']
   ·have a5:(p.vars[i].choices.length:Int)<=b[i]:=by omega
    simp[hi,hi',q3,q4,a5,hB']
 ·rintro env hp ⟨x4,x5,x6,x7,x11,x12,h,rfl,rfl⟩ hall;rw[hP]at hall;simp[hBt h0 ⟨by omega,fun i hi hi'=>hall i hi hi hi'⟩]
open Classical in
noncomputable def yjj(p:yj)(b:List Int):D:=if bk p b 280=0 then .tup [ya (yl p b),dI 0]else .tup [ya [],dI (bk p b 280)]
def r3(p:yj)(b:List Int)(S:y19 p)(hb:b.length<=20):yu E (dL E) 3 [ye p,ya b]=some (yjj p b):=by
 refine zg c3 (by simp) ?_
 have h62:=r62 p b S hb;have s1:=S.cells;have s2:=S.cap;have s3:=S.vars;simp only[ye,ya]at h62;simp[t3,n3,h62]
 by_cases h0:bk p b 280=0
 rotate_left
 ·simp[h0,yjj]
 obtain⟨ok,okb⟩:=zy4 h0 (by decide)
 have hb0:=zma (e:=270) ok okb;simp only[yjj,h0,if_true];simp[h0,yg];have hov:=yhp S ok (b:=b);obtain⟨V,hV⟩:∃ V,V=ov p b:=⟨_,rfl⟩;rw[<- hV]at hov;refine zo p.capacity.length (fun i env hp=>∃(x5 x6 x7 x8 x9 x10 x11 x12 x13 x17 x18 x19 x20 x21 x22 x23 x24 x25 x26:D) (v:Int) (h:List Obj),env=[ye p,ya b,.loc 0 0,.loc 1 0,dI 0,x5,x6,x7,x8,x9,x10,x11,x12,x13,.imm .none (p.capacity.map ya),dI p.capacity.length,dI i,x17,x18,x19,x20,x21,x22,x23,x24,x25,x26] /\
  hp=.cells (ye p).cellsL :: .cells [.sl 2 0 4 1 false true] :: .cells [dI v,dI 0,dI 0,dI 0]::h/\0<=v/\v+ovL p b i (p.capacity.drop i)=V) 0 (by omega) ⟨_,_,_,_,_,_,_,_,_,_,_,_,_,_,_,_,_,_,_,0,_,rfl,rfl,by omega,by simp[hV,ov]⟩ ?_
 rintro i env hp hi ⟨x5,x6,x7,x8,x9,x10,x11,x12,x13,x17,x18,x19,x20,x21,x22,x23,x24,x25,x26,v,h,rfl,rfl,hv0,hv⟩
 by_cases hlt:i<p.capacity.length
 ·rw[zh hlt]at hv;simp only[ovL]at hv;have hrest:=zr0 (p:=p) (b:=b) (cs:=p.capacity.drop (i+1)) (k:=i+1);have hcap:=ok.cap _ (av hlt);have h14:=r14 p b i S hb;have hQ:ygl p b i=.tup [.imm .none ((dem p b i).map dI),dI 0]:=by
   have:(0:Int)<=i/\(i:Int)<=p.capacity.length - 1:=by omega
   unfold ygl;rw[if_pos hb0,if_pos this]
  rw[hQ]at h14;simp only[ye,ya]at h14;have hdl:(dem p b i).length=p.cells.length:=by simp[dem,z4l]
  have hdb:=zm1 S ok (b:=b) (leaf:=i);obtain⟨d,hd⟩:∃ d,d=dem p b i:=⟨_,rfl⟩;rw[<- hd]at h14 hdl hdb hv;obtain⟨c,hc⟩:∃ c,c=p.capacity[i]:=⟨_,rfl⟩;rw[<- hc]at hcap hv;simp[hlt,h14];simp only[<- hc];obtain⟨rest,hre⟩:∃ rest,rest=ovL p b (i+1) (p.capacity.drop (i+1)):=⟨_,rfl⟩;rw[<- hre]at hv hrest;refine zo d.length (fun j env hp=>∃(x7 x8 x9 x10 x11 x12 x13 x17 x18 x19 x23 x24 x25 x26:D) (v:Int) (h:List Obj),env=[ye p,ya b,.loc 0 0,.loc 1 0,dI 0,dI i,ya c,x7,x8,x9,x10,x11,x12,x13,.imm .none (p.capacity.map ya),dI p.capacity.length,dI i,x17,x18,x19,ya d,dI d.length,dI j,x23,x24,x25,x26] /\
   hp=.cells (ye p).cellsL :: .cells [.sl 2 0 4 1 false true] :: .cells [dI v,dI 0,dI 0,dI 0]::h/\0<=v/\v+(ovR (d.drop j) (c.drop j)+rest)=V) 0 (by omega) ⟨_,_,_,_,_,_,_,_,_,_,_,_,_,_,v,_,rfl,rfl,hv0,by simpa using hv⟩ ?_
  rintro j env hp hj ⟨x7,x8,x9,x10,x11,x12,x13,x17,x18,x19,x23,x24,x25,x26,v,h,rfl,rfl,hv0,hv⟩
  by_cases hlt2:j<d.length
  ·have hjc:j<c.length:=by omega
   rw[zh hlt2,zh hjc]at hv;simp only[ovR]at hv;have hrp:=zis (d:=d.drop (j+1)) (c:=c.drop (j+1));have hd1:=hdb _ (av hlt2);have hc1:=hcap.2 _ (av hjc);unfold wi at hc1;have hm0:=mx0 (a:=d[j] - c[j]);have w1:=za (n:=d[j] - c[j]) ⟨by omega,by omega⟩
   have w2:=za (n:=v+mx (d[j] - c[j]) 0) ⟨by omega,by omega⟩
   unfold mx at w2;simp[hlt2,hjc,w1,w2,ze hlt2 (by omega)]
   have hv':v+mx (d[j] - c[j]) 0+(ovR (d.drop (j+1)) (c.drop (j+1))+rest)=V:=by omega
   exact⟨Int.add_nonneg hv0 hm0,hv'⟩
  ·have:j=d.length:=by omega
   subst this;simp only[bv,ovR,Int.zero_add]at hv;simp[ze hlt (by omega)]
   exact⟨hv0,by rw[<- hre];exact hv⟩
 ·have:i=p.capacity.length:=by omega
  subst this;simp only[bv,ovL,iI]at hv;have h63:=r63 p b;simp only[ye,ya]at h63;simp[h63];refine⟨102,_,rfl,?_⟩;intro L hL hcb;obtain⟨l,hl⟩:∃ l,l=h.length:=⟨_,rfl⟩;simp only[ar,<- hl]at hcb ⊢;have hbd:=za5 (vs:=p.vars) (b:=b) (fun v hv=>⟨ok.vars v hv,S.leaves v hv⟩)
  have hpl:=zax (vs:=p.vars) (b:=b);have hCb:=zai hbd;have hGb:=zah hbd;obtain⟨M,hM⟩:∃ M,M=y8y 0 (y30 p.vars b):=⟨_,rfl⟩;obtain⟨C,hC⟩:∃ C,C=y74 (y30 p.vars b):=⟨_,rfl⟩;obtain⟨G,hG⟩:∃ G,G=y73 (y30 p.vars b):=⟨_,rfl⟩;rw[<- hC]at hCb;rw[<- hG]at hGb;obtain⟨J,hJ⟩:∃ J:List (Int × y1p)->List Obj->Prop,J=fun rem hp'=>∃(v1 v2 v3:Int) (h':List Obj),hp'=.cells (ye p).cellsL :: .cells [.sl 2 0 4 1 false true] :: .cells [dI V,dI v1,dI v2,dI v3]::h' /\
   At h' l (L false none)/\0<=v2/\0<=v3/\y8y v1 rem=M/\v2+y74 rem=C/\v3+y73 rem=G/\(∀ x,x ∈ rem->bdP x):=⟨_,rfl⟩
  have key:=i102 p b S hb ok okb (l+1+1+1) J (fun _=>False) (by
    rw[hJ];rintro rem hp' r ⟨v1,v2,v3,h',rfl,a1,a2⟩;exact⟨v1,v2,v3,h'++r,rfl,a1.app,a2⟩) (by
    intro x rem hp1 hj;rw[hJ]at hj;obtain⟨v1,v2,v3,h',rfl,a1,a2,a3,a4,a5,a6,a7⟩:=hj;obtain⟨n,c⟩:=x;have hx:=a7 (n,c) (by simp)
    have hr2:=zai (l:=rem) (fun y hy=>a7 y (by simp[hy]))
    have hr3:=zah (l:=rem) (fun y hy=>a7 y (by simp[hy]))
    simp only[y74]at a5;simp only[y73]at a6;obtain⟨⟨n1,n2⟩,⟨d1,d2⟩,⟨c1,c2⟩,⟨g1,g2⟩⟩:=hx;simp only at n1 n2 d1 d2 c1 c2 g1 g2;have m1:=zd5 c1 c2 n1 n2;have m2:=zd5 g1 g2 n1 n2;have w1:=za (n:=c.cost*n) ⟨by omega,by omega⟩
    have w2:=za (n:=v2+c.cost*n) ⟨by omega,by omega⟩
    have w3:=za (n:=c.changes*n) ⟨by omega,by omega⟩
    have w4:=za (n:=v3+c.changes*n) ⟨by omega,by omega⟩
    have hl1:=a1.lt;have LU:∀ r,(h'.set l (L true none)++r)[h'.length]? = r[0]?:=fun r=>by have:=z1o (hp:=h'.set l (L true none)) (r:=r) (k:=0);simpa using this
    obtain⟨t,hp2,e1,e2⟩:=hcb [dI n,y15 c] (.cells (ye p).cellsL :: .cells [.sl 2 0 4 1 false true] :: .cells [dI V,dI v1,dI v2,dI v3]::h') (fun t hp'=>t=true/\J rem hp') rfl (by simpa[At]using a1) (by
     simp[y23,w1,w2,w3,w4,z1d hl1,LU,↓a1.appE];have T:=At.self (o:=L true none) hl1;refine⟨T.appE,?_⟩;rw[z1d T.lt,hJ];exact⟨mx v1 c.delay,v2+c.cost*n,v3+c.changes*n,_,rfl,(At.self T.lt).app,by omega,by omega,a4,by omega,by omega,fun y hy=>a7 y (by simp[hy])⟩)
    obtain⟨rfl,e3⟩:=e2;exact⟨true,hp2,e1,fun _=>e3,fun h=>by cases h⟩) (hp:=.cells (ye p).cellsL :: .cells [.sl 2 0 4 1 false true] :: .cells [dI v,dI 0,dI 0,dI 0]::(h++[L false none])) (by
    rw[hJ];exact⟨0,0,0,_,by rw[hv],by rw[hl];simp[At],by omega,by omega,hM.symm,by omega,by omega,hbd⟩)
  obtain⟨d,hp',h1,h2⟩:=key;rcases h2 with h2 | h2
  rotate_left
  ·exact h2.elim
  rw[hJ]at h2;obtain⟨v1,v2,v3,h',rfl,a1,a2,a3,a4,a5,a6,a7⟩:=h2;simp only[y8y,gQ,y74,y73,iI]at a4 a5 a6;refine⟨d,_,h1,.inl ⟨a1,?_⟩⟩;simp[y31,yl,<- hV,<- hM,<- hC,<- hG,a4,a5,a6]
def zy2{p:yj}(S:y19 p){a:List Int}(h:Whole p a):∀(m k:Nat),k+m=a.length->∀ n,(yl p (a.take k)).getD n 0<=(yl p a).getD n 0:=by
 intro m
 induction m with
 |zero=>
  intro k hk n;rw[bd (by omega)]
  exact eH _
 |succ m ih=>
  intro k hk n;refine lg ?_ (ih (k+1) (by omega) n)
  have hlt:k<a.length:=by omega
  have hl:(a.take k).length=k:=by simp;omega
  have hv:(a.take k).length<p.vars.length:=by rw[hl];have:=h.2.2;omega
  have hw:=h.2.1.each k hlt (by have:=h.2.2;omega)
  unfold wi at hw;obtain⟨i,hi⟩:∃ i:Nat,a[k]=i:=⟨a[k].toNat,by omega⟩
  have:=(zk0 S h.1 hv).1 i (by simp only[hl];omega) n
  rw[List.take_succ_eq_append_getElem hlt,hi];exact this
def zt4{l:List Int}:y2k 1 (l.map dI)=true:=by
 unfold y2k;rw[ay];intro d hd;obtain⟨n,_,rfl⟩:=aL.1 hd
 rfl
def y59(f:Nat->yt)(l:List (List Int)):List D:=(l.zipIdx).map fun x=>.imm (f x.2) (x.1.map dI)
def zt3{f:Nat->yt}{l:List (List Int)}:y2k 1 (y59 f l)=true:=by
 unfold y2k y59;rw[ay];intro d hd;obtain⟨n,_,rfl⟩:=aL.1 hd
 rfl
def zws{hp:List Obj}{n:Nat}{f:Nat->yt}{l:List (List Int)}:y1k (frz hp (n+2)) (y59 f l)=some (l.map ya):=by
 unfold y59;have key:∀(l:List (List Int)) (k:Nat),y1k (frz hp (n+2)) ((l.zipIdx k).map fun x=>.imm (f x.2) (x.1.map dI))=some (l.map ya):=by
  intro l
  induction l with
  |nil=>intro k;rfl
  |cons x r ih=>intro k;simp only[jv,al,z1k,z3u,z5x,aq,zc,ih]
 exact key l 0
def zqo{f:Nat->yt}{l:List (List Int)}{x:List Int}{sp:yt}:y59 f l++[.imm sp (x.map dI)]=y59 (fun k=>if k=l.length then sp else f k) (l++[x]):=by
 unfold y59;rw[lw,bp];congr 1
 ·refine List.map_congr_left fun y hy=>?_
  have:=List.snd_lt_of_mem_zipIdx hy;have hne : ¬ y.2=l.length:=by omega
  simp only[hne,if_false]
 ·simp
def y5v(p:yj)(b:List Int):List (List Int):=(bD (p.vars.getD b.length ⟨0,0,[],[]⟩).choices.length).map fun(i:Nat)=>b++[(i:Int)]
def zzy{l:List Int}:((l.map dI).all fun d=>d.storable && d.cellsL.length == 1)=true:=zt4
open Classical in
noncomputable def ygm(p:yj)(b:List Int):D:=
 if bk p b 280=0 then(if b.length=p.vars.length then .tup [.imm .none [],dI 280]else .tup [.imm .none ((y5v p b).map ya),dI 0])else .tup [.imm .none [],dI (bk p b 280)]
def y5u(b:List Int)(i:Nat):List (List Int):=(bD i).map fun(k:Nat)=>b++[(k:Int)]
def zgx{b:List Int}{i:Nat}:(y5u b i).length=i:=by simp[y5u]
def zng{b:List Int}{i:Nat}:y5u b (i+1)=y5u b i++[b++[(i:Int)]]:=by simp[y5u,fk]
def zkp{f:Nat->yt}{l:List (List Int)}:(y59 f l).length=l.length:=by simp[y59]
def zp6{f:Nat->yt}{l:List (List Int)}{new:List D}(h:l.length+new.length<=1000):y2o E 1 (y59 f l) new:=by
 refine⟨?_,?_,?_,zt3⟩ <;> simp[yg,zkp]
 omega
def zyr{l:List Int}{new:List D}(h:l.length+new.length<=1000):y2o E 2 (l.map dI) new:=by
 refine⟨?_,?_,?_,zt4⟩ <;> simp[yg]
 omega
def z7c{E:Env}{cP:Nat->List D->Option D}{env:List D}{hp:List Obj}{t a c d:Nat}{x y z:Xp}(h1:c ≠ a)(h2:d ≠ a)(h3:d ≠ c) :
  xv E cP env hp (.n (.slice t (.t a) none (some (.t c)) (some (.t d))) (.cons a x (.cons c y (.cons d z .nil))))=ob (xv E cP env hp x) fun u=>ob (xv E cP env hp y) fun v=>ob (xv E cP env hp z) fun w=>y13 E t u none (some v) (some w):=by
 simp only[xv,xvs];cases xv E cP env hp x <;> try rfl
 cases xv E cP env hp y <;> try rfl
 cases xv E cP env hp z <;> try rfl
 simp only[yb,aq,Option.map_none,gOf,kv,zc,if_true,if_false,h1,h2,h3,↓reduceIte];exact z19
def zcu{b:List Int}:y13 E 1 (.imm .none (b.map dI)) none (some (dI b.length)) (some (dI b.length))=some (.imm .exact (b.map dI)):=by
 have hh:y2u 1 (b.map dI)=true:=by cases b <;> rfl
 have ht:(b.map dI).take b.length=b.map dI:=bd (by simp)
 simp[y13,bnd,y27,hh,ht]
def r7(p:yj)(b:List Int)(S:y19 p)(hb:b.length<=20):yu E (dL E) 7 [ye p,ya b]=some (ygm p b):=by
 refine zg c7 (by simp) ?_
 conv in t7=>reduce;dsimp[ai]
 have h62:=r62 p b S hb;have s3:=S.vars;simp only[ye,ya]at h62;simp[t7,n7,h62]
 by_cases h0:bk p b 280=0
 rotate_left
 ·simp[h0,ygm]
 have hbl:b.length<=p.vars.length:=by
  unfold bk at h0
  by_cases h1:OkP p
  ·by_cases h2:OkB p b
   ·exact h2.len
   ·simp[h1,h2]at h0
  ·simp[h1]at h0
 by_cases he:b.length=p.vars.length
 ·have he':(b.length:Int)=p.vars.length:=by omega
  simp[h0,he,he',ygm]
 have he' : ¬ (b.length:Int)=p.vars.length:=by omega
 have hlt0:b.length<p.vars.length:=by omega
 have hres:ygm p b=.tup [.imm .none ((y5u b p.vars[b.length].choices.length).map ya),dI 0]:=by simp[ygm,h0,he,y5v,y5u,hlt0]
 have l2:=S.choices _ (av hlt0);simp only[hres];simp[h0,he,he',hlt0];refine zo p.vars[b.length].choices.length (fun i env hp=>∃(x6 x7 x8 x11 x12 x13:D) (sp:yt) (f:Nat->yt) (h:List Obj),env=[ye p,ya b,.loc 0 0,.imm sp (y59 f (y5u b i)),dI 0,dI b.length,x6,x7,x8,dI p.vars[b.length].choices.length,dI i,x11,x12,x13] /\
  hp=.cells (ye p).cellsL::h/\((sp=.exact/\i=0) \/ ∃ k,sp=.tok (k+1)/\h[k]? = some (.tok i 1))) 0 (by omega) ⟨_,_,_,_,_,_,.exact,fun _=>.none,_,rfl,rfl,.inl ⟨rfl,rfl⟩⟩ ?_
 rintro i env hp hi ⟨x6,x7,x8,x11,x12,x13,sp,f,h,rfl,rfl,hsp⟩
 by_cases hlt:i<p.vars[b.length].choices.length
 ·have a2:y2o E 2 (b.map dI) [dI i]:=zyr (by simp;omega)
  have a3:∀ x:D,y2o E 1 (y59 f (y5u b i)) [x]:=fun x=>zp6 (by simp[zgx];omega)
  obtain⟨F,hF⟩:∃ F:Nat->yt,y59 f (y5u b i)++[.imm (.tok (h.length+1)) (bP dI b++[dI i])]=y59 F (y5u b (i+1)):=by
   refine⟨fun k=>if k=(y5u b i).length then .tok (h.length+1)else f k,?_⟩
   rw[zng,<- zqo];simp
  have hrl:(y59 f (y5u b i)).length=i:=by rw[zkp,zgx]
  rcases hsp with⟨rfl,hi0⟩ | ⟨k,rfl,hk⟩
  ·simp[hlt,hlt0,zq,zz,z14,zzy,a2,z7c,zcu,a3,hF,hrl,ze hlt (by omega),z1i,z34]
   exact⟨_,_,_,_,_,_,_,⟨⟨rfl,F,rfl⟩,rfl,rfl,rfl,rfl,rfl,rfl⟩,h.length+1,rfl,by simp⟩
  ·have hkl:=(ae.1 hk).1;have hk2:∀ r,(h++r)[k]? = some (.tok i 1):=fun r=>by rw[aD hkl];exact hk
   simp[hlt,hlt0,zq,zz,z14,zzy,a2,z7c,zcu,z1i,z34];simp[z14,a3,hF,hrl,hk2,ze hlt (by omega)]
   exact⟨_,_,_,_,_,_,_,⟨⟨rfl,F,rfl⟩,rfl,rfl,rfl,rfl,rfl,rfl⟩,h.length+1,rfl,by simp⟩
 ·have hi':i=p.vars[b.length].choices.length:=by omega
  subst hi';simp[hlt0,zws]
def ye6{p:yj}:OkB p []:=⟨by simp,fun i h=>by simp at h⟩
end Dv
namespace Dv
structure y62 where
 branch:List Int
 kind:Int
 mult:List (List Int)
structure y4f where
 opn:List (List Int)
 best:List Int
 value:List Int
 leaves:List y62
def bet(p:yj)(b:List Int)(v:List Int):Bool:=decide (v.length=0) || decide (y2h (yl p b) v<0)
def yjh(p:yj)(b:List Int)(v:List Int):Bool:=decide (0<v.length) && decide (0<=y2h (yl p b) v)
def y8l(p:yj)(b:List Int)(s:y4f):y4f:=
 if b.length=p.vars.length then(if bet p b s.value=true then⟨s.opn,b,yl p b,s.leaves++[⟨b,1,[]⟩]⟩else⟨s.opn,s.best,s.value,s.leaves++[⟨b,1,[]⟩]⟩)
 else if yjh p b s.value=true then⟨s.opn,s.best,s.value,s.leaves++[⟨b,2,[]⟩]⟩
 else⟨s.opn++(y5v p b).reverse,s.best,s.value,s.leaves⟩
def exam(p:yj)(s:y4f):y4f:=match s.opn.getLast? with
 |none=>s
 |some b=>y8l p b ⟨s.opn.dropLast,s.best,s.value,s.leaves⟩
def za1{p:yj}{s:y4f}(h:s.opn=[]):exam p s=s:=by simp[exam,h]
def z5y{p:yj}{s:y4f}{l:List (List Int)}{b:List Int}(h:s.opn=l++[b]):exam p s=y8l p b ⟨l,s.best,s.value,s.leaves⟩:=by simp[exam,h]
def iter(p:yj):Nat->y4f->y4f
 | 0,s=>s
 |n+1,s=>iter p n (exam p s)
def z9x{p:yj}{s:y4f}(h:s.opn=[]):∀{n:Nat},iter p n s=s
 | 0=>rfl
 |n+1=>by rw[iter,za1 h,z9x h]
def z9y{p:yj}:∀{n m:Nat} {s:y4f},iter p m (iter p n s)=iter p (n+m) s
 | 0,m,s=>by rw[Nat.zero_add];rfl
 |n+1,m,s=>by rw[show n+1+m=(n+m)+1 from by omega,iter,iter,z9y]
def zs2{p:yj}{n:Nat}{s:y4f}:iter p (n+1) s=exam p (iter p n s):=(z9y (n:=n) (m:=1) (s:=s)).symm
def wgt:List Var->Nat
 |[]=>1
 |v::vs=>1+v.choices.length*wgt vs
def wB(p:yj)(b:List Int):Nat:=wgt (p.vars.drop b.length)
def wO(p:yj):List (List Int)->Nat
 |[]=>0
 |b::l=>wB p b+wO p l
def zkc{p:yj}:∀{l r:List (List Int)},wO p (l++r)=wO p l+wO p r
 |[],r=>by simp[wO]
 |b::l,r=>by simp only[aG,wO,zkc];omega
def zz4{p:yj}:∀{l:List (List Int)},wO p l.reverse=wO p l
 |[]=>rfl
 |b::l=>by rw[List.reverse_cons,zkc,zz4];simp only[wO];omega
def zpq:∀{vs:List Var},1<=wgt vs
 |[]=>by simp[wgt]
 |v::vs=>by simp only[wgt];omega
def zps{p:yj}{b:List Int}:1<=wB p b:=zpq
def zpr{p:yj}{w:Nat}:∀{l:List (List Int)},(∀ b,b ∈ l->wB p b=w)->wO p l=l.length*w
 |[],_=>by simp[wO]
 |b::l,h=>by rw[wO,h b (by simp),zpr fun c hc=>h c (by simp[hc]),ar,Nat.succ_mul];omega
def zjj{p:yj}{n:Nat}(h:n<p.vars.length):p.vars.getD n ⟨0,0,[],[]⟩=p.vars[n]:=by rw[af,ac h,aX]
def z6d{p:yj}{b c:List Int}(h:b.length<p.vars.length):c ∈ y5v p b ↔ ∃ i:Nat,i<p.vars[b.length].choices.length/\c=b++[(i:Int)]:=by
 unfold y5v;rw[zjj h,aL];constructor
 ·rintro⟨i,hi,rfl⟩;exact⟨i,by simpa using hi,rfl⟩
 ·rintro⟨i,hi,rfl⟩;exact⟨i,by simpa using hi,rfl⟩
def zl2{p:yj}{b:List Int}(h:b.length<p.vars.length):(y5v p b).length=p.vars[b.length].choices.length:=by unfold y5v;rw[zjj h];simp
def yd5{p:yj}{b:List Int}(h:b.length<p.vars.length):wO p (y5v p b)+1=wB p b:=by
 rw[zpr (w:=wgt (p.vars.drop (b.length+1))) fun c hc=>by
  obtain⟨i,_,rfl⟩:=(z6d h).1 hc;simp[wB],zl2 h]
 unfold wB;rw[zh h,wgt];omega
def zbq{p:yj}{s:y4f}(h:s.opn ≠ [])(ho:∀ b,b ∈ s.opn->OkB p b):wO p (exam p s).opn+1<=wO p s.opn:=by
 obtain⟨l,b,hl⟩:∃ l b,s.opn=l++[b]:=⟨s.opn.dropLast,s.opn.getLast h,(dQ h).symm⟩;rw[z5y hl,hl,zkc];have h1:wO p [b]=wB p b:=by simp[wO]
 have h2:=zps (p:=p) (b:=b);rw[h1];unfold y8l;split
 ·split
  ·simp only[];omega
  ·simp only[];omega
 ·rename_i hb;have hlt:b.length<p.vars.length:=by have:=(ho b (by rw[hl];simp)).len;omega
  split
  ·simp only[];omega
  ·simp only[];have:=yd5 hlt;rw[zkc,zz4];omega
def y4u(p:yj)(l:y62):Prop:=OkB p l.branch/\l.mult=[]/\(l.kind=1/\l.branch.length=p.vars.length\/l.kind=2)
structure OkS(p:yj)(s:y4f):Prop where
 opn:∀ b,b ∈ s.opn->OkB p b
 leaf:∀ l,l ∈ s.leaves->y4u p l
 val:s.value=[]/\s.best=[]\/Whole p s.best/\s.value=yl p s.best
def OkS.exam{p:yj}{s:y4f}(ok:OkP p)(h:OkS p s):OkS p (exam p s):=by
 by_cases hn:s.opn=[]
 ·rw[za1 hn];exact h
 obtain⟨l,b,hl⟩:∃ l b,s.opn=l++[b]:=⟨s.opn.dropLast,s.opn.getLast hn,(dQ hn).symm⟩;rw[z5y hl];have hb:=h.opn b (by rw[hl];simp)
 have ho:∀ c,c ∈ l->OkB p c:=fun c hc=>h.opn c (by rw[hl];simp[hc])
 have hleaf:∀ x:y62,y4u p x->∀ y,y ∈ s.leaves++[x]->y4u p y:=fun x hx y hy=>by
  rcases aB.1 hy with hy | hy
  ·exact h.leaf y hy
  ·rw[bz.1 hy];exact hx
 unfold y8l;split
 ·rename_i e;have h1:y4u p ⟨b,1,[]⟩:=⟨hb,rfl,.inl ⟨rfl,e⟩⟩;split
  ·exact⟨ho,hleaf _ h1,.inr ⟨⟨ok,hb,e⟩,rfl⟩⟩
  ·exact⟨ho,hleaf _ h1,h.val⟩
 ·rename_i e;have hlt:b.length<p.vars.length:=by have:=hb.len;omega
  split
  ·exact⟨ho,hleaf _ ⟨hb,rfl,.inr rfl⟩,h.val⟩
  ·refine⟨fun c hc=>?_,h.leaf,h.val⟩
   rcases aB.1 hc with hc | hc
   ·exact ho c hc
   ·obtain⟨i,hi,rfl⟩:=(z6d hlt).1 (ip.1 hc);exact zw1 hb hlt hi
def OkS.iter{p:yj}(ok:OkP p):∀{n:Nat} {s:y4f},OkS p s->OkS p (iter p n s)
 | 0,_,h=>h
 |n+1,s,h=>OkS.iter (n:=n) (s:=Dv.exam p s) ok (h.exam ok)
def zld{p:yj}(ok:OkP p):∀{n:Nat} {s:y4f},OkS p s->wO p s.opn<=n->(iter p n s).opn=[]
 | 0,s,_,hn=>by
  cases h:s.opn with
  |nil=>exact h
  |cons b l=>rw[h,wO]at hn;have:=zps (p:=p) (b:=b);omega
 |n+1,s,h,hn=>by
  by_cases e:s.opn=[]
  ·rw[z9x e];exact e
  ·have:=zbq e h.opn;exact zld (n:=n) (s:=Dv.exam p s) ok (h.exam ok) (by omega)
def y3n:y4f:=⟨[[]],[],[],[]⟩
def z5n{p:yj}:OkS p y3n:=⟨fun b hb=>by
 rw[bz.1 hb];exact ye6,fun l hl=>by simp[y3n]at hl,.inl ⟨rfl,rfl⟩⟩
def y2q(p:yj):y4f:=iter p (wO p [[]]) y3n
def zal{p:yj}(ok:OkP p):(y2q p).opn=[]:=zld ok z5n (aj _)
def zwh{p:yj}{n:Nat}(ok:OkP p)(h:(iter p n y3n).opn=[]):iter p n y3n=y2q p:=by
 unfold y2q;rcases Nat.le_total n (wO p [[]])with hl | hl
 ·obtain⟨k,hk⟩:∃ k,wO p [[]]=n+k:=⟨wO p [[]] - n,by omega⟩
  rw[hk,<- z9y,z9x h]
 ·obtain⟨k,hk⟩:∃ k,n=wO p [[]]+k:=⟨n - wO p [[]],by omega⟩
  rw[hk,<- z9y];exact z9x (zal ok)
def ztu{a b c:List Int}(h1:a.length=b.length)(h2:b.length=c.length)(h3:y2h a b<=0)(h4:y2h b c<=0):y2h a c<=0:=by
 by_cases e1:y2h a b=0
 ·rw[(z4n h1).1 e1];exact h4
 ·by_cases e2:y2h b c=0
  ·rw[<- (z4n h2).1 e2];exact h3
  ·have:=z6l (a:=a) (b:=b) (c:=c) (by omega) (by omega);omega
def zhs{p:yj}{a b c:List Int}(h1:a.length=b.length)(h2:b.length=c.length)(h3:y20 p a b<=0)(h4:y20 p b c<=0):y20 p a c<=0:=by
 by_cases e1:y20 p a b=0
 ·rw[(z5h h1).1 e1];exact h4
 ·by_cases e2:y20 p b c=0
  ·rw[<- (z5h h2).1 e2];exact h3
  ·have:=zhr (p:=p) (a:=a) (b:=b) (c:=c) (by omega) (by omega);omega
end Dv
namespace Dv
def Bef(p:yj)(b c:List Int):Prop:=∀ x y,Whole p x->Whole p y->b <+: x->c <+: y->y2h x y<0
def zm6:∀{b u v:List Int},y2h (b++u) (b++v)=y2h u v
 |[],_,_=>rfl
 |x::b,u,v=>by simp only[aG,y2h,z33.2 rfl,if_true,zm6]
def zyj{p:yj}{b:List Int}{i j:Int}(h:i<j):Bef p (b++[i]) (b++[j]):=by rintro x y _ _ ⟨u,rfl⟩ ⟨v,rfl⟩;rw[bi,bi,zm6];simp only[ga,y2h];have:=zbv.2 h;rw[if_neg (by omega)];exact this
structure Inv(p:yj)(s:y4f):Prop where
 ok:OkS p s
 dom:∀ x,Whole p x->(∃ b,b ∈ s.opn/\b <+: x)\/s.value ≠ []/\y20 p s.best x<=0
 ord:s.opn.reverse.Pairwise (Bef p)
 old:s.value ≠ []->∀ b,b ∈ s.opn->∀ x,Whole p x->b <+: x->y2h s.best x<0
 leaf:∀ l,l ∈ s.leaves->s.value ≠ []/\0<=y2h (yl p l.branch) s.value/\(l.kind=1/\l.branch.length=p.vars.length/\0<=y20 p l.branch s.best\/l.kind=2/\l.branch.length ≠ p.vars.length)
 cnt:∀ x,Whole p x->(s.opn++s.leaves.map (·.branch)).countP (fun b=>b.isPrefixOf x)=1
def zbz{p:yj}{b:List Int}:yl p b ≠ []:=by simp[yl]
def zqy{p:yj}{b x:List Int}(hx:Whole p x)(hb:b.length=p.vars.length)(h:b <+: x):b=x:=by
 obtain⟨u,rfl⟩:=h;have:=hx.2.2;rw[ao]at this;have:u=[]:=aK (by omega)
 simp[this]
def zu5{p:yj}(S:y19 p){b x:List Int}(hx:Whole p x)(h:b <+: x):y2h (yl p b) (yl p x)<=0:=by
 obtain⟨u,rfl⟩:=h;have:=zy2 S hx u.length b.length (by simp)
 rw[List.take_left']at this
 ·exact zdn rfl this
 ·rfl
def zkt{p:yj}{b x:List Int}(hx:Whole p x)(hlt:b.length<p.vars.length)(h:b <+: x):∃ i:Nat,i<p.vars[b.length].choices.length/\b++[(i:Int)] <+: x:=by
 obtain⟨u,rfl⟩:=h;have hl:=hx.2.2;rw[ao]at hl;cases u with
 |nil=>simp at hl;omega
 |cons k u=>
  have hw:=hx.2.1.each b.length (by simp) hlt
  rw[List.getElem_append_right (aj _)]at hw;simp only[Nat.sub_self,List.getElem_cons_zero]at hw;unfold wi at hw;exact⟨k.toNat,by omega,⟨u,by simp;omega⟩⟩
def yau{b x:List Int}:b.isPrefixOf x=true ↔ b <+: x:=List.isPrefixOf_iff_prefix
def ztt{k:Nat}:∀{n:Nat},k<n->(bD n).countP (fun i=>decide (k=i))=1:=by
 intro n h;have h1:(bD n).countP (fun i=>decide (k=i))=(bD n).count k:=by
  unfold List.count;congr 1;funext i
  by_cases e:k=i
  ·simp[e]
  ·have : ¬ i=k:=fun h=>e h.symm
   simp[e,this]
 rw[h1];exact vI List.nodup_range |>.trans (by simp[h])
def zxx{p:yj}{b x:List Int}(hx:Whole p x)(hlt:b.length<p.vars.length):(y5v p b).countP (fun c=>c.isPrefixOf x)=[b].countP (fun c=>c.isPrefixOf x):=by
 by_cases h:b <+: x
 ·rw[kp,if_pos (yau.2 h)];obtain⟨k,hk,hp⟩:=zkt hx hlt h;unfold y5v;rw[zjj hlt,List.countP_map];rw[show((fun c:List Int=>c.isPrefixOf x) ∘ fun(i:Nat)=>b++[(i:Int)])=fun i=>decide (k=i)from ?_]
  ·exact ztt hk
  funext i;simp only[Function.comp]
  by_cases e:k=i
  ·subst e;rw[yau.2 hp];simp
  ·simp only[e,decide_false];cases hh:(b++[(i:Int)]).isPrefixOf x with
   |false=>rfl
   |true=>obtain⟨u,hu⟩:=yau.1 hh;obtain⟨v,hv⟩:=hp;rw[<- hv,bi,bi,List.append_cancel_left_eq]at hu;simp only[ga,bZ]at hu;omega
 ·rw[kp,if_neg (fun e=>h (yau.1 e)),List.countP_eq_zero]
  intro c hc hh;obtain⟨i,_,rfl⟩:=(z6d hlt).1 hc;exact h (iO (je _ _) (yau.1 hh))
def zqd{p:yj}:Inv p y3n where
 ok:=z5n
 dom:=fun x _=>.inl ⟨[],by simp[y3n],List.nil_prefix⟩
 ord:=by simp[y3n]
 old:=fun h=>absurd rfl h
 leaf:=fun l hl=>by simp[y3n]at hl
 cnt:=fun x _=>by simp[y3n]
def Inv.exam{p:yj}(S:y19 p)(ok:OkP p){s:y4f}(I:Inv p s):Inv p (exam p s):=by
 by_cases hn:s.opn=[]
 ·rw[za1 hn];exact I
 obtain⟨l,b,hl⟩:∃ l b,s.opn=l++[b]:=⟨s.opn.dropLast,s.opn.getLast hn,(dQ hn).symm⟩;have hok:=I.ok.exam ok;rw[z5y hl]at hok ⊢;have hb:=I.ok.opn b (by rw[hl];simp)
 have hord:=I.ord;rw[hl,iP]at hord;simp only[List.reverse_singleton,ga,List.pairwise_cons]at hord;obtain⟨hbl,hord⟩:=hord;have hcnt:=I.cnt;rw[hl]at hcnt;have hdom:=I.dom;have y5c:=I.old;rw[hl]at y5c;simp only[hl]at hdom;have hbest:s.value ≠ []->Whole p s.best/\s.value=yl p s.best:=fun h=>by
  rcases I.ok.val with⟨e,_⟩ | e
  ·exact absurd e h
  ·exact e
 have hc2:∀ x,Whole p x->∀ y:y62,y.branch=b->(l++(s.leaves++[y]).map (·.branch)).countP (fun b=>b.isPrefixOf x)=1:=fun x hx y hy=>by have:=hcnt x hx;simp only[lA,bp,al,aO,hy]at this ⊢;omega
 have hge0:∀ x,Whole p x->b <+: x->s.value ≠ []->0<=y2h (yl p b) s.value->y20 p s.best x<=0:=fun x hx hp hv h0=>by
  obtain⟨w,e⟩:=hbest hv;have h1:=zu5 S hx hp;have h2:y2h s.value (yl p b)<=0:=by rw[z4o];omega
  have h3:y2h (yl p s.best) (yl p x)<=0:=by rw[<- e];exact ztu (a:=s.value) (b:=yl p b) (c:=yl p x) (by rw[e];rfl) rfl h2 h1
  unfold y20;split
  ·have:=y5c hv b (by simp) x hx hp;omega
  ·exact h3
 unfold y8l at hok ⊢
 by_cases e:b.length=p.vars.length
 ·rw[if_pos e]at hok ⊢;have wb:Whole p b:=⟨ok,hb,e⟩
  by_cases hbt:bet p b s.value=true
  ·rw[if_pos hbt]at hok ⊢;have hle:s.value ≠ []->y20 p b s.best<0:=fun hv=>by
    obtain⟨w,ev⟩:=hbest hv;have h0 : ¬ s.value.length=0:=fun h=>hv (aK h)
    have:y2h (yl p b) s.value<0:=by simpa[bet,h0]using hbt
    rw[ev]at this;unfold y20;rw[if_neg (by omega)];exact this
   refine⟨hok,fun x hx=>?_,hord,fun _ c hc x hx hp=>?_,fun y hy=>⟨zbz,?_⟩,fun x hx=>hc2 x hx _ rfl⟩
   ·rcases hdom x hx with⟨c,hc,hp⟩ | ⟨hv,h1⟩
    ·rcases aB.1 hc with hc | hc
     ·exact .inl ⟨c,hc,hp⟩
     ·rw[bz.1 hc]at hp;rw[<- zqy hx e hp];exact .inr ⟨zbz,by rw[(z5h rfl).2 rfl];exact eH _⟩
    ·refine .inr ⟨zbz,?_⟩;have:=hle hv;exact zhs (e.trans (hbest hv).1.2.2.symm) ((hbest hv).1.2.2.trans hx.2.2.symm) (by simp only[];omega) h1
   ·exact hbl c (ip.2 hc) b x wb hx (mD _) hp
   ·rcases aB.1 hy with hy | hy
    ·obtain⟨h1,h2,h3⟩:=I.leaf y hy;obtain⟨w,ev⟩:=hbest h1;have hl1:=hle h1;have h5:y2h (yl p b) (yl p s.best)<=0:=by
      have h0 : ¬ s.value.length=0:=fun h=>h1 (aK h)
      have:y2h (yl p b) s.value<0:=by simpa[bet,h0]using hbt
      rw[ev]at this;omega
     refine⟨?_,?_⟩
     ·have h4:y2h s.value (yl p y.branch)<=0:=by rw[z4o];omega
      rw[ev]at h4;have:=ztu (a:=yl p b) (b:=yl p s.best) (c:=yl p y.branch) rfl rfl h5 h4;rw[z4o];simp only[];omega
     ·rcases h3 with⟨k1,k2,k3⟩ | h3
      ·refine .inl ⟨k1,k2,?_⟩;have h6:y20 p s.best y.branch<=0:=by rw[z7a];omega
       have:=zhs (e.trans w.2.2.symm) (w.2.2.trans k2.symm) (Int.le_of_lt hl1) h6;rw[z7a];simp only[];omega
      ·exact .inr h3
    ·rw[bz.1 hy];refine⟨by rw[z88];exact eH _,.inl ⟨rfl,e,?_⟩⟩
     rw[(z5h rfl).2 rfl];exact eH _
  ·rw[if_neg hbt]at hok ⊢;have hv:s.value ≠ []:=fun h=>hbt (by simp[bet,h])
   have h0 : ¬ s.value.length=0:=fun h=>hv (aK h)
   have hge:0<=y2h (yl p b) s.value:=by
    have : ¬ y2h (yl p b) s.value<0:=by simpa[bet,h0]using hbt
    omega
   refine⟨hok,fun x hx=>?_,hord,fun hv' c hc x hx hp=>y5c hv' c (by simp[hc]) x hx hp,fun y hy=>⟨hv,?_⟩,fun x hx=>hc2 x hx _ rfl⟩
   ·rcases hdom x hx with⟨c,hc,hp⟩ | h1
    ·rcases aB.1 hc with hc | hc
     ·exact .inl ⟨c,hc,hp⟩
     ·rw[bz.1 hc]at hp;exact .inr ⟨hv,hge0 x hx hp hv hge⟩
    ·exact .inr h1
   ·rcases aB.1 hy with hy | hy
    ·exact(I.leaf y hy).2
    ·rw[bz.1 hy];refine⟨hge,.inl ⟨rfl,e,?_⟩⟩;have:=hge0 b wb (mD _) hv hge;rw[z7a];simp only[];omega
 ·rw[if_neg e]at hok ⊢;have hlt:b.length<p.vars.length:=by have:=hb.len;omega
  by_cases hs:yjh p b s.value=true
  ·rw[if_pos hs]at hok ⊢;obtain⟨hv0,hge⟩:0<s.value.length/\0<=y2h (yl p b) s.value:=by simpa[yjh]using hs
   have hv:s.value ≠ []:=fun h=>by rw[h]at hv0;simp at hv0
   refine⟨hok,fun x hx=>?_,hord,fun hv' c hc x hx hp=>y5c hv' c (by simp[hc]) x hx hp,fun y hy=>⟨hv,?_⟩,fun x hx=>hc2 x hx _ rfl⟩
   ·rcases hdom x hx with⟨c,hc,hp⟩ | h1
    ·rcases aB.1 hc with hc | hc
     ·exact .inl ⟨c,hc,hp⟩
     ·rw[bz.1 hc]at hp;exact .inr ⟨hv,hge0 x hx hp hv hge⟩
    ·exact .inr h1
   ·rcases aB.1 hy with hy | hy
    ·exact(I.leaf y hy).2
    ·rw[bz.1 hy];exact⟨hge,.inr ⟨rfl,e⟩⟩
  ·rw[if_neg hs]at hok ⊢;refine⟨hok,fun x hx=>?_,?_,fun hv c hc x hx hp=>?_,I.leaf,fun x hx=>?_⟩
   ·rcases hdom x hx with⟨c,hc,hp⟩ | h1
    ·rcases aB.1 hc with hc | hc
     ·exact .inl ⟨c,by simp[hc],hp⟩
     ·rw[bz.1 hc]at hp;obtain⟨i,hi,hq⟩:=zkt hx hlt hp;exact .inl ⟨_,List.mem_append_right _ (ip.2 ((z6d hlt).2 ⟨i,hi,rfl⟩)),hq⟩
    ·exact .inr h1
   ·simp only[];rw[iP,List.reverse_reverse,List.pairwise_append];refine⟨?_,hord,fun c hc d hd x y hx hy h1 h2=>?_⟩
    ·unfold y5v;rw[List.pairwise_map];exact lZ (fun h=>zyj (by omega)) List.pairwise_lt_range
    ·obtain⟨i,_,rfl⟩:=(z6d hlt).1 hc;exact hbl d hd x y hx hy (iO (je _ _) h1) h2
   ·rcases aB.1 hc with hc | hc
    ·exact y5c hv c (by simp[hc]) x hx hp
    ·obtain⟨i,_,rfl⟩:=(z6d hlt).1 (ip.1 hc);exact y5c hv b (by simp) x hx (iO (je _ _) hp)
   ·have h1:=hcnt x hx;have h2:=zxx hx hlt;simp only[lA,List.countP_reverse]at h1 ⊢;omega
def Inv.iter{p:yj}(S:y19 p)(ok:OkP p):∀{n:Nat} {s:y4f},Inv p s->Inv p (iter p n s)
 | 0,_,h=>h
 |n+1,s,h=>Inv.iter (n:=n) (s:=Dv.exam p s) S ok (h.exam S ok)
def zt5{p:yj}(ok:OkP p):Whole p (ah p.vars.length 0):=by
 refine⟨ok,⟨by simp,fun i h h'=>?_⟩,by simp⟩
 have:=(ok.vars _ (av h')).one;rw[List.getElem_replicate];unfold wi;omega
def z69{p:yj}(S:y19 p)(ok:OkP p):Whole p (y2q p).best/\(y2q p).value=yl p (y2q p).best /\ ∀ x,Whole p x->y20 p (y2q p).best x<=0:=by
 have I:Inv p (y2q p):=zqd.iter S ok;have he:=zal ok;have hd:∀ x,Whole p x->(y2q p).value ≠ []/\y20 p (y2q p).best x<=0:=fun x hx=>by
  rcases I.dom x hx with⟨b,hb,_⟩ | h
  ·rw[he]at hb;cases hb
  ·exact h
 have hv:=(hd _ (zt5 ok)).1;rcases I.ok.val with⟨e,_⟩ | ⟨w,e⟩
 ·exact absurd e hv
 ·exact⟨w,e,fun x hx=>(hd x hx).2⟩
end Dv
namespace Dv
attribute [local simp] ah depth y1z y51 ya y15 y4p ye y2p y2e Ret
attribute [local congr] z1f z1g z16 z12 zx z17 zw
def zt0{l:List (List Int)}:yr (l.map ya)=l.map ya:=by
 induction l with
 |nil=>rfl
 |cons x r ih=>simp only[al,yr,bm]at ih ⊢;rw[ih];rfl
def zyw{l:List Int}:((l.map dI).all fun d=>d.storable && d.cellsL.length == 1)=true:=by
 rw[ay];intro d hd;obtain⟨n,_,rfl⟩:=aL.1 hd
 rfl
def zur{hp:List Obj}{id:Nat}{cs:List Int}(h1:1<=cs.length)(h2:cs.length<=1000) :
  y1q E hp id 6 6 (.imm .exact []) (.imm .none (cs.map dI))=some ⟨.sl id 0 cs.length 1 false true,some (.cells (cs.map dI)),none⟩:=by
 have h3 : ¬ cs.length=0:=by omega
 have h4 : ¬ cs=[]:=fun e=>h3 (by rw[e];rfl)
 have h5:cs.length*9<=17592186044416:=by omega
 simp[y1q,zyw,h4,y2k,zjm,yg,h5]
 rfl
def room(p:yj)(i k:Nat)(x:Int):yj:={ p with capacity:=p.capacity.set i ((p.capacity.getD i []).set k x) }
end Dv
