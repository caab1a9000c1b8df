/- Texts that a proof of this claim uses, joined: Lw.S30, Lw.W91, Lw.W92, Lw.W93, Lw.W94, Lw.W83, Lw.W84, Lw.W110, Lw.W50, Lw.W51, Lw.W52, Lw.W53, Lw.W54, Lw.W55, Lw.W56, Lw.W57, Lw.W47, Lw.W65, Lw.W66, Lw.W69, Lw.W58, Lw.W59, Lw.W60, Lw.W71, Lw.W61, Lw.W73, Lw.W46, Lw.W48, Lw.W111, Lw.W95, Lw.W96, Lw.W112. -/
import Derived.Test.YthcmaiplkbbioaaGreatDoorGa
import Derived.Test.YthcmaiplkbbioaaGreatDoorTc
import Derived.Test.YthcmaiplkbbioaaGreatDoorDvd
import Derived.KernelRfl
set_option linter.all false
open Bool renaming and_true->ek,not_eq_false'->lD,not_eq_true->jz,or_eq_false_iff->iF
open Int renaming negSucc_eq->ai
open List renaming all_cons->cG,all_eq_true->ay,all_nil->ec,any_eq_false->gZ,append_assoc->bi,cons_append->aG,drop_length->bv,drop_of_length_le->ed,eq_nil_of_length_eq_zero->aK,getD_cons_succ->cb,getD_eq_getElem?_getD->af,getElem?_append_right->aH,getElem?_eq_getElem->ac,getElem?_eq_none->aU,getElem_mem->av,getLastD_cons->lB,length_cons->ar,length_eq_zero_iff->bF,length_map->aF,length_nil->aY,length_range->fV,map->bP,map_append->bp,map_nil->aO,mem_append->aB,mem_map->aL,mem_of_mem_drop->bY,mem_range->c9,mem_singleton->bz,range->bD,replicate->ah,take_length->bh,take_of_length_le->bd,take_succ_eq_append_getElem->aN
open Nat renaming le_refl->aj,sub_self->fE
open Option renaming getD_some->aX,map_some->aq
open Option.some renaming injEq->aa
set_option maxRecDepth 100000
set_option maxHeartbeats 16000000
namespace Dv
attribute [local simp] ah depth y1z y51 ya y15 y4p ye y2p y2e Ret
attribute [local congr] z1f z1g z16 z12 zx z17 zw
abbrev y3u(l:y62):D:=.agg [ya l.branch,dI l.kind,.imm .none (l.mult.map ya)]
abbrev y5y(s:y4f):D:=.agg [.imm .none (s.opn.map ya),ya s.best,ya s.value,.imm .none (s.leaves.map y3u)]
def zu{hp:List Obj}{n:Nat}{l:List y62}:y1k (frz hp (n+4)) (l.map y3u)=some (l.map y3u):=z1e fun x _=>by rw[z5b];simp only[z1k,z4b,zc,z3u,z83,z5x,aq,z3d]
def ydq:y4f:=⟨[],[],[],[]⟩
noncomputable def y6g(p:yj):D:=if ck p=0 then .tup [y5y y3n,dI 0]else .tup [y5y ydq,dI (ck p)]
def r139(p:yj)(S:y19 p):yu E (dL E) 139 [ye p]=some (y6g p):=by
 refine zg c139 (by simp) ?_
 conv in t139=>reduce;dsimp[ai]
 have h15:=r15 p S;simp only[ye]at h15
 by_cases h:ck p=0
 ·simp[t139,n139,h15,h,y6g,y3n]
 ·simp[t139,n139,h15,h,y6g,ydq]
def r140(s:y4f):yu E (dL E) 140 [y5y s]=some (.bool (decide (s.opn.length=0))):=by
 refine zg c140 (by simp) ?_
 conv in t140=>reduce;dsimp[ai]
 cases h:s.opn <;> simp[t140,n140,h]
 omega
open Classical in
def r172(p:yj)(b:List Int)(S:y19 p):yu E (dL E) 172 [ye p,ya b]=some (.bool (decide (OkB p b))):=by
 refine zg c172 (by simp) ?_
 conv in t172=>reduce;dsimp[ai]
 generalize hB:decide (OkB p b)=B;have hBf : ¬ OkB p b->B=false:=by intro h;rw[<- hB];simp[h]
 have hBt:OkB p b->B=true:=by intro h;rw[<- hB];simp[h]
 have s3:=S.vars;simp[t172,n172]
 by_cases h1:p.vars.length<b.length
 ·simp[h1,hBf (fun ok=>by have:=ok.len;omega)]
 have h1' : ¬ p.vars.length<b.length:=h1;simp[h1'];obtain⟨P,hP⟩:∃ P:Nat->Prop,P=fun i=>∀(h:i<b.length) (h':i<p.vars.length),wi b[i] 0 (p.vars[i].choices.length - 1):=⟨_,rfl⟩
 refine z5k b.length P
  (fun i env hp=>∃(x3 x4 x5 x6 x10 x11:D) (h:List Obj),env=[ye p,ya b,.loc 0 0,x3,x4,x5,x6,ya b,dI b.length,dI i,x10,x11]/\hp=.cells (ye p).cellsL::h)
  ⟨_,_,_,_,_,_,_,rfl,rfl⟩ ?_ ?_
 ·rintro i env hp hi ⟨x3,x4,x5,x6,x10,x11,h,rfl,rfl⟩ hall;have hi':i<p.vars.length:=by omega
  by_cases k1:wi b[i] 0 (p.vars[i].choices.length - 1)
  ·unfold wi at k1;have a1 : ¬ b[i]<0:=by omega
   have a2 : ¬ (p.vars[i].choices.length:Int)<=b[i]:=by omega
   have hPi:P i:=by rw[hP];exact fun _ _=>k1
   simp[hi,hi',a1,a2,ze hi (by omega),hPi]
  ·have hB':=hBf (fun ok=>k1 (ok.each i hi hi'))
   unfold wi at k1
   by_cases a1:b[i]<0
   ·simp[hi,hi',a1,hB']
   ·have a2:(p.vars[i].choices.length:Int)<=b[i]:=by omega
    simp[hi,hi',a1,a2,hB']
 ·rintro env hp ⟨x3,x4,x5,x6,x10,x11,h,rfl,rfl⟩ hall;rw[hP]at hall;simp[hBt ⟨by omega,fun i hi hi'=>hall i hi hi hi'⟩]
open Classical in
def r158(p:yj)(b:List Int)(S:y19 p):yu E (dL E) 158 [ya b,.iptr (ye p).cellsL]=some (.bool (!decide (OkB p b))):=by
 refine zg c158 (by simp) ?_
 conv in t158=>reduce;dsimp[ai]
 have h172:=r172 p b S;simp only[ye,ya]at h172;simp[t158,n158,h172]
def znc{p:yj}{l:y62}:y4u p l ↔ (OkB p l.branch/\l.mult.length=0)/\((l.kind=1/\l.branch.length=p.vars.length)\/l.kind=2):=by
 unfold y4u;rw[bF];constructor
 ·rintro⟨a,b,c⟩;exact⟨⟨a,b⟩,c⟩
 ·rintro⟨⟨a,b⟩,c⟩;exact⟨a,b,c⟩
open Classical in
def r157(p:yj)(l:y62)(S:y19 p):yu E (dL E) 157 [y3u l,.iptr (ye p).cellsL]=some (.bool (decide (y4u p l))):=by
 refine zg c157 (by simp) ?_
 conv in t157=>reduce;dsimp[ai]
 have h172:=r172 p l.branch S;simp only[ye,ya]at h172;obtain⟨B,hB⟩:∃ B,B=OkB p l.branch:=⟨_,rfl⟩;rw[znc,<- hB];rw[<- hB]at h172
 by_cases k6:l.mult=[]
 ·by_cases k1:l.kind=1
  ·by_cases k3:(l.branch.length:Int)=p.vars.length
   ·have k4:l.branch.length=p.vars.length:=by omega
    by_cases k5:B <;> simp[t157,n157,h172,k1,k3,k4,k5,k6]
   ·have k4 : ¬ l.branch.length=p.vars.length:=by omega
    by_cases k5:B <;> simp[t157,n157,h172,k1,k3,k4,k5,k6]
  ·by_cases k5:B
   ·by_cases k2:l.kind=2
    ·simp[t157,n157,h172,k2,k5,k6]
    ·simp[t157,n157,h172,k1,k2,k5,k6]
   ·simp[t157,n157,h172,k1,k5,k6]
 ·have k7 : ¬ l.mult.length=0:=fun h=>k6 (aK h)
  by_cases k1:l.kind=1
  ·by_cases k3:(l.branch.length:Int)=p.vars.length
   ·by_cases k5:B <;> simp[t157,n157,h172,k1,k3,k5,k6,k7]
   ·by_cases k5:B <;> simp[t157,n157,h172,k1,k3,k5,k6,k7]
  ·by_cases k5:B <;> simp[t157,n157,h172,k1,k5,k6,k7]
open Classical in
def r160(p:yj)(l:y62)(S:y19 p):yu E (dL E) 160 [y3u l,.iptr [.fn 157 [.iptr (ye p).cellsL]]]=some (.bool (!decide (y4u p l))):=by
 refine zg c160 (by simp) ?_
 conv in t160=>reduce;dsimp[ai]
 have h157:=r157 p l S;simp only[y3u,ye,ya,z2e]at h157;simp[t160,n160,h157,zu]
def r173(l:List (List Int))(k:Nat)(caps:List D)(f:List Int->Bool)(hc:y1k (frz [] 11) caps=some caps)(hd:y1k (frz [] 12) caps=some caps)(hf:∀ x,yu E (dL E) k (ya x::caps)=some (.bool (f x)))(hl:l.length<=1000000000) :
  yu E (dL E) 173 [.imm .none (l.map ya),.fn k caps]=some (dI (y5b f l 0)):=by
 refine zg c173 (by simp) ?_
 conv in t173=>reduce;dsimp[ai]
 simp[t173,n173];refine zo l.length (fun i env hp=>∃(x3 x6 x7:D) ,env=[.imm .none (l.map ya),.fn k caps,dI 0,x3,dI l.length,dI i,x6,x7]/\y5b f (l.drop i) i=y5b f l 0) 0 (by omega) ⟨_,_,_,rfl,rfl⟩ ?_
 rintro i env hp hi ⟨x3,x6,x7,rfl,hm⟩
 by_cases hlt:i<l.length
 ·rw[zh hlt]at hm;have hk:=hf l[i];simp only[ya]at hk;cases h0:f l[i]with
  |true=>simp[y5b,h0]at hm;simp[hlt,hk,hd,h0,<- hm]
  |false=>simp[y5b,h0]at hm;simp[hlt,hk,hd,h0,ze hlt (by omega),hm]
 ·have:i=l.length:=by omega
  subst this;simp[y5b]at hm;simp[<- hm]
def r159(l:List (List Int))(k:Nat)(caps:List D)(f:List Int->Bool)(hc:y1k (frz [] 11) caps=some caps)(hd:y1k (frz [] 12) caps=some caps)(hf:∀ x,yu E (dL E) k (ya x::caps)=some (.bool (f x)))(hl:l.length<=1000000000) :
  yu E (dL E) 159 [.imm .none (l.map ya),.fn k caps]=some (.bool (l.any f)):=by
 refine zg c159 (by simp) ?_
 conv in t159=>reduce;dsimp[ai]
 simp[t159,n159,r173 l k caps f hc hd hf hl,hc,z6h]
def r174(l:List y62)(k:Nat)(caps:List D)(f:y62->Bool)(hc:y1k (frz [] 11) caps=some caps)(hd:y1k (frz [] 12) caps=some caps)(hf:∀ x,yu E (dL E) k (y3u x::caps)=some (.bool (f x)))(hl:l.length<=1000000000) :
  yu E (dL E) 174 [.imm .none (l.map y3u),.fn k caps]=some (dI (y5b f l 0)):=by
 refine zg c174 (by simp) ?_
 conv in t174=>reduce;dsimp[ai]
 simp[t174,n174];refine zo l.length (fun i env hp=>∃(x3 x6 x7:D) ,env=[.imm .none (l.map y3u),.fn k caps,dI 0,x3,dI l.length,dI i,x6,x7]/\y5b f (l.drop i) i=y5b f l 0) 0 (by omega) ⟨_,_,_,rfl,rfl⟩ ?_
 rintro i env hp hi ⟨x3,x6,x7,rfl,hm⟩
 by_cases hlt:i<l.length
 ·rw[zh hlt]at hm;have hk:=hf l[i];simp only[y3u,ya]at hk;cases h0:f l[i]with
  |true=>simp[y5b,h0]at hm;simp[hlt,hk,hd,h0,<- hm]
  |false=>simp[y5b,h0]at hm;simp[hlt,hk,hd,h0,ze hlt (by omega),hm]
 ·have:i=l.length:=by omega
  subst this;simp[y5b]at hm;simp[<- hm]
def r161(l:List y62)(k:Nat)(caps:List D)(f:y62->Bool)(hc:y1k (frz [] 11) caps=some caps)(hd:y1k (frz [] 12) caps=some caps)(hf:∀ x,yu E (dL E) k (y3u x::caps)=some (.bool (f x)))(hl:l.length<=1000000000) :
  yu E (dL E) 161 [.imm .none (l.map y3u),.fn k caps]=some (.bool (l.any f)):=by
 refine zg c161 (by simp) ?_
 conv in t161=>reduce;dsimp[ai]
 simp[t161,n161,r174 l k caps f hc hd hf hl,hc,z6h,zu]
def r162(a b:List Int)(hl:a.length<=1000000000):yu E (dL E) 162 [ya a,ya b]=some (.bool (decide (a=b))):=by
 refine zg c162 (by simp) ?_
 conv in t162=>reduce;dsimp[ai]
 generalize hB:decide (a=b)=B;have hBf:a ≠ b->B=false:=by intro h;rw[<- hB];simp[h]
 have hBt:a=b->B=true:=by intro h;rw[<- hB];simp[h]
 simp[t162,n162]
 by_cases h:(a.length:Int)=b.length
 rotate_left
 ·have hb:=hBf (fun e=>h (by rw[e]))
  simp[h,hb]
 simp[h];have h':a.length=b.length:=by omega
 refine z5k b.length (fun i=>a[i]? = b[i]?)
  (fun i env hp=>∃(x2 x3 x4 x7 x8:D) ,env=[ya a,ya b,x2,x3,x4,dI b.length,dI i,x7,x8])
  ⟨_,_,_,_,_,rfl⟩ ?_ ?_
 ·rintro i env hp hi ⟨x2,x3,x4,x7,x8,rfl⟩ hall;have hi':i<a.length:=by omega
  by_cases k1:a[i]=b[i]
  ·have hPi:a[i]? = b[i]?:=by simp[hi,hi',k1]
   simp[hi,hi',k1,ze hi (by omega),hPi]
  ·have hb:=hBf (fun e=>k1 (by subst e;rfl))
   simp[hi,hi',k1,hb]
 ·rintro env hp ⟨x2,x3,x4,x7,x8,rfl⟩ hall;have e:a=b:=List.ext_getElem? fun i=>by
   by_cases hi:i<a.length
   ·exact hall i (by omega)
   ·rw[aU (by omega),aU (by omega)]
  simp[hBt e]
open Classical in
noncomputable def sk(p:yj)(s:y4f):Int:=if OkP p then(if OkS p s then 0 else 300)else 270
structure SmS(p:yj)(s:y4f):Prop where
 most:wO p s.opn+s.leaves.length<=1000000000
def yh8{p:yj}:∀{l:List (List Int)},l.length<=wO p l
 |[]=>by simp[wO]
 |b::l=>by have h1:=zps (p:=p) (b:=b);have h2:=yh8 (p:=p) (l:=l);simp only[wO,ar];omega
def SmS.opn{p:yj}{s:y4f}(h:SmS p s):s.opn.length<=1000000000:=by have:=h.most;have:=yh8 (p:=p) (l:=s.opn);omega
def SmS.lvs{p:yj}{s:y4f}(h:SmS p s):s.leaves.length<=1000000000:=by have:=h.most;omega
def ye9{p:yj}{s:y4f}(ok:OkP p):OkS p s ↔ ((∀ b,b ∈ s.opn->OkB p b)/\(∀ l,l ∈ s.leaves->y4u p l))/\((s.value.length=0/\s.best.length=0)\/(Whole p s.best/\yl p s.best=s.value)):=by
 constructor
 ·rintro⟨a,b,c⟩;refine⟨⟨a,b⟩,?_⟩;rcases c with⟨c,d⟩ | ⟨c,d⟩
  ·exact .inl ⟨by rw[c];rfl,by rw[d];rfl⟩
  ·exact .inr ⟨c,d.symm⟩
 ·rintro⟨⟨a,b⟩,c⟩;refine⟨a,b,?_⟩;rcases c with⟨c,d⟩ | ⟨c,d⟩
  ·exact .inl ⟨aK c,aK d⟩
  ·exact .inr ⟨c,d.symm⟩
open Classical in
def yg7{A:Type}{P:A->Prop}{l:List A}:l.any (fun x=>!decide (P x)) = !decide (∀ x,x ∈ l->P x):=by rw[Bool.eq_iff_iff];simp
open Classical in
def r142(p:yj)(s:y4f)(S:y19 p)(M:SmS p s):yu E (dL E) 142 [ye p,y5y s]=some (dI (sk p s)):=by
 refine zg c142 (by simp) ?_
 conv in t142=>reduce;dsimp[ai]
 have h15:=r15 p S;simp only[ye]at h15
 by_cases h0:OkP p
 rotate_left
 ·have e:ck p=270:=by simp[ck,h0]
  simp[t142,n142,h15,e,sk,h0]
 have e:ck p=0:=by simp[ck,h0]
 have h159:=r159 s.opn 158 [.iptr (ye p).cellsL] (fun b=>!decide (OkB p b)) (by simp) (by simp) (fun b=>r158 p b S) M.opn
 have h161:=r161 s.leaves 160 [.iptr [.fn 157 [.iptr (ye p).cellsL]]] (fun l=>!decide (y4u p l)) (by simp) (by simp) (fun l=>r160 p l S) M.lvs
 have h22:=q22 p s.best S;rw[yg7]at h159 h161;simp only[ye,ya,z2e]at h159 h161 h22;obtain⟨A,hA⟩:∃ A,A = ∀ x,x ∈ s.opn->OkB p x:=⟨_,rfl⟩;obtain⟨B,hB⟩:∃ B,B = ∀ x,x ∈ s.leaves->y4u p x:=⟨_,rfl⟩;have hsk:sk p s=if(A/\B)/\((s.value.length=0/\s.best.length=0)\/(Whole p s.best/\yl p s.best=s.value))then 0 else 300:=by simp only[sk,h0,if_true,ye9 h0,hA,hB]
 rw[hsk];simp only[<- hA]at h159;simp only[<- hB]at h161;simp only[bF]
 by_cases kA:A
 rotate_left
 ·simp[t142,n142,h15,e,h159,kA,z13,z3x,zu]
 by_cases kB:B
 rotate_left
 ·simp[t142,n142,h15,e,h159,h161,kA,kB,z13,z3x,zu]
 have tail : ¬ (s.value=[]/\s.best=[])->(if Whole p s.best then(if yl p s.best=s.value then(0:Int)else 300)else 300)=if(A/\B)/\((s.value=[]/\s.best=[])\/(Whole p s.best/\yl p s.best=s.value))then 0 else 300:=fun h=>by by_cases w:Whole p s.best <;> by_cases q:yl p s.best=s.value <;> simp[kA,kB,h,w,q]
 by_cases kv:s.value=[]/\s.best=[]
 ·simp[t142,n142,h15,e,h159,h161,kA,kB,z13,z3x,zu,kv.1,kv.2]
 rw[<- tail kv];have h162:=r162 (yl p s.best) s.value (by simp[yl])
 simp only[ya]at h162;have k1:(if s.value=[]then(decide (s.best=[]):Bool)else false)=false:=by
  by_cases a:s.value=[]
  ·have b : ¬ s.best=[]:=fun b=>kv ⟨a,b⟩
   simp[a,b]
  ·simp[a]
 obtain⟨V,hV⟩:∃ V,V=yl p s.best:=⟨_,rfl⟩;rw[<- hV]at h162 ⊢;have hVn:V ≠ []:=by rw[hV];simp[yl]
 by_cases w:Whole p s.best
 ·simp only[ybz,if_pos w,<- hV]at h22
  by_cases q:V=s.value
  ·rw[q]at h22 h162 hVn;simp[t142,n142,h15,e,h159,h161,kA,kB,z13,z3x,zu,h22,h162,w,q,hVn]
  ·by_cases a:s.value=[]
   ·have b : ¬ s.best=[]:=fun b=>kv ⟨a,b⟩
    have b2:((s.best.length:Int) == 0)=false:=by
     have : ¬ s.best.length=0:=fun h=>b (aK h)
     simpa using this
    simp only[a,aO]at h162;simp[t142,n142,h15,e,h159,h161,kA,kB,z13,z3x,zu,h22,h162,w,hVn,a,b2]
   ·simp[t142,n142,h15,e,h159,h161,kA,kB,z13,z3x,zu,h22,h162,w,q,a]
 ·simp only[ybz,if_neg w]at h22
  by_cases a:s.value=[]
  ·have b : ¬ s.best=[]:=fun b=>kv ⟨a,b⟩
   have b2:((s.best.length:Int) == 0)=false:=by
    have : ¬ s.best.length=0:=fun h=>b (aK h)
    simpa using this
   simp[t142,n142,h15,e,h159,h161,kA,kB,z13,z3x,zu,h22,w,a,b2]
  ·simp[t142,n142,h15,e,h159,h161,kA,kB,z13,z3x,zu,h22,w,a]
structure ymz where
 best:List Int
 value:List Int
 leaves:List y62
abbrev y7y(c:ymz):D:=.agg [ya c.best,ya c.value,.imm .none (c.leaves.map y3u)]
def y8m:ymz:=⟨[],[],[]⟩
def y99(s:y4f):ymz:=⟨s.best,s.value,s.leaves⟩
noncomputable def y5a(p:yj)(s:y4f):D:=
 if sk p s=0 then(if s.opn.length=0/\s.value.length ≠ 0 then .tup [y7y (y99 s),dI 0]else .tup [y7y y8m,dI 300])else .tup [y7y y8m,dI (sk p s)]
def r133(p:yj)(s:y4f)(S:y19 p)(M:SmS p s):yu E (dL E) 133 [ye p,y5y s]=some (y5a p s):=by
 refine zg c133 (by simp) ?_
 conv in t133=>reduce;dsimp[ai]
 have h142:=r142 p s S M;have h140:=r140 s;simp only[ye,y5y,ya]at h142 h140
 by_cases h:sk p s=0
 rotate_left
 ·simp[t133,n133,h142,h,y5a,y8m,zu]
 by_cases a:s.opn.length=0
 rotate_left
 ·simp only[a,decide_false]at h140;simp[t133,n133,h142,h140,h,a,y5a,y8m,zu]
 simp only[a,decide_true]at h140;have a2:s.opn=[]:=aK a;simp only[a2,aO]at h142 h140
 by_cases b:s.value=[]
 ·simp only[b,aO]at h142 h140;simp[t133,n133,h142,h140,h,a,a2,b,y5a,y8m,zu]
 ·have b2 : ¬ s.value.length=0:=fun h=>b (aK h)
  simp[t133,n133,h142,h140,h,a,a2,b,b2,y5a,y99,zu]
def y68(p:yj):Bool:=yc6 p && decide (ybo p 400<=300)
def r129(p:yj):yu E (dL E) 129 [ye p]=some (.bool (y68 p)):=by
 refine zg c129 (by simp) ?_
 conv in t129=>reduce;dsimp[ai]
 have h2:=r2 p;simp only[ye]at h2;cases hf:yc6 p with
 |false=>simp[t129,n129,h2,hf,y68]
 |true=>
  have S:=zhi hf;have h61:=r61 p 400 (fun v hv=>S.choices v hv) (by decide) S.vars
  simp only[ye]at h61;simp[t129,n129,h2,hf,h61,y68]
end Dv
namespace Dv
structure y2b where
 index:Int
 less:List (List Int)
structure OkC(p:yj)(c:List y2b):Prop where
 len:c.length<=8
 idx:∀ a,a ∈ c->0<=a.index/\a.index<=1048576
 rows:∀ a,a ∈ c->a.less.length=p.capacity.length
 wid:∀ a,a ∈ c->∀ r,r ∈ a.less->r.length=p.cells.length /\ ∀ n,n ∈ r->0<=n/\n<=4096
def y7m(x y:List Int):List Int:=List.zipWith (fun a n=>mn (a+n) 4096) x y
def yiy(c:List y2b)(i:Nat)(row:List Int):List Int:=(c.map fun a=>a.less.getD i []).foldl y7m row
def y46(p:yj)(c:List y2b)(k:Nat):yj:={ p with capacity:=(bD p.capacity.length).map fun i=>yiy (c.drop k) i (p.capacity.getD i []) }
def zyz{x y:List Int}{n:Nat}(h1:n<x.length)(h2:n<y.length):(y7m x y).getD n 0=mn (x.getD n 0+y.getD n 0) 4096:=by unfold y7m;simp only[af,List.getElem?_zipWith,ac h1,ac h2,aX]
def z6n{x y:List Int}(h:x.length=y.length):(y7m x y).length=x.length:=by simp[y7m,h]
def okR(n:Nat)(x:List Int):Prop:=x.length=n /\ ∀ a,a ∈ x->0<=a/\a<=4096
def zr3{n:Nat}{x:List Int}(h:okR n x){k:Nat}(hk:k<n):0<=x.getD k 0/\x.getD k 0<=4096:=by
 have hk':k<x.length:=by rw[h.1];exact hk
 rw[af,ac hk',aX];exact h.2 _ (av hk')
def yea{n:Nat}{x y:List Int}(hx:okR n x)(hy:okR n y):okR n (y7m x y):=by
 refine⟨by rw[z6n (hx.1.trans hy.1.symm)];exact hx.1,fun a ha=>?_⟩
 obtain⟨k,hk,rfl⟩:=List.getElem_of_mem ha;have hl:=z6n (hx.1.trans hy.1.symm);have h1:k<x.length:=by omega
 have h2:k<y.length:=by rw[hy.1,<- hx.1];exact h1
 have h3:=zyz h1 h2;rw[af (l:=y7m x y),ac hk,aX]at h3;rw[h3];have a1:=zr3 hx (k:=k) (by rw[<- hx.1];exact h1)
 have a2:=zr3 hy (k:=k) (by rw[<- hx.1];exact h1)
 unfold mn;split <;> omega
def z9t{n:Nat}:∀{l:List (List Int)} {x:List Int},okR n x->(∀ y,y ∈ l->okR n y)->okR n (l.foldl y7m x)
 |[],_,h,_=>h
 |y::l,x,h,hl=>by rw[List.foldl_cons];exact z9t (yea h (hl y (by simp))) fun z hz=>hl z (by simp[hz])
section
variable{p:yj}{c:List y2b}(ok:OkP p)(C:OkC p c)
include ok C
theorem zqp{i:Nat}(hi:i<p.capacity.length):∀ y,y ∈ c.map (fun a=>a.less.getD i [])->okR p.cells.length y:=by
 intro y hy;obtain⟨a,ha,rfl⟩:=aL.1 hy;have hl:=C.rows a ha;rw[af,ac (by omega),aX]
 exact C.wid a ha _ (av (by omega))
theorem zzs{i:Nat}(hi:i<p.capacity.length):okR p.cells.length (p.capacity.getD i []):=by rw[af,ac hi,aX];have h:=ok.cap _ (av hi);exact⟨h.1,fun a ha=>by have:=h.2 a ha;unfold wi at this;omega⟩
omit ok in
theorem yfg{k:Nat}:OkC p (c.drop k):=⟨by have:=C.len;simp;omega,fun a ha=>C.idx a (bY ha),fun a ha=>C.rows a (bY ha),fun a ha=>C.wid a (bY ha)⟩
theorem zu1{i:Nat}(hi:i<p.capacity.length):okR p.cells.length (yiy c i (p.capacity.getD i [])):=z9t (zzs ok C hi) (zqp ok C hi)
theorem z4p{k:Nat}:OkP (y46 p c k):=by
 refine⟨by simp only[y46,aF,fV];exact ok.some,ok.nonneg,ok.incr,fun l hl=>?_,fun v hv=>?_⟩
 ·obtain⟨i,hi,rfl⟩:=aL.1 hl;have h:=zu1 ok (yfg C (k:=k)) (c9.1 hi);exact⟨h.1,fun n hn=>by have:=h.2 n hn;unfold wi;omega⟩
 ·obtain⟨h1,h2,h3,h4,h5,h6⟩:=ok.vars v hv;exact⟨h1,h2,h3,fun n hn=>by simpa[y46]using h4 n hn,h5,fun c hc=>by
   obtain⟨a1,a2,a3,a4,a5⟩:=h6 c hc;exact⟨a1,a2,a3,fun u hu=>⟨(a4 u hu).known,(a4 u hu).places⟩,a5⟩⟩
theorem z2j(S:y19 p){k:Nat}:y19 (y46 p c k):=by
 refine⟨S.cells,by simp only[y46,aF,fV];exact S.cap,fun l hl=>?_,S.vars,S.leaves,S.choices,S.uses⟩
 obtain⟨i,hi,rfl⟩:=aL.1 hl;have h:=zu1 ok (yfg C (k:=k)) (c9.1 hi);have:=S.cells;rw[h.1];omega
end
def zfr{p:yj}{c:List y2b}{k:Nat}(h:c.length<=k):y46 p c k=p:=by
 unfold y46;rw[ed h];have:(bD p.capacity.length).map (fun i=>yiy [] i (p.capacity.getD i []))=p.capacity:=by
  refine List.ext_getElem (by simp) fun i h1 h2=>?_
  simp[yiy,ac h2]
 rw[this]
def y6r(p:yj):List Int:=(p.vars.zip (y2q p).best).map fun x=>(x.1.choices.getD x.2.toNat ⟨0,0,0,[]⟩).delay
def z6k{p:yj}(S:y19 p)(ok:OkP p):(y6r p).length=p.vars.length:=by have:=(z69 S ok).1.2.2;simp[y6r,this]
structure y43 where
 cause:Int
 vr:Int
 minutes:Int
deriving DecidableEq
def chg(cause:Int):Nat->List Int->List Int->List y43
 |i,b::bs,n::ns=>(if n ≠ b then[⟨cause,i,n - b⟩]else[])++chg cause (i+1) bs ns
 |_,_,_=>[]
def shr:Nat->List Int->List (List Int)->List y43
 |_,_,[]=>[]
 |k,before,now::r=>chg ((k:Int) - 1) 0 before now++shr (k+1) now r
def y3z(p:yj)(c:List y2b):List (List Int):=(bD (c.length+1)).map fun k=>y6r (y46 p c k)
def y33(p:yj)(c:List y2b):List y43:=shr 0 (ah p.vars.length 0) (y3z p c)
def y72(i:Int):List y43->Int
 |[]=>0
 |s::r=>(if s.vr=i then s.minutes else 0)+y72 i r
def ze9{i:Int}:∀{l r:List y43},y72 i (l++r)=y72 i l+y72 i r
 |[],r=>by simp[y72]
 |s::l,r=>by simp only[aG,y72,ze9];omega
def zjv{c:Int}:∀{k:Nat} {b n:List Int} {s:y43},s ∈ chg c k b n->s.cause=c/\(k:Int)<=s.vr/\s.vr<k+n.length/\s.minutes ≠ 0
 |_,[],_,_,h=>by simp[chg]at h
 |_,_::_,[],_,h=>by simp[chg]at h
 |k,b::bs,n::ns,s,h=>by
  simp only[chg,aB]at h;rcases h with h | h
  ·by_cases e:n ≠ b
   ·rw[if_pos e]at h;rw[bz.1 h];simp only[ar];exact⟨trivial,by omega,by omega,by omega⟩
   ·rw[if_neg e]at h;cases h
  ·obtain⟨h1,h2,h3,h4⟩:=zjv h;simp only[ar];exact⟨h1,by omega,by omega,h4⟩
def ze8{i:Int}:∀{l:List y43},(∀ s,s ∈ l->s.vr ≠ i)->y72 i l=0
 |[],_=>rfl
 |s::l,h=>by simp only[y72];rw[if_neg (h s (by simp)),ze8 fun t ht=>h t (by simp[ht])];rfl
def zkh{c:Int}:∀{k:Nat} {b n:List Int} {i:Nat},b.length=n.length->k<=i->i<k+n.length->y72 i (chg c k b n)=n.getD (i - k) 0 - b.getD (i - k) 0
 |k,[],[],i,_,h1,h2=>by simp at h2;omega
 |_,[],_::_,_,h,_,_=>by simp at h
 |_,_::_,[],_,h,_,_=>by simp at h
 |k,b::bs,n::ns,i,h,h1,h2=>by
  simp only[chg,ze9]
  by_cases e:i=k
  ·subst e;rw[ze8 (l:=chg c (i+1) bs ns) fun s hs=>by have:=(zjv hs).2.1;omega]
   simp only[fE,List.getD_cons_zero];split
   ·simp[y72]
   ·rename_i he;have:n=b:=Decidable.not_not.1 he;simp[y72,this]
  ·have e1:i - k=(i - (k+1))+1:=by omega
   rw[zkh (k:=k+1) (i:=i) (by simpa using h) (by omega) (by simp only[ar]at h2;omega),e1,cb,cb]
   have:y72 (i:Int) (if n ≠ b then[⟨c,k,n - b⟩]else[])=0:=ze8 fun s hs=>by
    split at hs
    ·rw[bz.1 hs];simp only[];omega
    ·cases hs
   omega
def zkg{m:Nat}:∀{l:List (List Int)} {k:Nat} {b:List Int} {i:Nat},b.length=m->(∀ x,x ∈ l->x.length=m)->i<m->y72 i (shr k b l)=(l.getLastD b).getD i 0 - b.getD i 0
 |[],_,b,i,_,_,_=>by simp[shr,y72]
 |n::l,k,b,i,hb,hl,hi=>by
  have hn:=hl n (by simp)
  simp only[shr,ze9];rw[zkh (k:=0) (i:=i) (by omega) (by omega) (by omega),zkg (m:=m) hn (fun x hx=>hl x (by simp[hx])) hi]
  simp only[Nat.sub_zero,lB];omega
end Dv
namespace Dv
def zqi{m:Nat}:∀{l:List (List Int)} {k:Nat} {b:List Int} {s:y43},(∀ x,x ∈ l->x.length=m)->s ∈ shr k b l->(k:Int) - 1<=s.cause/\s.cause<k - 1+l.length/\0<=s.vr/\s.vr<m/\s.minutes ≠ 0
 |[],_,_,_,_,h=>by simp[shr]at h
 |n::l,k,b,s,hl,h=>by
  simp only[shr,aB]at h;simp only[ar];rcases h with h | h
  ·obtain⟨h1,h2,h3,h4⟩:=zjv h;have:=hl n (by simp)
   exact⟨by omega,by omega,by omega,by omega,h4⟩
  ·obtain⟨h1,h2,h3,h4,h5⟩:=zqi (m:=m) (fun x hx=>hl x (by simp[hx])) h
   exact⟨by omega,by omega,h3,h4,h5⟩
def zqj:∀{l r:List (List Int)} {k:Nat} {b:List Int},shr k b (l++r)=shr k b l++shr (k+l.length) (l.getLastD b) r
 |[],r,k,b=>by simp[shr]
 |n::l,r,k,b=>by simp only[aG,shr,zqj (l:=l),lB,ar,bi];rw[show k+1+l.length=k+(l.length+1)from by omega]
end Dv
namespace Dv
attribute [local simp] ah depth y1z y51 ya y15 y4p ye y2p y2e Ret
attribute [local congr] z1f z1g z16 z12 zx z17 zw
abbrev y1h(c:y2b):D:=.agg [dI c.index,.imm .none (c.less.map ya)]
abbrev y36(s:y43):D:=.agg [dI s.cause,dI s.vr,dI s.minutes]
def zk{hp:List Obj}{n:Nat}{l:List y2b}:y1k (frz hp (n+4)) (l.map y1h)=some (l.map y1h):=z1e fun x _=>by rw[z5b];simp only[z1k,z4b,zc,z3u,z83,z5x,aq,z3d]
def z3h{hp:List Obj}{n:Nat}{l:List y43}:y1k (frz hp (n+4)) (l.map y36)=some (l.map y36):=z1e fun x _=>by rw[z5b];simp only[z1k,z4b,zc,z3d,aq]
structure SmC(c:List y2b):Prop where
 len:c.length<=100
 less:∀ a,a ∈ c->a.less.length<=1000
 rows:∀ a,a ∈ c->∀ r,r ∈ a.less->r.length<=1000
def yhu(n:Int):Bool:=decide (n<0) || decide (4096<n)
def y66(p:yj)(l:List Int):Bool:=!decide (l.length=p.cells.length) || l.any yhu
def y45(p:yj)(a:y2b):Bool:=decide (a.index<0) || decide (1048576<a.index) || !decide (a.less.length=p.capacity.length) || a.less.any (y66 p)
def r200(n:Int):yu E (dL E) 200 [dI n]=some (.bool (yhu n)):=by
 refine zg c200 (by simp) ?_
 conv in t200=>reduce;dsimp[ai]
 unfold yhu
 by_cases h:n<0 <;> simp[t200,n200,h]
def r199(p:yj)(l:List Int)(hl:l.length<=1000)(hc:p.cells.length<=1000):yu E (dL E) 199 [ya l,.iptr (ye p).cellsL]=some (.bool (y66 p l)):=by
 refine zg c199 (by simp) ?_
 conv in t199=>reduce;dsimp[ai]
 have h71:=r71 l 200 yhu r200 (by omega)
 simp only[ya]at h71;unfold y66
 by_cases h:l.length=p.cells.length
 ·simp[t199,n199,h,h71]
 ·have h' : ¬ (l.length:Int)=p.cells.length:=by omega
  simp[t199,n199,h,h']
def g113(p:yj)(L:List (List Int))(k:Nat)(f:List Int->Bool)(hf:∀ l,l ∈ L->yu E (dL E) k [ya l,.iptr (ye p).cellsL]=some (.bool (f l)))(hL:L.length<=1000000) :
  yu E (dL E) 113 [.imm .none (L.map ya),.fn k [.iptr (ye p).cellsL]]=some (dI (y5b f L 0)):=by
 refine zg c113 (by simp) ?_
 conv in t113=>reduce;dsimp[ai]
 generalize hB:y5b f L 0=B;simp[t113,n113];refine zo L.length (fun i env hp=>∃(x3 x6 x7:D) ,env=[.imm .none (L.map ya),.fn k [.iptr (ye p).cellsL],dI 0,x3,dI L.length,dI i,x6,x7]/\y5b f (L.drop i) i=B) 0 (by omega) ⟨_,_,_,rfl,by simpa using hB⟩ ?_
 rintro i env hp hi ⟨x3,x6,x7,rfl,hm⟩
 by_cases hlt:i<L.length
 ·rw[zh hlt]at hm;have hk:=hf L[i] (av hlt);simp only[ya]at hk;simp at hk;simp only[y5b]at hm
  by_cases h:f L[i]=true
  ·rw[if_pos h]at hm;clear hB;subst hm;simp[hlt,hk,h]
  ·rw[if_neg h]at hm;have h':f L[i]=false:=by simpa using h
   simp[hlt,hk,h',hm,ze hlt (by omega)]
 ·have:i=L.length:=by omega
  subst this;rw[bv]at hm;simp only[y5b]at hm;simp[hm]
def g94(p:yj)(L:List (List Int))(k:Nat)(f:List Int->Bool)(hf:∀ l,l ∈ L->yu E (dL E) k [ya l,.iptr (ye p).cellsL]=some (.bool (f l)))(hL:L.length<=1000000) :
  yu E (dL E) 94 [.imm .none (L.map ya),.fn k [.iptr (ye p).cellsL]]=some (.bool (L.any f)):=by
 refine zg c94 (by simp) ?_
 conv in t94=>reduce;dsimp[ai]
 have h:=g113 p L k f hf hL;simp at h;simp[t94,n94,h,z6h]
def r193(p:yj)(a:y2b)(S:y19 p)(h1:a.less.length<=1000)(h2:∀ r,r ∈ a.less->r.length<=1000):yu E (dL E) 193 [y1h a,.iptr (ye p).cellsL]=some (.bool (y45 p a)):=by
 refine zg c193 (by simp) ?_
 conv in t193=>reduce;dsimp[ai]
 have s1:=S.cells;have s2:=S.cap;have h94:=g94 p a.less 199 (y66 p) (fun l hl=>r199 p l (h2 l hl) (by omega)) (by omega)
 simp only[ye,ya,z2e]at h94;unfold y45
 by_cases q1:a.index<0
 ·simp[t193,n193,q1]
 by_cases q2:1048576<a.index
 ·simp[t193,n193,q1,q2]
 by_cases q3:a.less.length=p.capacity.length
 ·simp[t193,n193,q1,q2,q3,h94,zu,zk]
 ·have q3' : ¬ (a.less.length:Int)=p.capacity.length:=by omega
  simp[t193,n193,q1,q2,q3,q3']
def r201(p:yj)(c:List y2b)(S:y19 p)(M:SmC c):yu E (dL E) 201 [.imm .none (c.map y1h),.fn 193 [.iptr (ye p).cellsL]]=some (dI (y5b (y45 p) c 0)):=by
 refine zg c201 (by simp) ?_
 conv in t201=>reduce;dsimp[ai]
 have m1:=M.len;generalize hB:y5b (y45 p) c 0=B;simp[t201,n201];refine zo c.length (fun i env hp=>∃(x3 x6 x7:D) ,env=[.imm .none (c.map y1h),.fn 193 [.iptr (ye p).cellsL],dI 0,x3,dI c.length,dI i,x6,x7]/\y5b (y45 p) (c.drop i) i=B) 0 (by omega) ⟨_,_,_,rfl,by simpa using hB⟩ ?_
 rintro i env hp hi ⟨x3,x6,x7,rfl,hm⟩
 by_cases hlt:i<c.length
 ·rw[zh hlt]at hm;have hk:=r193 p c[i] S (M.less _ (av hlt)) (M.rows _ (av hlt));simp only[y1h,ye,ya,z2e]at hk;simp only[y5b]at hm
  by_cases h:y45 p c[i]=true
  ·rw[if_pos h]at hm;clear hB;subst hm;simp[hlt,hk,h,zu,zk]
  ·rw[if_neg h]at hm;have h':y45 p c[i]=false:=by simpa using h
   simp[hlt,hk,h',hm,ze hlt (by omega),zu,zk]
 ·have:i=c.length:=by omega
  subst this;rw[bv]at hm;simp only[y5b]at hm;simp[hm]
def r194(p:yj)(c:List y2b)(S:y19 p)(M:SmC c):yu E (dL E) 194 [.imm .none (c.map y1h),.fn 193 [.iptr (ye p).cellsL]]=some (.bool (c.any (y45 p))):=by
 refine zg c194 (by simp) ?_
 conv in t194=>reduce;dsimp[ai]
 have h:=r201 p c S M;simp only[y1h,ye,ya,z2e]at h;simp[t194,n194,h,z6h,zu,zk]
def zcg{p:yj}{l:List Int}:y66 p l=false ↔ l.length=p.cells.length /\ ∀ n,n ∈ l->0<=n/\n<=4096:=by
 unfold y66 yhu;simp only[iF,lD,decide_eq_true_eq,gZ,Bool.or_eq_true,not_or];refine⟨fun h=>⟨h.1,fun n hn=>?_⟩,fun h=>⟨h.1,fun n hn=>?_⟩⟩
 ·have:=h.2 n hn;omega
 ·have:=h.2 n hn;omega
def zr4{p:yj}{c:List y2b}:OkC p c ↔ c.length<=8/\c.any (y45 p)=false:=by
 rw[gZ];constructor
 ·intro C;refine⟨C.len,fun a ha=>?_⟩
  have h1:=C.idx a ha;have h2:=C.rows a ha;have h3:=C.wid a ha;have e:a.less.any (y66 p)=false:=by rw[gZ];intro r hr;rw[jz];exact zcg.2 (h3 r hr)
  have q1 : ¬ a.index<0:=by omega
  have q2 : ¬ 1048576<a.index:=by omega
  simp[y45,e,h2,q1,q2]
 ·rintro⟨h0,h⟩;have key:∀ a,a ∈ c->(0<=a.index/\a.index<=1048576)/\a.less.length=p.capacity.length /\ ∀ r,r ∈ a.less->y66 p r=false:=fun a ha=>by have:=h a ha;unfold y45 at this;rw[jz]at this;simp only[iF,lD,decide_eq_true_eq,decide_eq_false_iff_not]at this;obtain⟨⟨⟨a1,a2⟩,a3⟩,a4⟩:=this;rw[gZ]at a4;exact⟨⟨by omega,by omega⟩,a3,fun r hr=>by simpa using a4 r hr⟩
  exact⟨h0,fun a ha=>(key a ha).1,fun a ha=>(key a ha).2.1,fun a ha r hr=>zcg.1 ((key a ha).2.2 r hr)⟩
open Classical in
noncomputable def ckC(p:yj)(c:List y2b):Int:=if OkP p then(if OkC p c then 0 else 420)else 270
def r181(p:yj)(c:List y2b)(S:y19 p)(M:SmC c):yu E (dL E) 181 [ye p,.imm .none (c.map y1h)]=some (dI (ckC p c)):=by
 refine zg c181 (by simp) ?_
 conv in t181=>reduce;dsimp[ai]
 have h15:=r15 p S;have m1:=M.len;simp only[ye]at h15
 by_cases h0:OkP p
 rotate_left
 ·have e:ck p=270:=by simp[ck,h0]
  simp[t181,n181,h15,e,ckC,h0]
 have e:ck p=0:=by simp[ck,h0]
 by_cases h8:8<c.length
 ·have hn : ¬ OkC p c:=fun h=>by have:=h.len;omega
  have h8':(8:Int)<c.length:=by omega
  simp[t181,n181,h15,e,ckC,h0,hn,h8',z13,z3x]
 have h8' : ¬ (8:Int)<c.length:=by omega
 have h194:=r194 p c S M;simp only[y1h,ye,ya,z2e]at h194
 by_cases h2:c.any (y45 p)=true
 ·have hn : ¬ OkC p c:=fun h=>by have:=(zr4.1 h).2;rw[h2]at this;cases this
  rw[h2]at h194;simp[t181,n181,h15,e,ckC,h0,hn,h8',z13,z3x,h194,zu,zk]
 ·have h2':c.any (y45 p)=false:=by simpa using h2
  have hn:OkC p c:=zr4.2 ⟨by omega,h2'⟩
  rw[h2']at h194;simp[t181,n181,h15,e,ckC,h0,hn,h8',z13,z3x,h194,zu,zk]
structure OkM(p:yj)(m:List (List Int)):Prop where
 len:m.length=p.capacity.length
 rows:∀ l,l ∈ m->l.length=p.cells.length /\ ∀ n,n ∈ l->0<=n/\n<=65536
open Classical in
noncomputable def mk(p:yj)(m:List (List Int)):Int:=if OkP p then(if OkM p m then 0 else 290)else 270
def mu(m:List (List Int))(leaf:Int)(k:Nat):Int:=(m.getD leaf.toNat []).getD k 0
end Dv
namespace Dv
def other(p:yj)(vs:List Var):yj:={ p with vars:=vs }
end Dv
namespace Dv
def hd(n id:Nat):D:=if n=0 then .imm .exact []else .sl id 0 n 1 false true
end Dv
namespace Dv
attribute [local simp] ah depth y1z y51 ya y15 y4p ye y2p y2e Ret
attribute [local congr] z1f z1g z16 z12 zx z17 zw
def s96(r:List Int)(h:r.length<=1000)(hp:List Obj):∃ t,y1j E (dL E) 96 [ya r] hp=some (hd r.length hp.length,hp++t)/\(r.length ≠ 0->t=[.cells (r.map dI)]):=by
 obtain⟨d,hp',h1,h2,h3⟩:=z1j c96 (args:=[ya r]) (hp:=hp) (R:=fun d hp'=>d=hd r.length hp.length /\ ∃ t,hp'=hp++t/\(r.length ≠ 0->t=[.cells (r.map dI)])) (by simp) (by
  by_cases h0:r.length=0
  ·have:r=[]:=aK h0;subst this;simp[t96,n96,hd,y1q];exact⟨[],by simp[yk]⟩
  ·have h4 : ¬ r=[]:=fun e=>h0 (by rw[e];rfl)
   have a:=fun hp id=>zur (hp:=hp) (id:=id) (cs:=r) (by omega) (by omega)
   simp[t96,n96,hd,a,yk,h0,h4])
 subst h2;obtain⟨t,rfl,h4⟩:=h3;exact⟨t,h1,h4⟩
def zkm{t e:Nat}(hk:(E.ty t).k=.slice e){l:List D}(hf:y2u (E.ty e).size l=true){n:Nat}(h:n<=l.length):y13 E t (.imm .none l) (some (.int .i64 (n:Int))) none none=some (.imm .none (l.drop n)):=by
 simp only[y13,hk,bnd,Int.toNat_natCast,Option.map_none,y27,hf];have h0:(0:Int)<=n:=by omega
 simp only[h0,h,if_true,aj,and_self];rw[bd (by simp)]
def y96(x y:List Int)(k:Nat):List Int:=(y7m x y).take k++x.drop k
def zw6{n:Nat}{x y:List Int}(hx:x.length=n)(hy:y.length=n){k:Nat}:(y96 x y k).length=n:=by have:=z6n (hx.trans hy.symm);simp[y96,this,hx];omega
def zw7{n:Nat}{x y:List Int}(hx:x.length=n)(hy:y.length=n){k:Nat}(hk:k<x.length):(y96 x y k)[k]? = some x[k]:=by
 have:=z6n (hx.trans hy.symm);unfold y96;rw[aH (by simp;omega)]
 simp[this,Nat.min_eq_left (Nat.le_of_lt hk),hk]
def zw5{n:Nat}{x y:List Int}(hx:x.length=n)(hy:y.length=n){k:Nat}(hk:k<x.length)(hk':k<y.length):(y96 x y k).set k (mn (x[k]+y[k]) 4096)=y96 x y (k+1):=by
 have h0:=z6n (hx.trans hy.symm);have hk2:k<(y7m x y).length:=by omega
 have e:(y7m x y)[k]=mn (x[k]+y[k]) 4096:=by simp[y7m]
 unfold y96;rw[List.set_append_right _ _ (by simp;omega),aN hk2,e]
 have:k - ((y7m x y).take k).length=0:=by simp;omega
 rw[this,List.drop_eq_getElem_cons hk,List.set_cons_zero,bi]
 rfl
def zre{x y:List Int}:y96 x y 0=x:=by simp[y96]
def zw8{n:Nat}{x y:List Int}(hx:x.length=n)(hy:y.length=n):y96 x y n=y7m x y:=by have h0:=z6n (hx.trans hy.symm);unfold y96;rw[bd (by omega),ed (by omega),List.append_nil]
def zct{x:List Int}{ys:List (List Int)}:y13 E 9 (.imm .none (.imm .none (x.map dI)::ys.map ya)) (some (.int .i64 1)) none none=some (.imm .none (ys.map ya)):=by
 have:=zkm (t:=9) (e:=6) rfl (l:=.imm .none (x.map dI)::ys.map ya) (by simp[y2u,E,y4i,D.cellsL]) (n:=1) (by simp)
 simpa using this
def ylx(ys:List (List Int))(hy:∀ y,y ∈ ys->y=[])(hl:ys.length<=1000):yu E (dL E) 202 [.imm .none (([]::ys).map ya)]=some (ya []):=by
 refine zg c202 (by simp) ?_
 conv in t202=>reduce;dsimp[ai]
 obtain⟨t,h96,_⟩:=s96 [] (by simp) []
 simp[hd]at h96;have hs:=zct (x:=[]) (ys:=ys);simp only[aO]at hs;simp[t202,n202,h96,hs];refine zo ys.length (fun i env hp=>∃(x3 x4 x5 x6 x10 x11 x12 x13 x14:D) ,env=[.imm .none (([]::ys).map ya),.imm .exact [],.imm .exact [],x3,x4,x5,x6,.imm .none (ys.map ya),dI ys.length,dI i,x10,x11,x12,x13,x14]) 0 (by omega) ⟨_,_,_,_,_,_,_,_,_,rfl⟩ ?_
 rintro i env hp hi ⟨x3,x4,x5,x6,x10,x11,x12,x13,x14,rfl⟩
 by_cases hlt:i<ys.length
 ·have h0:=hy _ (av hlt);simp[hlt,h0];refine zo 0 (fun j env hp=>∃(x3 x4 x5 x6 x10 x11 x14:D) ,env=[.imm .none (([]::ys).map ya),.imm .exact [],.imm .exact [],x3,x4,x5,x6,.imm .none (ys.map ya),dI ys.length,dI i,x10,x11,dI (0:Nat),dI j,x14]) 0 (by omega) ⟨_,_,_,_,_,_,_,rfl⟩ ?_
  rintro j env hp hj ⟨x3,x4,x5,x6,x10,x11,x14,rfl⟩;have:j=0:=by omega
  subst this;simp[ze hlt (by omega)]
 ·simp[hlt]
def r202(n:Nat)(x:List Int)(ys:List (List Int))(hx:okR n x)(hy:∀ y,y ∈ ys->okR n y)(hn:n<=1000)(hl:ys.length<=1000) :
  yu E (dL E) 202 [.imm .none ((x::ys).map ya)]=some (ya (ys.foldl y7m x)):=by
 by_cases h0:n=0
 ·subst h0;have e:x=[]:=aK hx.1;have e2:ys.foldl y7m x=[]:=aK (z9t hx hy).1;rw[e2,e];exact ylx ys (fun y h=>aK (hy y h).1) hl
 refine zg c202 (by simp) ?_
 conv in t202=>reduce;dsimp[ai]
 have hxl:=hx.1;obtain⟨t,h96,ht⟩:=s96 x (by omega) []
 have ht:=ht (by omega)
 subst ht;rw[hd,if_neg (by omega),hxl]at h96
 simp only[ya]at h96;simp at h96;obtain⟨R,hR⟩:∃ R:Nat->List Int,R=fun i=>(ys.take i).foldl y7m x:=⟨_,rfl⟩
 have hRk:∀ i,okR n (R i):=fun i=>by rw[hR];exact z9t hx fun y h=>hy y (List.mem_of_mem_take h)
 have hR1:∀(i:Nat) (h:i<ys.length),R (i+1)=y7m (R i) ys[i]:=fun i h=>by rw[hR];simp only[];rw[aN h,List.foldl_append];rfl
 have hRn:R ys.length=ys.foldl y7m x:=by rw[hR];simp only[];rw[bh]
 have hR0:R 0=x:=by rw[hR];simp
 rw[<- hRn];simp[t202,n202,h96,zct];refine zo ys.length (fun i env hp=>∃(x3 x4 x5 x6 x10 x11 x12 x13 x14:D) ,env=[.imm .none ((x::ys).map ya),.imm .exact [],.sl 0 0 n 1 false true,x3,x4,x5,x6,.imm .none (ys.map ya),dI ys.length,dI i,x10,x11,x12,x13,x14]/\At hp 0 (.cells ((R i).map dI))) 0 (by omega) ⟨_,_,_,_,_,_,_,_,_,rfl,by rw[hR0];simp[At]⟩ ?_
 rintro i env hp hi ⟨x3,x4,x5,x6,x10,x11,x12,x13,x14,rfl,g0⟩
 by_cases hlt:i<ys.length
 ·obtain⟨y,hyd⟩:∃ y,y=ys[i]:=⟨_,rfl⟩;have hyk:okR n y:=by rw[hyd];exact hy _ (av hlt)
  have hyl:=hyk.1;have hRi:=hRk i;have e1:=hR1 i hlt;rw[<- hyd]at e1;obtain⟨r,hr⟩:∃ r,r=R i:=⟨_,rfl⟩;rw[<- hr]at g0 hRi e1;have hrl:=hRi.1;simp[hlt,<- hyd];refine zo n (fun j env hp=>∃(x3 x4 x5 x6 x10 x14:D) ,env=[.imm .none ((x::ys).map ya),.imm .exact [],.sl 0 0 n 1 false true,x3,x4,x5,x6,.imm .none (ys.map ya),dI ys.length,dI i,x10,ya y,dI n,dI j,x14]/\At hp 0 (.cells ((y96 r y j).map dI))) 0 (by omega) ⟨_,_,_,_,_,_,by rw[hyl];rfl,by rw[zre];exact g0⟩ ?_
  clear g0 hp;rintro j env hp hj ⟨x3,x4,x5,x6,x10,x14,rfl,g0⟩;have l0:=g0.lt
  by_cases hjl:j<n
  ·have hjr:j<r.length:=by omega
   have hjy:j<y.length:=by omega
   have m1:=zw7 hrl hyl hjr;have m2:=zw5 hrl hyl hjr hjy;have m3:=zw6 hrl hyl (k:=j);have b1:=hRi.2 _ (av hjr);have b2:=hyk.2 _ (av hjy);have w1:=za (n:=r[j]+y[j]) ⟨by omega,by omega⟩
   have m4:(bP dI (y96 r y j)).set j (.int .i64 (if 4096<r[j]+y[j]then 4096 else r[j]+y[j]))=(y96 r y (j+1)).map dI:=by rw[<- m2,List.map_set];rfl
   have m5:j+1<=(y96 r y j).length:=by omega
   simp[hjl,hjy,g0.eq,m1,w1,m4,m5,ze hjl (by omega)]
   exact At.self l0
  ·have:j=n:=by omega
   subst this;rw[zw8 hrl hyl,<- e1]at g0;simp[hjl,ze hlt (by omega)]
   exact g0
 ·have:i=ys.length:=by omega
  subst this;have hch:=za3 (l:=R ys.length);rw[(hRk _).1]at hch;simp[hlt,g0.eq,zlk,hch]
def z8s{l:List (List Int)}:y2k 1 (l.map ya)=true:=by
 unfold y2k;rw[ay];intro x hx;obtain⟨r,_,rfl⟩:=aL.1 hx
 rfl
def zx7:yr []=[]:=rfl
def zif{l:List (List Int)}{sp:yt}:y13 E 35 (.imm sp (l.map ya)) none (some (dI l.length)) (some (dI l.length))=some (.imm .exact (l.map ya)):=by
 have hh:y2u 1 (l.map ya)=true:=by cases l <;> rfl
 have hq:(l.map ya).take l.length=l.map ya:=bd (by simp)
 simp[y13,bnd,y27,hh,hq]
def zie{l:List y62}{sp:yt}:y13 E 31 (.imm sp (l.map y3u)) none (some (dI l.length)) (some (dI l.length))=some (.imm .exact (l.map y3u)):=by
 have hh:y2u 3 (l.map y3u)=true:=by cases l <;> rfl
 have hq:(l.map y3u).take l.length=l.map y3u:=bd (by simp)
 simp[y13,bnd,y27,hh,hq]
def r175(l:List (List Int)):yu E (dL E) 175 [.imm .none (l.map ya)]=some (.imm .exact (l.map ya)):=by
 refine zqn c175 (by simp) ?_
 conv in t175=>reduce;dsimp[ai]
 simp[t175,n175,z7c,zif]
def r166(l:List y62):yu E (dL E) 166 [.imm .none (l.map y3u)]=some (.imm .exact (l.map y3u)):=by
 refine zqn c166 (by simp) ?_
 conv in t166=>reduce;dsimp[ai]
 simp[t166,n166,z7c,zie,zu]
def r165(l:List (List Int))(hl:l.length<=1000000000):yu E (dL E) 165 [.imm .none (l.map ya)]=some (.imm .none (l.map ya)):=by
 refine zg c165 (by simp) ?_
 conv in t165=>reduce;dsimp[ai]
 by_cases h0:l=[]
 ·subst h0;simp[t165,n165,y1q,yk]
 ·have h1 : ¬ l.length=0:=fun h=>h0 (aK h)
  have hb:((l.map ya).all fun d=>d.storable && d.cellsL.length == 1)=true:=z8s
  have hm:l.length*25<=yg:=by unfold yg;omega
  have hc:y31 1 false l.length (l.map ya)=some (l.map ya):=by have:=zbw (l:=l.map ya);rwa [aF]at this
  simp[t165,n165,y1q,yk,y1b,hb,h0,hm,y2k,zx7,zt0,hc]
def r168(m:List (List Int))(b:List Int)(hm:m.length<=1000000000):yu E (dL E) 168 [.imm .none ((m++[b]).map ya)]=some (.tup [ya b,.imm .exact (m.map ya)]):=by
 refine zqn c168 (by simp) ?_
 conv in t168=>reduce;dsimp[ai]
 have h175:=r175 m;have w:=za (n:=(m.length:Int)+1 - 1) ⟨by omega,by omega⟩
 have w2:(m.length:Int)+1 - 1=m.length:=by omega
 have hg:(bP ya m++[D.imm yt.none (bP dI b)])[m.length]? = some (D.imm yt.none (bP dI b)):=by rw[aH (by simp)];simp
 have hh:y2u 1 (bP ya m++[D.imm yt.none (bP dI b)])=true:=by cases m <;> rfl
 have hs:y13 E 35 (.imm .none (bP ya m++[D.imm yt.none (bP dI b)])) none (some (dI m.length)) none=some (.imm .none (bP ya m)):=by
  have ht:(bP ya m++[D.imm yt.none (bP dI b)]).take m.length=bP ya m:=by rw[List.take_append_of_le_length (by simp),bd (by simp)]
  simp[y13,bnd,y27,hh,ht]
 rw[w2]at w;simp[t168,n168,w,w2,hg,hs,h175]
def r169(l:List (List Int)):yu E (dL E) 169 [.imm .none (l.map ya)]=some (.fn 176 [.iptr [.imm .none (l.map ya)]]):=by
 refine zg c169 (by simp) ?_
 conv in t169=>reduce;dsimp[ai]
 simp[t169,n169]
def i176(l:List (List Int))(hl:l.length<=1000000000)(k:Nat)(J:List (List Int)->List Obj->Prop)(Fin:List Obj->Prop)
  (hy:∀ x rem hp,J (x::rem) hp->∃ t hp',y3d (dL E) k [ya x] hp=some (.bool t,hp')/\(t=true->J rem hp')/\(t=false->Fin hp')) {hp:List Obj}
  (h0:J l.reverse hp) :
  ∃ d hp',y1j E (dL E) 176 [.yld k,.iptr [.imm .none (l.map ya)]] hp=some (d,hp')/\(J [] hp'\/Fin hp'):=by
 refine z1j c176 (R:=fun _ hp'=>J [] hp'\/Fin hp') (by simp) ?_
 conv in t176=>reduce;dsimp[ai]
 have w:=za (n:=(l.length:Int) - 1) ⟨by omega,by omega⟩
 simp[t176,n176,w];refine zo l.length (fun i env hp=>∃(x3 x4 x5:D) ,env=[.yld k,.iptr [.imm .none (l.map ya)],dI ((l.length:Int) - 1 - i),x3,x4,x5]/\J ((l.take (l.length - i)).reverse) hp) 0 (by omega) ⟨.undef,.undef,.undef,by simp,by simpa using h0⟩ ?_
 rintro i env hp hi ⟨x3,x4,x5,rfl,hJ⟩
 by_cases hlt:i<l.length
 rotate_left
 ·have:i=l.length:=by omega
  subst this;have e1:(l.length:Int) - 1 - l.length = -1:=by omega
  simp only[fE,List.take_zero,List.reverse_nil]at hJ;rw[e1];simp[hJ]
 obtain⟨j,hj⟩:∃ j,l.length - i=j+1:=⟨l.length - i - 1,by omega⟩
 have hjl:j<l.length:=by omega
 have ej:(l.length:Int) - 1 - i=j:=by omega
 have e2:(0:Int)<=j:=by omega
 have e3:=za (n:=(j:Int) - 1) ⟨by omega,by omega⟩
 rw[hj,aN hjl,List.reverse_append]at hJ;simp only[List.reverse_singleton,List.singleton_append]at hJ;obtain⟨t,hp2,hy1,hy2,hy3⟩:=hy _ _ _ hJ;simp only[ya]at hy1;have hn:l.length - (i+1)=j:=by omega
 have e4:(l.length:Int) - 1 - (i+1)=(j:Int) - 1:=by omega
 rw[ej];cases t with
 |true=>have hJ2:=hy2 rfl;simp[hjl,hy1,hn,e3,e4,hlt,hJ2]
 |false=>have hF:=hy3 rfl;simp[hjl,hy1,hF]
abbrev yhy(l:y62):D:=.agg [ya l.branch,dI l.kind,.imm .exact []]
def dLs(ls ns:List y62):List D:=ls.map y3u++ns.map yhy
def zjs{ls ns:List y62}:(dLs ls ns).length=ls.length+ns.length:=by simp[dLs]
def zm3{ls ns:List y62}{b:List Int}{kd:Int}:dLs ls ns++[.agg [ya b,dI kd,.imm .exact []]]=dLs ls (ns++[⟨b,kd,[]⟩]):=by simp[dLs]
def zx9{ls ns:List y62}:y2k 3 (dLs ls ns)=true:=by
 unfold y2k;rw[ay];intro x hx;rcases aB.1 hx with hx | hx
 ·obtain⟨r,_,rfl⟩:=aL.1 hx;rfl
 ·obtain⟨r,_,rfl⟩:=aL.1 hx;rfl
def zup{ls ns:List y62}{x:D}(h:ls.length+ns.length<=1000000000):y2o E 32 (dLs ls ns) [x]:=by
 refine⟨?_,?_,?_,zx9⟩ <;> simp[yg,zjs]
 omega
def zlo{hp:List Obj}{n:Nat}:∀{l r l' r':List D},y1k (frz hp n) l=some l'->y1k (frz hp n) r=some r'->y1k (frz hp n) (l++r)=some (l'++r')
 |[],r,l',r',h,h'=>by simp only[z3d,aa]at h;subst h;exact h'
 |x::l,r,l',r',h,h'=>by
  rw[z1k]at h;rw[aG,z1k];cases hx:frz hp n x with
  |none=>rw[hx]at h;cases h
  |some y=>
   rw[hx,zc]at h;rw[zc];cases hl:y1k (frz hp n) l with
   |none=>rw[hl]at h;cases h
   |some z=>rw[hl,zc,aa]at h;subst h;rw[zlo hl h',zc,aG]
def zdh{hp:List Obj}{n:Nat}:∀{l:List y62},(∀ x,x ∈ l->x.mult=[])->y1k (frz hp (n+4)) (l.map yhy)=some (l.map y3u)
 |[],_=>rfl
 |x::l,h=>by
  rw[List.map_cons,z1k,z5b];simp only[z1k,z4b,zc,z3u,z5x,aq,z3d];rw[zdh fun y hy=>h y (by simp[hy])]
  simp[h x (by simp)]
def zx1{hp:List Obj}{n:Nat}{ls ns:List y62}(h:∀ x,x ∈ ns->x.mult=[]):y1k (frz hp (n+4)) (dLs ls ns)=some ((ls++ns).map y3u):=by unfold dLs;rw[zlo zu (zdh h),bp]
def ylq{i C:Nat}{hp:List Obj}{o be v:D}{sp:yt}(b:List Int)(kd:Int)(ls ns:List y62)(hn:ls.length+ns.length<=1000000000)
  (g:At hp i (.cells [o,be,v,.imm sp (dLs ls ns)])) (R:y47 C hp sp (ls.length+ns.length) 3) (hC:C<=hp.length) (hi:i<C) :
  ∃ d hp',y1j E (dL E) 167 [ya b,dI kd,.loc i 0] hp=some (d,hp')/\yy d=false /\ ∃ sp',At hp' i (.cells [o,be,v,.imm sp' (dLs ls (ns++[⟨b,kd,[]⟩]))])/\y47 C hp' sp' (ls.length+ns.length+1) 3/\y2n i C hp hp'/\hp.length<=hp'.length:=by
 refine z1j c167 (args:=[ya b,dI kd,.loc i 0]) (hp:=hp) (R:=fun d hp'=>yy d=false /\ ∃ sp',At hp' i (.cells [o,be,v,.imm sp' (dLs ls (ns++[⟨b,kd,[]⟩]))])/\y47 C hp' sp' (ls.length+ns.length+1) 3/\y2n i C hp hp'/\hp.length<=hp'.length) (by simp) ?_
 conv in t167=>reduce;dsimp[ai]
 have ha:=fun x=>zup (ls:=ls) (ns:=ns) (x:=x) hn
 have hl:=g.lt;rcases R with rfl | ⟨k,rfl,hk,hk2⟩
 ·simp[t167,n167,g.eq,zq,zz,ha,↓g.appE,zm3,zjs];refine⟨_,At.self (by simp;omega),.inr ⟨hp.length,rfl,hC,At.ne (by simp[At]) (by omega)⟩,y2n.app.trans (y2n.set (.inl rfl))⟩
 ·have g2:=g.ne (j:=k) (x:=.dead) (by omega)
  simp[t167,n167,g.eq,zq,z14,ha,hk2.eq,zm3,zjs,↓g2.appE];refine⟨_,At.self (by simp;omega),.inr ⟨hp.length,rfl,hC,At.ne (by simp[At]) (by omega)⟩,((y2n.set (.inr hk)).trans y2n.app).trans (y2n.set (.inl rfl))⟩
def z8z{hp:List Obj}{id:Nat}{o:Obj}(h:id<=hp.length):At (y2e hp id o) id o/\hp.length<=(y2e hp id o).length /\ ∀ i q,At hp i q->i ≠ id->At (y2e hp id o) i q:=by
 unfold y2e
 by_cases hl:id<hp.length
 ·rw[if_pos hl];exact⟨At.self hl,by simp,fun i q g hne=>g.ne (Ne.symm hne)⟩
 ·rw[if_neg hl];have:id=hp.length:=by omega
  subst this;exact⟨by simp[At],by simp,fun i q g _=>g.app⟩
def yho{hp:List Obj}{sp:yt}{els:List D}{x:D}{B id:Nat}(hok:y2o E 6 els [x])(hx:(x.storable && x.cellsL.length == 1)=true)(R:y47 B hp sp els.length 1)(hid:id<=hp.length) :
  ∃ hp',y9b E hp id 9 9 (.imm sp els) (.imm .exact [x])=some (.imm (.tok id) (els++[x]),hp')/\At hp' id (.tok ((els.length+1)*1) 1)/\hp.length<=hp'.length /\
   ∀ i o,At hp i o->(∀ k,sp=.tok k->i ≠ k)->i ≠ id->At hp' i o:=by
 have k9:(E.ty 9).k=.slice 6:=rfl;have s6:(E.ty 6).size=1:=rfl;rcases R with rfl | ⟨k,rfl,_,g⟩
 ·obtain⟨a1,a2,a3⟩:=z8z (o:=.tok ((els.length+1)*1) 1) hid;refine⟨_,?_,a1,a2,fun i o g _ hne=>a3 i o g hne⟩
  rw[zz,k9];simp only[z2q,s6,cG,ec,hx,ek,if_true,zc,if_pos hok,ar,aY]
 ·have hg:=g.eq;obtain⟨a1,a2,a3⟩:=z8z (hp:=hp.set k .dead) (id:=id) (o:=.tok ((els.length+1)*1) 1) (by simpa using hid)
  refine⟨_,?_,a1,by simpa using a2,fun i o g hk hne=>a3 i o (g.ne (Ne.symm (hk k rfl))) hne⟩
  rw[z14,k9];simp only[z2q,s6,cG,ec,hx,ek,if_true,zc,if_pos hok,ar,aY,hg,z65,and_self]
def zdv{l:List (List Int)}{x:D}(h:l.length<=100000):y2o E 6 (l.map ya) [x]:=by
 refine⟨?_,?_,?_,?_⟩
 ·simp[yg,E,y4i];omega
 ·simp[E,y4i]
 ·rfl
 ·simp[y2k,E,y4i,D.storable,D.atom,D.cellsL]
def zgg{c:List y2b}{k:Nat}(h:k<=c.length):y13 E 38 (.imm .none (c.map y1h)) (some (.int .i64 (k:Int))) none none=some (.imm .none ((c.drop k).map y1h)):=by
 have:=zkm (t:=38) (e:=39) rfl (l:=c.map y1h) (by cases c <;> simp[y2u,E,y4i,D.cellsL]) (n:=k) (by simpa using h)
 simpa[List.map_drop]using this
def r195(p:yj)(c:List y2b)(k:Nat)(S:y19 p)(ok:OkP p)(C:OkC p c)(hk:k<=c.length):yu E (dL E) 195 [ye p,.imm .none (c.map y1h),dI k]=some (ye (y46 p c k)):=by
 refine zg c195 (by simp) ?_
 conv in t195=>reduce;dsimp[ai]
 have s1:=S.cells;have s2:=S.cap;have c1:=C.len;have hsl:=zgg hk;obtain⟨W,hW⟩:∃ W:Nat->List Int,W=fun i=>yiy (c.drop k) i (p.capacity.getD i []):=⟨_,rfl⟩
 have hWW:y46 p c k = { p with capacity:=(bD p.capacity.length).map W }:=by rw[hW];rfl
 rw[hWW];obtain⟨L,hL⟩:∃ L:Nat->List (List Int),L=fun i=>(bD i).map W:=⟨_,rfl⟩
 have hL0:L 0=[]:=by rw[hL];rfl
 have hL1:∀ i,L (i+1)=L i++[W i]:=fun i=>by rw[hL];simp[List.range_succ]
 have hLl:∀ i,(L i).length=i:=fun i=>by rw[hL];simp
 have hLn:(bD p.capacity.length).map W=L p.capacity.length:=by rw[hL]
 rw[hLn];simp[t195,n195];refine zo p.capacity.length (fun i env hp=>∃(x6 x7 x8 x9 x10 x14 x15 x16 x17 x18 x19 x20 x21:D) (sp:yt),env=[ye p,.imm .none (c.map y1h),dI k,.loc 0 0,.loc 1 0,.loc 2 0,x6,x7,x8,x9,x10,.imm .none (p.capacity.map ya),dI p.capacity.length,dI i,x14,x15,x16,x17,x18,x19,x20,x21] /\
  At hp 0 (.cells (ye p).cellsL)/\At hp 1 (.cells [.imm .exact [],.imm .exact [],.imm .exact []])/\At hp 2 (.cells [.imm .none (p.cells.map y1z),.imm sp ((L i).map ya),.imm .none (p.vars.map y4p)])/\y47 3 hp sp i 1) 0 (by omega)
  ⟨_,_,_,_,_,_,_,_,_,_,_,_,_,.exact,rfl,by simp[At],by simp[At],by rw[hL0];simp[At],.inl rfl⟩ ?_
 rintro i env hp hi ⟨x6,x7,x8,x9,x10,x14,x15,x16,x17,x18,x19,x20,x21,sp,rfl,g0,g1,g2,R⟩;have l2:=g2.lt
 by_cases hlt:i<p.capacity.length
 ·obtain⟨d,hd⟩:∃ d,d=c.drop k:=⟨_,rfl⟩;have Cd:OkC p d:=by rw[hd];exact yfg C
  have hdl:d.length<=8:=Cd.len;rw[<- hd]at hsl;have hrowi:p.capacity.getD i []=p.capacity[i]:=by rw[af,ac hlt,aX]
  obtain⟨rws,hrws⟩:∃ rws:List (List Int),rws=d.map fun a=>a.less.getD i []:=⟨_,rfl⟩
  have hrl:rws.length=d.length:=by rw[hrws];simp
  have h202:=r202 p.cells.length p.capacity[i] rws (by rw[<- hrowi];exact zzs ok C hlt) (by rw[hrws];exact zqp ok Cd hlt) (by omega) (by omega)
  have hWi:rws.foldl y7m p.capacity[i]=W i:=by rw[hW];simp only[];rw[hrowi,hrws,hd];rfl
  rw[hWi]at h202;obtain⟨A,hA⟩:∃ A:Nat->List D,A=fun j=>(p.capacity[i]::rws.take j).map ya:=⟨_,rfl⟩
  have hA0:A 0=[.imm .none (p.capacity[i].map dI)]:=by rw[hA];rfl
  have hA1:∀(j:Nat) (h:j<rws.length),A j++[.imm .none (rws[j].map dI)]=A (j+1):=fun j h=>by rw[hA];simp only[];rw[aN h,<- aG,bp];rfl
  have hAl:∀ j,j<=rws.length->(A j).length=j+1:=fun j h=>by rw[hA];simp;omega
  have hAok:∀ j x,j<=rws.length->y2o E 6 (A j) [x]:=fun j x h=>by rw[hA];exact zdv (by simp;omega)
  have hAn:A rws.length=(p.capacity[i]::rws).map ya:=by rw[hA];simp only[];rw[bh]
  have hAf:y1k (frz [] 11) (A rws.length)=some (A rws.length):=by rw[hAn];exact z83
  rw[<- hAn]at h202;rw[hrl]at h202 hAf;simp[hlt,hsl];rw[<- hA0];refine zo d.length (fun j env hq=>∃(x7 x9 x10 x14 x18 x19 x20 x21:D) (sp2:yt),env=[ye p,.imm .none (c.map y1h),dI k,.loc 0 0,.loc 1 0,.loc 2 0,dI i,x7,.imm sp2 (A j),x9,x10,.imm .none (p.capacity.map ya),dI p.capacity.length,dI i,x14,.imm .none (d.map y1h),dI d.length,dI j,x18,x19,x20,x21] /\
   y47 hp.length hq sp2 (j+1) 1/\hp.length<=hq.length /\ ∀ n o,n<hp.length->At hp n o->At hq n o) 0 (by omega) ⟨_,_,_,_,_,_,_,_,.exact,rfl,.inl rfl,aj _,fun n o _ h=>h⟩ ?_
  rintro j env hq hj ⟨x7,x9,x10,x14,x18,x19,x20,x21,sp2,rfl,R2,hle,keep⟩
  by_cases hjl:j<d.length
  ·have hjr:j<rws.length:=by omega
   have hdr:=Cd.rows _ (av hjl);have hg:d[j].less[i]? = some rws[j]:=by
    have e:rws[j]=d[j].less.getD i []:=by simp[hrws]
    rw[e,af,ac (show i<d[j].less.length by omega),aX]
   have R3:y47 hp.length (hq++[Obj.cells [dI d[j].index,D.imm yt.none (bP ya d[j].less)]]) sp2 (A j).length 1:=by
    rw[hAl j (by omega)]
    rcases R2 with h | ⟨k',h1,h2,h3⟩
    ·exact .inl h
    ·exact .inr ⟨k',h1,h2,h3.app⟩
   obtain⟨h',e1,e2,e3,e4⟩:=yho (x:=.imm .none (rws[j].map dI)) (id:=hq.length+1) (hAok j _ (by omega)) (by simp[D.storable,D.atom,D.cellsL]) R3 (by simp)
   rw[hA1 j hjr]at e1;rw[hAl j (by omega)]at e2
   simp only[List.length_append,ar,aY]at e3;simp[hjl,hg,e1,ze hjl (by omega)]
   repeat apply Exists.intro
   refine⟨by and_intros <;> rfl,.inr ⟨_,rfl,by omega,e2⟩,by omega,fun n o hn g=>e4 n o (keep n o hn g).app (fun k' hk'=>?_) (by omega)⟩
   rcases R2 with h | ⟨k2,h1,h2,_⟩
   ·rw[h]at hk';cases hk'
   ·rw[h1]at hk';cases hk';omega
  ·have:j=d.length:=by omega
   subst this;have G0:=keep 0 _ g0.lt g0;have G1:=keep 1 _ g1.lt g1;have G2:=keep 2 _ g2.lt g2;obtain⟨H,hH⟩:∃ H,H=hq++[Obj.dead,Obj.dead,Obj.dead,Obj.dead,Obj.dead,Obj.dead,Obj.dead,Obj.dead]:=⟨_,rfl⟩;have K0:At H 0 (.cells (ye p).cellsL):=by rw[hH];exact G0.app
   have K1:At H 1 (.cells [.imm .exact [],.imm .exact [],.imm .exact []]):=by rw[hH];exact G1.app
   have K2:At H 2 (.cells [.imm .none (p.cells.map y1z),.imm sp ((L i).map ya),.imm .none (p.vars.map y4p)]):=by rw[hH];exact G2.app
   have R3:y47 3 H sp ((L i).map ya).length 1:=by
    rw[aF,hLl];rcases R with h | ⟨k',h1,h2,h3⟩
    ·exact .inl h
    ·exact .inr ⟨k',h1,h2,by rw[hH];exact(keep k' _ h3.lt h3).app⟩
   obtain⟨h',e1,e2,e3,e4⟩:=yho (x:=.imm .none ((W i).map dI)) (id:=hq.length+5) (zdv (by rw[hLl];omega)) (by simp[D.storable,D.atom,D.cellsL]) R3 (by rw[hH];simp)
   have eL:(L i).map ya++[.imm .none ((W i).map dI)]=(L (i+1)).map ya:=by rw[hL1];simp
   rw[eL]at e1;rw[aF,hLl]at e2;have hne:∀ n,n<3->∀ k',sp=.tok k'->n ≠ k':=fun n hn k' hk'=>by
    rcases R with h | ⟨k2,h1,h2,_⟩
    ·rw[h]at hk';cases hk'
    ·rw[h1]at hk';cases hk';omega
   have:=g2.lt;have Q0:=e4 0 _ K0 (hne 0 (by omega)) (by omega)
   have Q1:=e4 1 _ K1 (hne 1 (by omega)) (by omega)
   have Q2:=e4 2 _ K2 (hne 2 (by omega)) (by omega)
   simp only[ya]at h202;subst hH;have lq:=Q2.lt;simp[↓G2.appE,h202,hAf,e1,Q2.eq,ze hlt (by omega)]
   exact⟨Q0.ne (by omega),Q1.ne (by omega),_,At.self lq,.inr ⟨_,rfl,by omega,e2.ne (by omega)⟩⟩
 ·have:i=p.capacity.length:=by omega
  subst this;have q1:(hp.set 1 (Obj.cells [D.imm yt.none (bP y1z p.cells),D.imm sp (bP ya (L p.capacity.length)),D.imm yt.none (bP y4p p.vars)]))[1]? = some (Obj.cells [D.imm yt.none (bP y1z p.cells),D.imm sp (bP ya (L p.capacity.length)),D.imm yt.none (bP y4p p.vars)]):=List.getElem?_set_self g1.lt;simp[hlt,g0.eq,g1.eq,g2.eq,↓q1]
end Dv
