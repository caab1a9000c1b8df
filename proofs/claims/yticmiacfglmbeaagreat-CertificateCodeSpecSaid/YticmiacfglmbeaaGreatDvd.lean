/- Texts that a proof of this claim uses, joined: Dv.Tail, Dv.SimM, Dv.DrawP, Dv.SimP, Dv.Sim4, Dv.Eq, Dv.Link, Dv.Runs, Dv.Clone, Dv.LinkM, Dv.LinkD, Dv.Defer, Dv.Defer2, Dv.Defer3, Dv.Defer4, Dv.Grow, Dv.Top, Dv.Top2, Dv.Top3, Dv.Lim, Dv.Lim2. -/
import Derived.Test.YticmiacfglmbeaaGreatDvb
import Derived.Test.YticmiacfglmbeaaGreatDva
import Derived.DeepKeys3
import Derived.KernelRfl
import Derived.Laws.Cover3
import Derived.Laws.Build
import Derived.RecoverIn
import Derived.Laws.World
import Derived.Carry
import Derived.ProofKit
set_option linter.all false
open Array renaming ext_getElem?->jj,getD_eq_getD_getElem?->aj,getElem?_eq_getElem->cH,getElem?_eq_some_iff->aK,getElem?_push->cm,getElem?_setIfInBounds->bA,getElem?_setIfInBounds_ne->bQ,mapM_eq_mapM_toList->ey,replicate->ct,replicate_succ->iN,size_push->ik,toList->bC,toList_append->cn
open Bool renaming and_eq_true->ai,false_eq_true->aE,not_eq_true'->br,or_eq_true->bz
open Classical renaming choose->f4,choose_spec->dF
open ForInStep renaming yield->im
open Function renaming comp->iU
open Go renaming Addr->dO,ArrivesIn->lh,Calls->iP,CallsDIn->iv,CallsIn->ez,ChangeSpec->iX,Deferred->cX,Fence->jK,Field->eh,Func->dD,IntKind->a6,LeavesInM->dp,LetsOut->o6,ResultVar->fM,TypeId->d9,binOp->b8,callsDIn_of_wpSIn->gt,callsIn_of_wp_marks->fV,callsIn_wide->j7,eqGuard->fq,execOp->aZ,getD_set_ne->fi,getD_set_true->dU,info_of_underlying->fj,invoke->bP,laidOutB->jE,lone->mD,mem_ready->bJ,part->gB,recoverD->dJ,resolve->cM,results->eB,run_makeInterface->fw,run_sizeOf->iV,run_underlying->cA,setObj->ge,settle->kB,undef->ay,wpAnyIn->eA,wpIn_block->kL,wpIn_cond_false->jk,wpIn_cond_true->jz,wpIn_exit->k7,wpIn_loop->kY,wpIn_region->eJ,wpIn_region_any->fc,wpIn_ret->lB,wpIn_seq->iu,wpIn_skip->jl,wpOpIn->bW,wpOpIn_mono->iF,wpOpsIn->cz,wpOpsIn_cons->bG,wpSIn_cond->kM,wpSIn_of_wpIn->f5,wpSIn_seq->ib,wp_opsIn->lD,yielded->dN
open Go.Addr renaming add->fU
open Go.CallsIn renaming mono->j4
open Go.Cell renaming ok->gW,okWide->fQ
open Go.ChangeShapes renaming trodAll_append->j8
open Go.Deferred renaming ofValue->a8
open Go.Fence renaming wide->cf
open Go.Instr renaming checkKey->cy,endLoop->jM,enterLoop->jm,makeInterface->d6,storeAt->fX,takeDeferred->gg
open Go.LoopState renaming busy->qk
open Go.Machine renaming fenced->jB
open Go.Op renaming eqFields->iI,eqItems->iW,equal->gI,equalIn->fx,maxDepth->gE
open Go.Oper renaming semAt_eq->cU,semAt_none->cW,uponIn->fO,uponIn_value->eF
open Go.Region renaming binds->bH,ready->bI,wanted->aO
open Go.Result renaming andThen_ok->aq,ok->k9
open Go.Result.ok renaming injEq->pU
open Go.RoundIn renaming mono->j5
open Go.RowsIn renaming mono->kr
open Go.Sem renaming run->dK,run_bind->au,run_pure->aM
open Go.Target renaming fn->jo
open Go.WideElems renaming Trod_stays->li
open Go.stepG renaming apply->kx
open List renaming all_cons->fy,all_eq_true->aw,any_eq_true->dW,append_nil->aS,cons_append->bi,drop_append->jO,drop_drop->ce,drop_eq_getElem_cons->cJ,drop_eq_nil_of_le->cu,drop_zero->eI,extract->k8,findIdx_getElem->iO,flatten_cons->jA,forIn_cons->j6,getD_eq_getElem?_getD->am,getElem?_append_left->az,getElem?_append_right->aF,getElem?_cons_succ->cp,getElem?_cons_zero->bB,getElem?_eq_getElem->ao,getElem?_eq_none->bL,getElem?_eq_some_iff->ac,getElem?_map->co,getElem?_of_mem->gu,getElem?_range->c9,getElem?_replicate->c5,getElem?_set_ne->aX,getElem?_set_self->ba,headD_cons->il,isEmpty_iff->eR,length->dZ,length_cons->bn,length_eq_zero_iff->bK,length_nil->fF,length_set->fa,mapM_cons->fg,map_cons->ax,map_map->lg,map_nil->aG,mem_append->aV,mem_append_left->cZ,mem_append_right->fh,mem_cons->aC,mem_cons_self->jn,mem_filterMap->fL,mem_of_getElem?->bf,mem_range->bV,mem_singleton->dA,nil_append->eg,nodup_cons->fd,pairwise_append->ca,pairwise_cons->cC,range->b6,range'->dH,range'_succ->fu,range_eq_range'->eC,replicate->ae,replicate_succ->gw,set_set->hU,take_append_drop->b7,take_append_of_le_length->cQ,take_of_length_le->dn
open List.cons renaming injEq->bF
open Nat renaming add_assoc->dt,add_comm->eQ,add_mul->be,add_sub_cancel_left->dR,div_add_mod'->jN,le_max_left->cg,le_max_right->bE,le_refl->ar,le_succ->eH,le_trans->aD,lt_of_lt_of_le->aH,lt_or_ge->cj,mod_lt->jX,ne_of_lt->gn,one_mul->lE,strongRecOn->c7,succ_mul->jd,zero_le->cx,zero_mul->fI
open Option renaming bind_eq_some_iff->aI,bind_some->bU,getD_some->bD,isNone_iff_eq_none->eD,map_eq_some_iff->ab,map_map->iG,map_some->af
open Option.some renaming inj->qM,injEq->aa
open PUnit renaming unit->fP
open Prod renaming fst->ia,snd->fN
open Prod.mk renaming injEq->ak
open Std.Legacy.Range renaming forIn_eq_forIn_range'->ja,size->mC
namespace Dv
open Go (Value Program World Act Oper Operand Code Exit)

section
variable {P:Program} {F:jK} {n:Nat} {Q Q':Exit->Act->World->Prop}

theorem zj0 {o:Oper} {a:Act} {w:World} {K K':Act->World->Prop} (h:∀ a w,K a w->K' a w) (hQ:∀ e a w,e ≠ .normal->Q' e a w->Q e a w) (hh:o.wpIn F n P a w K Q'):o.wpIn F n P a w K' Q:=by
 unfold Go.Oper.wpIn at *
 refine ⟨hh.1,?_⟩
 have hh:=hh.2
 have lo:o6 Q'->o6 Q:=fun ⟨a,w,h⟩=>⟨a,w,hQ _ _ _ (fun e=>by cases e) h⟩
 generalize (o.semAt F.round a.eval).run P w=r at *
 cases r with
 | ok x w'=>
  cases x <;> simp only [fO] at hh ⊢ <;>
   first
    | exact h _ _ hh
    | exact ⟨hh.1,j4 hh.2 (fun e w'' he=>by cases e <;> first | exact h _ _ he | exact hQ _ _ _ (fun e=>by cases e) he | exact lo he)⟩
    | exact ⟨hh.1,kr hh.2 (fun _ _ he=>h _ _ he)⟩
    | exact ⟨hh.1,j5 hh.2 (fun e w'' he=>by cases e <;> first | exact h _ _ he | exact hQ _ _ _ (fun e=>by cases e) he | exact lo he)⟩
 | halt x w'=>cases x <;> simp only [fO] at hh ⊢ <;> first | exact hh | exact hQ _ _ _ (fun e=>by cases e) hh

theorem zjp (L:Array Bool) (i:Nat) (h:i<L.size):((L.push false).push false).setIfInBounds i true=((L.setIfInBounds i true).push false).push false:=by
 apply jj
 intro j
 simp only [bA,cm,ik,Array.size_setIfInBounds]
 by_cases h1:i=j
 ·subst h1
  simp [show i ≠ L.size from by omega,show i ≠ L.size+1 from by omega,show i<L.size+1+1 from by omega,h]
 ·simp [h1]

theorem zgq (L:Array Bool):((L.push false).push false).setIfInBounds L.size true=(L.push true).push false:=by
 apply jj
 intro j
 simp only [bA,cm,ik]
 by_cases h1:L.size=j
 ·subst h1;simp;omega
 ·simp [h1,show ¬ j=L.size from fun e=>h1 e.symm]

theorem zgr (L:Array Bool):((L.push true).push false).getD (L.size+1) true=false:=by
 rw [aj,cm,ik,if_pos rfl];rfl

theorem zcf {ops:Array Oper} {L:Array Bool} (hsz:L.size=ops.size) (hback:∀ (i:Nat) o,ops[i]? = some o->∀ e,e ∈ o.after->bH .any e=true->e.on<i) (h:bI .any ops L=[]):∀ i,i<ops.size->L.getD i false=true:=by
 intro i
 induction i using c7 with
 | _ i ih=>
  intro hi
  cases hv:L.getD i false with
  | true=>rfl
  | false=>
   exfalso
   have:i ∈ bI .any ops L:=by
    refine bJ.2 ⟨?_,ops[i],by simp [hi],fun e he hb=>?_⟩
    ·have hi':i<L.size:=by omega
     simpa [aj,hi'] using hv
    ·have hlt:=hback i ops[i] (by simp [hi]) e he hb
     exact ih _ hlt (by omega)
   rw [h] at this;cases this

def tailQ (F:jK) (n:Nat) (P:Program) (ops:Array Oper) (k:Nat) (Q:Exit->Act->World->Prop):Exit->Act->World->Prop
 | .normal,a,w=>cz F n P ops Q [k,k+1] a w
 | e,a,w=>Q e a w

theorem zov {ops pre:Array Oper} {k:Nat} {o1 o2:Oper} (hk:pre.size=k) (hpre:∀ i,i<k->ops[i]? = pre[i]?) (h1:ops[k]? = some o1) (h2:ops[k+1]? = some o2) (hsz:ops.size=k+2) (hg:∀ (i:Nat) o,pre[i]? = some o->o.guard=none)
  (hback:∀ (i:Nat) o,ops[i]? = some o->∀ e,e ∈ o.after->bH .any e=true->e.on<i)
  {tab:Nat->Nat->Prop} (htab:∀ i m,tab i m->∃ o,ops[i]? = some o /\ ∃ e,e ∈ o.after/\bH .any e=true/\(e.on=m\/tab e.on m)) (hall:∀ m,m<k->tab k m) (hlast:∃ e,e ∈ o2.after/\bH .any e=true/\e.on=k) :
  ∀ (m:Nat) (L:Array Bool) (a:Act) (w:World),L.size=k->(∀ i,L.getD i false=true->∀ j,tab i j->L.getD j false=true) ->
   eA F n P .any pre (tailQ F n P ops k Q) m L a w->eA F n P .any ops Q (m+2) ((L.push false).push false) a w:=by
 have get:∀ (L:Array Bool) (i:Nat) (d:Bool),L.size=k->i<k->((L.push false).push false).getD i d=L.getD i d:=by
  intro L i d hL hi
  have e1:i<L.size:=by omega
  simp [aj,cm,e1,show i ≠ L.size from by omega,show i ≠ L.size+1 from by omega]
 have gk:∀ (L:Array Bool) (d:Bool),L.size=k->((L.push false).push false).getD k d=false:=by
  intro L d hL
  rw [<- hL];simp [aj,cm]
 have rdy:∀ (L:Array Bool) (i:Nat),L.size=k->i<k->(i ∈ bI .any ops ((L.push false).push false) ↔ i ∈ bI .any pre L):=by
  intro L i hL hi
  rw [bJ,bJ,get L i true hL hi,hpre i hi]
  constructor
  ·rintro ⟨q1,o,ho,q2⟩
   refine ⟨q1,o,ho,fun e he hb=>?_⟩
   have hlt:=hback i o (by rw [hpre i hi,ho]) e he hb
   rw [<- get L e.on false hL (by omega)]
   exact q2 e he hb
  ·rintro ⟨q1,o,ho,q2⟩
   refine ⟨q1,o,ho,fun e he hb=>?_⟩
   have hlt:=hback i o (by rw [hpre i hi,ho]) e he hb
   rw [get L e.on false hL (by omega)]
   exact q2 e he hb
 have notlast:∀ (L:Array Bool),L.size=k->k+1 ∉ bI .any ops ((L.push false).push false):=by
  intro L hL hc
  obtain ⟨_,o,ho,q⟩:=bJ.1 hc
  rw [h2] at ho;simp only [aa] at ho;subst ho
  obtain ⟨e,he,hb,hon⟩:=hlast
  have:=q e he hb
  rw [hon,gk L _ hL] at this
  cases this
 have bound:∀ (L:Array Bool) (i:Nat),i ∈ bI .any ops L->i<k+2:=by
  intro L i hi
  obtain ⟨_,o,ho,_⟩:=bJ.1 hi
  have:=(aK.1 ho).1
  omega
 have atk:∀ (L:Array Bool),L.size=k->(∀ i,L.getD i false=true->∀ j,tab i j->L.getD j false=true)->k ∈ bI .any ops ((L.push false).push false)->∀ i,i<k->L.getD i false=true:=by
  intro L hL hcl hr i hi
  obtain ⟨_,o,ho,q⟩:=bJ.1 hr
  obtain ⟨o',ho',e,he,hb,hon⟩:=htab k i (hall i hi)
  rw [ho'] at ho;simp only [aa] at ho;subst ho
  have hlt:=hback k o' ho' e he hb
  have hq:=q e he hb
  rw [get L e.on false hL hlt] at hq
  rcases hon with rfl | ht
  ·exact hq
  ·exact hcl _ hq _ ht
 -- all of the first part is done
 have done:∀ (m:Nat) (L:Array Bool) (a:Act) (w:World),L.size=k->(∀ i,i<k->L.getD i false=true)->cz F n P ops Q [k,k+1] a w->eA F n P .any ops Q (m+2) ((L.push false).push false) a w:=by
  intro m L a w hL hdone hops
  have hkr:k ∈ bI .any ops ((L.push false).push false):=by
   refine bJ.2 ⟨gk L _ hL,o1,h1,fun e he hb=>?_⟩
   have hlt:=hback k o1 h1 e he hb
   rw [get L e.on false hL hlt];exact hdone _ hlt
  refine ⟨fun hr=>(by rw [hr] at hkr;cases hkr),fun i hi=>?_⟩
  have hik:i=k:=by
   have:=bound _ i hi
   rcases cj i k with hlt | hge
   ·have q:=(bJ.1 hi).1
    rw [get L i true hL hlt] at q
    have:=hdone i hlt
    have hi':i<L.size:=by omega
    simp [aj,hi'] at q this
    rw [q] at this;cases this
   ·rcases cj k i with h3 | h3
    ·have:i=k+1:=by omega
     subst this
     exact absurd hi (notlast L hL)
    ·omega
  subst hik
  rw [bG] at hops
  refine iF (fun a w h=>?_) hops
  rw [bG] at h
  have hset:((L.push false).push false).setIfInBounds i true=(L.push true).push false:=by rw [<- hL];exact zgq L
  rw [hset]
  have g2:∀ (j:Nat) (d:Bool),j<=i->((L.push true).push false).getD j d=true:=by
   intro j d hj
   rcases cj j i with hlt | hge
   ·have q:=hdone j hlt
    have hi':j<L.size:=by omega
    simp [aj,cm,hi',show j ≠ L.size from by omega,show j ≠ L.size+1 from by omega] at q ⊢
    exact q
   ·have:j=i:=by omega
    subst this
    rw [<- hL];simp [aj,cm]
  have hlr:i+1 ∈ bI .any ops ((L.push true).push false):=by
   refine bJ.2 ⟨by have:=zgr L;rw [hL] at this;exact this,o2,h2,fun e he hb=>?_⟩
   have hlt:=hback (i+1) o2 h2 e he hb
   exact g2 _ _ (by omega)
  refine ⟨fun hr=>(by rw [hr] at hlr;cases hlr),fun j hj=>?_⟩
  have hjk:j=i+1:=by
   have:=bound _ j hj
   rcases cj i j with h3 | h3
   ·omega
   ·have q:=(bJ.1 hj).1
    rw [g2 j true h3] at q;cases q
  subst hjk
  refine iF (fun a w h=>?_) h
  have h:Q .normal a w:=h
  have hnone:bI .any ops (((L.push true).push false).setIfInBounds (i+1) true)=[]:=by
   cases hr:bI .any ops (((L.push true).push false).setIfInBounds (i+1) true) with
   | nil=>rfl
   | cons j l=>
    exfalso
    have hj:j ∈ bI .any ops (((L.push true).push false).setIfInBounds (i+1) true):=by rw [hr];simp
    have hb:=bound _ j hj
    have q:=(bJ.1 hj).1
    rcases cj i j with h3 | h3
    ·have:j=i+1:=by omega
     subst this
     rw [<- hL] at q
     simp [aj] at q
    ·have q2:=g2 j true h3
     simp only [aj,bA,show ¬ (i+1=j) from by omega,if_false] at q
     rw [aj,q] at q2
     cases q2
  cases m with
  | zero=>exact ⟨hnone,h⟩
  | succ m=>exact ⟨fun _=>h,fun j hj=>(by rw [hnone] at hj;cases hj)⟩
 intro m
 induction m with
 | zero=>
  intro L a w hL hcl h
  exact done 0 L a w hL (fun i hi=>zcf (by omega) (fun i o ho e he hb=>hback i o (by rw [hpre i (by have:=(aK.1 ho).1;omega),ho]) e he hb) h.1 i (by omega)) h.2
 | succ m ih=>
  intro L a w hL hcl h
  by_cases hr:bI .any pre L=[]
  ·exact done (m+1) L a w hL (fun i hi=>zcf (by omega) (fun i o ho e he hb=>hback i o (by rw [hpre i (by have:=(aK.1 ho).1;omega),ho]) e he hb) hr i (by omega)) (h.1 hr)
  ·obtain ⟨i0,hi0⟩:=List.exists_mem_of_ne_nil _ hr
   have lt0:∀ i,i ∈ bI .any pre L->i<k:=fun i hi=>by
    obtain ⟨_,o,ho,_⟩:=bJ.1 hi
    have:=(aK.1 ho).1
    omega
   refine ⟨fun hn=>?_,fun i hi=>?_⟩
   ·have:=(rdy L i0 hL (lt0 i0 hi0)).2 hi0
    rw [hn] at this;cases this
   ·have hik:i<k:=by
     rcases cj i k with hlt | hge
     ·exact hlt
     ·exfalso
      have:=bound _ i hi
      rcases cj k i with h3 | h3
      ·have:i=k+1:=by omega
       subst this
       exact notlast L hL hi
      ·have:i=k:=by omega
       subst this
       have q:=atk L hL hcl hi i0 (lt0 i0 hi0)
       have q2:=(bJ.1 hi0).1
       have hi':i0<L.size:=by have:=lt0 i0 hi0;omega
       simp [aj,hi'] at q q2
       rw [q] at q2;cases q2
    have hir:=(rdy L i hL hik).1 hi
    have hw:=h.2 i hir
    obtain ⟨_,o,ho,haft⟩:=bJ.1 hir
    unfold bW at hw ⊢
    rw [hpre i hik]
    simp only [ho] at hw ⊢
    have hwd:∀ y,aO o y=true:=fun y=>by unfold aO;rw [hg i o ho]
    simp only [hwd,if_true] at hw ⊢
    refine zj0 (fun a w h=>?_) (fun e a w hne h=>?_) hw
    ·have hset:=zjp L i (by omega)
     rw [hset]
     refine ih _ a w (by simpa using hL) (fun j hj m ht=>?_) h
     have getS:∀ x,(L.setIfInBounds i true).getD x false=(if i=x then true else L.getD x false):=fun x=>by
      simp only [aj,bA]
      split
      ·rename_i e;subst e;have:i<L.size:=by omega
       simp [this]
      ·rfl
     rw [getS] at hj ⊢
     split
     ·rfl
     ·split at hj
      ·rename_i e;subst e
       obtain ⟨o',ho',e,he,hb,hon⟩:=htab _ m ht
       rw [hpre _ hik,ho] at ho'
       simp only [aa] at ho';subst ho'
       have q:=haft e he hb
       rcases hon with rfl | ht2
       ·exact q
       ·exact hcl _ q _ ht2
      ·exact hcl _ hj _ ht
    ·cases e with
     | normal=>exact absurd rfl hne
     | _=>exact h

end
end Dv

namespace Dv
open Go (Value Program World Act Oper Operand Code Ending Exit)

def PanV (pt:Nat × Nat) (v:Value) (e:D):Prop:=
 (∃ n,v=.iface pt.1 (.int .i64 n)/\e=.int .i64 n)\/(∃ n,v=.iface pt.2 (.agg #[.int .i64 n])/\e=.agg [.int .i64 n])

section
variable (P:Program) (CL:CLink) (F:Phi) (pt:Nat × Nat)

def StatMR (B:Nat) (ρ : Rho) (H:HS) (os:List Obj) (w:World) (d:D) (os':List Obj):Ending->World->Prop
 | .returned v,w'=>isMark d=false/\os.length<=os'.length /\ ∃ ρ' H',PostT CL F B (fun i=>i<os.length) ρ H w ρ' H' w' os'/\Rep F ρ' H' w'.heap v d
 | .panicked c,w'=>isMark d=true/\(∃ e v,markE d=some e/\PanV pt v e/\c=[{ v:=v,recovered:=false }])/\os.length<=os'.length /\ ∃ ρ' H',PostT CL F B (fun i=>i<os.length) ρ H w ρ' H' w' os'
 | _,_=>False

def StatMAt (run:List D->List Obj->Option (D × List Obj)) (f:Nat):Prop:=
 ∀ (r:Option Nat) (B:Nat) (ρ : Rho) (H:HS) (os os':List Obj) (w:World) (vals:Array Value) (ds:List D) (d:D),run ds os=some (d,os')->SR CL F B ρ H w.heap os->RepL F ρ H w.heap vals.toList ds ->
  ez (Fw r) 0 P f vals w (StatMR CL F pt B ρ H os w d os')

end

section
variable {P:Program} {E:Env} {CL:CLink} {F:Phi} {T:Phi} {B M:Nat} {D0:List cX} {K:Nat->Prop} {ρ : Rho} {H:HS} {os:List Obj} {w:World} {a:Act} {sl:List D} {pt:Nat × Nat}

theorem StatMAt.stat {run:List D->List Obj->Option (D × List Obj)} {f:Nat} (h:StatMAt P CL F pt run f):StatAt P CL F (fun ds os=>noMark (run ds os)) f:=by
 intro r B ρ H os os' w vals ds d hr S hv
 obtain ⟨h1,h2⟩:=zm hr
 refine (h r B ρ H os os' w vals ds d h1 S hv).mono fun e w' he=>?_
 cases e with
 | returned v=>exact he.2
 | panicked c=>have:=he.1;simp only [h2] at this;cases this
 | outgrown=>exact he

theorem StatAt.filter {run:List D->List Obj->Option (D × List Obj)} {f:Nat} (h:StatAt P CL F run f):StatAt P CL F (fun ds os=>noMark (run ds os)) f:=
 fun r B ρ H os os' w vals ds d hr S hv=>h r B ρ H os os' w vals ds d (zm hr).1 S hv

theorem zkz {hp:List Obj} {d:D} {k:Bool} (h:isMark d=true):frzK k hp d=none:=by
 unfold isMark at h
 split at h
 ·cases k <;> simp [frzK,frz,frzX,frz1,frzL,depth]
 ·cases k <;> simp [frzK,frz,frzX,frz1,frzL,depth]
 ·cases h

theorem zks {hp:List Obj} {n:Nat} {d:D} (h:frz hp n d=some .undef):False:=by
 cases n with
 | zero=>simp [frz] at h
 | succ n=>
  simp only [frz] at h
  split at h
  all_goals first
   | (simp at h;done)
   | (simp only [ab] at h;obtain ⟨_,_,h⟩:=h;cases h;done)
   | skip
  all_goals
   split at h
   ·first
    | (simp only [ab] at h;obtain ⟨_,_,h⟩:=h;cases h;done)
    | (
     split at h
     ·simp only [ab] at h;obtain ⟨_,_,h⟩:=h;cases h
     ·simp at h)
   ·simp at h
theorem zcx {hp:List Obj} {n:Nat} {l r:List D} (h:frzL (frz hp n) l=some (.undef::r)):False:=by
 cases l with
 | nil=>simp [frzL] at h
 | cons d l=>
  simp only [frzL] at h
  split at h
  ·rename_i d' r' h1 h2
   simp only [aa,bF] at h
   rw [h.1] at h1
   exact zks h1
  ·simp at h
theorem zb4 {hp:List Obj} {n:Nat} {d0 d1:D} (h:frz hp n d0=some d1):isMark d1=false:=by
 cases hm:isMark d1 with
 | false=>rfl
 | true=>
  exfalso
  cases n with
  | zero=>simp [frz] at h
  | succ n=>
   unfold isMark at hm
   split at hm
   ·rename_i r
    cases d0 <;> simp [frz] at h
    all_goals first
     | (exact zcx h)
     | (split at h <;> simp at h;done)
     | (split at h <;> first | (simp at h;done) | (split at h <;> simp at h))
     | (rename_i q;cases q <;> simp at h;done)
   ·rename_i r
    cases d0 <;> simp [frz] at h
    all_goals first
     | (exact zcx h)
     | (split at h <;> simp at h;done)
     | (split at h <;> first | (simp at h;done) | (split at h <;> simp at h))
     | (rename_i q;cases q <;> simp at h;done)
   ·cases hm

theorem PureAt.of_filter {run:List D->List Obj->Option (D × List Obj)} {f:Nat} (k:Bool) (h:StatAt P CL F (fun ds os=>noMark (run ds os)) f):PureAt P F (fun ds=>match run ds [] with
  | some (d,hp)=>frzK k hp d
  | none=>none) f:=by
 have h1:=PureAt.of_stat k h
 intro r H w vals ds d hc hb hr
 refine h1 r H w vals ds d ?_ hb hr
 simp only at hc
 cases hx:run ds [] with
 | none=>rw [hx] at hc;cases hc
 | some x=>
  obtain ⟨d0,hp⟩:=x
  rw [hx] at hc
  simp only at hc
  have hm:isMark d0=false:=by
   cases hm:isMark d0 with
   | false=>rfl
   | true=>rw [zkz hm] at hc;cases hc
  simp only [hx,zq hm]
  exact hc

def exB:DC->Bool
 | .exit id=>decide (id<panX)
 | .seq a b=>exB a && exB b
 | .cond _ a b=>exB a && exB b
 | .ifp _ a b=>exB a && exB b
 | .block _ a=>exB a
 | .loop a=>exB a
 | .rfunc _ _ _ _=>false
 | _=>true

theorem zsq:∀ {n:Nat} {c:DC} {st st':St} {i:Nat},exB c=true->dC E n c st=some (.exit i,st')->i<panX:=by
 intro n
 induction n with
 | zero=>intro c st st' i _ h;simp [dC] at h
 | succ n ih=>
  intro c st st' i hb h
  cases c with
  | skip=>simp [dC] at h
  | ret=>simp [dC] at h
  | exit id=>simp [dC] at h;rw [<- h.1];simpa [exB] using hb
  | seq x y=>
   simp only [exB,ai] at hb
   simp only [dC] at h
   split at h
   ·exact ih hb.2 h
   ·exact ih hb.1 h
  | cond c x y=>
   simp only [exB,ai] at hb
   simp only [dC] at h
   split at h
   ·exact ih hb.1 h
   ·exact ih hb.2 h
   ·simp at h
  | ifp c x y=>
   simp only [exB,ai] at hb
   simp only [dC] at h
   split at h
   ·exact ih hb.1 h
   ·exact ih hb.2 h
  | block id x=>
   simp only [exB] at hb
   simp only [dC] at h
   split at h
   ·rename_i id' st1 h1
    simp only [aa,ak] at h
    split at h
    ·cases h.1
    ·have:=ih hb h1
     have e:=h.1
     cases e;exact this
   ·exact ih hb h
  | loop x=>
   have hb2:exB x=true:=hb
   simp only [dC] at h
   split at h
   ·exact ih hb h
   ·exact ih hb2 h
  | region dr ap ops=>
   simp only [dC,ab,ak] at h
   obtain ⟨s1,h1,h2,_⟩:=h
   cases h2
  | probe ap ops ks k=>
   simp only [dC] at h
   split at h
   ·unfold probeR at h
    split at h
    ·split at h
     ·simp at h
     ·cases h
    ·split at h
     ·cases h
     ·simp at h
   ·simp at h
  | rfunc f ps asg body=>simp [exB] at hb

structure SiteO (F:Phi) (N:Nat) (o:Oper) (k md:Nat) (f':Opd) (as:List Opd):Prop where
 op:∃ f args at_,o.op=.call { callee:=.value f,args,argTypes:=at_ }/\stripOpd F f=some f'/\stripL F (bC args)=some as
 dst:o.dst=some k
 gd:o.guard=none
 md:md=5\/md=6
 lt:k<N

structure TailOk (ops:Array Oper) (k:Nat) (o2:Oper):Prop where
 back:∀ (i:Nat) o,ops[i]? = some o->∀ e,e ∈ o.after->bH .any e=true->e.on<i
 tab:∃ tab:Nat->Nat->Prop,(∀ i m,tab i m->∃ o,ops[i]? = some o /\ ∃ e,e ∈ o.after/\bH .any e=true/\(e.on=m\/tab e.on m)) /\ ∀ m,m<k->tab k m
 last:∃ e,e ∈ o2.after/\bH .any e=true/\e.on=k

def drawnD (onp:Nat->DC) (ap:List (Nat × Nat)) (pre':List DOpr) (k1 md1:Nat) (f1:Opd) (as1:List Opd) (k2 md2:Nat) (f2:Opd) (as2:List Opd):DC:=
 .seq (.region true ap pre') (.seq (.region false [] [⟨some k1,.call md1 f1 as1,none⟩]) (.ifp (.t k1) (onp k1) (.seq (.region false [] [⟨some k2,.call md2 f2 as2,none⟩]) (.ifp (.t k2) (onp k2) .skip))))

def quietB:DOp->Bool
 | .call _ _ _=>false
 | .load _ _=>true
 | .lookup _ _ _ _=>true
 | .len _ _=>true
 | op=>hfree op
structure TryM (F:Phi) (o:Oper) (d:DOpr) (kk md:Nat) (f':Opd) (as:List Opd):Prop where
 op:∃ f args at_,o.op=.call { callee:=.value f,args,argTypes:=at_ }/\stripOpd F f=some f'/\stripL F (bC args)=some as
 dst:o.dst=some kk
 gd:o.guard=none
 is:d=⟨some kk,.call md f' as,none⟩
structure ProbeOk (T F:Phi) (ops:Array Oper) (ds:List DOpr) (ap:List (Nat × Nat)) (ks Ms:List Nat) (N:Nat):Prop where
 len:ops.size=ds.length
 draw:∃ tab:Nat->Nat->Prop,(∀ i m,tab i m->∃ o,ops[i]? = some o /\ ∃ e,e ∈ o.after/\bH .any e=true/\(e.on=m\/tab e.on m)) /\
  (∀ (j i:Nat) oj oi,j<i->ds[j]? = some oj->ds[i]? = some oi->tab i j\/(slotsOk oj oi/\heapOk (ap.contains (j,i)) oj.op oi.op=true)) /\
  ∀ (i:Nat) o d,ops[i]? = some o->ds[i]? = some d->(d=noopD /\ ∀ m,m ∈ Ms->tab i m)\/(i ∉ Ms/\OprL T F ops.toList o d/\quietB d.op=true)\/(i ∈ Ms /\ ∃ kk md f' as,TryM F o d kk md f' as/\(md=0\/(md=4/\as ≠ []/\Ms=[i]))/\kk<N)
 back:∀ (i:Nat) o,ops[i]? = some o->∀ e,e ∈ o.after->bH .any e=true->e.on<i
 aps:∀ (j i:Nat),(j,i) ∈ ap->∀ oj oi,ds[j]? = some oj->ds[i]? = some oi ->
  (∀ x,x ∈ touch oj.op->∀ (k:Nat) ok n,j<=k->ds[k]? = some ok->ok.dst=some n->x ≠ .t n)/\(∀ y,y ∈ touch oi.op->∀ (k:Nat) ok n,i<=k->ds[k]? = some ok->ok.dst=some n->y ≠ .t n)
 consts:∀ (i:Nat) oi,ds[i]? = some oi->∀ x,x ∈ touch oi.op->∀ d,x=.c d->did d=none
 uniq:∀ m,m ∈ Ms->∀ (i:Nat) dm d n,ds[m]? = some dm->ds[i]? = some d->i ≠ m->dm.dst=some n->d.dst ≠ some n
 ksD:∀ j,j ∈ ks->∃ m dm,m ∈ Ms/\ds[m]? = some dm/\dm.dst=some j
 ksM:∀ m dm j,m ∈ Ms->ds[m]? = some dm->dm.dst=some j->j ∈ ks

inductive CLp (P:Program) (pt:Nat × Nat) (T F:Phi) (onp:Nat->DC) (S:List Nat) (N:Nat):Code->DC->Prop
 | base {c dc} (h:CLk T F false c dc) (hx:exB dc=true):CLp P pt T F onp S N c dc
 | seq {x y x' y'} (h1:CLp P pt T F onp S N x x') (h2:CLp P pt T F onp S N y y'):CLp P pt T F onp S N (.seq x y) (.seq x' y')
 | cond {c x y c' x' y'} (h:stripOpd F c=some c') (h1:CLp P pt T F onp S N x x') (h2:CLp P pt T F onp S N y y'):CLp P pt T F onp S N (.cond c x y) (.cond c' x' y')
 | block {id x x'} (hid:id<panX) (h1:CLp P pt T F onp S N x x'):CLp P pt T F onp S N (.block id x) (.block id x')
 | loop {x x'} (h1:CLp P pt T F onp S N x x'):CLp P pt T F onp S N (.loop x) (.loop x')
 | site {id ops pre o post k f f' args as at_ md gd pre' post'} (hops:bC ops=pre++o::post) (h1:OpsL T F (bC ops) pre pre')
   (ho:o.op=.call { callee:=.value f,args,argTypes:=at_ }) (hf:stripOpd F f=some f') (ha:stripL F (bC args)=some as) (hd:o.dst=some k) (hg:stripGd (bC ops) o.guard=some gd) (hmd:md=5\/md=6) (hkN:k<N)
   (h2:OpsL T F (bC ops) post post'):CLp P pt T F onp S N (.region id ops false) (.seq (.region false [] (pre'++[⟨some k,.call md f' as,gd⟩])) (.ifp (.t k) (onp k) (.region false [] post')))
 | drawn {id ops pre o1 o2 pre' ap k1 md1 f1 as1 k2 md2 f2 as2} (hmix:P.follows .mixedOrders=true) (hops:bC ops=pre++[o1,o2]) (h1:OpsL T F pre pre pre') (hdk:DrawOk (List.toArray pre) pre' ap) (hgp:∀ o,o ∈ pre->o.guard=none)
   (s1:SiteO F N o1 k1 md1 f1 as1) (s2:SiteO F N o2 k2 md2 f2 as2) (ht:TailOk ops pre.length o2):CLp P pt T F onp S N (.region id ops true) (drawnD onp ap pre' k1 md1 f1 as1 k2 md2 f2 as2)
 | tried {id ops ds ap apQ dsQ ks Ms k} (hmix:P.follows .mixedOrders=true) (h1:OpsL T F (bC ops) (bC ops) ds) (hdk:DrawOk ops ds ap) (hp:ProbeOk T F ops dsQ apQ ks Ms N) (hS:∀ (i:Nat) d n,dsQ[i]? = some d->d.dst=some n->n ∉ S) (hk:k<N) :
   CLp P pt T F onp S N (.region id ops true) (.seq (.probe apQ dsQ ks k) (.ifp (.t k) (onp k) (.region true ap ds)))
 | pan {id ops pre o1 o2 t x x' i b pre'} (hops:bC ops=pre++[o1,o2]) (h1:OpsL T F (bC ops) pre pre') (ho1:o1.op=.makeInterface t x) (hd1:o1.dst=some i) (hg1:o1.guard=none)
   (ho2:o2.op=.panic (.tmp i)) (hg2:o2.guard=none) (hx:stripOpd F x=some x') (hmk:∀ (v:Value) (w:World),(d6 t v).run P w=.ok (.iface t v) w) (ht:t=if b then pt.2 else pt.1) (hi:i<N) :
   CLp P pt T F onp S N (.region id ops false) (.seq (.region false [] (pre'++[⟨some i,.mark b x',none⟩])) (onp i))

def PanOk (E:Env) (CL:CLink) (F:Phi) (pt:Nat × Nat) (onp:Nat->DC) (S:List Nat) (B M:Nat) (D0:List cX) (ρ : Rho) (H:HS) (w0:World) (len:Nat) (ex:Ex) (st':St) (v:Value) (a':Act) (w':World):Prop:=
 ∃ j k sl0 mk hp e,dC E j (onp k) ⟨sl0.set k mk,hp⟩=some (ex,st')/\k<sl0.length/\isMark mk=true/\markE mk=some e/\PanV pt v e /\ ∃ a0,Ok CL F B M D0 ρ H w0 len ⟨sl0,hp⟩ a0 w'/\a'.defers=a0.defers /\ ∀ t,t ∈ S->t ≠ k->a'.tmps.getD t ay=a0.tmps.getD t ay

theorem Ok.after' {ρ':Rho} {H':HS} {len:Nat} {w0 w1:World} {os':List Obj} {st:St} (p:PostT CL F B (fun i=>i<len) ρ H w0 ρ' H' w1 os') (hlen:len<=os'.length) (h:Ok CL F B M D0 ρ' H' w1 os'.length st a w):Ok CL F B M D0 ρ H w0 len st a w:=by
 obtain ⟨ρ2,H2,l,p2,h1,h2,h3,h4⟩:=h
 exact ⟨ρ2,H2,l,p.trans (p2.weaken fun i hi=>aH hi hlen),h1,aD hlen h2,h3,h4⟩

theorem PanOk.after {onp:Nat->DC} {Sl:List Nat} {ρ':Rho} {H':HS} {len:Nat} {w0 w1:World} {os':List Obj} {ex:Ex} {st:St} {v:Value} (p:PostT CL F B (fun i=>i<len) ρ H w0 ρ' H' w1 os') (hlen:len<=os'.length) (h:PanOk E CL F pt onp Sl B M D0 ρ' H' w1 os'.length ex st v a w):PanOk E CL F pt onp Sl B M D0 ρ H w0 len ex st v a w:=by
 obtain ⟨j,k,sl0,mk,hp,e,h1,h2,h3,h4,h5,a0,h6,h7⟩:=h
 exact ⟨j,k,sl0,mk,hp,e,h1,h2,h3,h4,h5,a0,h6.after' p hlen,h7⟩

theorem z36 (TA:TAll P E T) (FO:FnsOk P F) {callP:Nat->List D->Option D} {callS callY:Nat->List D->List Obj->Option (D × List Obj)}
  (hP:∀ f f',F f=some f'->PureAt P F (callP f') f) (hS:∀ f f',F f=some f'->StatAt P CL F (fun ds os=>noMark (callS f' ds os)) f) (hY:YieldAt P CL F callY)
  {r:Option Nat} {ops:Array Oper} {Q:Exit->Act->World->Prop} {rest:List Oper} {is:List Nat}:∀ (l:List Oper) (ds:List DOpr) (k:Nat) {ρ : Rho} {H:HS} {w:World} {a:Act} {st st':St},
   ops.toList.drop k=l++rest->OpsL T F ops.toList l ds->stepOps E callP callS callY ds st=some st'->SR CL F B ρ H w.heap st.hp->RepL F ρ H w.heap a.tmps.toList st.sl ->
   (∀ a' w' ρ' H',PostT CL F B (fun i=>i<st.hp.length) ρ H w ρ' H' w' st'.hp->RepL F ρ' H' w'.heap a'.tmps.toList st'.sl->st.hp.length<=st'.hp.length->a'.defers=a.defers->cz (Fw r) 0 P ops Q is a' w') ->
   cz (Fw r) 0 P ops Q (dH k l.length++is) a w
 | [],[],k,ρ,H,w,a,st,st',hl,hL,h,S,hs,hn=>by
  simp only [stepOps,aa] at h;subst h
  exact hn a w ρ H (PostT.refl S) hs (ar _) rfl
 | [],_::_,k,ρ,H,w,a,st,st',hl,hL,h,S,hs,hn=>hL.elim
 | _::_,[],k,ρ,H,w,a,st,st',hl,hL,h,S,hs,hn=>hL.elim
 | o::l,dop::ds,k,ρ,H,w,a,st,st',hl,hL,h,S,hs,hn=>by
  obtain ⟨h1,h2⟩:=hL
  have hk:ops.toList[k]? = some o:=by
   have:=congrArg (fun l:List Oper=>l[0]?) hl
   simpa using this
  have ho:ops[k]? = some o:=by simpa using hk
  have hrest:ops.toList.drop (k+1)=l++rest:=by
   have:=congrArg (fun l:List Oper=>l.drop 1) hl
   simpa [ce,eQ] using this
  rw [ze] at h
  simp only [aI] at h
  obtain ⟨st1,h3,h4⟩:=h
  rw [bn,fu,bi,bG]
  refine z5e TA FO hP hS hY ho h1 h3 S S.free (fun i hi=>⟨hi,gn hi⟩) hs (K:=fun i=>i<st.hp.length) (fun a' w' ρ' H' p hs' hlen hdf=>?_)
  refine z36 TA FO hP hS hY l ds (k+1) hrest h2 h4 p.sr hs' (fun a2 w2 ρ2 H2 p2 hs2 hlen2 hdf2=>?_)
  exact hn a2 w2 ρ2 H2 (p.trans (p2.weaken fun i hi=>aH hi hlen)) hs2 (aD hlen hlen2) (hdf2.trans hdf)

theorem z46 {callP:Nat->List D->Option D} {callS callY:Nat->List D->List Obj->Option (D × List Obj)}:∀ {l r:List DOpr} {st st':St},stepOps E callP callS callY (l++r) st=some st'->∃ s,stepOps E callP callS callY l st=some s/\stepOps E callP callS callY r s=some st'
 | [],r,st,st',h=>⟨st,rfl,h⟩
 | o::l,r,st,st',h=>by
  rw [bi,ze] at h
  simp only [aI] at h
  obtain ⟨s1,h1,h2⟩:=h
  obtain ⟨s,h3,h4⟩:=z46 h2
  exact ⟨s,by rw [ze,h1];exact h3,h4⟩

theorem z5j (FO:FnsOk P F) {callP:Nat->List D->Option D} {callS callY:Nat->List D->List Obj->Option (D × List Obj)}
  (hM:∀ f f',F f=some f'->E.mp f'=true->StatMAt P CL F pt (callS f') f)
  {r:Option Nat} {o:Oper} {id:Nat} {d:D} {os':List Obj} {next:Act->World->Prop} {Q:Exit->Act->World->Prop} {f:Operand} {args:Array Operand} {at_:Array d9} {md:Nat} {f':Opd} {as:List Opd}
  (ho:o.op=.call { callee:=.value f,args,argTypes:=at_ }) (h1:stripOpd F f=some f') (h2:stripL F args.toList=some as) (hmd:md=5\/md=6)
  (S:SR CL F B ρ H w.heap os) (hs:RepL F ρ H w.heap a.tmps.toList sl)
  (h:stepOp E callP callS callY id (getO sl) os (.call md f' as)=some (d,os'))
  (hn:∀ v w' ρ' H',isMark d=false->PostT CL F B (fun i=>i<os.length) ρ H w ρ' H' w' os'->Rep F ρ' H' w'.heap v d->os.length<=os'.length->next (a.put o.dst v) w')
  (hq:∀ e v w' ρ' H',isMark d=true->markE d=some e->PanV pt v e->PostT CL F B (fun i=>i<os.length) ρ H w ρ' H' w' os'->os.length<=os'.length->Q (.panic [{ v:=v,recovered:=false }]) a w'):o.wpIn (Fw r) 0 P a w next Q:=by
 refine ⟨fun f _=>trivial,?_⟩
 rw [cU _ _ _ (by rw [ho];intro c e;cases e)]
 have ef:=z5 S.hb hs h1
 have ea:=z3o S.hb hs h2
 have hargs:args.map a.eval=(args.toList.map a.eval).toArray:=by cases args;simp
 have exec:(aZ a.eval o).run P w=((a8 (a.eval f) (args.map a.eval)).run P w).andThen fun d w'=>(bP d.target d.args).run P w':=by
  unfold aZ
  rw [ho]
  simp only [cM,au]
 rw [exec]
 have enter:∀ {k:Nat} {caps:List D},getO sl f'=.fn k caps->∃ g vals,F g=some k/\(((a8 (a.eval f) (args.map a.eval)).run P w).andThen fun d w'=>(bP d.target d.args).run P w')=.ok (.enter g vals) w /\
   RepL F ρ H w.heap vals.toList (as.map (getO sl)++caps):=by
  intro k caps hg
  rw [hg] at ef
  generalize a.eval f=vf at ef
  cases ef with
  | fn g g' cvs caps hF hcs hcr=>
   refine ⟨g,args.map a.eval++cvs,hF,?_,?_⟩
   ·simp [a8,bP,z3r FO hF]
   ·rw [cn,hargs]
    exact ea.append ⟨by simpa using hcs,fun j v d hv hd=>hcr j v d (by simpa using hv) hd⟩
 rcases hmd with rfl | rfl
 ·simp only [stepOp,DOp.fin,finOp] at h
  split at h
  ·rename_i k caps hg
   split at h
   ·rename_i hmp
    split at h
    ·rename_i vs hv
     obtain ⟨g,vals,hF,hrun,hrep⟩:=enter hg
     rw [hrun]
     have hrep2:RepL F ρ0 H w.heap vals.toList vs:=z38 (os:=[]) (fun id b c cs _ h=>by simp [rowOf] at h) (fun _ _ h=>h) hrep hv (fun id _ cs b c h=>by simp [rowOf] at h)
     cases hc:callS k vs [] with
     | none=>rw [hc] at h;simp [markR] at h
     | some x=>
      obtain ⟨d0,hp0⟩:=x
      rw [hc] at h
      simp only [markR,ab,ak] at h
      obtain ⟨d1,h3,rfl,rfl⟩:=h
      by_cases hm:isMark d0=true
      ·rw [if_pos hm] at h3
       simp only [aa] at h3;subst h3
       refine ⟨by simp [Fw,cf],(hM g k hF hmp r w.heap.size ρ0 H [] hp0 w vals vs d0 hc (SR.start S.hb) hrep2).mono fun e w' he=>?_⟩
       cases e with
       | returned v=>have:=he.1;rw [hm] at this;cases this
       | panicked c=>
        obtain ⟨_,⟨e,v,h4,h5,rfl⟩,_,ρ',H',p⟩:=he
        refine hq e v w' ρ H hm h4 h5 ?_ (ar _)
        have g2:Grew H H w.heap w'.heap:=⟨p.size,fun b hb=>p.frB b hb,fun _ _ h=>h,fun _ _ h=>.inl h⟩
        exact g2.postT S p.fz p.still
       | outgrown=>exact he.elim
      ·rw [if_neg hm] at h3
       have hmd:isMark d1=false:=zb4 h3
       have hp1:=PureAt.of_filter false (hM g k hF hmp).stat
       refine ⟨by simp [Fw,cf],(hp1 r H w vals vs d1 (by simp only [hc];exact h3) S.hb hrep2).mono fun e w' he=>?_⟩
       cases e with
       | returned v=>
        obtain ⟨H',g',⟨hf',hst'⟩,hv'⟩:=he
        exact hn v w' ρ H' hmd (g'.postT S hf' hst') (hv'.up ρ) (ar _)
       | panicked c=>exact he.elim
       | outgrown=>exact he.elim
    ·simp at h
   ·simp at h
  ·simp at h
 ·simp only [stepOp,DOp.fin,finOp] at h
  split at h
  ·rename_i k caps hg
   split at h
   ·rename_i hmp
    obtain ⟨g,vals,hF,hrun,hrep⟩:=enter hg
    rw [hrun]
    refine ⟨by simp [Fw,cf],(hM g k hF hmp r B ρ H os os' w vals _ d h S hrep).mono fun e w' he=>?_⟩
    cases e with
    | returned v=>
     obtain ⟨hm,hlen,ρ',H',p,hv⟩:=he
     exact hn v w' ρ' H' hm p hv hlen
    | panicked c=>
     obtain ⟨hm,⟨e,v,h4,h5,rfl⟩,hlen,ρ',H',p⟩:=he
     exact hq e v w' ρ' H' hm h4 h5 p hlen
    | outgrown=>exact he.elim
   ·simp at h
  ·simp at h

end
end Dv

namespace Dv
open Go (Value Program World Act Oper Operand Code Ending Exit Region.binds Region.ready)

section
variable {P:Program} {E:Env} {CL:CLink} {F:Phi} {T:Phi} {B:Nat} {K:Nat->Prop} {ρ : Rho} {H:HS} {os:List Obj} {w:World} {a:Act} {sl:List D} {pt:Nat × Nat}
variable {callP callP':Nat->List D->Option D} {callS callS' callY callY':Nat->List D->List Obj->Option (D × List Obj)}

theorem zgo {id:Nat} {g:Opd->D} {hp:List Obj} {op:DOp} (h:quietB op=true):stepOp E callP callS callY id g hp op=stepOp E callP' callS' callY' id g hp op:=by
 cases op with
 | call md f as=>simp [quietB] at h
 | _=>first | rfl | (simp [quietB,hfree] at h;done)

theorem zmw {id:Nat} {g:Opd->D} {hp hp':List Obj} {op:DOp} {d:D} (h:quietB op=true) (hs:stepOp E callP callS callY id g hp op=some (d,hp')):hp'=hp:=by
 by_cases hf:hfree op=true
 ·unfold stepOp at hs
  rw [z44 hf] at hs
  simp only [ab,ak] at hs
  obtain ⟨e,h1,_,h3⟩:=hs
  obtain ⟨n1,n2⟩:=z43 hf h1
  rw [<- h3];simp [applyEf,n1,n2]
 ·cases op with
  | call md f as=>simp [quietB] at h
  | load t a=>simp only [stepOp,DOp.fin,pureOp,iG,ab,iU,applyEf] at hs;obtain ⟨_,_,e⟩:=hs;exact (congrArg fN e).symm
  | lookup t m k ok=>simp only [stepOp,DOp.fin,pureOp,iG,ab,iU,applyEf] at hs;obtain ⟨_,_,e⟩:=hs;exact (congrArg fN e).symm
  | len t x=>simp only [stepOp,DOp.fin,pureOp,iG,ab,iU,applyEf] at hs;obtain ⟨_,_,e⟩:=hs;exact (congrArg fN e).symm
  | _=>exact absurd (by simpa [quietB] using h) hf

theorem zkv {hp:List Obj} {n:Nat} {d:D} (h:frz hp n d=some .nilfn):d=.nilfn:=by
 cases n with
 | zero=>simp [frz] at h
 | succ n=>
  cases d <;> simp [frz] at h
  all_goals first
   | rfl
   | (split at h <;> first | (simp at h;done) | (split at h <;> simp at h;done))
   | (rename_i q;cases q <;> simp [frz] at h;done)
theorem zb6 {hp:List Obj} {n:Nat}:∀ {l r:List D},frzL (frz hp n) l=some r->l.length=r.length
 | [],r,h=>by simp [frzL] at h;subst h;rfl
 | d::l,r,h=>by
  simp only [frzL] at h
  split at h
  ·rename_i d' r' h1 h2
   simp only [aa] at h
   subst h
   simp [zb6 h2]
  ·simp at h
theorem zhc {r:Option Nat} {f k q:Nat} {e x:D} {d1:D} {o1:Obj} {rest:List D} {vr:Value} {vrest:List Value} {vals:Array Value}
  (hM:E.mp k=true->StatMAt P CL F pt (callS k) f) (S:SR CL F B ρ H w.heap os) (hx:Rep F ρ H w.heap vr x) (hrest:RepL F ρ H w.heap vrest rest) (hvals:vals.toList=vr::vrest)
  (h:islD (disM E callS) k x rest os=some (d1,q,o1)) (hd:disE d1=some e) :
  ez (Fw r) 0 P f vals w (fun en w'=>∃ v,en=.panicked [{ v:=v,recovered:=false }]/\PanV pt v e /\ ∃ H',PostT CL F B K ρ H w ρ H' w' (os.set q o1)):=by
 obtain ⟨b,ρ1,vs,cs1,d,hp2,hrun,S1,hargs,⟨n,hz⟩,key⟩:=za3 (K:=K) S hx hrest hvals h
 obtain ⟨hrun,_⟩:=zm hrun
 unfold disM at hrun
 cases hc:callS k (.loc 0 0::vs) [.cells cs1] with
 | none=>rw [hc] at hrun;simp at hrun
 | some z=>
 obtain ⟨d0,hp0⟩:=z
 rw [hc] at hrun
 simp only at hrun
 have d1e:d1=.tup [.nilfn,e]:=by
  unfold disE at hd
  split at hd
  ·simp only [aa] at hd;rw [hd]
  ·cases hd
 by_cases hm:isMark d0=true
 ·rw [if_pos hm] at hrun
  split at hrun
  case isFalse=>simp at hrun
  rename_i hmp
  simp only [ab,ak] at hrun
  obtain ⟨e0,he0,hd0,rfl⟩:=hrun
  refine (hM hmp r b ρ1 H [.cells cs1] hp0 w vals _ d0 hc S1 hargs).mono fun en w' he=>?_
  cases en with
  | returned v=>have:=he.1;rw [hm] at this;cases this
  | outgrown=>exact he.elim
  | panicked c=>
   obtain ⟨_,⟨e1,v,h4,h5,rfl⟩,_,ρ2,H2,p⟩:=he
   obtain ⟨H3,p3,_⟩:=key w' ρ2 H2 p
   refine ⟨v,rfl,?_,H3,p3⟩
   rw [he0] at h4
   simp only [aa] at h4
   subst h4
   -- what is handed over is what the mark says
   rw [<- hd0,d1e] at hz
   rcases h5 with ⟨i,rfl,rfl⟩ | ⟨i,rfl,rfl⟩
   ·cases n with
    | zero=>simp [frz] at hz
    | succ n=>
     cases n with
     | zero=>simp [frz,frzL] at hz
     | succ n=>simp [frz,frzL] at hz;exact .inl ⟨i,rfl,hz.symm⟩
   ·cases n with
    | zero=>simp [frz] at hz
    | succ n=>
     cases n with
     | zero=>simp [frz,frzL] at hz
     | succ n=>
      cases n with
      | zero=>simp [frz,frzL] at hz
      | succ n=>simp [frz,frzL] at hz;exact .inr ⟨i,rfl,hz.symm⟩
 ·rw [if_neg hm] at hrun
  exfalso
  split at hrun
  ·simp at hrun
  ·rename_i hn
   simp only [aa,ak] at hrun
   obtain ⟨rfl,rfl⟩:=hrun
   rw [d1e] at hz
   apply hn
   cases n with
   | zero=>simp [frz] at hz
   | succ n=>
    cases d0 with
    | map m=>cases m <;> simp [frz] at hz
    | tup l=>
     simp [frz] at hz
     match l,hz with
     | [],hz=>simp [frzL] at hz
     | [_],hz=>exact absurd (zb6 hz) (by simp)
     | x0::x1::x2::l,hz=>exact absurd (zb6 hz) (by simp)
     | [x0,x1],hz=>
      have e0:x0=.nilfn:=by
       simp only [frzL] at hz
       split at hz
       ·rename_i y0 r0 h0 h1
        simp only [aa,bF] at hz
        rw [hz.1] at h0
        exact zkv h0
       ·simp at hz
      subst e0
      rfl
    | _=>simp [frz] at hz <;> first | done | (split at hz <;> first | (simp at hz;done) | (split at hz <;> simp at hz;done))


theorem zid (FO:FnsOk P F) (hM:∀ f f',F f=some f'->E.mp f'=true->StatMAt P CL F pt (callS f') f)
  {r:Option Nat} {o:Oper} {id:Nat} {d e:D} {os':List Obj} {next:Act->World->Prop} {Q:Exit->Act->World->Prop} {f:Operand} {args:Array Operand} {at_:Array d9} {f' x:Opd} {as:List Opd}
  (ho:o.op=.call { callee:=.value f,args,argTypes:=at_ }) (h1:stripOpd F f=some f') (h2:stripL F args.toList=some (x::as))
  (S:SR CL F B ρ H w.heap os) (hs:RepL F ρ H w.heap a.tmps.toList sl)
  (h:stepOp E callP' (disM E callS) callY' id (getO sl) os (.call 4 f' (x::as))=some (d,os')) (hd:disE d=some e)
  (hq:∀ v w' H',PanV pt v e->PostT CL F B K ρ H w ρ H' w' os'->os.length<=os'.length->Q (.panic [{ v:=v,recovered:=false }]) a w'):o.wpIn (Fw r) 0 P a w next Q:=by
 refine ⟨fun f _=>trivial,?_⟩
 rw [cU _ _ _ (by rw [ho];intro c e;cases e)]
 have ef:=z5 S.hb hs h1
 have ea:=z3o S.hb hs h2
 have hargs:args.map a.eval=(args.toList.map a.eval).toArray:=by cases args;simp
 have exec:(aZ a.eval o).run P w=((a8 (a.eval f) (args.map a.eval)).run P w).andThen fun d w'=>(bP d.target d.args).run P w':=by
  unfold aZ
  rw [ho]
  simp only [cM,au]
 rw [exec]
 simp only [stepOp,DOp.fin,finOp] at h
 split at h
 case h_2=>simp at h
 rename_i k caps hg
 simp only [ab,ak] at h
 obtain ⟨⟨d1,q,o1⟩,h3,rfl,rfl⟩:=h
 rw [hg] at ef
 generalize a.eval f=vf at ef
 cases ef with
 | fn g g' cvs caps hF hcs hcr=>
  have hrun:(((a8 (.func (.func g) #[] cvs) (args.map a.eval)).run P w).andThen fun d w'=>(bP d.target d.args).run P w')=.ok (.enter g (args.map a.eval++cvs)) w:=by
   simp [a8,bP,z3r FO hF]
  rw [hrun]
  have hrep:RepL F ρ H w.heap (args.map a.eval++cvs).toList ((x::as).map (getO sl)++caps):=by
   rw [cn,hargs]
   exact ea.append ⟨by simpa using hcs,fun j v d hv hd=>hcr j v d (by simpa using hv) hd⟩
  obtain ⟨vr,vrest,hvl⟩:∃ vr vrest,(args.map a.eval++cvs).toList=vr::vrest:=by
   have:=hrep.1
   cases hv:(args.map a.eval++cvs).toList with
   | nil=>rw [hv] at this;simp at this
   | cons a l=>exact ⟨a,l,rfl⟩
  have hrep2:=hrep
  rw [hvl] at hrep2
  have hrep0:=hrep2.2 0 vr (getO sl x) rfl rfl
  have hrepT:RepL F ρ H w.heap vrest (as.map (getO sl)++caps):=⟨by have:=hrep2.1;simpa using this,fun j v d hv hd=>hrep2.2 (j+1) v d (by simpa using hv) (by simpa using hd)⟩
  refine ⟨by simp [Fw,cf],(zhc (K:=K) (hM g k hF) S hrep0 hrepT hvl h3 hd).mono fun en w' he=>?_⟩
  obtain ⟨v,rfl,hv,H',p⟩:=he
  exact hq v w' H' hv p (by simp)


def calmB:DOp->Bool
 | .call md _ _=>md == 0
 | op=>quietB op
theorem zr1 {id:Nat} {o:DOpr} {st st':St} (h:calmB o.op=true) (hs:step1 E callP callS callY id o st=some st'):st'.hp=st.hp:=by
 unfold step1 at hs
 split at hs
 ·split at hs
  ·rename_i d hp' h1
   simp only [aa] at hs;subst hs
   by_cases hq:quietB o.op=true
   ·exact zmw hq h1
   ·generalize o.op=op at h hq h1
    cases op with
    | call md f as=>
     have e:md=0:=by simpa [calmB] using h
     subst e
     have hf:hfree (.call 0 f as)=true:=rfl
     unfold stepOp at h1
     rw [z44 hf] at h1
     simp only [ab,ak] at h1
     obtain ⟨e,h2,_,h3⟩:=h1
     obtain ⟨n1,n2⟩:=z43 hf h2
     simp only
     rw [<- h3];simp [applyEf,n1,n2]
    | _=>exact absurd h hq
  ·simp at hs
 ·simp only [aa] at hs;subst hs;rfl
theorem zg1 {N:Nat}:∀ {l:List (Nat × DOpr)} {st st':St},(∀ p,p ∈ l->calmB p.2.op=true)->runI E callP callS callY N l st=some st'->st'.hp=st.hp
 | [],st,st',_,h=>by simp [runI] at h;subst h;rfl
 | p::l,st,st',hc,h=>by
  simp only [runI,aI] at h
  obtain ⟨s1,h1,h2⟩:=h
  rw [zg1 (fun q hq=>hc q (by simp [hq])) h2,zr1 (hc p (by simp)) h1]
theorem zmp {id:Nat} {o:DOpr} {st st':St} (h:step1 E callP callS callY id o st=some st'):st'.sl.length=st.sl.length:=by
 rw [z3c] at h
 simp only [ab] at h
 obtain ⟨r,_,rfl⟩:=h
 simp only [putO];split <;> simp
theorem zgp {op:DOp} (h:quietB op=true):calmB op=true:=by
 cases op with
 | call md f as=>simp [quietB] at h
 | _=>exact h
theorem zdn {id:Nat} {o:DOpr} {st:St} (h:quietB o.op=true):step1 E callP callS callY id o st=step1 E callP' callS' callY' id o st:=by
 unfold step1
 rw [zgo h]

theorem znz (TA:TAll P E T) (FO:FnsOk P F)
  (hP:∀ f f',F f=some f'->PureAt P F (callP f') f) (hS:∀ f f',F f=some f'->StatAt P CL F (fun ds os=>noMark (callS f' ds os)) f) (hY:YieldAt P CL F callY)
  (hM:∀ f f',F f=some f'->E.mp f'=true->StatMAt P CL F pt (callS f') f)
  {r:Option Nat} {ops:Array Oper} {ds:List DOpr} {ap:List (Nat × Nat)} {ks Ms:List Nat} {Nn N:Nat} {stF:St} {sl0:List D} (hok:ProbeOk T F ops ds ap ks Ms Nn)
  (hF:apartD stF.sl ds ap=true) {tab:Nat->Nat->Prop} (htab:∀ i m,tab i m->∃ o,ops[i]? = some o /\ ∃ e,e ∈ o.after/\Region.binds .any e=true/\(e.on=m\/tab e.on m))
  (hpairs:∀ (j i:Nat) oj oi,j<i->ds[j]? = some oj->ds[i]? = some oi->tab i j\/(slotsOk oj oi/\heapOk (ap.contains (j,i)) oj.op oi.op=true))
  (hkind:∀ (i:Nat) o d,ops[i]? = some o->ds[i]? = some d->(d=noopD /\ ∀ m,m ∈ Ms->tab i m)\/(i ∉ Ms/\OprL T F ops.toList o d/\quietB d.op=true)\/(i ∈ Ms /\ ∃ kk md f' as,TryM F o d kk md f' as/\(md=0\/(md=4/\as ≠ []/\Ms=[i]))/\kk<Nn)) (hNn:Nn<=sl0.length) :
  ∀ (fuel:Nat) (listed:Array Bool) (rem:List (Nat × DOpr)) {ρ : Rho} {H:HS} {w:World} {a:Act} {st:St} {Q:Exit->Act->World->Prop},
   listed.size=ops.size->rem.length<=fuel->rem.Pairwise (fun p q=>p.1<q.1)->(∀ i o,(i,o) ∈ rem ↔ (ds[i]? = some o/\listed.getD i true=false)) ->
   (∀ i,listed.getD i false=true->∀ m,tab i m->listed.getD m false=true) ->
   runI E (disP E callP callS) (disM E callS) callY N rem st=some stF->SR CL F B ρ H w.heap st.hp->RepL F ρ H w.heap a.tmps.toList st.sl ->
   (∀ p,p ∈ rem -> ρ (N+p.1)=none/\st.hp[N+p.1]? = some .dead)->N<=st.hp.length ->
   (∃ m dm j e,m ∈ Ms/\listed.getD m true=false/\ds[m]? = some dm/\dm.dst=some j/\disE (stF.sl.getD j .undef)=some e) ->
   st.sl.length=sl0.length->(∀ t,(∀ (i:Nat) d,ds[i]? = some d->d.dst ≠ some t)->st.sl.getD t .undef=sl0.getD t .undef) ->
   (∀ v e j a' w' ρ' H' slc,(∃ m dm,m ∈ Ms/\ds[m]? = some dm/\dm.dst=some j)->disE (stF.sl.getD j .undef)=some e->PanV pt v e->PostT CL F B (fun i=>i<N) ρ H w ρ' H' w' stF.hp->N<=stF.hp.length->RepL F ρ' H' w'.heap a'.tmps.toList slc->slc.length=sl0.length ->
    (∀ t,(∀ (i:Nat) d,ds[i]? = some d->d.dst ≠ some t)->slc.getD t .undef=sl0.getD t .undef)->a'.defers=a.defers->Q (.panic [{ v:=v,recovered:=false }]) a' w') ->
   eA (Fw r) 0 P .any ops Q fuel listed a w:=by
 intro fuel
 have hlen:=hok.len
 -- something is ready as long as something is left
 have empty:∀ (listed:Array Bool) (rem:List (Nat × DOpr)),rem.Pairwise (fun p q=>p.1<q.1)->(∀ i o,(i,o) ∈ rem ↔ (ds[i]? = some o/\listed.getD i true=false))->listed.size=ops.size->Region.ready .any ops listed=[]->rem=[]:=by
  intro listed rem hsort hrem hsz hr
  cases rem with
  | nil=>rfl
  | cons p rem=>
   obtain ⟨i,o⟩:=p
   obtain ⟨h1,h2⟩:=(hrem i o).1 (by simp)
   have hi:i<ops.size:=by rw [hlen];exact (ac.1 h1).1
   have:i ∈ Region.ready .any ops listed:=by
    refine bJ.2 ⟨h2,ops[i],by simp [hi],fun e he hb=>?_⟩
    have hlt:=hok.back i ops[i] (by simp [hi]) e he hb
    have hlt':e.on<listed.size:=by omega
    cases hv:listed[e.on] with
    | true=>simp [aj,hlt',hv]
    | false=>
     obtain ⟨oe,hoe⟩:∃ oe,ds[e.on]? = some oe:=⟨_,ao (by omega)⟩
     have hmem:=(hrem e.on oe).2 ⟨hoe,by simp [aj,hlt',hv]⟩
     have hs1:=(cC.1 hsort).1
     rcases aC.1 hmem with hm | hm
     ·simp at hm;omega
     ·have:=hs1 _ hm;simp at this;omega
   rw [hr] at this;cases this
 induction fuel with
 | zero=>
  intro listed rem ρ H w a st Q hsz hfuel hsort hrem hdown hrun S hs hv hN hbad hll hsl hq
  obtain ⟨m,dm,j,e,_,h2,h3,_⟩:=hbad
  have:=(hrem m dm).2 ⟨h3,h2⟩
  rw [bK.1 (Nat.le_zero.1 hfuel)] at this
  cases this
 | succ fuel ih=>
  intro listed rem ρ H w a st Q hsz hfuel hsort hrem hdown hrun S hs hv hN hbad hll hsl hq
  refine ⟨fun hr=>?_,fun i hi=>?_⟩
  ·obtain ⟨m,dm,j,e,_,h2,h3,_⟩:=hbad
   have:=(hrem m dm).2 ⟨h3,h2⟩
   rw [empty listed rem hsort hrem hsz hr] at this
   cases this
  ·obtain ⟨h1,o,ho,hedges⟩:=bJ.1 hi
   have hlt:=(aK.1 ho).1
   obtain ⟨oi,hoi⟩:∃ oi,ds[i]? = some oi:=⟨_,ao (by omega)⟩
   have hmem:=(hrem i oi).2 ⟨hoi,h1⟩
   obtain ⟨pre,post,rfl⟩:=List.append_of_mem hmem
   -- those ahead of it in the text it does not look at
   have hpre:∀ p,p ∈ pre->p.1<i/\ds[p.1]? = some p.2/\listed.getD p.1 true=false:=fun p hp=>by
    refine ⟨?_,(hrem p.1 p.2).1 (by simp [hp])⟩
    exact (ca.1 hsort).2.2 p hp (i,oi) (by simp)
   have hind:∀ p,p ∈ pre->slotsOk p.2 oi/\heapOk (ap.contains (p.1,i)) p.2.op oi.op=true:=fun p hp=>by
    obtain ⟨p1,p2,p3⟩:=hpre p hp
    rcases hpairs p.1 i p.2 oi p1 p2 hoi with ht | ht
    ·exfalso
     obtain ⟨o',ho',e,he,hb,ht⟩:=htab i p.1 ht
     rw [ho] at ho';simp at ho';subst ho'
     have hle:=hedges e he hb
     have hpl:listed.getD p.1 false=true:=by
      rcases ht with ht | ht
      ·rw [<- ht];exact hle
      ·exact hdown e.on hle p.1 ht
     have hpsz:p.1<listed.size:=by omega
     simp [aj,hpsz] at hpl p3
     rw [hpl] at p3;cases p3
    ·exact ht
   have hcond:∀ x,x ∈ touch oi.op->∀ k,did (getO st.sl x)=some k -> ρ k ≠ none:=fun x hx k hk=>zfi hs (fun d hd=>hok.consts i oi hoi x hx d hd) hk
   have hback:∀ q,q ∈ pre++(i,oi)::post->ds[q.1]? = some q.2:=fun q hq=>((hrem q.1 q.2).1 hq).1
   have hpost:∀ q,q ∈ (i,oi)::post->i<=q.1:=fun q hq=>by
    rcases aC.1 hq with rfl | hq
    ·exact ar _
    ·have:=(ca.1 hsort).2.1
     exact Nat.le_of_lt ((cC.1 this).1 q hq)
   obtain ⟨st1,hst,hrun1⟩:=bubble (ap:=fun j=>ap.contains (j,i)) hind hsort
    (fun _=>⟨(hv (i,oi) (by simp)).2,fun p hp=>⟨(hv p (by simp [hp])).2,fun x hx hk=>hcond x hx _ hk (hv p (by simp [hp])).1⟩⟩)
    (fun p hp hap=>by
     obtain ⟨p1,p2,_⟩:=hpre p hp
     have hin:(p.1,i) ∈ ap:=by simpa using hap
     obtain ⟨a1,a2⟩:=hok.aps p.1 i hin p.2 oi p2 hoi
     refine ⟨fun x hx y hy k hk hk'=>?_,fun x hx q hq hle n hn=>a1 x hx q.1 q.2 n hle (hback q hq) hn,fun y hy q hq n hn=>a2 y hy q.1 q.2 n (hpost q hq) (hback q (by simp only [aV];exact .inr hq)) hn⟩
     have:=aw.1 hF (p.1,i) hin
     simp only [p2,hoi,apart1] at this
     have:=aw.1 (aw.1 this x hx) y hy
     rw [hk,hk'] at this
     simp [idsNe] at this)
    (fun _ x hx k hk=>by
     cases hr : ρ k with
     | none=>exact absurd hr (hcond x hx k hk)
     | some bk=>exact S.lt k bk hr) hrun
   have hfree:Free ρ st.hp (N+i):=⟨(hv (i,oi) (by simp)).1,.inr (hv (i,oi) (by simp)).2⟩
   have hne:∀ q,q ∈ pre++post->q.1 ≠ i:=fun q hq e=>by
    rcases aV.1 hq with h | h
    ·have:=(hpre q h).1;omega
    ·have h2:=(ca.1 hsort).2.1
     have:=(cC.1 h2).1 q h;simp at this;omega
   have hsub:∀ q,q ∈ pre++post->q ∈ pre++(i,oi)::post:=fun q hq=>by
    rcases aV.1 hq with h | h <;> simp [h]
   have hslot:∀ t,(∀ (i:Nat) d,ds[i]? = some d->d.dst ≠ some t)->st1.sl.getD t .undef=sl0.getD t .undef:=fun t ht=>by
    rw [<- hsl t ht]
    exact z6p (x:=.t t) hst fun n hn e=>ht i oi hoi (by rw [hn];cases e;rfl)
   -- what comes after an operation that has returned
   have cont:∀ (a':Act) (w':World) (ρ':Rho) (H':HS),(∃ m dm j e,m ∈ Ms/\m ≠ i/\listed.getD m true=false/\ds[m]? = some dm/\dm.dst=some j/\disE (stF.sl.getD j .undef)=some e) ->
     PostT CL F B (fun k=>k<st.hp.length/\k ≠ N+i) ρ H w ρ' H' w' st1.hp->RepL F ρ' H' w'.heap a'.tmps.toList st1.sl->st.hp.length<=st1.hp.length->a'.defers=a.defers ->
     eA (Fw r) 0 P .any ops Q fuel (listed.setIfInBounds i true) a' w':=by
    intro a' w' ρ' H' hb p hs' hlen' hdf
    refine ih (listed.setIfInBounds i true) (pre++post) (by simpa using hsz) (by simp at hfuel ⊢;omega) ?_ ?_ ?_ hrun1 p.sr hs' ?_ (aD hN hlen') ?_ ((zmp hst).trans hll) hslot ?_
    ·have:=ca.1 hsort
     exact ca.2 ⟨this.1,(cC.1 this.2.1).2,fun x hx y hy=>this.2.2 x hx y (by simp [hy])⟩
    ·intro k ok
     by_cases hki:k=i
     ·subst hki
      constructor
      ·intro hq;exact absurd rfl (hne _ hq)
      ·rintro ⟨_,hq⟩
       simp [aj,show k<listed.size from by omega] at hq
     ·rw [fi true (fun e=>hki e.symm),<- hrem k ok]
      constructor
      ·exact hsub _
      ·intro hq
       simp only [aV,aC,ak] at hq ⊢
       rcases hq with h | ⟨h,_⟩ | h
       ·exact .inl h
       ·exact absurd h hki
       ·exact .inr h
    ·intro k hk m hm
     by_cases hki:k=i
     ·subst hki
      obtain ⟨o',ho',e,he,hb,ht⟩:=htab k m hm
      rw [ho] at ho';simp at ho';subst ho'
      have hle:=hedges e he hb
      rcases ht with rfl | ht
      ·exact dU hle
      ·exact dU (hdown e.on hle m ht)
     ·rw [fi false (fun e=>hki e.symm)] at hk
      exact dU (hdown k hk m hm)
    ·intro q hq
     obtain ⟨q1,q2⟩:=hv q (hsub q hq)
     have hqlt:=(ac.1 q2).1
     have r1:=p.vac (N+q.1) ⟨hqlt,by have:=hne q hq;omega⟩ q1
     refine ⟨r1,?_⟩
     obtain ⟨x,hx⟩:∃ x,st1.hp[N+q.1]? = some x:=⟨_,ao (by omega)⟩
     rw [hx]
     cases hxl:x.live with
     | false=>cases x <;> simp [Obj.live] at hxl;rfl
     | true=>
      obtain ⟨bk,r2,_⟩:=p.sr.dom _ _ hx hxl
      rw [r1] at r2;cases r2
    ·obtain ⟨m,dm,j,e,g1,g2,g3,g4⟩:=hb
     exact ⟨m,dm,j,e,g1,by rw [fi true (fun e=>g2 e.symm)];exact g3,g4⟩
    ·intro v e j a2 w2 ρ2 H2 slc g1 g2 g3 p2 g4 g5 g6 g7 hdf2
     exact hq v e j a2 w2 ρ2 H2 slc g1 g2 g3 ((p.weaken fun k hk=>⟨aH hk hN,by omega⟩).trans p2) g4 g5 g6 g7 (hdf2.trans hdf)
   -- what a call made of its slot is there at the end
   have last:∀ {kk:Nat},i ∈ Ms->oi.dst=some kk->stF.sl.getD kk .undef=st1.sl.getD kk .undef:=fun {kk} hiM hdst=>by
    refine z65 (x:=.t kk) hrun1 fun q hq n hn e=>?_
    cases e
    exact hok.uniq i hiM q.1 oi q.2 kk hoi (hback q (hsub q hq)) (hne q hq) hdst hn
   rcases hkind i o oi ho hoi with ⟨rfl,hm⟩ | ⟨hni,hlink,hqt⟩ | ⟨hiM,kk,md,f',as,hT,hmd,hkk⟩
   ·exfalso
    obtain ⟨m,dm,j,e,g1,g2,g3,_⟩:=hbad
    obtain ⟨o',ho',e',he,hb,ht⟩:=htab i m (hm m g1)
    rw [ho] at ho';simp at ho';subst ho'
    have hle:=hedges e' he hb
    have hml:listed.getD m false=true:=by
     rcases ht with rfl | ht
     ·exact hle
     ·exact hdown e'.on hle m ht
    have hmsz:m<listed.size:=by rw [hsz,hlen];exact (ac.1 g3).1
    simp [aj,hmsz] at hml g2
    rw [hml] at g2;cases g2
   ·refine z5e TA FO hP hS hY ho hlink (by rw [zdn hqt];exact hst) S hfree (K:=fun k=>k<st.hp.length/\k ≠ N+i) (fun k hk=>hk) hs (fun a' w' ρ' H' p hs' hlen' hdf=>?_)
    obtain ⟨m,dm,j,e,g1,g2⟩:=hbad
    exact cont a' w' ρ' H' ⟨m,dm,j,e,g1,fun e=>hni (e ▸ g1),g2⟩ p hs' hlen' hdf
   ·obtain ⟨f,args,at_,c1,c2,c3⟩:=hT.op
    have hdst:oi.dst=some kk:=by rw [hT.is]
    have hL:=last hiM hdst
    have hks:kk<st.sl.length:=by omega
    unfold bW
    simp only [ho]
    have hw:aO o (dN ops a.tmps)=true:=by unfold aO;rw [hT.gd]
    rw [if_pos hw]
    rw [hT.is] at hst
    simp only [step1,wantedD,if_true] at hst
    split at hst
    case h_2=>simp at hst
    rename_i d hp1 hc
    simp only [aa] at hst
    subst hst
    simp only [putO] at hL hslot hrun1 cont
    have hself:(st.sl.set kk d).getD kk .undef=d:=by rw [am,ba hks];rfl
    rw [hself] at hL
    have hbad2:disE d=none->∃ m dm j e,m ∈ Ms/\m ≠ i/\listed.getD m true=false/\ds[m]? = some dm/\dm.dst=some j/\disE (stF.sl.getD j .undef)=some e:=fun hd=>by
     obtain ⟨m,dm,j,e,g1,g2,g3,g4,g5⟩:=hbad
     refine ⟨m,dm,j,e,g1,fun em=>?_,g2,g3,g4,g5⟩
     subst em
     rw [hoi] at g3
     simp only [aa] at g3
     subst g3
     rw [hdst] at g4
     simp only [aa] at g4
     subst g4
     rw [hL,hd] at g5
     cases g5
    have hcalm:∀ q,q ∈ pre++post->calmB q.2.op=true:=fun q hq=>by
     obtain ⟨oq,hoq⟩:∃ oq,ops[q.1]? = some oq:=⟨_,cH (by rw [hlen];exact (ac.1 (hback q (hsub q hq))).1)⟩
     rcases hkind q.1 oq q.2 hoq (hback q (hsub q hq)) with ⟨e,_⟩ | ⟨_,_,e⟩ | ⟨hqM,k2,m2,f2,as2,hT2,hm2,_⟩
     ·rw [e];rfl
     ·exact zgp e
     ·rw [hT2.is]
      rcases hm2 with rfl | ⟨_,_,e⟩
      ·rfl
      ·rcases hmd with rfl | ⟨_,_,e2⟩
       ·rw [e] at hiM
        exact absurd (dA.1 hiM).symm (hne q hq)
       ·rw [e2] at hqM
        exact absurd (dA.1 hqM) (hne q hq)
    have hend:stF.hp=hp1:=zg1 hcalm hrun1
    have panic:∀ (v:Value) (e:D) (w':World) (ρ':Rho) (H':HS),disE d=some e->PanV pt v e->PostT CL F B (fun k=>k<st.hp.length/\k ≠ N+i) ρ H w ρ' H' w' hp1->st.hp.length<=hp1.length->Q (.panic [{ v:=v,recovered:=false }]) a w':=by
     intro v e w' ρ' H' hd hv2 p hle
     refine hq v e kk a w' ρ' H' st.sl ⟨i,oi,hiM,hoi,hdst⟩ (by rw [hL];exact hd) hv2 (by rw [hend];exact p.weaken fun k hk=>⟨aH hk hN,by omega⟩) (by rw [hend];omega) (hs.mono p.ext) hll hsl rfl
    rcases hmd with rfl | ⟨rfl,has,_⟩
    ·-- a call without objects
     simp only [stepOp,DOp.fin,pureOp] at hc
     simp only [ab,ak] at hc
     obtain ⟨ef,q1,q2,q3⟩:=hc
     split at q1
     case h_2=>simp at q1
     rename_i k caps hg
     split at q1
     case h_2=>simp at q1
     rename_i vs hvs
     simp only [ab] at q1
     obtain ⟨d',q4,rfl⟩:=q1
     simp only at q2
     subst q2
     simp only [applyEf] at q3
     subst q3
     unfold disP at q4
     by_cases hmp:E.mp k=true
     ·rw [if_pos hmp] at q4
      unfold disM at q4
      cases hcs:callS k vs [] with
      | none=>rw [hcs] at q4;simp at q4
      | some z=>
      obtain ⟨d0,hp0⟩:=z
      rw [hcs] at q4
      simp only at q4
      have hstep:∀ d5,markR (some (d0,hp0))=some d5->stepOp E callP callS callY (N+i) (getO st.sl) st.hp (.call 5 f' as)=some (d5,st.hp):=fun d5 h5=>by
       simp only [stepOp,DOp.fin,finOp,hg,hmp,if_true,hvs,hcs,h5,af]
      by_cases hm:isMark d0=true
      ·rw [if_pos hm,if_pos hmp] at q4
       cases he:markE d0 with
       | none=>rw [he] at q4;simp at q4
       | some e=>
       rw [he] at q4
       simp only [af,disE,Option.isSome_some,if_true,aa] at q4
       subst q4
       refine z5j FO hM c1 c2 c3 (.inl rfl) S hs (hstep d0 (by simp [markR,hm])) (fun v w' ρ' H' hx=>?_) (fun e1 v w' ρ' H' hx he1 hv2 p hle=>?_)
       ·rw [hm] at hx;cases hx
       ·rw [he] at he1
        simp only [aa] at he1
        subst he1
        exact panic v e w' ρ' H' rfl hv2 (p.weaken fun k hk=>hk.1) hle
      ·rw [if_neg hm] at q4
       by_cases hnd:(disE d0).isSome=true
       ·rw [if_pos hnd] at q4;simp at q4
       ·rw [if_neg hnd] at q4
        simp only at q4
        rw [if_neg hnd] at q4
        split at q4
        case h_2=>simp at q4
        rename_i d1 hz
        split at q4
        case isTrue=>simp at q4
        rename_i hnd1
        simp only [aa] at q4
        subst q4
        have hmd:isMark d1=false:=zb4 hz
        refine z5j FO hM c1 c2 c3 (.inl rfl) S hs (hstep d1 (by simp only [markR,hm];exact hz)) (fun v w' ρ' H' hx p hr hle=>?_) (fun e1 v w' ρ' H' hx=>?_)
        ·rw [hT.dst]
         exact cont _ w' ρ' H' (hbad2 (by simpa using hnd1)) (p.weaken fun k hk=>hk.1) (z2h (dst:=some kk) (hs.mono p.ext) hr) hle (z12 _ _ _)
        ·rw [hmd] at hx;cases hx
     ·rw [if_neg hmp] at q4
      cases hcp:callP k vs with
      | none=>rw [hcp] at q4;simp at q4
      | some d1=>
      rw [hcp] at q4
      simp only at q4
      split at q4
      case isTrue=>simp at q4
      rename_i hnd1
      simp only [aa] at q4
      subst q4
      have hstep:stepOp E callP callS callY (N+i) (getO st.sl) st.hp (.call 0 f' as)=some (d1,st.hp):=by
       simp only [stepOp,DOp.fin,pureOp,hg,hvs,hcp,af,applyEf]
      refine zd8 FO hP hS hY (K:=fun k=>k<st.hp.length/\k ≠ N+i) c1 c2 c3 (by decide) S (fun k hk=>hk.1) hs hstep (fun v w' ρ' H' p hr hle=>?_)
      rw [hT.dst]
      exact cont _ w' ρ' H' (hbad2 (by simpa using hnd1)) p (z2h (dst:=some kk) (hs.mono p.ext) hr) hle (z12 _ _ _)
    ·-- a call that knows one object
     rename_i hMs
     obtain ⟨x,as',rfl⟩:∃ x as',as=x::as':=by
      cases as with
      | nil=>exact absurd rfl has
      | cons x as'=>exact ⟨x,as',rfl⟩
     obtain ⟨e,hd⟩:∃ e,disE d=some e:=by
      cases hd:disE d with
      | some e=>exact ⟨e,rfl⟩
      | none=>
       obtain ⟨m,_,_,_,g1,g2,_⟩:=hbad2 hd
       rw [hMs] at g1
       exact absurd (dA.1 g1) g2
     refine zid FO hM c1 c2 c3 (K:=fun k=>k<st.hp.length/\k ≠ N+i) S hs hc hd (fun v w' H' hv2 p hle=>?_)
     exact panic v e w' ρ H' hd hv2 p hle

end
end Dv

namespace Dv
open Go (Value Program World Act Oper Operand Code Ending Exit)

theorem least (p:Nat->Prop) (h:∃ n,p n):∃ m,p m /\ ∀ k,p k->m<=k:=by
 obtain ⟨n,hn⟩:=h
 induction n using c7 with
 | _ n ih=>
  by_cases hx:∃ k,k<n/\p k
  ·obtain ⟨k,hk,hp⟩:=hx;exact ih k hk hp
  ·exact ⟨n,hn,fun k hk=>Nat.le_of_not_lt fun hlt=>hx ⟨k,hlt,hk⟩⟩

section
variable {P:Program} {E:Env} {CL:CLink} {F:Phi} {T:Phi} {B M:Nat} {D0:List cX} {K:Nat->Prop} {ρ : Rho} {H:HS} {os:List Obj} {w:World} {a:Act} {sl:List D} {pt:Nat × Nat}

theorem Marks.mono {hp hp':Heap} {l:List Nat} (h:Marks M hp l) (hd:∀ (b:Nat) ds,hp[b]? = some (.deferred ds)->hp'[b]? = some (.deferred ds)):Marks M hp' l:=
 ⟨h.nd,fun r hr=>⟨(h.at_ r hr).1,hd r _ (h.at_ r hr).2⟩⟩

theorem z2d {callP:Nat->List D->Option D} {callS callY:Nat->List D->List Obj->Option (D × List Obj)}:∀ {l:List DOpr} {st st':St},stepOps E callP callS callY l st=some st'->st.sl.length=st'.sl.length
 | [],st,st',h=>by simp only [stepOps,aa] at h;rw [h]
 | o::l,st,st',h=>by
  rw [ze] at h
  simp only [aI] at h
  obtain ⟨s1,h1,h2⟩:=h
  rw [<- z2d h2]
  unfold step1 at h1
  split at h1
  ·split at h1
   ·simp only [aa] at h1;subst h1
    simp only [putO];split <;> simp
   ·simp at h1
  ·simp only [aa] at h1;subst h1
   simp only [putO];split <;> simp

theorem zj8 {callP:Nat->List D->Option D} {callS callY:Nat->List D->List Obj->Option (D × List Obj)} {id:Nat} {o:DOpr} {st st':St} (h:step1 E callP callS callY id o st=some st'):st.sl.length=st'.sl.length:=by
 unfold step1 at h
 split at h
 ·split at h
  ·simp only [aa] at h;subst h
   simp only [putO];split <;> simp
  ·simp at h
 ·simp only [aa] at h;subst h
  simp only [putO];split <;> simp
theorem z4t {callP:Nat->List D->Option D} {callS callY:Nat->List D->List Obj->Option (D × List Obj)}:∀ {l:List DOpr} {id:Nat} {st st':St},stepOpsD E callP callS callY id l st=some st'->st.sl.length=st'.sl.length
 | [],id,st,st',h=>by simp only [stepOpsD,aa] at h;rw [h]
 | o::l,id,st,st',h=>by
  rw [z47] at h
  simp only [aI] at h
  obtain ⟨s1,h1,h2⟩:=h
  rw [zj8 h1,z4t h2]

theorem zp5:∀ {n:Nat} {c:DC} {st st':St} {ex:Ex},dC E n c st=some (ex,st')->st.sl.length=st'.sl.length:=by
 intro n
 induction n with
 | zero=>intro c st st' ex h;simp [dC] at h
 | succ n ih=>
  intro c st st' ex h
  cases c with
  | skip=>simp [dC] at h;rw [h.2]
  | ret=>simp [dC] at h;rw [h.2]
  | exit id=>simp [dC] at h;rw [h.2]
  | seq x y=>
   simp only [dC] at h
   split at h
   ·rename_i st1 h1;rw [ih h1,ih h]
   ·exact ih h
  | cond c x y=>
   simp only [dC] at h
   split at h
   ·exact ih h
   ·exact ih h
   ·simp at h
  | ifp c x y=>
   simp only [dC] at h
   split at h
   ·exact ih h
   ·exact ih h
  | block id x=>
   simp only [dC] at h
   split at h
   ·rename_i id' st1 h1
    simp only [aa,ak] at h
    rw [ih h1,h.2]
   ·exact ih h
  | loop x=>
   simp only [dC] at h
   split at h
   ·rename_i st1 h1;rw [ih h1,ih h]
   ·exact ih h
  | region dr ap ops=>
   simp only [dC,ab,ak] at h
   obtain ⟨s1,h1,_,rfl⟩:=h
   split at h1
   ·unfold checkAp at h1
    split at h1
    ·rename_i s2 h2
     split at h1
     ·simp only [aa] at h1;subst h1
      have:=z4t h2
      exact this
     ·simp at h1
    ·simp at h1
   ·exact z2d h1
  | probe ap ops ks k=>
   simp only [dC] at h
   split at h
   ·unfold probeR at h
    split at h
    ·split at h
     ·simp at h
     ·simp only [aa,ak] at h;rw [<- h.2]
    ·split at h
     ·simp only [aa,ak] at h;rw [<- h.2];simp
     ·simp at h
   ·simp at h
  | rfunc f ps asg body=>
   simp only [dC] at h
   split at h
   ·split at h
    ·split at h
     ·simp only [aa,ak] at h;rw [<- h.2]
     ·simp only [aa,ak] at h;rw [<- h.2]
     ·simp at h
    ·simp at h
   ·simp at h

structure Known (P:Program) (E:Env) (T F:Phi) (pt:Nat × Nat) (n:Nat):Prop where
 code:CodeAt P T F (dC E n)
 pure:∀ f f',F f=some f'->PureAt P F (runP E (dC E n) f') f
 stat:∀ f f',F f=some f'->StatAt P (CLk T F true) F (fun ds os=>noMark (runS E (dC E n) f' ds os)) f
 plain:∀ f f',F f=some f'->E.mp f'=false->StatAt P (CLk T F true) F (runS E (dC E n) f') f
 yld:YieldAt P (CLk T F true) F (runY (dC E n))
 mark:∀ f f',F f=some f'->E.mp f'=true->StatMAt P (CLk T F true) F pt (runS E (dC E n) f') f

def CodePAt (P:Program) (E:Env) (T F:Phi) (pt:Nat × Nat) (onp:Nat->DC) (Sl:List Nat) (N:Nat) (m:Nat):Prop:=
 ∀ (c:Code) (dc:DC),CLp P pt T F onp Sl N c dc->∀ (B M:Nat) (D0:List cX) (st st':St) (ex:Ex) (ρ : Rho) (H:HS) (a:Act) (w:World) (l:List Nat),
  dC E m dc st=some (ex,st')->N<=st.sl.length->SR (CLk T F true) F B ρ H w.heap st.hp->RepL F ρ H w.heap a.tmps.toList st.sl->a.defers=l.map mkMark++D0->Marks M w.heap l->M<=w.heap.size ->
  ∀ Q:Exit->Act->World->Prop,(∀ a' w',Ok (CLk T F true) F B M D0 ρ H w st.hp.length st' a' w'->(∀ i,ex=.exit i->i<panX)->Q (exOf ex) a' w') ->
   (∀ v a' w',PanOk E (CLk T F true) F pt onp Sl B M D0 ρ H w st.hp.length ex st' v a' w'->Q (.panic [{ v:=v,recovered:=false }]) a' w')->c.wpIn (Fw none) 0 P Q a w

def Leaves (E:Env) (onp:Nat->DC):Prop:=∀ k j st ex st',dC E j (onp k) st=some (ex,st')->ex ≠ .normal /\ ∀ i,ex=.exit i->panX<=i

theorem PanOk.leaves {onp:Nat->DC} {Sl:List Nat} {len:Nat} {w0:World} {ex:Ex} {st:St} {v:Value} (L:Leaves E onp) (h:PanOk E CL F pt onp Sl B M D0 ρ H w0 len ex st v a w):ex ≠ .normal /\ ∀ i,ex=.exit i->panX<=i:=by
 obtain ⟨j,k,sl0,mk,hp,e,h1,_⟩:=h
 exact L _ _ _ _ _ h1

theorem zh3 {onp:Nat->DC} {Sl:List Nat} (hL:Leaves E onp) {N:Nat} {n:Nat} (hC:∀ m,m<=n->CodePAt P E T F pt onp Sl N m) {x:Code} {x':DC} (h1:CLp P pt T F onp Sl N x x')
  {st st':St} {ex:Ex} {l:List Nat} (h:dC E (n+1) (.loop x') st=some (ex,st')) (hN:N<=st.sl.length) (S:SR (CLk T F true) F B ρ H w.heap st.hp) (hs:RepL F ρ H w.heap a.tmps.toList st.sl) (hd:a.defers=l.map mkMark++D0) (hm:Marks M w.heap l) (hM:M<=w.heap.size)
  (Q:Exit->Act->World->Prop) (hQ:∀ a' w',Ok (CLk T F true) F B M D0 ρ H w st.hp.length st' a' w'->(∀ i,ex=.exit i->i<panX)->Q (exOf ex) a' w')
  (hQp:∀ v a' w',PanOk E (CLk T F true) F pt onp Sl B M D0 ρ H w st.hp.length ex st' v a' w'->Q (.panic [{ v:=v,recovered:=false }]) a' w'):(Code.loop x).wpIn (Fw none) 0 P Q a w:=by
 classical
 let good:Nat->Act->World->Prop:=fun m a1 w1=>m<=n /\ ∃ st1,dC E (m+1) (.loop x') st1=some (ex,st')/\N<=st1.sl.length/\Ok (CLk T F true) F B M D0 ρ H w st.hp.length st1 a1 w1
 have start:good n a w:=⟨ar _,st,h,hN,ρ,H,l,PostT.refl S,hs,ar _,hd,hm⟩
 refine kY (fun a1 w1=>∃ m,good m a1 w1) (fun a1 w1=>if hx:∃ m,good m a1 w1 then f4 (least (fun m=>good m a1 w1) hx) else 0) ⟨n,start⟩ (fun a1 w1 hx=>?_)
 have hmin:=dF (least (fun m=>good m a1 w1) hx)
 rw [dif_pos hx]
 generalize f4 (least (fun m=>good m a1 w1) hx)=m at hmin
 obtain ⟨⟨hmn,st1,hrun,hN1,ok1⟩,_⟩:=hmin
 obtain ⟨ρ1,H1,l1,p1,hs1,hlen1,hd1,hm1⟩:=ok1
 simp only [dC] at hrun
 split at hrun
 ·rename_i st2 hbody
  refine hC m hmn x x' h1 B M D0 st1 st2 .normal ρ1 H1 a1 w1 l1 hbody hN1 p1.sr hs1 hd1 hm1 (aD hM p1.size) _ (fun a2 w2 ok2 _=>?_) (fun v a2 w2 pk=>?_)
  ·have ok:Ok (CLk T F true) F B M D0 ρ H w st.hp.length st2 a2 w2:=ok2.after' p1 hlen1
   cases m with
   | zero=>simp [dC] at hrun
   | succ m=>
    have gm:good m a2 w2:=⟨by omega,st2,hrun,by rw [<- zp5 hbody];exact hN1,ok⟩
    refine ⟨⟨m,gm⟩,?_⟩
    rw [dif_pos ⟨m,gm⟩]
    have:=(dF (least (fun m=>good m a2 w2) ⟨m,gm⟩)).2 m gm
    omega
  ·exact absurd rfl (pk.leaves hL).1
 ·rename_i hne
  refine hC m hmn x x' h1 B M D0 st1 st' ex ρ1 H1 a1 w1 l1 hrun hN1 p1.sr hs1 hd1 hm1 (aD hM p1.size) _ (fun a2 w2 ok2 hxi=>?_) (fun v a2 w2 pk=>?_)
  ·have q:=hQ a2 w2 (ok2.after' p1 hlen1) hxi
   cases ex with
   | normal=>exact absurd hrun (hne st')
   | exit id=>exact q
   | ret=>exact q
  ·exact hQp v a2 w2 (pk.after p1 hlen1)

theorem z7f {n i:Nat}:dH 0 (n+1+i)=dH 0 n++(n::dH (n+1) i):=by
 have h1:dH 0 (n+(1+i))=dH 0 n++dH (0+n) (1+i):=by
  rw [List.range'_append_1]
 rw [dt,h1,Nat.zero_add,eQ 1 i,fu]

theorem zja (TA:TAll P E T) (FO:FnsOk P F) {onp:Nat->DC} {Sl:List Nat} {m:Nat} (K:∀ j,j<m->Known P E T F pt j)
  {id:Nat} {ops:Array Oper} {pre:List Oper} {o:Oper} {post:List Oper} {k:Nat} {f:Operand} {f':Opd} {args:Array Operand} {as:List Opd} {at_:Array d9} {md:Nat} {gd:Option (Nat × Bool)} {pre' post':List DOpr}
  (hops:ops.toList=pre++o::post) (h1:OpsL T F ops.toList pre pre') (ho:o.op=.call { callee:=.value f,args,argTypes:=at_ }) (hf:stripOpd F f=some f') (ha:stripL F args.toList=some as) (hd:o.dst=some k) (hg:stripGd ops.toList o.guard=some gd) (hmd:md=5\/md=6)
  (h2:OpsL T F ops.toList post post') {st st':St} {ex:Ex} {l:List Nat}
  (h:dC E m (.seq (.region false [] (pre'++[⟨some k,.call md f' as,gd⟩])) (.ifp (.t k) (onp k) (.region false [] post'))) st=some (ex,st')) (S:SR (CLk T F true) F B ρ H w.heap st.hp) (hs:RepL F ρ H w.heap a.tmps.toList st.sl) (hdf:a.defers=l.map mkMark++D0) (hm:Marks M w.heap l) (hk:k<st.sl.length)
  (Q:Exit->Act->World->Prop) (hQ:∀ a' w',Ok (CLk T F true) F B M D0 ρ H w st.hp.length st' a' w'->(∀ i,ex=.exit i->i<panX)->Q (exOf ex) a' w')
  (hQp:∀ v a' w',PanOk E (CLk T F true) F pt onp Sl B M D0 ρ H w st.hp.length ex st' v a' w'->Q (.panic [{ v:=v,recovered:=false }]) a' w'):(Code.region id ops false).wpIn (Fw none) 0 P Q a w:=by
 cases m with
 | zero=>simp [dC] at h
 | succ m1=>
 simp only [dC] at h
 cases m1 with
 | zero=>simp [dC] at h
 | succ m2=>
 simp only [dC,aE,if_false] at h
 cases hr:stepOps E (runP E (dC E m2)) (runS E (dC E m2)) (runY (dC E m2)) (pre'++[⟨some k,.call md f' as,gd⟩]) st with
 | none=>rw [hr] at h;simp at h
 | some st1=>
 rw [hr] at h
 simp only [af] at h
 obtain ⟨sp,hr1,hr2⟩:=z46 hr
 have K2:=K m2 (by omega)
 refine eJ ?_
 have hsz:ops.size=pre.length+1+post.length:=by
  have:=congrArg dZ hops
  simp at this;omega
 rw [eC,hsz,z7f]
 refine z36 TA FO K2.pure K2.stat K2.yld (rest:=o::post) pre pre' 0 (by simpa using hops) h1 hr1 S hs (fun a1 w1 ρ1 H1 p1 hs1 hlen1 hdf1=>?_)
 rw [bG]
 unfold bW
 have hoi:ops[pre.length]? = some o:=by
  have:ops.toList[pre.length]? = some o:=by rw [hops];simp
  simpa using this
 simp only [hoi]
 rw [zbq hs1 hg]
 have fin:∀ (d:D) (hp1:List Obj) (a2:Act) (w2:World) (ρ2:Rho) (H2:HS),PostT (CLk T F true) F B (fun i=>i<sp.hp.length) ρ1 H1 w1 ρ2 H2 w2 hp1->RepL F ρ2 H2 w2.heap a2.tmps.toList (putO sp.sl (some k) d)->sp.hp.length<=hp1.length->a2.defers=a1.defers ->
   dC E m2 (.region false [] post') ⟨putO sp.sl (some k) d,hp1⟩=some (ex,st')->cz (Fw none) 0 P ops Q (dH (pre.length+1) post.length) a2 w2:=by
  intro d hp1 a2 w2 ρ2 H2 p2 hs2 hlen2 hdf2 h
  cases m2 with
  | zero=>simp [dC] at h
  | succ m3=>
  have K3:=K m3 (by omega)
  simp only [dC,aE,if_false,ab,ak] at h
  obtain ⟨st2,h3,rfl,rfl⟩:=h
  have p12:=p1.trans (p2.weaken fun i hi=>aH hi hlen1)
  have:=z36 TA FO K3.pure K3.stat K3.yld (r:=none) (ops:=ops) (Q:=Q) (rest:=[]) (is:=[]) post post' (pre.length+1) (by rw [hops];simp) h2 h3 p2.sr hs2 (fun a3 w3 ρ3 H3 p3 hs3 hlen3 hdf3=>by
   have hq:=hQ a3 w3 ⟨ρ3,H3,l,p12.trans (p3.weaken fun i hi=>aH hi (aD hlen1 hlen2)),hs3,aD hlen1 (aD hlen2 hlen3),?_,?_⟩ (fun i e=>by cases e)
   ·exact hq
   ·rw [hdf3,hdf2,hdf1,hdf]
   ·exact hm.mono (p12.trans (p3.weaken fun i hi=>aH hi (aD hlen1 hlen2))).frD)
  simpa using this
 -- the call
 rw [ze] at hr2
 simp only [aI] at hr2
 obtain ⟨s1,hr3,hr4⟩:=hr2
 simp only [stepOps,aa] at hr4
 subst hr4
 have hks:k<sp.sl.length:=by
  have e1:sp.sl.length=a1.tmps.size:=by simpa using hs1.1.symm
  have e2:st.sl.length=sp.sl.length:=z2d hr1
  omega
 have hgk:∀ d,getO (putO sp.sl (some k) d) (.t k)=d:=fun d=>by
  simp only [getO,putO,am,ba hks,bD]
 cases hwd:wantedD sp.sl gd with
 | false=>
  simp only [step1,hwd,aE,if_false,aa] at hr3
  subst hr3
  rw [if_neg (by simp)]
  simp only [hgk,isMark,aE,if_false] at h
  refine ⟨fun _ _=>trivial,?_⟩
  rw [hd]
  exact fin .undef sp.hp _ w1 ρ1 H1 (PostT.refl p1.sr) (z2h (dst:=some k) hs1 .u0) (ar _) (z12 _ _ _) h
 | true=>
 rw [if_pos rfl]
 simp only [step1,hwd,if_true] at hr3
 cases hc:stepOp E (runP E (dC E m2)) (runS E (dC E m2)) (runY (dC E m2)) sp.hp.length (getO sp.sl) sp.hp (.call md f' as) with
 | none=>rw [hc] at hr3;simp at hr3
 | some x=>
 obtain ⟨d,hp1⟩:=x
 rw [hc] at hr3
 simp only [aa] at hr3
 subst hr3
 refine z5j FO K2.mark ho hf ha hmd p1.sr hs1 hc (fun v w2 ρ2 H2 hmk p2 hv hlen2=>?_) (fun e v w2 ρ2 H2 hmk he hv p2 hlen2=>?_)
 ·-- it has returned
  rw [hgk,hmk] at h
  simp only [aE,if_false] at h
  rw [hd]
  exact fin d hp1 _ w2 ρ2 H2 p2 (z2h (dst:=some k) (hs1.mono p2.ext) hv) hlen2 (z12 _ _ _) h
 ·-- it has panicked
  rw [hgk,hmk] at h
  simp only [if_true] at h
  have p12:=p1.trans (p2.weaken fun i hi=>aH hi hlen1)
  exact hQp v a1 w2 ⟨m2,k,sp.sl,d,hp1,e,h,hks,hmk,he,hv,a1,⟨ρ2,H2,l,p12,hs1.mono p2.ext,aD hlen1 hlen2,by rw [hdf1,hdf],hm.mono p12.frD⟩,rfl,fun _ _ _=>rfl⟩

theorem zn0 (TA:TAll P E T) (FO:FnsOk P F) {onp:Nat->DC} {Sl:List Nat} {m:Nat} (K:∀ j,j<m->Known P E T F pt j)
  {id:Nat} {ops:Array Oper} {pre:List Oper} {o1 o2:Oper} {t i:Nat} {b:Bool} {x:Operand} {x':Opd} {pre':List DOpr}
  (hops:ops.toList=pre++[o1,o2]) (h1:OpsL T F ops.toList pre pre') (ho1:o1.op=.makeInterface t x) (hd1:o1.dst=some i) (hg1:o1.guard=none) (ho2:o2.op=.panic (.tmp i)) (hg2:o2.guard=none) (hx:stripOpd F x=some x')
  (hmk:∀ (v:Value) (w:World),(d6 t v).run P w=.ok (.iface t v) w) (ht:t=if b then pt.2 else pt.1) {st st':St} {ex:Ex} {l:List Nat}
  (h:dC E m (.seq (.region false [] (pre'++[⟨some i,.mark b x',none⟩])) (onp i)) st=some (ex,st')) (S:SR (CLk T F true) F B ρ H w.heap st.hp) (hs:RepL F ρ H w.heap a.tmps.toList st.sl) (hdf:a.defers=l.map mkMark++D0) (hm:Marks M w.heap l) (hk:i<st.sl.length)
  (Q:Exit->Act->World->Prop)
  (hQp:∀ v a' w',PanOk E (CLk T F true) F pt onp Sl B M D0 ρ H w st.hp.length ex st' v a' w'->Q (.panic [{ v:=v,recovered:=false }]) a' w'):(Code.region id ops false).wpIn (Fw none) 0 P Q a w:=by
 cases m with
 | zero=>simp [dC] at h
 | succ m1=>
 simp only [dC] at h
 cases m1 with
 | zero=>simp [dC] at h
 | succ m2=>
 rw [show dC E (m2+1) (.region false [] (pre'++[⟨some i,.mark b x',none⟩])) st=(stepOps E (runP E (dC E m2)) (runS E (dC E m2)) (runY (dC E m2)) (pre'++[⟨some i,.mark b x',none⟩]) st).map fun st'=>(.normal,st') from by simp only [dC,aE,if_false]] at h
 cases hr:stepOps E (runP E (dC E m2)) (runS E (dC E m2)) (runY (dC E m2)) (pre'++[⟨some i,.mark b x',none⟩]) st with
 | none=>rw [hr] at h;simp at h
 | some st1=>
 rw [hr] at h
 simp only [af] at h
 obtain ⟨sp,hr1,hr2⟩:=z46 hr
 have K2:=K m2 (by omega)
 refine eJ ?_
 have hsz:ops.size=pre.length+1+1:=by
  have:=congrArg dZ hops
  simp at this;omega
 rw [eC,hsz,z7f]
 refine z36 TA FO K2.pure K2.stat K2.yld (rest:=[o1,o2]) pre pre' 0 (by simpa using hops) h1 hr1 S hs (fun a1 w1 ρ1 H1 p1 hs1 hlen1 hdf1=>?_)
 rw [bG]
 have hoi:ops[pre.length]? = some o1:=by
  have:ops.toList[pre.length]? = some o1:=by rw [hops];simp
  simpa using this
 have hoj:ops[pre.length+1]? = some o2:=by
  have:ops.toList[pre.length+1]? = some o2:=by rw [hops];simp
  simpa using this
 have hw1:∀ y,aO o1 y=true:=fun y=>by unfold aO;rw [hg1]
 have hw2:∀ y,aO o2 y=true:=fun y=>by unfold aO;rw [hg2]
 rw [ze] at hr2
 simp only [aI] at hr2
 obtain ⟨s1,hr3,hr4⟩:=hr2
 simp only [stepOps,aa] at hr4
 subst hr4
 simp only [step1,wantedD,if_true] at hr3
 have hks:i<sp.sl.length:=by rw [<- z2d hr1];exact hk
 have hv:=z5 p1.sr.hb hs1 hx
 obtain ⟨e,v0,hmark,hv0,hpv⟩:∃ e v0,s1=⟨sp.sl.set i (.tup [.undef,e]),sp.hp⟩/\a1.eval x=v0/\PanV pt (.iface t v0) e:=by
  simp only [stepOp,DOp.fin,pureOp] at hr3
  split at hr3
  ·rename_i d hp1 hst
   simp only [aa] at hr3;subst hr3
   simp only [ab] at hst
   obtain ⟨ef,h3,h4⟩:=hst
   split at h3
   ·rename_i n hg
    simp only [aa] at h3;subst h3
    simp only [applyEf,ak] at h4
    obtain ⟨rfl,rfl⟩:=h4
    rw [hg] at hv
    refine ⟨_,_,rfl,rfl,.inl ⟨n,?_,rfl⟩⟩
    rw [ht]
    generalize a1.eval x=vv at hv
    cases hv;rfl
   ·rename_i n hg
    simp only [aa] at h3;subst h3
    simp only [applyEf,ak] at h4
    obtain ⟨rfl,rfl⟩:=h4
    rw [hg] at hv
    refine ⟨_,_,rfl,rfl,.inr ⟨n,?_,rfl⟩⟩
    rw [ht]
    obtain ⟨vs,e1,e2⟩:=hv.aggL
    rw [e1]
    have hl:=e2.1
    match vs,hl with
    | [q],_=>
     have:=e2.2 0 q _ rfl rfl
     cases this;rfl
   ·simp at h3
  ·simp at hr3
 subst hmark
 unfold bW
 simp only [hoi,hw1,if_true]
 refine ⟨fun _ _=>trivial,?_⟩
 rw [cU _ _ _ (by rw [ho1];intro c e;cases e)]
 have ex1:(aZ a1.eval o1).run P w1=.ok (.value (.iface t v0)) w1:=by
  unfold aZ
  rw [ho1]
  simp only [au,hmk,hv0]
  rfl
 rw [ex1]
 show cz (Fw none) 0 P ops Q [pre.length+1] (a1.put o1.dst (.iface t v0)) w1
 rw [bG]
 unfold bW
 simp only [hoj,hw2,if_true]
 refine ⟨fun _ _=>trivial,?_⟩
 rw [cU _ _ _ (by rw [ho2];intro c e;cases e)]
 have hti:(a1.put o1.dst (.iface t v0)).eval (.tmp i)=.iface t v0:=by
  rw [hd1]
  have hlt:i<a1.tmps.size:=by have:=hs1.1;simp at this;omega
  simp [Act.put,Act.eval,aj,hlt]
 have ex2:(aZ (a1.put o1.dst (.iface t v0)).eval o2).run P w1=.halt (.panic (.iface t v0)) w1:=by
  unfold aZ
  rw [ho2]
  simp only [hti]
  rfl
 rw [ex2]
 refine hQp (.iface t v0) _ w1 ⟨m2+1,i,sp.sl,_,sp.hp,e,h,hks,rfl,rfl,hpv,a1,⟨ρ1,H1,l,p1,hs1,hlen1,by rw [hdf1,hdf],hm.mono p1.frD⟩,z12 _ _ _,fun t _ ht=>?_⟩
 rw [hd1]
 simp [Act.put,aj,Ne.symm ht]

theorem zjb (FO:FnsOk P F) {onp:Nat->DC} {Sl:List Nat} {m:Nat} (K:∀ j,j<m->Known P E T F pt j)
  {ops:Array Oper} {i:Nat} {o:Oper} {k:Nat} {f:Operand} {f':Opd} {args:Array Operand} {as:List Opd} {at_:Array d9} {md:Nat} {X:DC} {next:Act->World->Prop} (hoi:ops[i]? = some o)
  (ho:o.op=.call { callee:=.value f,args,argTypes:=at_ }) (hf:stripOpd F f=some f') (ha:stripL F args.toList=some as) (hd:o.dst=some k) (hg:o.guard=none) (hmd:md=5\/md=6)
  {st st':St} {ex:Ex} {len:Nat} {w0:World} {ρ0:Rho} {H0:HS} {l:List Nat}
  (h:dC E m (.seq (.region false [] [⟨some k,.call md f' as,none⟩]) (.ifp (.t k) (onp k) X)) st=some (ex,st')) (p1:PostT (CLk T F true) F B (fun i=>i<len) ρ0 H0 w0 ρ H w st.hp) (hlen1:len<=st.hp.length)
  (hs:RepL F ρ H w.heap a.tmps.toList st.sl) (hdf:a.defers=l.map mkMark++D0) (hm:Marks M w.heap l) (hk:k<st.sl.length) (Q:Exit->Act->World->Prop)
  (hnext:∀ (m':Nat) (d:D) (hp1:List Obj) (a2:Act) (w2:World) (ρ2:Rho) (H2:HS),m'<m->PostT (CLk T F true) F B (fun i=>i<len) ρ0 H0 w0 ρ2 H2 w2 hp1->RepL F ρ2 H2 w2.heap a2.tmps.toList (putO st.sl (some k) d)->len<=hp1.length->a2.defers=l.map mkMark++D0->Marks M w2.heap l ->
   dC E m' X ⟨putO st.sl (some k) d,hp1⟩=some (ex,st')->next a2 w2)
  (hQp:∀ v a' w',PanOk E (CLk T F true) F pt onp Sl B M D0 ρ0 H0 w0 len ex st' v a' w'->Q (.panic [{ v:=v,recovered:=false }]) a' w'):bW (Fw none) 0 P ops Q i next a w:=by
 cases m with
 | zero=>simp [dC] at h
 | succ m1=>
 simp only [dC] at h
 cases m1 with
 | zero=>simp [dC] at h
 | succ m2=>
 simp only [dC,aE,if_false] at h
 cases hr:stepOps E (runP E (dC E m2)) (runS E (dC E m2)) (runY (dC E m2)) [⟨some k,.call md f' as,none⟩] st with
 | none=>rw [hr] at h;simp at h
 | some st1=>
 rw [hr] at h
 simp only [af] at h
 have K2:=K m2 (by omega)
 unfold bW
 simp only [hoi]
 have hw:aO o (dN ops a.tmps)=true:=by unfold aO;rw [hg]
 rw [if_pos hw]
 rw [ze] at hr
 simp only [aI] at hr
 obtain ⟨s1,hr3,hr4⟩:=hr
 simp only [stepOps,aa] at hr4
 subst hr4
 simp only [step1,wantedD,if_true] at hr3
 cases hc:stepOp E (runP E (dC E m2)) (runS E (dC E m2)) (runY (dC E m2)) st.hp.length (getO st.sl) st.hp (.call md f' as) with
 | none=>rw [hc] at hr3;simp at hr3
 | some x=>
 obtain ⟨d,hp1⟩:=x
 rw [hc] at hr3
 simp only [aa] at hr3
 subst hr3
 have hgk:getO (putO st.sl (some k) d) (.t k)=d:=by
  simp only [getO,putO,am,ba hk,bD]
 refine z5j FO K2.mark ho hf ha hmd p1.sr hs hc (fun v w2 ρ2 H2 hmk p2 hv hlen2=>?_) (fun e v w2 ρ2 H2 hmk he hv p2 hlen2=>?_)
 ·rw [hgk,hmk] at h
  simp only [aE,if_false] at h
  have p12:=p1.trans (p2.weaken fun i hi=>aH hi hlen1)
  rw [hd]
  exact hnext m2 d hp1 _ w2 ρ2 H2 (by omega) p12 (z2h (dst:=some k) (hs.mono p2.ext) hv) (aD hlen1 hlen2) ((z12 _ _ _).trans hdf) (hm.mono p2.frD) h
 ·rw [hgk,hmk] at h
  simp only [if_true] at h
  have p12:=p1.trans (p2.weaken fun i hi=>aH hi hlen1)
  exact hQp v a w2 ⟨m2,k,st.sl,d,hp1,e,h,hk,hmk,he,hv,a,⟨ρ2,H2,l,p12,hs.mono p2.ext,aD hlen1 hlen2,hdf,hm.mono p2.frD⟩,rfl,fun _ _ _=>rfl⟩


theorem zi2 (hmix:P.follows .mixedOrders=true) (TA:TAll P E T) (FO:FnsOk P F) {onp:Nat->DC} {Sl:List Nat} {m:Nat} (K:∀ j,j<m->Known P E T F pt j)
  {id:Nat} {ops:Array Oper} {pre:List Oper} {o1 o2:Oper} {pre':List DOpr} {ap:List (Nat × Nat)} {N k1 md1 k2 md2:Nat} {f1 f2:Opd} {as1 as2:List Opd} (hops:ops.toList=pre++[o1,o2]) (h1:OpsL T F pre pre pre') (hdk:DrawOk pre.toArray pre' ap)
  (hgp:∀ o,o ∈ pre->o.guard=none) (s1:SiteO F N o1 k1 md1 f1 as1) (s2:SiteO F N o2 k2 md2 f2 as2) (ht:TailOk ops pre.length o2) {st st':St} {ex:Ex} {l:List Nat}
  (h:dC E m (drawnD onp ap pre' k1 md1 f1 as1 k2 md2 f2 as2) st=some (ex,st')) (hN:N<=st.sl.length) (S:SR (CLk T F true) F B ρ H w.heap st.hp) (hs:RepL F ρ H w.heap a.tmps.toList st.sl) (hdf:a.defers=l.map mkMark++D0) (hm:Marks M w.heap l)
  (Q:Exit->Act->World->Prop) (hQ:∀ a' w',Ok (CLk T F true) F B M D0 ρ H w st.hp.length st' a' w'->(∀ i,ex=.exit i->i<panX)->Q (exOf ex) a' w')
  (hQp:∀ v a' w',PanOk E (CLk T F true) F pt onp Sl B M D0 ρ H w st.hp.length ex st' v a' w'->Q (.panic [{ v:=v,recovered:=false }]) a' w'):(Code.region id ops true).wpIn (Fw none) 0 P Q a w:=by
 unfold drawnD at h
 cases m with
 | zero=>simp [dC] at h
 | succ m1=>
 simp only [dC] at h
 cases m1 with
 | zero=>simp [dC] at h
 | succ m2=>
 rw [show dC E (m2+1) (.region true ap pre') st=(checkAp pre' ap (stepOpsD E (runP E (dC E m2)) (runS E (dC E m2)) (runY (dC E m2)) st.hp.length pre' ⟨st.sl,st.hp++ae pre'.length .dead⟩)).map fun st'=>(Ex.normal,st') from rfl] at h
 cases hr:checkAp pre' ap (stepOpsD E (runP E (dC E m2)) (runS E (dC E m2)) (runY (dC E m2)) st.hp.length pre' ⟨st.sl,st.hp++ae pre'.length .dead⟩) with
 | none=>rw [hr] at h;simp at h
 | some st1=>
 rw [hr] at h
 simp only [af] at h
 have K2:=K m2 (by omega)
 have hlen1:st.sl.length=st1.sl.length:=by
  unfold checkAp at hr
  split at hr
  ·rename_i s2 h2
   split at hr
   ·simp only [aa] at hr;subst hr
    have:=z4t h2
    exact this
   ·simp at hr
  ·simp at hr
 refine fc hmix ?_
 have hsz:ops.size=pre.length+2:=by
  have:=congrArg dZ hops
  simpa using this
 have g1:ops[pre.length]? = some o1:=by
  have:ops.toList[pre.length]? = some o1:=by rw [hops];simp
  simpa using this
 have g2:ops[pre.length+1]? = some o2:=by
  have:ops.toList[pre.length+1]? = some o2:=by rw [hops];simp
  simpa using this
 obtain ⟨tab,htab,hall⟩:=ht.tab
 rw [hsz,show ct (pre.length+2) false=((ct pre.length false).push false).push false from by
  rw [iN,iN]]
 refine zov (k:=pre.length) (pre:=pre.toArray) (by simp) (fun i hi=>?_) g1 g2 hsz (fun i o ho=>hgp o (bf (by simpa using ho))) ht.back htab hall ht.last pre.length (ct pre.length false) a _ (by simp) (fun i hi=>?_) ?_
 ·have:ops.toList[i]? = pre[i]?:=by rw [hops,az hi]
  simpa using this
 ·exfalso
  simp [aj,Array.getElem?_replicate] at hi
  split at hi <;> simp at hi
 have main:=za7 TA FO K2.pure K2.stat K2.yld (r:=none) (ops:=pre.toArray) (ds:=pre') (ap:=ap) (Q:=tailQ (Fw none) 0 P ops pre.length Q) (a:=a) (w:=w) (st:=st) (stF:=st1) (by simpa using h1) hdk hr S hs (fun a1 w1 ρ1 H1 p1 hs1 hl1 hd1=>by
  show cz (Fw none) 0 P ops Q [pre.length,pre.length+1] a1 w1
  rw [bG]
  obtain ⟨f,args,at_,c1,c2,c3⟩:=s1.op
  refine zjb FO (fun j hj=>K j (by omega)) g1 c1 c2 c3 s1.dst s1.gd s1.md h p1 hl1 hs1 (hd1.trans hdf) (hm.mono p1.frD) (by have:=s1.lt;omega) Q (fun m' d hp1 a2 w2 ρ2 H2 hm' p2 hs2 hl2 hd2 hm2 h3=>?_) hQp
  rw [bG]
  obtain ⟨f',args',at',c1',c2',c3'⟩:=s2.op
  refine zjb FO (fun j hj=>K j (by omega)) g2 c1' c2' c3' s2.dst s2.gd s2.md h3 p2 hl2 hs2 hd2 hm2 (by have:=s2.lt;simp only [putO,fa];omega) Q (fun m'' d' hp2 a3 w3 ρ3 H3 hm'' p3 hs3 hl3 hd3 hm3 h4=>?_) hQp
  cases m'' with
  | zero=>simp [dC] at h4
  | succ m''=>
  simp only [dC,aa,ak] at h4
  obtain ⟨rfl,rfl⟩:=h4
  exact hQ a3 w3 ⟨ρ3,H3,l,p3,hs3,hl3,hd3,hm3⟩ (fun i e=>by cases e))
 simpa using main

theorem zss {x y:D} (h:eN x=eN y) (hs:(eN x).isSome=true):x=y:=by
 have key:∀ {x:D} {p:Bool × Int},eN x=some p->x=(if p.1=true then .agg [.int .i64 p.2] else .int .i64 p.2):=by
  intro x p h
  unfold eN at h
  split at h
  ·simp only [aa] at h;subst h;rfl
  ·simp only [aa] at h;subst h;rfl
  ·cases h
 cases hx:eN x with
 | none=>rw [hx] at hs;cases hs
 | some p=>rw [key hx,key (h.symm.trans hx)]

theorem zga (hmix:P.follows .mixedOrders=true) (TA:TAll P E T) (FO:FnsOk P F) {onp:Nat->DC} {Sl:List Nat} {m:Nat} (K:∀ j,j<m->Known P E T F pt j)
  {id:Nat} {ops:Array Oper} {ds dsQ:List DOpr} {ap apQ:List (Nat × Nat)} {ks Ms:List Nat} {N k:Nat} (h1:OpsL T F ops.toList ops.toList ds) (hdk:DrawOk ops ds ap) (hp:ProbeOk T F ops dsQ apQ ks Ms N)
  (hS:∀ (i:Nat) d n,dsQ[i]? = some d->d.dst=some n->n ∉ Sl) (hk:k<N) {st st':St} {ex:Ex} {l:List Nat}
  (h:dC E m (.seq (.probe apQ dsQ ks k) (.ifp (.t k) (onp k) (.region true ap ds))) st=some (ex,st')) (hN:N<=st.sl.length) (S:SR (CLk T F true) F B ρ H w.heap st.hp) (hs:RepL F ρ H w.heap a.tmps.toList st.sl) (hdf:a.defers=l.map mkMark++D0) (hm:Marks M w.heap l)
  (Q:Exit->Act->World->Prop) (hQ:∀ a' w',Ok (CLk T F true) F B M D0 ρ H w st.hp.length st' a' w'->(∀ i,ex=.exit i->i<panX)->Q (exOf ex) a' w')
  (hQp:∀ v a' w',PanOk E (CLk T F true) F pt onp Sl B M D0 ρ H w st.hp.length ex st' v a' w'->Q (.panic [{ v:=v,recovered:=false }]) a' w'):(Code.region id ops true).wpIn (Fw none) 0 P Q a w:=by
 cases m with
 | zero=>simp [dC] at h
 | succ m1=>
 simp only [dC] at h
 cases m1 with
 | zero=>simp [dC] at h
 | succ m2=>
 simp only [dC] at h
 cases hc:checkAp dsQ apQ (stepOpsD E (disP E (runP E (dC E m2)) (runS E (dC E m2))) (disM E (runS E (dC E m2))) (runY (dC E m2)) st.hp.length dsQ ⟨st.sl,st.hp++ae dsQ.length .dead⟩) with
 | none=>rw [hc] at h;simp at h
 | some stF=>
 rw [hc] at h
 simp only [probeR] at h
 have hks:k<st.sl.length:=by omega
 cases hl:ks.filterMap fun j=>disE (stF.sl.getD j .undef) with
 | nil=>
  rw [hl] at h
  simp only at h
  by_cases hmk:isMark (st.sl.getD k .undef)=true
  ·rw [if_pos hmk] at h;simp at h
  ·rw [if_neg hmk] at h
   have hmk':isMark (getO st.sl (.t k))=false:=by simpa [getO] using hmk
   simp only [hmk',aE,if_false] at h
   cases m2 with
   | zero=>simp [dC] at h
   | succ m3=>
   have K3:=K m3 (by omega)
   simp only [dC,if_true,ab,ak] at h
   obtain ⟨s2,h2,rfl,rfl⟩:=h
   refine zd2 hmix TA FO K3.pure K3.stat K3.yld h1 hdk h2 S hs (fun a' w' ρ' H' p hs' hlen hd=>?_)
   exact hQ a' w' ⟨ρ',H',l,p,hs',hlen,hd.trans hdf,hm.mono p.frD⟩ (fun i e=>by cases e)
 | cons e0 rest=>
  rw [hl] at h
  simp only at h
  by_cases hall:((eN e0).isSome && rest.all fun x=>decide (eN x=eN e0))=true
  rotate_left
  ·rw [if_neg hall] at h;simp at h
  rw [if_pos hall] at h
  simp only at h
  simp only [ai] at hall
  have hget:isMark (getO (st.sl.set k (.tup [.undef,e0])) (.t k))=true:=by
   simp only [getO,am,ba hks,bD];rfl
  simp only [hget,if_true] at h
  have K2:=K m2 (by omega)
  unfold checkAp at hc
  split at hc
  case h_2=>simp at hc
  rename_i s2 hst
  split at hc
  case isFalse=>simp at hc
  rename_i hF
  simp only [aa] at hc
  subst hc
  obtain ⟨tab,htab,hpairs,hkind⟩:=hp.draw
  refine fc hmix ?_
  have hst':=z4s (E:=E) (callP:=disP E (runP E (dC E m2)) (runS E (dC E m2))) (callS:=disM E (runS E (dC E m2))) (callY:=runY (dC E m2)) (N:=st.hp.length) dsQ 0 ⟨st.sl,st.hp++ae dsQ.length .dead⟩
  rw [Nat.add_zero] at hst'
  rw [hst'] at hst
  have hrl:∀ i,i<ops.size->(ct ops.size false).getD i true=false:=fun i hi=>by simp [aj,hi]
  -- one of the calls has panicked
  have hb0:e0 ∈ ks.filterMap fun j=>disE (s2.sl.getD j .undef):=by rw [hl];simp
  obtain ⟨j0,hj0,he0⟩:=fL.1 hb0
  obtain ⟨m0,dm0,g1,g2,g3⟩:=hp.ksD j0 hj0
  have hlen:=hp.len
  refine znz TA FO K2.pure K2.stat K2.yld K2.mark (sl0:=st.sl) hp hF htab hpairs hkind hN (w:={ w with drawn:=w.drawn+1 }) (ρ:=ρ) (H:=H) (st:=⟨st.sl,st.hp++ae dsQ.length .dead⟩) ops.size _ (number 0 dsQ) (by simp) ?_ (z4g dsQ 0) ?_ ?_ hst (S.pad _) hs ?_ (by simp)
   ⟨m0,dm0,j0,e0,g1,hrl m0 (by rw [hlen];exact (ac.1 g2).1),g2,g3,he0⟩ rfl (fun _ _=>rfl) ?_
  ·have:∀ (l:List DOpr) (k:Nat),(number k l).length=l.length:=by
    intro l
    induction l with
    | nil=>intro k;rfl
    | cons d l ih=>intro k;simp [number,ih]
   rw [this,hlen];exact ar _
  ·intro i o
   rw [z3b]
   constructor
   ·rintro ⟨_,h2⟩
    exact ⟨h2,hrl i (by rw [hlen];exact (ac.1 h2).1)⟩
   ·rintro ⟨h1,_⟩
    exact ⟨cx _,h1⟩
  ·intro i hi
   by_cases h2:i<ops.size
   ·simp [aj,h2] at hi
   ·simp [aj,h2] at hi
  ·intro p hpm
   obtain ⟨_,h2⟩:=(z3b (i:=p.1) (o:=p.2)).1 hpm
   have hlt:=(ac.1 h2).1
   constructor
   ·cases hr : ρ (st.hp.length+p.1) with
    | none=>rfl
    | some bk=>have:=S.lt _ _ hr;omega
   ·simp only
    rw [aF (by omega),c5,if_pos (by omega)]
  ·intro v e j a' w' ρ' H' slc ⟨m,dm,q1,q2,q3⟩ he hv p hle hr hsl hslot hd
   have hee:e=e0:=by
    have hmem:e ∈ ks.filterMap fun j=>disE (s2.sl.getD j .undef):=fL.2 ⟨j,hp.ksM m dm j q1 q2 q3,he⟩
    rw [hl] at hmem
    rcases aC.1 hmem with h5 | h5
    ·exact h5
    ·have:=aw.1 hall.2 e h5
     simp only [decide_eq_true_eq] at this
     exact zss this (by rw [this];exact hall.1)
   subst hee
   have p':PostT (CLk T F true) F B (fun i=>i<st.hp.length) ρ H w ρ' H' w' s2.hp:=⟨p.ext,p.sr,p.size,p.frB,p.frD,p.hnew,p.vac,p.fz,⟨p.still.os,p.still.tape,p.still.out,aD (eH _) p.still.dr⟩,p.frame,p.rb,p.hn⟩
   -- the slots that the region writes are as they were,the others as they are
   let tm:Array Value:=((b6 st.sl.length).map fun t=>if dsQ.any (fun d=>d.dst == some t)=true then a.tmps.getD t ay else a'.tmps.getD t ay).toArray
   refine hQp v a' w' ⟨m2,k,st.sl,.tup [.undef,e],s2.hp,e,h,hks,rfl,rfl,hv,⟨tm,a'.defers⟩,⟨ρ',H',l,p',?_,hle,hd.trans hdf,hm.mono p'.frD⟩,rfl,fun t ht _=>?_⟩
   ·refine ⟨by simp [tm],fun j v d hv hd=>?_⟩
    have hjl:j<st.sl.length:=(ac.1 hd).1
    simp only [tm,co,c9 hjl,af,aa] at hv
    have hdj:st.sl.getD j .undef=d:=by rw [am,hd];rfl
    have gv:∀ {tms:Array Value} {s:List D},RepL F ρ' H' w'.heap tms.toList s->s.length=st.sl.length->Rep F ρ' H' w'.heap (tms.getD j ay) (s.getD j .undef):=by
     intro tms s hr hl
     obtain ⟨v,hv,h⟩:=hr.get (ao (show j<s.length by omega))
     rw [am,ao (show j<s.length by omega)]
     have:tms[j]? = some v:=by simpa using hv
     simpa [aj,this] using h
    split at hv
    ·rename_i hany
     rw [<- hv,<- hdj]
     exact gv (hs.mono p'.ext) rfl
    ·rename_i hany
     rw [<- hv,<- hdj,<- hslot j (fun i d' hi hdst=>hany (dW.2 ⟨d',bf hi,by simp [hdst]⟩))]
     exact gv hr hsl
   ·have hlt:t<st.sl.length \/ ¬ t<st.sl.length:=by omega
    rcases hlt with hlt | hlt
    ·have hno : ¬ (dsQ.any fun d=>d.dst == some t)=true:=fun hany=>by
      obtain ⟨d,hd1,hd2⟩:=dW.1 hany
      obtain ⟨i,hi,rfl⟩:=List.getElem_of_mem hd1
      exact hS i _ t (ao hi) (by simpa using hd2) ht
     have hno':(dsQ.any fun d=>d.dst == some t)=false:=by simpa using hno
     have e1:tm[t]? = some (a'.tmps.getD t ay):=by
      simp only [tm,List.getElem?_toArray,co,c9 hlt,af,hno',aE,if_false]
     have e2:tm.getD t ay=a'.tmps.getD t ay:=by rw [aj,e1];rfl
     exact e2.symm
    ·have hsz:a'.tmps.size=st.sl.length:=by have:=hr.1;simp at this;omega
     simp [tm,aj,hlt,show ¬ t<a'.tmps.size from by omega]

theorem codeP (TA:TAll P E T) (FO:FnsOk P F) {onp:Nat->DC} {Sl:List Nat} (hL:Leaves E onp) {n:Nat} (KC:∀ m,m<=n->CodeAt P T F (dC E m)) (K:∀ m,m<n->Known P E T F pt m) {N:Nat}:∀ m,m<=n->CodePAt P E T F pt onp Sl N m:=by
 intro m
 induction m using c7 with
 | _ m ih=>
 intro hmn c dc hcl B M D0 st st' ex ρ H a w l h hN S hs hdf hm hM Q hQ hQp
 cases hcl with
 | base hb hxb=>exact KC m hmn false c dc hb none (fun _=>rfl) B M D0 st st' ex ρ H a w l h S hs hdf hm hM Q (fun a' w' ok=>hQ a' w' ok (fun i e=>zsq hxb (e ▸ h)))
 | seq h1 h2=>
  cases m with
  | zero=>simp [dC] at h
  | succ m=>
  simp only [dC] at h
  refine iu ?_
  split at h
  ·rename_i st1 hx
   refine ih m (by omega) (by omega) _ _ h1 B M D0 st st1 .normal ρ H a w l hx hN S hs hdf hm hM _ (fun a1 w1 ok1 _=>?_) (fun v a1 w1 pk=>absurd rfl (pk.leaves hL).1)
   obtain ⟨ρ1,H1,l1,p1,hs1,hlen1,hd1,hm1⟩:=ok1
   exact ih m (by omega) (by omega) _ _ h2 B M D0 st1 st' ex ρ1 H1 a1 w1 l1 h (by rw [<- zp5 hx];exact hN) p1.sr hs1 hd1 hm1 (aD hM p1.size) Q (fun a2 w2 ok2 hxi=>hQ a2 w2 (ok2.after' p1 hlen1) hxi) (fun v a2 w2 pk=>hQp v a2 w2 (pk.after p1 hlen1))
  ·rename_i hne
   refine ih m (by omega) (by omega) _ _ h1 B M D0 st st' ex ρ H a w l h hN S hs hdf hm hM _ (fun a1 w1 ok1 hxi=>?_) (fun v a1 w1 pk=>?_)
   ·have q:=hQ a1 w1 ok1 hxi
    cases ex with
    | normal=>exact absurd h (hne st')
    | exit id=>exact q
    | ret=>exact q
   ·exact hQp v a1 w1 pk
 | cond hc h1 h2=>
  cases m with
  | zero=>simp [dC] at h
  | succ m=>
  simp only [dC] at h
  have hv:=z5 S.hb hs hc
  split at h
  ·rename_i hg
   rw [hg] at hv
   exact jz hv.boolv (ih m (by omega) (by omega) _ _ h1 B M D0 st st' ex ρ H a w l h hN S hs hdf hm hM Q hQ hQp)
  ·rename_i hg
   rw [hg] at hv
   exact jk hv.boolv (ih m (by omega) (by omega) _ _ h2 B M D0 st st' ex ρ H a w l h hN S hs hdf hm hM Q hQ hQp)
  ·simp at h
 | block hid h1=>
  rename_i id x x'
  cases m with
  | zero=>simp [dC] at h
  | succ m=>
  simp only [dC] at h
  refine kL ?_
  split at h
  ·rename_i id' st1 hx
   simp only [aa,ak] at h
   obtain ⟨h3,rfl⟩:=h
   refine ih m (by omega) (by omega) _ _ h1 B M D0 st st1 (.exit id') ρ H a w l hx hN S hs hdf hm hM _ (fun a1 w1 ok1 hxi=>?_) (fun v a1 w1 pk=>?_)
   rotate_left
   ·have h5:=(pk.leaves hL).2 id' rfl
    rw [if_neg (by omega)] at h3
    subst h3
    exact hQp v a1 w1 pk
   have hid':=hxi id' rfl
   have q:=hQ a1 w1 ok1 (fun i e=>by
    split at h3
    ·rw [<- h3] at e;cases e
    ·rw [<- h3] at e;cases e;exact hid')
   simp only [exOf,Exit.inBlock]
   split at h3
   ·rename_i e;rw [if_pos e];subst h3;exact q
   ·rename_i e;rw [if_neg e];subst h3;exact q
  ·rename_i hne
   refine ih m (by omega) (by omega) _ _ h1 B M D0 st st' ex ρ H a w l h hN S hs hdf hm hM _ (fun a1 w1 ok1 hxi=>?_) (fun v a1 w1 pk=>?_)
   ·have q:=hQ a1 w1 ok1 hxi
    cases ex with
    | normal=>exact q
    | exit id'=>exact absurd h (hne id' st')
    | ret=>exact q
   ·exact hQp v a1 w1 pk
 | loop h1=>
  cases m with
  | zero=>simp [dC] at h
  | succ m=>exact zh3 hL (fun j hj=>ih j (by omega) (by omega)) h1 h hN S hs hdf hm hM Q hQ hQp
 | pan hops h1 ho1 hd1 hg1 ho2 hg2 hx hmk ht hi=>exact zn0 TA FO (fun j hj=>K j (by omega)) hops h1 ho1 hd1 hg1 ho2 hg2 hx hmk ht h S hs hdf hm (by omega) Q hQp
 | drawn hmix hops h1 hdk hgp s1 s2 ht=>exact zi2 hmix TA FO (fun j hj=>K j (by omega)) hops h1 hdk hgp s1 s2 ht h hN S hs hdf hm Q hQ hQp
 | tried hmix h1 hdk hp hS hkN=>exact zga hmix TA FO (fun j hj=>K j (by omega)) h1 hdk hp hS hkN h hN S hs hdf hm Q hQ hQp
 | site hops h1 ho hf ha hd hg hmd hkN h2=>exact zja TA FO (fun j hj=>K j (by omega)) hops h1 ho hf ha hd hg hmd h2 h S hs hdf hm (by omega) Q hQ hQp

end
end Dv

namespace Dv
open Go (Value Program World Act Oper Operand Code Ending Exit)

structure FnM (P:Program) (T F:Phi) (pt:Nat × Nat) (f:Nat) (G:DFn):Prop where
 tie:∃ fn c,P.funcs[f]? = some fn/\fn.body=some c/\fn.ntmps=G.ntmps/\RvL T fn.results.toList G.results/\CLp P pt T F (fun k=>.exit (panX+k)) [] G.ntmps c G.body

def Hatch (P:Program) (E:Env) (T F:Phi) (pt:Nat × Nat) (f f':Nat):Prop:=
 ∀ n,(∀ m,m<=n->CodeAt P T F (dC E m))->(∀ m,m<n->Known P E T F pt m)->StatAt P (CLk T F true) F (runS E (dC E n) f') f

structure Tie (P:Program) (E:Env) (T F:Phi):Prop where
 types:TAll P E T
 mixed:P.follows .mixedOrders=true
 ok:FnsOk P F
 fns:∃ pt,∀ f f' G,F f=some f'->E.fn f'=some G->(E.mp f'=false/\(FnL P T F f G\/Hatch P E T F pt f f'))\/(E.mp f'=true/\FnM P T F pt f G)

section
variable {P:Program} {E:Env} {CL:CLink} {F:Phi} {T:Phi} {B M:Nat} {D0:List cX} {K:Nat->Prop} {ρ : Rho} {H:HS} {os:List Obj} {w:World} {a:Act} {sl:List D} {pt:Nat × Nat}

theorem zkj {r:Option Nat} {Q:Exit->Act->World->Prop} (ex:Ex) (h:Q (exOf ex) a w):(exCode ex).wpIn (Fw r) 0 P Q a w:=by
 cases ex with
 | normal=>exact jl h
 | exit id=>exact k7 h
 | ret=>exact lB h

theorem zgj (o:Go.Obj):(Go.newObj o).run P w=.ok w.heap.size { w with heap:=w.heap.push o }:=by
 simp [Go.newObj,dK]

theorem zgm (t:Tie P E T F) {n:Nat} (hK:Known P E T F pt n) {f:Operand} {f':Opd} {ps:Array Nat} {asg body:Code} {asg' body':DC} (hf:stripOpd F f=some f') (h1:CLk T F true asg asg') (h2:CLk T F true body body')
  {st st':St} {ex:Ex} {l:List Nat} (h:dC E (n+1) (.rfunc f' ps.toList asg' body') st=some (ex,st')) (S:SR (CLk T F true) F B ρ H w.heap st.hp) (hs:RepL F ρ H w.heap a.tmps.toList st.sl) (hd:a.defers=l.map mkMark++D0) (hm:Marks M w.heap l) (hM:M<=w.heap.size)
  (Q:Exit->Act->World->Prop) (hQ:∀ a' w',Ok (CLk T F true) F B M D0 ρ H w st.hp.length st' a' w'->Q (exOf ex) a' w'):(Code.rangeFunc f ps asg body).wpIn (Fw none) 0 P Q a w:=by
 refine Go.wpIn_rangeFunc fun fn _=>?_
 simp only [dC] at h
 split at h
 ·rename_i k caps hg0
  obtain ⟨hg,hmp⟩:=zkp hg0
  split at h
  ·rename_i dd hp' hrun
   -- the record is laid
   have hLo:∃ L:Go.Loop,L = { state:=.ready,pending:=none,fn:=fn,tmps:=a.tmps,params:=ps,assign:=asg,body:=body,defers:=w.heap.size }:=⟨_,rfl⟩
   obtain ⟨L,hL⟩:=hLo
   obtain ⟨w1,hw1⟩:∃ w1:World,w1 = { w with heap:=(w.heap.push (.deferred (some []))).push (.loop L) }:=⟨_,rfl⟩
   have e0:(jm fn a.tmps ps asg body none).run P w=.ok (w.heap.size+1,[mkMark w.heap.size]) w1:=by
    unfold jm
    simp only [au,zgj,aq,aM]
    rw [hw1,hL]
    simp [mkMark]
   have hw1h:w1.heap=(w.heap.push (.deferred (some []))).push (.loop L):=by rw [hw1]
   have hbl:w1.heap[w.heap.size+1]? = some (.loop L):=by rw [hw1h,show w.heap.size+1=(w.heap.push (.deferred (some []))).size from by simp];exact z4d _ _
   have hbd:w1.heap[w.heap.size]? = some (.deferred (some [])):=by rw [hw1h];simp [cm]
   have g:Grew H H w.heap w1.heap:=by
    have g1:=z57 H w.heap (.deferred (some []))
    have g2:=z57 H (w.heap.push (.deferred (some []))) (.loop L)
    rw [hw1h]
    exact ⟨aD g1.size g2.size,fun b hb=>(g2.old b (aH hb g1.size)).trans (g1.old b hb),fun _ _ h=>h,fun _ _ h=>.inl h⟩
   have hsz1:w1.heap.size=w.heap.size+2:=by rw [hw1h];simp
   have S1:=S.grew g
   have fr:=S1.free
   have hfz1:FzAt w.heap w1.heap:=by rw [hw1h];exact FzAt.trans (FzAt.push _ (by intro arr el fr h;cases h)) (FzAt.push _ (by intro arr el fr h;cases h))
   have hst1:Still w w1:=by rw [hw1];exact ⟨rfl,rfl,rfl,ar _⟩
   have p0:PostT (CLk T F true) F B (fun i=>i<st.hp.length) ρ H w ρ H w1 st.hp:=g.postT S hfz1 hst1
   have x2:=fr.ext (.blk (w.heap.size+1) 0) H w1.heap
   have S2:SR (CLk T F true) F B (upd ρ st.hp.length (.blk (w.heap.size+1) 0)) H w1.heap (st.hp++[.loop false st.sl ps.toList asg' body' none]):=by
    rw [<- zg6]
    refine S1.add fr (o:=.loop false st.sl ps.toList asg' body' none) (bk:=.blk (w.heap.size+1) 0) ?_ ?_ ?_ ?_
    ·refine ⟨_,_,rfl,L,hbl,?_,by rw [hL],by rw [hL];exact h1,by rw [hL];exact h2,by rw [hL];rfl,by rw [hL];rfl⟩
     rw [hL]
     exact (hs.mono (g.ext ρ S.hb)).mono x2
    ·intro b c e;simp at e;obtain ⟨rfl,rfl⟩:=e;have:=S.hB;omega
    ·intro b c e i o' c' ho hl r;simp at e;obtain ⟨rfl,rfl⟩:=e
     have:=(S.own i o' _ c' ho hl r).2;omega
    ·intro cs b c e;cases e
   have p1:PostT (CLk T F true) F B (fun i=>i<st.hp.length) ρ H w (upd ρ st.hp.length (.blk (w.heap.size+1) 0)) H w1 (st.hp++[.loop false st.sl ps.toList asg' body' none]):=
    ⟨(g.ext ρ S.hb).trans x2,S2,g.size,p0.frB,p0.frD,p0.hnew,fun i hi hn=>by
     simp only [upd];rw [if_neg (gn hi)];exact hn,hfz1,hst1,p0.frame,rbU (.inr (by omega)),p0.hn⟩
   -- the call
   have ef:=z5 S.hb hs hf
   rw [hg] at ef
   generalize hvf:a.eval f=vf at ef
   cases ef with
   | fn gf gf' cvs caps' hF hcs hcr=>
    have hargs:RepL F (upd ρ st.hp.length (.blk (w.heap.size+1) 0)) H w1.heap (#[Value.func (.yield (w.heap.size+1)) #[] #[]]++cvs).toList (.yld st.hp.length::caps):=by
     simp only [cn,bi,eg]
     refine .cons (.yld _ 0 _ (by simp [upd])) ?_
     exact ⟨by simpa using hcs,fun j v d hv hd=>(hcr j v d (by simpa using hv) hd).mono ((g.ext ρ S.hb).trans x2)⟩
    refine ⟨w.heap.size+1,[mkMark w.heap.size],w1,{ target:=.fn (.func gf) cvs,args:=#[] ++ #[Value.func (.yield (w.heap.size+1)) #[] #[]] },w1,gf,#[Value.func (.yield (w.heap.size+1)) #[] #[]]++cvs,w1,e0,?_,fun _ _=>trivial,?_,by simp [Fw,cf],?_⟩
    ·simp only [cM,hvf,a8]
     simp [Act.eval]
    ·simp [bP,z3r t.ok hF]
    ·refine (hK.plain gf k hF hmp none B _ H _ hp' w1 _ _ dd hrun S2 hargs).mono fun e w3 he=>?_
     cases e with
     | panicked c=>exact he.elim
     | outgrown=>exact he.elim
     | returned v=>
      obtain ⟨hlen3,ρ3,H3,p3,_⟩:=he
      have hr3 : ρ3 st.hp.length=some (.blk (w.heap.size+1) 0):=p3.ext.rho _ _ (by simp [upd])
      have p13:PostT (CLk T F true) F B (fun i=>i<st.hp.length) ρ H w ρ3 H3 w3 hp':=p1.trans (p3.weaken fun i hi=>by simp;omega)
      -- after the call
      have fin:∀ (slots:List D) (ps2:List Nat) (asg2 body2:DC) (pend:Option Ex),hp'[st.hp.length]? = some (.loop false slots ps2 asg2 body2 pend)->st'=⟨st.sl,hp'.set st.hp.length .dead⟩->ex=pend.getD .normal ->
        Go.rangePost (Fw none) 0 P (w.heap.size+1) Q { a with defers:=[mkMark w.heap.size]++a.defers } (.returned v) w3:=by
       intro slots ps2 asg2 body2 pend ho hst hex
       obtain ⟨L3,hb3,ht3,hps3,ha3,hb3',hst3,hpe3⟩:=zb1 p3.sr hr3 ho
       obtain ⟨w4,hw4⟩:∃ w4:World,w4 = { w3 with heap:=w3.heap.setIfInBounds (w.heap.size+1) (.loop { L3 with state:=.exhausted }) }:=⟨_,rfl⟩
       have hend:(jM (w.heap.size+1)).run P w3=.ok L3.pending w4:=by
        have hnb:(L3.state == qk)=false:=by rw [hst3];cases pend <;> rfl
        unfold jM
        simp only [au,z4b hb3,aq,hnb]
        rw [hw4]
        simp [ge,dK,hb3]
       have S4:=(p3.sr.kill st.hp.length).setFree (b:=w.heap.size+1) (o:=.loop { L3 with state:=.exhausted }) (by rw [hb3];intro a el fr h;cases h) (by intro a el fr h;cases h) (fun i o' c hi hl r=>by
        rw [List.getElem?_set] at hi
        split at hi
        ·split at hi
         ·simp at hi;subst hi;simp [Obj.live] at hl
         ·simp at hi
        ·rename_i hne
         exact hne (p3.sr.inj st.hp.length i _ o' (w.heap.size+1) 0 c ho rfl hi hl hr3 r))
       have other:∀ b,b ≠ w.heap.size+1->w4.heap[b]? = w3.heap[b]?:=fun b hb=>by rw [hw4];simp [bA,Ne.symm hb]
       have hheap4:w4.heap=w3.heap.setIfInBounds (w.heap.size+1) (.loop { L3 with state:=.exhausted }):=by rw [hw4]
       have p4:PostT (CLk T F true) F B (fun i=>i<st.hp.length) ρ H w ρ3 H3 w4 (hp'.set st.hp.length .dead):=by
        rw [<- hheap4] at S4
        refine ⟨p13.ext.trans S4.2,S4.1,by rw [hheap4];simpa using p13.size,fun b hb=>?_,fun b ds hdd=>?_,p13.hnew,p13.vac,p13.fz.trans ?_,p13.still.trans ?_,fun b hb ho=>by rw [other b (by omega)];exact p13.frame b hb ho,p13.rb,p13.hn⟩
        ·rw [other b (by have:=S.hB;omega)];exact p13.frB b hb
        ·rw [other b (by have:=z33 hdd;omega)];exact p13.frD b ds hdd
        ·exact FzAt.at (b:=w.heap.size+1) (o:=.loop { L3 with state:=.exhausted }) (by rw [hheap4,bA];simp [z33 hb3]) (by intro arr el fr h;cases h) other
        ·rw [hw4];exact ⟨rfl,rfl,rfl,ar _⟩
       refine ⟨L3.pending,w4,hend,?_⟩
       have ok:Ok (CLk T F true) F B M D0 ρ H w st.hp.length st' { a with defers:=[mkMark w.heap.size]++a.defers } w4:=by
        refine ⟨ρ3,H3,w.heap.size::l,by rw [hst];exact p4,by rw [hst];exact hs.mono p4.ext,by rw [hst];simp at hlen3 ⊢;omega,by simp [hd],⟨fd.2 ⟨fun hin=>?_,hm.nd⟩,fun r hr=>?_⟩⟩
        ·have:=z33 (hm.at_ _ hin).2;omega
        ·rcases aC.1 hr with rfl | hr
         ·refine ⟨hM,?_⟩
          rw [other _ (by omega)];exact p3.frD _ _ hbd
         ·have h0:=(hm.at_ r hr).2
          refine ⟨(hm.at_ r hr).1,?_⟩
          exact p4.frD r _ h0
       have q:=hQ _ _ ok
       rw [hpe3]
       cases pend with
       | none=>subst hex;exact q
       | some ex2=>
        have e2:ex=ex2:=hex
        rw [e2] at q
        exact zkj ex2 q
      split at h
      ·rename_i slots ps2 asg2 body2 ho
       simp at h
       exact fin _ _ _ _ none ho h.2.symm h.1.symm
      ·rename_i slots ps2 asg2 body2 ex2 ho
       simp at h
       exact fin _ _ _ _ (some ex2) ho h.2.symm h.1.symm
      ·simp at h
  ·simp at h
 ·simp at h

theorem zk5 {n:Nat} (hC:∀ m,m<=n->CodeAt P T F (dC E m)) {b:Bool} {x:Code} {x':DC} (h1:CLk T F b x x') {r:Option Nat} (hr:b=false->r=none)
  {st st':St} {ex:Ex} {l:List Nat} (h:dC E (n+1) (.loop x') st=some (ex,st')) (S:SR (CLk T F true) F B ρ H w.heap st.hp) (hs:RepL F ρ H w.heap a.tmps.toList st.sl) (hd:a.defers=l.map mkMark++D0) (hm:Marks M w.heap l) (hM:M<=w.heap.size)
  (Q:Exit->Act->World->Prop) (hQ:∀ a' w',Ok (CLk T F true) F B M D0 ρ H w st.hp.length st' a' w'->Q (exOf ex) a' w'):(Code.loop x).wpIn (Fw r) 0 P Q a w:=by
 -- what holds ahead of each round,with the fuel that is left
 classical
 let good:Nat->Act->World->Prop:=fun m a1 w1=>m<=n /\ ∃ st1,dC E (m+1) (.loop x') st1=some (ex,st')/\Ok (CLk T F true) F B M D0 ρ H w st.hp.length st1 a1 w1
 have start:good n a w:=⟨ar _,st,h,ρ,H,l,PostT.refl S,hs,ar _,hd,hm⟩
 refine kY (fun a1 w1=>∃ m,good m a1 w1) (fun a1 w1=>if hx:∃ m,good m a1 w1 then f4 (least (fun m=>good m a1 w1) hx) else 0) ⟨n,start⟩ (fun a1 w1 hx=>?_)
 have hmin:=dF (least (fun m=>good m a1 w1) hx)
 rw [dif_pos hx]
 generalize f4 (least (fun m=>good m a1 w1) hx)=m at hmin
 obtain ⟨⟨hmn,st1,hrun,ok1⟩,_⟩:=hmin
 obtain ⟨ρ1,H1,l1,p1,hs1,hlen1,hd1,hm1⟩:=ok1
 simp only [dC] at hrun
 split at hrun
 ·rename_i st2 hbody
  refine hC m hmn b x x' h1 r hr B M D0 st1 st2 .normal ρ1 H1 a1 w1 l1 hbody p1.sr hs1 hd1 hm1 (aD hM p1.size) _ (fun a2 w2 ok2=>?_)
  have ok:Ok (CLk T F true) F B M D0 ρ H w st.hp.length st2 a2 w2:=ok2.after' p1 hlen1
  cases m with
  | zero=>simp [dC] at hrun
  | succ m=>
   have gm:good m a2 w2:=⟨by omega,st2,hrun,ok⟩
   refine ⟨⟨m,gm⟩,?_⟩
   rw [dif_pos ⟨m,gm⟩]
   have:=(dF (least (fun m=>good m a2 w2) ⟨m,gm⟩)).2 m gm
   omega
 ·rename_i hne
  refine hC m hmn b x x' h1 r hr B M D0 st1 st' ex ρ1 H1 a1 w1 l1 hrun p1.sr hs1 hd1 hm1 (aD hM p1.size) _ (fun a2 w2 ok2=>?_)
  have q:=hQ a2 w2 (ok2.after' p1 hlen1)
  cases ex with
  | normal=>exact absurd hrun (hne st')
  | exit id=>exact q
  | ret=>exact q

theorem zlh (t:Tie P E T F) {n:Nat} (K:∀ m,m<n->Known P E T F pt m):CodeAt P T F (dC E n):=by
 cases n with
 | zero=>intro b c dc _ r _ B M D0 st st' ex ρ H a w l h;simp [dC] at h
 | succ n=>
 have hK:=K n (by omega)
 have hC:=hK.code
 have hP:=hK.pure
 have hS:=hK.stat
 have hY:=hK.yld
 intro b c dc hcl r hr B M D0 st st' ex ρ H a w l h S hs hd hm hM Q hQ
 cases hcl with
 | skip=>
  simp [dC] at h;obtain ⟨rfl,rfl⟩:=h
  exact jl (hQ a w ⟨ρ,H,l,PostT.refl S,hs,ar _,hd,hm⟩)
 | ret=>
  simp [dC] at h;obtain ⟨rfl,rfl⟩:=h
  exact lB (hQ a w ⟨ρ,H,l,PostT.refl S,hs,ar _,hd,hm⟩)
 | exit=>
  simp [dC] at h;obtain ⟨rfl,rfl⟩:=h
  exact k7 (hQ a w ⟨ρ,H,l,PostT.refl S,hs,ar _,hd,hm⟩)
 | seq h1 h2=>
  simp only [dC] at h
  refine iu ?_
  split at h
  ·rename_i st1 hx
   refine hC _ _ _ h1 r hr B M D0 st st1 .normal ρ H a w l hx S hs hd hm hM _ (fun a1 w1 ok1=>?_)
   obtain ⟨ρ1,H1,l1,p1,hs1,hlen1,hd1,hm1⟩:=ok1
   refine hC _ _ _ h2 r hr B M D0 st1 st' ex ρ1 H1 a1 w1 l1 h p1.sr hs1 hd1 hm1 (aD hM p1.size) Q (fun a2 w2 ok2=>hQ a2 w2 (ok2.after' p1 hlen1))
  ·rename_i hne
   refine hC _ _ _ h1 r hr B M D0 st st' ex ρ H a w l h S hs hd hm hM _ (fun a1 w1 ok1=>?_)
   have q:=hQ a1 w1 ok1
   cases ex with
   | normal=>exact absurd h (hne st')
   | exit id=>exact q
   | ret=>exact q
 | cond hc h1 h2=>
  simp only [dC] at h
  have hv:=z5 S.hb hs hc
  split at h
  ·rename_i hg
   rw [hg] at hv
   exact jz hv.boolv (hC _ _ _ h1 r hr B M D0 st st' ex ρ H a w l h S hs hd hm hM Q hQ)
  ·rename_i hg
   rw [hg] at hv
   exact jk hv.boolv (hC _ _ _ h2 r hr B M D0 st st' ex ρ H a w l h S hs hd hm hM Q hQ)
  ·simp at h
 | block h1=>
  rename_i id x x'
  simp only [dC] at h
  refine kL ?_
  split at h
  ·rename_i id' st1 hx
   simp only [aa,ak] at h
   obtain ⟨h3,rfl⟩:=h
   refine hC _ _ _ h1 r hr B M D0 st st1 (.exit id') ρ H a w l hx S hs hd hm hM _ (fun a1 w1 ok1=>?_)
   have q:=hQ a1 w1 ok1
   simp only [exOf,Exit.inBlock]
   split at h3
   ·rename_i e;rw [if_pos e];subst h3;exact q
   ·rename_i e;rw [if_neg e];subst h3;exact q
  ·rename_i hne
   refine hC _ _ _ h1 r hr B M D0 st st' ex ρ H a w l h S hs hd hm hM _ (fun a1 w1 ok1=>?_)
   have q:=hQ a1 w1 ok1
   cases ex with
   | normal=>exact q
   | exit id'=>exact absurd h (hne id' st')
   | ret=>exact q
 | dead=>simp [dC,getO] at h
 | loop h1=>exact zk5 (fun m hmn=>(K m (by omega)).code) h1 hr h S hs hd hm hM Q hQ
 | rfunc hf h1 h2=>
  obtain rfl:=hr rfl
  exact zgm t hK hf h1 h2 h S hs hd hm hM Q hQ
 | region hl=>
  rename_i id ops ap ds
  simp only [dC,ab,ak] at h
  obtain ⟨st1,h1,rfl,rfl⟩:=h
  refine eJ ?_
  have:=zav t.types t.ok hP hS hY (r:=r) (Q:=Q) ds 0 (by simpa using hl) h1 S hs (fun a' w' ρ' H' p hs' hlen hdf=>hQ a' w' ⟨ρ',H',l,p,hs',hlen,hdf.trans hd,hm.mono p.frD⟩)
  have hsz:ops.size=ds.length:=by simpa using hl.len
  rw [eC,hsz]
  exact this
 | asg A e=>
  rename_i id ops ap ds pre q iL iB
  simp only [dC,ab,ak] at h
  obtain ⟨st1,h1,rfl,rfl⟩:=h
  rw [e] at h1
  exact zos t.mixed t.types t.ok hP hS hY A h1 S hs (fun a' w' ρ' H' p hs' hlen hdf=>hQ a' w' ⟨ρ',H',l,p,hs',hlen,hdf.trans hd,hm.mono p.frD⟩)
 | draw hl hdo=>
  rename_i id ops ap ds
  simp only [dC,if_true,ab,ak] at h
  obtain ⟨st1,h1,rfl,rfl⟩:=h
  exact zd2 t.mixed t.types t.ok hP hS hY hl hdo h1 S hs (fun a' w' ρ' H' p hs' hlen hdf=>hQ a' w' ⟨ρ',H',l,p,hs',hlen,hdf.trans hd,hm.mono p.frD⟩)

theorem z7k {fn:dD} {tmps:Array Value} {r:Option Nat} {R:Ending->World->Prop} {chain}:∀ (l:List Nat) (w:World),
  (∀ x,x ∈ l->w.heap[x]? = some (.deferred (some [])))->l.Nodup ->
  (∀ w',(w'.heap=l.foldl (fun hp x=>hp.setIfInBounds x (.deferred none)) w.heap/\Still w w')->R (.panicked chain) w') ->
  dp (Fw r) 0 P fn tmps R (l.map mkMark) (.panicking chain) w
 | [],w,_,_,h=>h w ⟨rfl,Still.refl _⟩
 | x::l,w,hm,hnd,h=>by
  have hx:=hm x (by simp)
  obtain ⟨hnx,hnd⟩:=fd.1 hnd
  refine ⟨fun e=>(by cases e),.inl ⟨x,{ w with heap:=w.heap.setIfInBounds x (.deferred none) },rfl,?_,?_⟩⟩
  ·unfold gg
   simp [Go.getObj,ge,dK,hx]
  ·refine z7k l _ (fun y hy=>?_) hnd (fun w' he=>h w' ⟨he.1,he.2.os,he.2.tape,he.2.out,he.2.dr⟩)
   have:x ≠ y:=fun e=>hnx (by rw [e];exact hy)
   simp only [bQ this]
   exact hm y (by simp [hy])

theorem ze1:Leaves E (fun k=>.exit (panX+k)):=by
 intro k j st ex st' h
 cases j with
 | zero=>simp [dC] at h
 | succ j=>
  simp only [dC,aa,ak] at h
  rw [<- h.1]
  exact ⟨by simp,fun i e=>by cases e;omega⟩

theorem z8b {fn:dD} {G:DFn} {vals:Array Value} {ds:List D} (hnt:fn.ntmps=G.ntmps) (hr:RepL F ρ H w.heap vals.toList ds):RepL F ρ H w.heap (vals++ct (fn.ntmps - vals.size) ay).toList (startF G ds os).sl:=by
 simp only [startF,cn,Array.toList_replicate]
 have:vals.size=ds.length:=by simpa using hr.1
 rw [this,hnt]
 exact hr.append ⟨by simp,fun j v d hv hd=>by
  rw [c5] at hv hd
  split at hv
  ·rename_i hj
   rw [if_pos hj] at hd
   simp at hv hd;subst hv;subst hd;exact .u0
  ·simp at hv⟩

theorem zmq (TA:TAll P E T) (FO:FnsOk P F) {n f:Nat} {G:DFn} (KC:∀ m,m<=n->CodeAt P T F (dC E m)) (K:∀ m,m<n->Known P E T F pt m) (hf:FnM P T F pt f G) :
  StatMAt P (CLk T F true) F pt (fun ds os=>finishM E G (dC E n G.body (startF G ds os))) f:=by
 obtain ⟨fn,c,hfn,hb,hnt,hres,hcl⟩:=hf.tie
 intro r B ρ H os os' w vals ds d h S hr
 simp only at h
 have h0:ez (Fw none) 0 P f vals w (StatMR (CLk T F true) F pt B ρ H os w d os'):=by
  refine fV hfn hb trivial ?_
  have slots:=z8b (os:=os) hnt hr
  cases hrun:dC E n G.body (startF G ds os) with
  | none=>rw [hrun] at h;simp [finishM] at h
  | some x=>
  obtain ⟨ex,st'⟩:=x
  rw [hrun] at h
  have hlen:G.ntmps<=(startF G ds os).sl.length:=by simp [startF];omega
  refine codeP TA FO ze1 KC K n (ar _) c G.body hcl B w.heap.size [] (startF G ds os) st' ex ρ H _ w [] hrun hlen S slots rfl ⟨.nil,fun r h=>by cases h⟩ (ar _) _ (fun a' w' ok hxi=>?_) (fun v a' w' pk=>?_)
  ·obtain ⟨ρ',H',l,p,hs',hlen,hdf,hm⟩:=ok
   have goal:noMark ((resD E st' G.results).map fun l=>(oneRes l,st'.hp))=some (d,os')->dp (Fw none) 0 P fn a'.tmps (StatMR (CLk T F true) F pt B ρ H os w d os') a'.defers .returning w':=by
    intro hh
    obtain ⟨h1,hmk⟩:=zm hh
    simp only [ab,ak] at h1
    obtain ⟨rl,h1,rfl,rfl⟩:=h1
    rw [hdf,aS]
    refine z5x l w' (fun x hx=>(hm.at_ x hx).2) hm.nd (fun w2 he=>?_)
    obtain ⟨u1,u2,u3,u4,u5⟩:=unmark p.sr l w'.heap p.sr (fun x hx=>(hm.at_ x hx).2) hm.nd
    obtain ⟨he,hst2⟩:=he
    rw [<- he] at u1 u2 u3 u4 u5
    obtain ⟨v,h2,h3⟩:=z4c TA u1 (hs'.mono u2) hres h1
    refine ⟨v,h2,hmk,hlen,ρ',H',⟨p.ext.trans u2,u1,by rw [u3];exact p.size,fun b hb=>?_,fun b ds' hd=>?_,p.hnew,p.vac,p.fz.trans u5,p.still.trans hst2,fun b hb ho=>by rw [u4 b (fun hbl=>by have:=(hm.at_ b hbl).1;omega)];exact p.frame b hb ho,p.rb,p.hn⟩,h3⟩
    ·rw [u4 b (fun hbl=>by have:=(hm.at_ b hbl).1;have:=S.hB;omega)]
     exact p.frB b hb
    ·rw [u4 b (fun hbl=>by have:=(hm.at_ b hbl).1;have:=z33 hd;omega)]
     exact p.frD b ds' hd
   cases ex with
   | normal=>exact goal h
   | ret=>exact goal h
   | exit i=>
    have:=hxi i rfl
    simp only [finishM] at h
    rw [if_neg (by omega)] at h
    cases h
  ·obtain ⟨j,k,sl0,mk,hp,e,h1,h2,h3,h4,h5,a0,ok,hdf0,_⟩:=pk
   obtain ⟨ρ',H',l,p,hs',hlen,hdf,hm⟩:=ok
   have hx:ex=.exit (panX+k)/\st'=⟨sl0.set k mk,hp⟩:=by
    cases j with
    | zero=>simp [dC] at h1
    | succ j=>
     simp only [dC,aa,ak] at h1
     exact ⟨h1.1.symm,h1.2.symm⟩
   obtain ⟨rfl,rfl⟩:=hx
   have hg:(sl0.set k mk).getD k .undef=mk:=by rw [am,ba h2,bD]
   simp only [finishM,dR,hg,h3,and_true,Nat.le_add_right,if_true,aa,ak] at h
   obtain ⟨rfl,rfl⟩:=h
   show dp (Fw none) 0 P fn a'.tmps _ a'.defers (.panicking _) w'
   rw [hdf0,hdf,aS]
   refine z7k l w' (fun x hx=>(hm.at_ x hx).2) hm.nd (fun w2 he=>?_)
   obtain ⟨u1,u2,u3,u4,u5⟩:=unmark p.sr l w'.heap p.sr (fun x hx=>(hm.at_ x hx).2) hm.nd
   obtain ⟨he,hst2⟩:=he
   rw [<- he] at u1 u2 u3 u4 u5
   refine ⟨h3,⟨e,v,h4,h5,rfl⟩,hlen,ρ',H',⟨p.ext.trans u2,u1,by rw [u3];exact p.size,fun b hb=>?_,fun b ds' hd=>?_,p.hnew,p.vac,p.fz.trans u5,p.still.trans hst2,fun b hb ho=>by rw [u4 b (fun hbl=>by have:=(hm.at_ b hbl).1;omega)];exact p.frame b hb ho,p.rb,p.hn⟩⟩
   ·rw [u4 b (fun hbl=>by have:=(hm.at_ b hbl).1;have:=S.hB;omega)]
    exact p.frB b hb
   ·rw [u4 b (fun hbl=>by have:=(hm.at_ b hbl).1;have:=z33 hd;omega)]
    exact p.frD b ds' hd
 exact h0

theorem zkg (t:Tie P E T F):∃ pt,∀ n,Known P E T F pt n:=by
 obtain ⟨pt,hfns⟩:=t.fns
 refine ⟨pt,fun n=>?_⟩
 induction n using c7 with
 | _ n K=>
 have hC:=zlh t K
 have KC:∀ m,m<=n->CodeAt P T F (dC E m):=fun m hm=>by
  rcases Nat.lt_or_eq_of_le hm with h | rfl
  ·exact (K m h).code
  ·exact hC
 have plain:∀ f f',F f=some f'->E.mp f'=false->StatAt P (CLk T F true) F (runS E (dC E n) f') f:=by
  intro f f' hf hmp
  cases hG:E.fn f' with
  | none=>
   intro r B ρ H os os' w vals ds d h
   simp [runS,hG] at h
  | some G=>
   rcases hfns f f' G hf hG with ⟨_,h1 | h1⟩ | ⟨h1,_⟩
   ·have:=zc7 t.types hC h1
    intro r B ρ H os os' w vals ds d h
    refine this r B ρ H os os' w vals ds d ?_
    simpa [runS,hG,hmp,finishQ] using h
   ·exact h1 n KC K
   ·rw [hmp] at h1;cases h1
 have mark:∀ f f',F f=some f'->E.mp f'=true->StatMAt P (CLk T F true) F pt (runS E (dC E n) f') f:=by
  intro f f' hf hmp
  cases hG:E.fn f' with
  | none=>
   intro r B ρ H os os' w vals ds d h
   simp [runS,hG] at h
  | some G=>
   rcases hfns f f' G hf hG with ⟨h1,_⟩ | ⟨_,h1⟩
   ·rw [hmp] at h1;cases h1
   ·have:=zmq t.types t.ok KC K h1
    intro r B ρ H os os' w vals ds d h
    refine this r B ρ H os os' w vals ds d ?_
    simpa [runS,hG,hmp,finishQ] using h
 have stat:∀ f f',F f=some f'->StatAt P (CLk T F true) F (fun ds os=>noMark (runS E (dC E n) f' ds os)) f:=fun f f' hf=>by
  cases hmp:E.mp f' with
  | true=>exact (mark f f' hf hmp).stat
  | false=>exact (plain f f' hf hmp).filter
 exact ⟨hC,fun f f' hf=>PureAt.of_filter (E.keep f') (stat f f' hf),stat,plain,zaf hC,mark⟩

theorem zgs (t:Tie P E T F) (n:Nat) {f f':Nat} (hf:F f=some f'):PureAt P F (runP E (dC E n) f') f:=by
 obtain ⟨pt,h⟩:=zkg t
 exact (h n).pure f f' hf

end
end Dv

namespace Dv
open Go (Value Program World Act Oper Operand Code)

def ktF (P:Program) (rec:Nat->Option (List D)):Nat->List eh->Option (List D)
 | _,[]=>some []
 | off,f::fs=>
  if f.offset=off/\(f.name != "_")=true then
   (match rec f.type with
   | some ks=>if ks.length=P.cellsOf f.type then (ktF P rec (off+ks.length) fs).map (ks ++ ·) else none
   | none=>none)
  else none

def kt (P:Program):Nat->Nat->Option (List D)
 | 0,_=>none
 | n+1,t=>
  match P.underlying t with
  | some .bool=>some [.bool false]
  | some (.int q)=>some [.int q 0]
  | some .string=>some [.str []]
  | some (.struct fs)=>if P.stoodInHeld t then none else ktF P (kt P n) 0 fs.toList
  | some (.array m e)=>(match kt P n e with
   | some ks=>if ks.length=P.cellsOf e then some (ae m ks).flatten else none
   | none=>none)
  | _=>none

def vo (P:Program) (t:Nat) (xs:List Value):Value:=
 match P.underlying t with
 | some (.struct _)=>.agg xs.toArray
 | some (.array _ _)=>.agg xs.toArray
 | _=>xs.headD ay

section
variable {P:Program} {E:Env} {τ : Phi}

theorem z3k:∀ {xs:List Value} {zs:List D},klB xs zs=true->xs.length=zs.length
 | [],[],_=>rfl
 | [],_::_,h=>by simp [klB] at h
 | x::xs,[],h=>by cases x <;> simp [klB] at h
 | x::xs,z::zs,h=>by
  cases x <;> cases z <;> simp [klB] at h
  ·simp [z3k h]
  ·simp [z3k h.2]
  ·simp [z3k h]

theorem z3j:∀ {k1 k2:List D} {xs:List Value},klB xs (k1++k2)=true->klB (xs.take k1.length) k1=true/\klB (xs.drop k1.length) k2=true
 | [],k2,xs,h=>by simpa [klB] using h
 | z::k1,k2,[],h=>by cases z <;> simp [klB] at h
 | z::k1,k2,x::xs,h=>by
  cases x <;> cases z <;> simp [klB] at h
  ·have:=z3j h;simpa [klB] using this
  ·have:=z3j h.2;simpa [klB,h.1] using this
  ·have:=z3j h;simpa [klB] using this

theorem z55:∀ {xs:List Value} {ks zs:List D},klB xs zs=true->kindsL ks zs=true->klB xs ks=true
 | [],[],[],_,_=>rfl
 | [],_,_::_,h,_=>by simp [klB] at h
 | x::xs,_,[],h,_=>by cases x <;> simp [klB] at h
 | [],k::ks,[],_,h=>by cases k <;> simp [kindsL] at h
 | x::xs,[],z::zs,_,h=>by cases z <;> simp [kindsL] at h
 | x::xs,k::ks,z::zs,h,h'=>by
  cases x <;> cases z <;> simp [klB] at h <;> cases k <;> simp [kindsL] at h'
  ·simpa [klB] using z55 h h'
  ·simp [klB,h.1,h'.1];exact z55 h.2 h'.2
  ·simpa [klB] using z55 h h'

theorem z54:∀ {xs ys:List Value} {ks:List D} {r:Bool},klB xs ks=true->veqL xs ys=some r->klB ys ks=true
 | [],[],ks,_,h,_=>h
 | [],_::_,_,_,_,h=>by simp [veqL] at h
 | _::_,[],_,_,_,h=>by simp [veqL] at h
 | x::xs,y::ys,[],_,h,_=>by cases x <;> simp [klB] at h
 | x::xs,y::ys,k::ks,r,h,h'=>by
  simp only [veqL] at h'
  cases e1:veq x y with
  | none=>simp [e1] at h'
  | some p=>cases e2:veqL xs ys with
   | none=>simp [e1,e2] at h'
   | some q=>
    cases x <;> cases k <;> simp [klB] at h <;> cases y <;> simp [veq] at e1
    ·simpa [klB] using z54 h e2
    ·simp [klB,<- e1.1,h.1];exact z54 h.2 e2
    ·simpa [klB] using z54 h e2

theorem z6n:∀ (n:Nat) {xs ys:List Value} {r:Bool},veqL xs ys=some r->∃ r1 r2,veqL (xs.take n) (ys.take n)=some r1/\veqL (xs.drop n) (ys.drop n)=some r2/\r=(r1 && r2)
 | 0,xs,ys,r,h=>⟨true,r,by simp [veqL],by simpa using h,by simp⟩
 | n+1,[],[],r,h=>⟨true,true,by simp [veqL],by simp [veqL],by simp [veqL] at h;simp [h]⟩
 | n+1,[],_::_,r,h=>by simp [veqL] at h
 | n+1,_::_,[],r,h=>by simp [veqL] at h
 | n+1,x::xs,y::ys,r,h=>by
  simp only [veqL] at h
  cases e1:veq x y with
  | none=>simp [e1] at h
  | some p=>cases e2:veqL xs ys with
   | none=>simp [e1,e2] at h
   | some q=>
    simp [e1,e2] at h
    obtain ⟨r1,r2,h1,h2,h3⟩:=z6n n e2
    refine ⟨p && r1,r2,?_,?_,?_⟩
    ·simp only [List.take_succ_cons,veqL,e1,h1]
    ·simpa using h2
    ·rw [<- h,h3,Bool.and_assoc]

theorem zb2 {xs:List Value} {b:Bool} (h:klB xs [.bool b]=true):∃ a,xs=[.bool a]:=by
 match xs with
 | []=>simp [klB] at h
 | x::xs=>
  cases x <;> simp [klB] at h
  have:=z3k h;simp at this;subst this;exact ⟨_,rfl⟩

theorem ze3 {xs:List Value} {k:a6} {n:Int} (h:klB xs [.int k n]=true):∃ a,xs=[.int k a]:=by
 match xs with
 | []=>simp [klB] at h
 | x::xs=>
  cases x <;> simp [klB] at h
  have:=z3k h.2;simp at this;subst this;exact ⟨_,by rw [h.1]⟩

theorem ze2 {xs:List Value} {b:List UInt8} (h:klB xs [.str b]=true):∃ a,xs=[.string a]:=by
 match xs with
 | []=>simp [klB] at h
 | x::xs=>
  cases x <;> simp [klB] at h
  have:=z3k h;simp at this;subst this;exact ⟨_,rfl⟩

theorem zkf {n t:Nat} {ks:List D} (h:kt P n t=some ks):∃ u,P.underlying t=some u:=by
 cases n with
 | zero=>simp [kt] at h
 | succ n=>
  cases hu:P.underlying t with
  | none=>simp [kt,hu] at h
  | some u=>exact ⟨u,rfl⟩

theorem z2f (w:World) {n e off:Nat} {ks:List D} {xs:List Value} (h:kt P n e=some ks) (hl:ks.length=P.cellsOf e) (hk:klB ((xs.drop off).take (P.cellsOf e)) ks=true) :
  (gB e xs.toArray off).run P w=.ok (vo P e ((xs.drop off).take (P.cellsOf e))) w:=by
 cases n with
 | zero=>simp [kt] at h
 | succ n=>
  have plain:P.plainKey e=true->ks.length=1->(∀ l,vo P e l=l.headD ay)->(gB e xs.toArray off).run P w=.ok (vo P e ((xs.drop off).take (P.cellsOf e))) w:=by
   intro hp h1 hv
   have h2:=z3k hk
   rw [h1] at h2 hl
   rw [<- hl] at h2 ⊢
   cases hx:xs.drop off with
   | nil=>rw [hx] at h2;simp at h2
   | cons v r=>
    have hv':xs[off]? = some v:=by
     have:=congrArg (fun l:List Value=>l[0]?) hx
     simpa using this
    rw [Go.run_part_plain w hp (by simpa using hv'),hv]
    simp
  unfold kt at h
  split at h
  ·rename_i hu;simp at h;subst h;exact plain (by simp [Program.plainKey,hu]) rfl (fun l=>by simp [vo,hu])
  ·rename_i hu;simp at h;subst h;exact plain (by simp [Program.plainKey,hu]) rfl (fun l=>by simp [vo,hu])
  ·rename_i hu;simp at h;subst h;exact plain (by simp [Program.plainKey,hu]) rfl (fun l=>by simp [vo,hu])
  ·rename_i fs hu
   obtain ⟨i,hi⟩:=fj hu
   simp [gB,Go.isAgg,cA hu,iV w hi,vo,hu,k8]
  ·rename_i m e' hu
   obtain ⟨i,hi⟩:=fj hu
   simp [gB,Go.isAgg,cA hu,iV w hi,vo,hu,k8]
  ·simp at h

theorem zql:∀ (n t:Nat) {ks:List D},kt P n t=some ks->∀ (w:World) (d:Nat) (xs ys:List Value) (r:Bool),klB xs ks=true->veqL xs ys=some r->(fx (d+n) t (vo P t xs) (vo P t ys)).run P w=.ok r w
 | 0,t,ks,h=>by simp [kt] at h
 | n+1,t,ks,h=>by
  intro w d xs ys r hk hv
  have hk':=z54 hk hv
  unfold kt at h
  split at h
  ·rename_i hu;simp at h;subst h
   obtain ⟨a,rfl⟩:=zb2 hk
   obtain ⟨b,rfl⟩:=zb2 hk'
   simp [veqL,veq] at hv;subst hv
   simp only [vo,hu,il]
   exact Go.run_equalIn_bool' w (d+n) t a b hu
  ·rename_i q hu;simp at h;subst h
   obtain ⟨a,rfl⟩:=ze3 hk
   obtain ⟨b,rfl⟩:=ze3 hk'
   simp [veqL,veq] at hv;subst hv
   simp only [vo,hu,il]
   exact Go.run_equalIn_int w (d+n) t q q a b hu
  ·rename_i hu;simp at h;subst h
   obtain ⟨a,rfl⟩:=ze2 hk
   obtain ⟨b,rfl⟩:=ze2 hk'
   simp only [veqL,veq,aa,Bool.and_true] at hv;subst hv
   have:=Go.run_equalIn_string w (d+n) t a b hu
   simp only [vo,hu,il]
   rw [show d+(n+1)=d+n+1 from rfl,this,<- Go.beq_toListBytes]
   obtain ⟨⟨x⟩⟩:=a
   obtain ⟨⟨y⟩⟩:=b
   show k9 ((⟨x⟩:Array UInt8) == ⟨y⟩) w=k9 (x == y) w
   simp
  ·rename_i fs hu
   split at h
   ·simp at h
   ·rename_i hst
    have hst:P.stoodInHeld t=false:=by simpa using hst
    have hfs:P.fieldsOf t=fs:=by simp [Program.fieldsOf,hu]
    simp only [vo,hu]
    rw [show d+(n+1)=(d+n)+1 from rfl,Go.run_equalIn_struct w (d+n) t xs.toArray ys.toArray (by rw [hfs];exact hu) hst,hfs]
    have go:∀ (l:List eh) (off:Nat) (ks:List D) (r:Bool),ktF P (kt P n) off l=some ks->klB (xs.drop off) ks=true->veqL (xs.drop off) (ys.drop off)=some r ->
      (iI (d+n) xs.toArray ys.toArray l).run P w=.ok r w:=by
     intro l
     induction l with
     | nil=>
      intro off ks r hf hk hv
      simp [ktF] at hf;subst hf
      have hk2:=z54 hk hv
      have e1:=z3k hk
      have e2:=z3k hk2
      rw [bK.1 e1,bK.1 e2] at hv
      simp [veqL] at hv;subst hv
      simp [iI]
     | cons f l ih=>
      intro off ks r hf hk hv
      simp only [ktF] at hf
      split at hf
      ·rename_i hc
       obtain ⟨hoff,hname⟩:=hc
       split at hf
       ·rename_i k1 hk1
        split at hf
        ·rename_i hl1
         simp only [ab] at hf
         obtain ⟨k2,hf2,rfl⟩:=hf
         obtain ⟨c1,c2⟩:=z3j hk
         obtain ⟨r1,r2,v1,v2,v3⟩:=z6n k1.length hv
         have c1':=z54 c1 v1
         rw [ce] at c2 v2
         rw [ce] at v2
         have hn:f.name ≠ "_":=by simpa using hname
         rw [hl1] at c1 c1' v1
         have p1:=z2f (P:=P) w (xs:=xs) (off:=off) hk1 hl1 c1
         have p2:=z2f (P:=P) w (xs:=ys) (off:=off) hk1 hl1 c1'
         have p3:=zql n f.type hk1 w d _ _ r1 c1 v1
         have p4:=ih (off+k1.length) k2 r2 hf2 (by simpa [eQ] using c2) (by simpa [eQ] using v2)
         simp only [iI,hn,ne_eq,not_false_eq_true,if_true,au,hoff,p1,p2,p3,aq]
         cases r1
         ·simp [v3]
         ·simp [p4,v3]
        ·simp at hf
       ·simp at hf
      ·simp at hf
    exact go fs.toList 0 ks r h (by simpa using hk) (by simpa using hv)
  ·rename_i m e hu
   split at h
   ·rename_i k1 hk1
    split at h
    ·rename_i hl1
     simp at h;subst h
     obtain ⟨u,hue⟩:=zkf hk1
     obtain ⟨i,hi⟩:=fj hue
     simp only [vo,hu]
     rw [show d+(n+1)=(d+n)+1 from rfl,Go.run_equalIn_array w (d+n) xs.toArray ys.toArray hu hi,eC]
     have go:∀ (m off:Nat) (r:Bool),klB (xs.drop (off*P.cellsOf e)) (ae m k1).flatten=true->veqL (xs.drop (off*P.cellsOf e)) (ys.drop (off*P.cellsOf e))=some r ->
       (iW (d+n) e (P.cellsOf e) xs.toArray ys.toArray (dH off m)).run P w=.ok r w:=by
      intro m
      induction m with
      | zero=>
       intro off r hk hv
       have hk2:=z54 hk hv
       have e1:=z3k hk
       have e2:=z3k hk2
       simp only [List.replicate_zero,List.flatten_nil,fF] at e1 e2
       rw [bK.1 e1,bK.1 e2] at hv
       simp [veqL] at hv;subst hv
       simp [iW]
      | succ m ih=>
       intro off r hk hv
       rw [gw,jA] at hk
       obtain ⟨c1,c2⟩:=z3j hk
       obtain ⟨r1,r2,v1,v2,v3⟩:=z6n k1.length hv
       have c1':=z54 c1 v1
       rw [ce] at c2 v2
       rw [ce] at v2
       rw [hl1] at c1 c1' v1 c2 v2
       have p1:=z2f (P:=P) w (xs:=xs) (off:=off*P.cellsOf e) hk1 hl1 c1
       have p2:=z2f (P:=P) w (xs:=ys) (off:=off*P.cellsOf e) hk1 hl1 c1'
       have p3:=zql n e hk1 w d _ _ r1 c1 v1
       have e3:(off+1)*P.cellsOf e=off*P.cellsOf e+P.cellsOf e:=jd _ _
       have p4:=ih (off+1) r2 (by rw [e3];exact c2) (by rw [e3];exact v2)
       rw [fu]
       simp only [iW,au,p1,p2,p3,aq]
       cases r1
       ·simp [v3]
       ·simp [p4,v3]
     exact go m 0 r (by simpa using hk) (by simpa using hv)
    ·simp at h
   ·simp at h
  ·simp at h

theorem zkh:∀ (n t:Nat) {ks:List D},kt P n t=some ks->∀ (w:World) (em:Bool) (d:Nat) (xs:List Value),klB xs ks=true->(cy em (d+n) t (vo P t xs)).run P w=.ok () w
 | 0,t,ks,h=>by simp [kt] at h
 | n+1,t,ks,h=>by
  intro w em d xs hk
  unfold kt at h
  rw [show d+(n+1)=(d+n)+1 from rfl,cy]
  split at h
  ·rename_i hu;simp at h;subst h
   obtain ⟨a,rfl⟩:=zb2 hk
   simp [vo,hu,cA hu]
  ·rename_i q hu;simp at h;subst h
   obtain ⟨a,rfl⟩:=ze3 hk
   simp [vo,hu,cA hu]
  ·rename_i hu;simp at h;subst h
   obtain ⟨a,rfl⟩:=ze2 hk
   simp [vo,hu,cA hu]
  ·rename_i fs hu
   split at h
   ·simp at h
   ·simp only [vo,hu,au,cA hu,aq]
    rw [<- Array.forIn_toList]
    have go:∀ (l:List eh) (off:Nat) (ks:List D),ktF P (kt P n) off l=some ks->klB (xs.drop off) ks=true ->
      (forIn l fP fun (f:eh) (_:PUnit)=>(do
       if f.name ≠ "_" then do
        let a <- gB f.type xs.toArray f.offset
        cy em (d+n) f.type a
        pure (im fP)
       else pure (im fP):Go.Sem (ForInStep PUnit))).run P w=.ok fP w:=by
     intro l
     induction l with
     | nil=>intro off ks hf hk;simp
     | cons f l ih=>
      intro off ks hf hk
      simp only [ktF] at hf
      split at hf
      ·rename_i hc
       obtain ⟨hoff,hname⟩:=hc
       split at hf
       ·rename_i k1 hk1
        split at hf
        ·rename_i hl1
         simp only [ab] at hf
         obtain ⟨k2,hf2,rfl⟩:=hf
         obtain ⟨c1,c2⟩:=z3j hk
         rw [ce] at c2
         have hn:f.name ≠ "_":=by simpa using hname
         rw [hl1] at c1
         have p1:=z2f (P:=P) w (xs:=xs) (off:=off) hk1 hl1 c1
         have p3:=zkh n f.type hk1 w em d _ c1
         have p4:=ih (off+k1.length) k2 hf2 (by simpa [eQ] using c2)
         simp only [j6,au,hn,ne_eq,not_false_eq_true,if_true,hoff,p1,p3,aq,aM]
         simpa using p4
        ·simp at hf
       ·simp at hf
      ·simp at hf
    have:=go fs.toList 0 ks h (by simpa using hk)
    simp at this
    simp [this]
  ·rename_i m e hu
   split at h
   ·rename_i k1 hk1
    split at h
    ·rename_i hl1
     simp at h;subst h
     obtain ⟨u,hue⟩:=zkf hk1
     obtain ⟨i,hi⟩:=fj hue
     simp only [vo,hu,au,cA hu,aq]
     simp only [ja,mC,Nat.sub_zero,Nat.add_one_sub_one,Nat.div_one]
     have go:∀ (m off:Nat),klB (xs.drop (off*P.cellsOf e)) (ae m k1).flatten=true ->
       (forIn (dH off m) fP fun (j:Nat) (_:PUnit)=>(do
        let s <- Go.sizeOf e
        let a <- gB e xs.toArray (j*s)
        cy em (d+n) e a
        pure (im fP):Go.Sem (ForInStep PUnit))).run P w=.ok fP w:=by
      intro m
      induction m with
      | zero=>intro off hk;simp
      | succ m ih=>
       intro off hk
       rw [gw,jA] at hk
       obtain ⟨c1,c2⟩:=z3j hk
       rw [ce] at c2
       rw [hl1] at c1 c2
       have p1:=z2f (P:=P) w (xs:=xs) (off:=off*P.cellsOf e) hk1 hl1 c1
       have p3:=zkh n e hk1 w em d _ c1
       have e3:(off+1)*P.cellsOf e=off*P.cellsOf e+P.cellsOf e:=jd _ _
       have p4:=ih (off+1) (by rw [e3];exact c2)
       rw [fu]
       simp only [j6,au,iV w hi,aq,p1,p3,aM]
       simpa using p4
     have:=go m 0 (by simpa using hk)
     simp at this
     simp [this]
    ·simp at h
   ·simp at h
  ·simp at h

def eqB (P:Program) (t:Nat) (zs:List D):Bool:=
 (match kt P 16 t with
  | some ks=>kindsL ks zs
  | none=>false) &&
 (match P.underlying t with
  | some (.struct _)=>true
  | some (.array _ _)=>true
  | _=>false) && !P.eqGuardType P.depth t

theorem zsr {t:Nat} {zs:List D} (h:eqB P t zs=true):EqOk P t zs:=by
 simp only [eqB,ai,br] at h
 obtain ⟨⟨h1,h2⟩,h3⟩:=h
 split at h1
 ·rename_i ks hks
  have hvo:∀ l,vo P t l=.agg l.toArray:=by
   intro l
   unfold vo
   split at h2
   ·rfl
   ·rfl
   ·simp at h2
  refine ⟨fun w d xs ys r hk hv=>?_,fun w em d vs hk=>?_,?_,h3⟩
  ·have:=zql 16 t hks w d xs ys r (z55 hk h1) hv
   rwa [hvo,hvo] at this
  ·have:=zkh 16 t hks w em d vs (z55 hk h1)
   rwa [hvo] at this
  ·split at h2
   ·rename_i hu;exact ⟨_,hu,trivial⟩
   ·rename_i hu;exact ⟨_,hu,trivial⟩
   ·simp at h2
 ·simp at h1

end
end Dv

namespace Dv
open Go (Value Program World Act Oper Operand Code)


def maskOf (acc:List Nat):List Go.Edge->Nat
 | []=>0
 | e::es=>if bH .any e then 2 ^ e.on ||| (acc.getD e.on 0 ||| maskOf acc es) else maskOf acc es

def masks:List Nat->List Oper->List Nat
 | acc,[]=>acc
 | acc,o::os=>masks (acc++[maskOf acc o.after.toList]) os

def slotsOkB (o o':DOpr):Bool:=
 (match o.dst with
 | none=>true
 | some n=>!(reads o').contains n && !(o'.dst == some n)) &&
 (match o'.dst with
 | none=>true
 | some n=>!(reads o).contains n)

def notT (x:Opd) (n:Nat):Bool:=
 match x with
 | .t m=>!(m == n)
 | _=>true

def keptB (ds:List DOpr) (x:Opd) (j:Nat):Bool:=
 (b6 ds.length).all fun k=>k<j || (match ds[k]? with
  | some ok=>(match ok.dst with
   | some n=>notT x n
   | none=>true)
  | none=>true)

def apB (ds:List DOpr) (p:Nat × Nat):Bool:=
 match ds[p.1]?,ds[p.2]? with
 | some oj,some oi=>((touch oj.op).all fun x=>keptB ds x p.1) && ((touch oi.op).all fun y=>keptB ds y p.2)
 | _,_=>true

def constB (x:Opd):Bool:=
 match x with
 | .c d=>(did d).isNone
 | _=>true

def drawB (ops:List Oper) (ds:List DOpr) (ap:List (Nat × Nat)):Bool:=
 ((b6 ops.length).all fun i=>match ops[i]? with
  | some o=>o.after.toList.all fun e=>!bH .any e || e.on<i
  | none=>true) &&
 ((b6 ds.length).all fun i=>(b6 i).all fun j=>match ds[j]?,ds[i]? with
  | some oj,some oi=>((masks [] ops).getD i 0).testBit j || (slotsOkB oj oi && heapOk (ap.contains (j,i)) oj.op oi.op)
  | _,_=>true) &&
 (ap.all (apB ds)) &&
 (ds.all fun o=>(touch o.op).all constB)

theorem z5w {acc:List Nat}:∀ {es:List Go.Edge} {m:Nat},(maskOf acc es).testBit m=true->∃ e,e ∈ es/\bH .any e=true/\(e.on=m\/(acc.getD e.on 0).testBit m=true)
 | [],m,h=>by simp [maskOf] at h
 | e::es,m,h=>by
  simp only [maskOf] at h
  split at h
  ·rename_i hb
   simp only [Nat.testBit_or,Nat.testBit_two_pow,bz,decide_eq_true_eq] at h
   rcases h with h | h | h
   ·exact ⟨e,by simp,hb,.inl h⟩
   ·exact ⟨e,by simp,hb,.inr h⟩
   ·obtain ⟨e',h1,h2⟩:=z5w h
    exact ⟨e',by simp [h1],h2⟩
  ·obtain ⟨e',h1,h2⟩:=z5w h
   exact ⟨e',by simp [h1],h2⟩

theorem z8n:∀ {os:List Oper} {acc:List Nat} {i:Nat},i<acc.length->(masks acc os)[i]? = acc[i]?
 | [],acc,i,_=>rfl
 | o::os,acc,i,h=>by
  simp only [masks]
  rw [z8n (by simp;omega),az h]

theorem z5g:∀ {os:List Oper} {acc:List Nat} {i m:Nat},acc.length<=i->((masks acc os).getD i 0).testBit m=true ->
  ∃ o,os[i - acc.length]? = some o /\ ∃ e,e ∈ o.after/\bH .any e=true/\(e.on=m\/((masks acc os).getD e.on 0).testBit m=true)
 | [],acc,i,m,hi,h=>by
  simp only [masks] at h
  rw [am,bL hi] at h
  simp at h
 | o::os,acc,i,m,hi,h=>by
  simp only [masks] at h ⊢
  rcases Nat.eq_or_lt_of_le hi with e | e
  ·subst e
   have hg:(masks (acc++[maskOf acc o.after.toList]) os)[acc.length]? = some (maskOf acc o.after.toList):=by
    rw [z8n (by simp)];simp
   rw [am,hg] at h
   obtain ⟨e,h1,h2,h3⟩:=z5w (by simpa using h)
   refine ⟨o,by simp,e,by simpa using h1,h2,h3.imp (fun h=>h) (fun h4=>?_)⟩
   have hlt:e.on<acc.length:=by
    rcases cj e.on acc.length with h5 | h5
    ·exact h5
    ·rw [am,bL h5] at h4;simp at h4
   rw [am,z8n (by simp;omega),az hlt,<- am]
   exact h4
  ·obtain ⟨o',h1,h2⟩:=z5g (os:=os) (acc:=acc++[maskOf acc o.after.toList]) (i:=i) (m:=m) (by simp;omega) h
   refine ⟨o',?_,h2⟩
   simp only [List.length_append,bn,fF] at h1
   rw [show i - acc.length=(i - (acc.length+(0+1)))+1 from by omega]
   simpa using h1

theorem z8c {o o':DOpr} (h:slotsOkB o o'=true):slotsOk o o':=by
 simp only [slotsOkB,ai] at h
 obtain ⟨h1,h2⟩:=h
 constructor
 ·intro n hn
  rw [hn] at h1
  simp at h1
  exact ⟨h1.1,h1.2⟩
 ·intro n hn
  rw [hn] at h2
  simpa using h2

theorem zfd {ds:List DOpr} {x:Opd} {j:Nat} (h:keptB ds x j=true):∀ (k:Nat) ok n,j<=k->ds[k]? = some ok->ok.dst=some n->x ≠ .t n:=by
 intro k ok n hk ho hn
 have hlt:=(ac.1 ho).1
 have:=aw.1 h k (bV.2 hlt)
 rw [ho] at this
 simp only [hn,bz,decide_eq_true_eq] at this
 rcases this with h1 | h1
 ·omega
 ·rintro rfl
  simp [notT] at h1

theorem z81 {ops:Array Oper} {ds:List DOpr} {ap:List (Nat × Nat)} (h:drawB ops.toList ds ap=true):DrawOk ops ds ap:=by
 simp only [drawB,ai] at h
 obtain ⟨⟨⟨h1,h2⟩,h3⟩,h4⟩:=h
 refine ⟨fun i o ho e he hb=>?_,⟨fun i m=>((masks [] ops.toList).getD i 0).testBit m=true,fun i m hm=>?_,fun j i oj oi hji hj hi=>?_⟩,fun j i hin oj oi hj hi=>?_,fun i oi hi x hx d hd=>?_⟩
 ·have hlt:=(aK.1 ho).1
  have:=aw.1 h1 i (bV.2 (by simpa using hlt))
  rw [show ops.toList[i]? = some o from by simpa using ho] at this
  have:=aw.1 this e (by simpa using he)
  simpa [hb] using this
 ·obtain ⟨o,h5,h6⟩:=z5g (acc:=[]) (cx _) hm
  exact ⟨o,by simpa using h5,h6⟩
 ·have hlt:=(ac.1 hi).1
  have:=aw.1 (aw.1 h2 i (bV.2 hlt)) j (bV.2 hji)
  simp only [hj,hi,bz,ai] at this
  exact this.imp (fun h=>h) (fun h=>⟨z8c h.1,h.2⟩)
 ·have:=aw.1 h3 (j,i) hin
  simp only [apB,hj,hi,ai] at this
  exact ⟨fun x hx=>zfd (aw.1 this.1 x hx),fun y hy=>zfd (aw.1 this.2 y hy)⟩
 ·have:=aw.1 (aw.1 h4 oi (bf hi)) x hx
  subst hd
  simpa [constB] using this


def bndB (ops:List Oper) (i j:Nat):Bool:=
 match ops[i]? with
 | some o=>o.after.toList.any fun e=>bH .any e && e.on == j
 | none=>false
def isLk (q:AsgQ) (d:DOpr):Bool:=
 match d.op with
 | .lookup t (.t m) (.t k) false=>t == q.t' && m == q.mt && k == q.kt
 | _=>false
def isBn (q:AsgQ) (d:DOpr):Bool:=
 match d.op with
 | .bin _ _ _ _=>d.dst == some q.vt
 | _=>false
def madeB (ops:List Oper) (t:Nat) (ok:Nat->Bool):Bool:=
 (b6 ops.length).all fun j=>match ops[j]? with
  | some o=>!(o.dst == some t) || ok j
  | none=>true
def asgB (q:AsgQ) (ops:List Oper) (pre:List DOpr):Bool:=
 decide (pre.findIdx (isLk q)<pre.length) && decide (pre.findIdx (isBn q)<pre.length) &&
 ((b6 pre.length).all fun i=>match pre[i]? with
  | some d=>d.gd.isNone && (i == pre.findIdx (isLk q) || plainD d.op) && (slots (opnds d.op)).all fun t=>madeB ops t fun j=>decide (j<i) && bndB ops i j
  | none=>true) &&
 ((b6 ops.length).all fun i=>match ops[i]? with
  | some o=>(o.after.toList.all fun e=>!bH .any e || decide (e.on<i)) && (match o.dst with
   | some t=>madeB ops t fun j=>j == i
   | none=>true)
  | none=>true) &&
 (madeB ops q.mt fun j=>decide (j<pre.length) && bndB ops pre.length j) && (madeB ops q.kt fun j=>decide (j<pre.length) && bndB ops pre.length j) && (madeB ops q.vt fun j=>decide (j<pre.length)) &&
 ((b6 pre.length).all fun i=>i == pre.findIdx (isLk q) || i == pre.findIdx (isBn q) || bndB ops pre.length i) && bndB ops (pre.length+1) pre.length &&
 ((b6 (pre.length+2)).all fun i=>bndB ops (pre.length+2) i)

theorem z9d {ops:Array Oper} {i j:Nat} (h:bndB ops.toList i j=true):boundTo ops i j:=by
 unfold bndB at h
 split at h
 ·rename_i o ho
  obtain ⟨e,he,h2⟩:=dW.1 h
  simp only [ai,beq_iff_eq] at h2
  exact ⟨o,by simpa using ho,e,by simpa using he,h2.1,h2.2⟩
 ·simp at h
theorem z6c {ops:Array Oper} {t:Nat} {ok:Nat->Bool} (h:madeB ops.toList t ok=true):∀ (j:Nat) o,ops[j]? = some o->o.dst=some t->ok j=true:=by
 intro j o ho hd
 have hlt:=(aK.1 ho).1
 have:=aw.1 h j (bV.2 (by simpa using hlt))
 rw [show ops.toList[j]? = some o from by simpa using ho] at this
 simpa [hd] using this
theorem z4o:∀ {ops pre:List Oper} {p:Oper × Oper × Oper},asgSplit ops=some (pre,p)->ops=pre++[p.1,p.2.1,p.2.2]
 | [],pre,p,h=>by simp [asgSplit] at h
 | [a],pre,p,h=>by simp [asgSplit] at h
 | [a,b],pre,p,h=>by simp [asgSplit] at h
 | [a,b,c],pre,p,h=>by simp [asgSplit] at h;obtain ⟨rfl,rfl⟩:=h;rfl
 | a::b::c::d::r,pre,p,h=>by
  unfold asgSplit at h
  split at h
  ·rename_i l q hq
   simp only [aa,ak] at h
   obtain ⟨rfl,rfl⟩:=h
   rw [z4o hq];rfl
  ·simp at h
theorem z9f {t':Nat} {oE oX oS:Oper} {q:AsgQ} (h:asgQof t' oE oX oS=some q):q.oE=oE/\q.oX=oX/\q.oS=oS/\q.t'=t'/\(oE.op=.mapEntry q.t (.tmp q.mt) (.tmp q.kt)/\oE.guard=none/\oE.dst=some q.dE) /\
  (oX.op=.extract (.tmp q.dE) 1/\oX.guard=none/\oX.dst=some q.dX)/\(oS.op=.entryStore q.t (.tmp q.mt) (.tmp q.dX) (.tmp q.vt)/\oS.guard=none/\oS.dst=none):=by
 unfold asgQof at h
 split at h
 ·rename_i e1 e2 e3 e4 e5
  split at h
  ·rename_i hc
   obtain ⟨rfl,rfl,rfl,rfl,h5,h6,h7,h8⟩:=hc
   simp only [aa] at h
   subst h
   exact ⟨rfl,rfl,rfl,rfl,⟨e1,by simpa using h5,e2⟩,⟨e3,by simpa using h6,e4⟩,⟨e5,by simpa using h7,by simpa using h8⟩⟩
  ·simp at h
 ·simp at h
theorem zr7 {T F:Phi} {ops:Array Oper} {pre:List DOpr} {q:AsgQ} {t':Nat} {po:List Oper} {oE oX oS:Oper} (hsp:asgSplit ops.toList=some (po,oE,oX,oS)) (hq:asgQof t' oE oX oS=some q) (ht:T q.t=some q.t')
  (hops:OpsL T F ops.toList po pre) (h:asgB q ops.toList pre=true):∃ iL iB,AsgOk T F ops pre q iL iB:=by
 have e0:=z4o hsp
 have hpl:po.length=pre.length:=hops.len
 have hsz:ops.size=pre.length+3:=by
  have:=congrArg dZ e0
  simp at this;omega
 obtain ⟨q1,q2,q3,_,qE,qX,qS⟩:=z9f hq
 unfold asgB at h
 simp only [ai,decide_eq_true_eq] at h
 obtain ⟨⟨⟨⟨⟨⟨⟨⟨⟨h1,h2⟩,h3⟩,h4⟩,h5⟩,h6⟩,h7⟩,h8⟩,h9⟩,h10⟩:=h
 have get:∀ (k:Nat) (o:Oper),[oE,oX,oS][k]? = some o->ops[pre.length+k]? = some o:=fun k o hk=>by
  have:ops.toList[pre.length+k]? = some o:=by
   rw [e0,aF (by omega),<- hpl,dR];exact hk
  simpa using this
 have hpre:∀ (i:Nat) d,pre[i]? = some d->d.gd=none/\(i ≠ pre.findIdx (isLk q)->plainD d.op=true) /\ ∀ t,t ∈ slots (opnds d.op)->madeB ops.toList t (fun j=>decide (j<i) && bndB ops.toList i j)=true:=fun i d hd=>by
  have hlt:=(ac.1 hd).1
  have:=aw.1 h3 i (bV.2 hlt)
  rw [hd] at this
  simp only [ai,bz,beq_iff_eq,aw] at this
  exact ⟨by simpa using this.1.1,fun hne=>this.1.2.resolve_left hne,this.2⟩
 have hat:∀ (i:Nat) o,ops[i]? = some o->(∀ e,e ∈ o.after->bH .any e=true->e.on<i) /\ ∀ t,o.dst=some t->madeB ops.toList t (fun j=>j == i)=true:=fun i o ho=>by
  have hlt:=(aK.1 ho).1
  have:=aw.1 h4 i (bV.2 (by simpa using hlt))
  rw [show ops.toList[i]? = some o from by simpa using ho] at this
  simp only [ai,aw] at this
  refine ⟨fun e he hb=>?_,fun t hd=>?_⟩
  ·have:=this.1 e (by simpa using he)
   simpa [hb] using this
  ·have:=this.2
   rw [hd] at this;exact this
 have hL:=ao h1
 have hB:=ao h2
 have hLk:isLk q pre[pre.findIdx (isLk q)]=true:=iO
 have hBn:isBn q pre[pre.findIdx (isBn q)]=true:=iO
 refine ⟨pre.findIdx (isLk q),pre.findIdx (isBn q),{
  len:=hsz
  lt:=⟨h1,h2⟩
  lk:=fun i o d ho hd=>⟨OpsL.at hops i o d (by
   have hlt:=(ac.1 hd).1
   have:ops.toList[i]? = some o:=by simpa using ho
   rw [e0,az (by omega)] at this
   exact this) hd,(hpre i d hd).1⟩
  pl:=fun i d hne hd=>(hpre i d hd).2.1 hne
  E:=⟨by rw [q1];exact get 0 _ rfl,by rw [q1];exact qE⟩
  X:=⟨by rw [q2];exact get 1 _ rfl,by rw [q2];exact qX⟩
  S:=⟨by rw [q3];exact get 2 _ rfl,by rw [q3];exact qS⟩
  ty:=ht
  L:=by
   have hgd:=(hpre _ _ hL).1
   generalize pre[pre.findIdx (isLk q)]=d at hL hLk hgd
   unfold isLk at hLk
   split at hLk
   ·rename_i t m k e
    simp only [ai,beq_iff_eq] at hLk
    obtain ⟨⟨rfl,rfl⟩,rfl⟩:=hLk
    refine ⟨d.dst,?_⟩
    rw [hL]
    cases d
    simp only at e hgd
    rw [e,hgd]
   ·simp at hLk
  B:=by
   have hgd:=(hpre _ _ hB).1
   generalize pre[pre.findIdx (isBn q)]=d at hB hBn hgd
   unfold isBn at hBn
   split at hBn
   ·rename_i op t x y e
    refine ⟨d.dst,op,t,x,y,?_⟩
    rw [hB]
    cases d
    simp only at e hgd
    rw [e,hgd]
   ·simp at hBn
  dsts:=fun i j oi oj t hi hj h1 h2=>by
   have:=z6c ((hat i oi hi).2 t h1) j oj hj h2
   exact (by simpa using this:j=i).symm
  rd:=fun i d hd t ht j oj hj hdj=>by
   have:=z6c ((hpre i d hd).2.2 t ht) j oj hj hdj
   simp only [ai,decide_eq_true_eq] at this
   exact ⟨this.1,z9d this.2⟩
  rdE:=fun t ht j oj hj hdj=>by
   have:(decide (j<pre.length) && bndB ops.toList pre.length j)=true:=by
    rcases ht with rfl | rfl
    ·exact z6c h5 j oj hj hdj
    ·exact z6c h6 j oj hj hdj
   simp only [ai,decide_eq_true_eq] at this
   exact ⟨this.1,z9d this.2⟩
  rdV:=fun j oj hj hdj=>by simpa using z6c h7 j oj hj hdj
  eE:=fun i hi n1 n2=>by
   have:=aw.1 h8 i (bV.2 hi)
   simp only [bz,beq_iff_eq] at this
   exact z9d ((this.resolve_left fun h=>h.elim n1 n2))
  eX:=z9d h9
  eS:=fun i hi=>z9d (aw.1 h10 i (bV.2 hi))
  back:=fun i o ho=>(hat i o ho).1 }⟩

theorem zd1:∀ {ds p t:List DOpr},eraseOps ds=p++t->∃ x y,ds=x++y/\eraseOps x=p/\eraseOps y=t
 | ds,[],t,h=>⟨[],ds,rfl,rfl,h⟩
 | [],a::p,t,h=>by simp [eraseOps] at h
 | d::ds,a::p,t,h=>by
  simp only [eraseOps,bi,bF] at h
  obtain ⟨x,y,rfl,h2,h3⟩:=zd1 h.2
  exact ⟨d::x,y,rfl,by simp only [eraseOps];rw [h.1,h2],h3⟩
theorem zi1 {q:AsgQ} {y:List DOpr} (h:eraseOps y=asgTail q):y=asgTail q:=by
 have one:∀ (d:DOpr) (dst:Option Nat) (op:DOp),(⟨d.dst,eraseOp d.op,d.gd⟩:DOpr)=⟨dst,op,none⟩->(eraseOp op=op)->(∀ o,eraseOp o=op->o=op)->d=⟨dst,op,none⟩:=by
  intro d dst op h1 h2 h3
  cases d
  simp only [DOpr.mk.injEq] at h1 ⊢
  exact ⟨h1.1,h3 _ h1.2.1,h1.2.2⟩
 have mv:∀ (x:Opd) (o:DOp),eraseOp o=.move x->o=.move x:=by intro x o h;cases o <;> simp [eraseOp] at h <;> simp [h]
 have pk:∀ (x y z:Opd) (o:DOp),eraseOp o=.pick x y z->o=.pick x y z:=by intro x y z o h;cases o <;> simp [eraseOp] at h <;> simp [h]
 have ms:∀ (t:Nat) (x y z:Opd) (o:DOp),eraseOp o=.mapset t x y z->o=.mapset t x y z:=by intro t x y z o h;cases o <;> simp [eraseOp] at h <;> simp [h]
 unfold asgTail at h ⊢
 match y,h with
 | [],h=>simp [eraseOps] at h
 | [_],h=>simp [eraseOps] at h
 | [_,_],h=>simp [eraseOps] at h
 | [_,_,_],h=>simp [eraseOps] at h
 | [_,_,_,_],h=>simp [eraseOps] at h
 | [a,b,c,d,e],h=>
  simp only [eraseOps,bF,and_true] at h
  obtain ⟨h1,h2,h3,h4,h5⟩:=h
  rw [one a _ _ h1 rfl (mv _),one b _ _ h2 rfl (pk _ _ _),one c _ _ h3 rfl (pk _ _ _),one d _ _ h4 rfl (mv _),one e _ _ h5 rfl (ms _ _ _ _)]
 | _::_::_::_::_::_::_,h=>simp [eraseOps] at h

def asgC (ops:List Oper) (ds:List DOpr):Bool:=
 match asgSplit ops with
 | some (_,oE,oX,oS)=>(match ds.getLast? with
  | some l=>(match l.op with
   | .mapset t' _ _ _=>(match asgQof t' oE oX oS with
    | some q=>asgB q ops (ds.take (ops.length - 3))
    | none=>false)
   | _=>false)
  | none=>false)
 | none=>false


def drawC:Bool->Code->DC->Bool
 | b,.seq x y,.seq x' y'=>drawC b x x' && drawC b y y'
 | b,.cond _ x y,.cond _ x' y'=>drawC b x x' && drawC b y y'
 | b,.block _ x,.block _ x'=>drawC b x x'
 | b,.loop x,.loop x'=>drawC b x x'
 | b,.rangeFunc _ _ x y,.rfunc _ _ x' y'=>!b && (drawC true x x' && drawC true y y')
 | _,.region _ ops true,.region true ap ds=>drawB ops.toList ds ap
 | _,.region _ ops true,.region false _ ds=>asgC ops.toList ds
 | _,_,_=>true

theorem z13 {T F:Phi} {all:List Oper}:∀ {os:List Oper} {ds:List DOpr},stripOps T F all os=some (eraseOps ds)->OpsL T F all os ds
 | [],[],_=>trivial
 | [],d::ds,h=>by simp [stripOps,eraseOps] at h
 | o::os,ds,h=>by
  simp only [stripOps] at h
  split at h
  ·rename_i op gd r h1 h2 h3
   cases ds with
   | nil=>simp [eraseOps] at h
   | cons d ds=>
    simp only [eraseOps,aa,bF,DOpr.mk.injEq] at h
    obtain ⟨⟨e1,e2,e3⟩,e4⟩:=h
    refine ⟨⟨e1.symm,opLink (by rw [h1,e2]),by rw [h2,e3]⟩,z13 (by rw [h3,e4])⟩
  ·simp at h

theorem zp6 {T F:Phi}:∀ {c:Code} {b:Bool} {dc:DC},stripC T F c=some (eraseC dc)->drawC b c dc=true->CLk T F b c dc:=by
 intro c
 induction c with
 | skip=>
  intro b dc h _
  simp only [stripC,aa] at h
  cases dc <;> simp [eraseC] at h
  exact .skip
 | region id ops dr=>
  intro b dc h hd
  simp only [stripC,aa] at h
  have deadK:∀ dc:DC,deadC=eraseC dc->CLk T F b (.region id ops dr) dc:=fun dc h=>by
   cases dc <;> simp [eraseC] at h
   rename_i c x y
   obtain ⟨rfl,h2,h3⟩:=h
   cases x <;> simp [eraseC] at h2
   cases y <;> simp [eraseC] at h3
   exact .dead
  split at h
  case h_2=>
   split at h
   ·rename_i hdr
    subst hdr
    split at h
    ·rename_i ds0 h1
     have h2:=h
     cases dc <;> simp [eraseC] at h2
     rename_i dr' ap ds
     obtain ⟨rfl,h2⟩:=h2
     unfold asgStrip at h1
     split at h1
     ·rename_i po oE oX oS hsp
      split at h1
      ·rename_i p t' hp ht
       split at h1
       ·rename_i q hq
        simp only [aa] at h1
        subst h1
        obtain ⟨x,y,rfl,h3,h4⟩:=zd1 h2.symm
        have h5:=zi1 h4
        subst h5
        have hpx:=z13 (by rw [hp,h3])
        have hlen:x.length=ops.size - 3:=by
         have e0:=congrArg dZ (z4o hsp)
         have:=hpx.len
         simp at e0;omega
        simp only [drawC,asgC,hsp] at hd
        have hlast:(x++asgTail q).getLast? = some ⟨none,.mapset q.t' (.t q.mt) (.t q.kt) (.t q.vt),none⟩:=by simp [asgTail]
        obtain ⟨q1,q2,q3,q4,qE,_⟩:=z9f hq
        rw [hlast] at hd
        simp only [q4,hq] at hd
        rw [show (x++asgTail q).take (ops.toList.length - 3)=x from by rw [Array.length_toList,<- hlen,List.take_left]] at hd
        have hty:T q.t=some q.t':=by
         unfold asgT at ht
         rw [qE.1] at ht
         rw [q4];exact ht
        obtain ⟨iL,iB,A⟩:=zr7 hsp hq hty hpx hd
        exact .asg A rfl
       ·simp at h1
      ·simp at h1
     ·simp at h1
    ·exact deadK _ h
   ·exact deadK _ h
  rename_i ds0 h1
  have h2:=h
  cases dc <;> simp [eraseC] at h2
  rename_i dr' ap ds
  obtain ⟨rfl,rfl⟩:=h2
  have:=z13 h1
  cases dr with
  | false=>exact .region this
  | true=>exact .draw this (z81 (by simpa [drawC] using hd))
 | seq x y ihx ihy=>
  intro b dc h hd
  simp only [stripC] at h
  obtain ⟨x',y',h1,h2,h3⟩:=z30 h
  cases dc <;> simp [eraseC] at h3
  obtain ⟨rfl,rfl⟩:=h3
  simp only [drawC,ai] at hd
  exact .seq (ihx h1 hd.1) (ihy h2 hd.2)
 | cond k x y ihx ihy=>
  intro b dc h hd
  simp only [stripC] at h
  obtain ⟨k',x',y',h0,h1,h2,h3⟩:=z3y h
  cases dc <;> simp [eraseC] at h3
  obtain ⟨rfl,rfl,rfl⟩:=h3
  simp only [drawC,ai] at hd
  exact .cond h0 (ihx h1 hd.1) (ihy h2 hd.2)
 | block id x ihx=>
  intro b dc h hd
  simp only [stripC] at h
  obtain ⟨x',h1,h3⟩:=z3h h
  cases dc <;> simp [eraseC] at h3
  obtain ⟨rfl,rfl⟩:=h3
  exact .block (ihx h1 (by simpa [drawC] using hd))
 | loop x ihx=>
  intro b dc h hd
  simp only [stripC] at h
  obtain ⟨x',h1,h3⟩:=z3h h
  cases dc <;> simp [eraseC] at h3
  subst h3
  exact .loop (ihx h1 (by simpa [drawC] using hd))
 | rangeFunc f ps asg body iha ihb=>
  intro b dc h hd
  simp only [stripC] at h
  obtain ⟨f',x',y',h0,h1,h2,h3⟩:=z3y h
  cases dc <;> simp [eraseC] at h3
  obtain ⟨rfl,rfl,rfl,rfl⟩:=h3
  simp only [drawC,ai,br] at hd
  obtain ⟨rfl,hd1,hd2⟩:=hd
  exact .rfunc h0 (iha h1 hd1) (ihb h2 hd2)
 | exit id=>
  intro b dc h _
  simp only [stripC,aa] at h
  cases dc <;> simp [eraseC] at h
  subst h;exact .exit
 | ret=>
  intro b dc h _
  simp only [stripC,aa] at h
  cases dc <;> simp [eraseC] at h
  exact .ret
 | _=>intro b dc h _;simp [stripC] at h


def rvB (T:Phi):List fM->List RV->Bool
 | [],[]=>true
 | .tmp t::r,.tmp t'::r'=>t == t' && rvB T r r'
 | .cell a t::r,.cell a' t'::r'=>a == a' && (T t == some t') && rvB T r r'
 | _,_=>false

theorem z7c {T:Phi}:∀ {rs:List fM} {rs':List RV},rvB T rs rs'=true->RvL T rs rs'
 | [],[],_=>trivial
 | .tmp t::r,.tmp t'::r',h=>by
  simp only [rvB,ai,beq_iff_eq] at h
  exact ⟨h.1,z7c h.2⟩
 | .cell a t::r,.cell a' t'::r',h=>by
  simp only [rvB,ai,beq_iff_eq] at h
  exact ⟨h.1.1,h.1.2,z7c h.2⟩
 | .tmp _::_,.cell _ _::_,h=>by simp [rvB] at h
 | .cell _ _::_,.tmp _::_,h=>by simp [rvB] at h
 | .tmp _::_,[],h=>by simp [rvB] at h
 | .cell _ _::_,[],h=>by simp [rvB] at h
 | [],.tmp _::_,h=>by simp [rvB] at h
 | [],.cell _ _::_,h=>by simp [rvB] at h

def fnB (T:Phi) (fn:dD) (G:DFn):Bool:=
 (match fn.body with
 | some c=>drawC false c G.body
 | none=>false) && fn.ntmps == G.ntmps && rvB T fn.results.toList G.results && !(fn.name == "runtime.NumGoroutine")

theorem z6 {P:Program} {T F:Phi} {f:Nat} {fn:dD} {G:DFn} (h:P.funcs[f]? = some fn) (h1:(match fn.body with | some c=>stripC T F c | none=>none)=some (eraseC G.body):=by kernel_rfl) (h2:fnB T fn G=true:=by kernel_rfl):FnL P T F f G:=by
 simp only [fnB,ai,beq_iff_eq] at h2
 obtain ⟨⟨⟨h3,h4⟩,h5⟩,h6⟩:=h2
 cases hb:fn.body with
 | none=>rw [hb] at h3;simp at h3
 | some c=>
  rw [hb] at h1 h3
  exact ⟨fn,c,h,hb,h4,z7c h5,zp6 h1 h3⟩


def zeroB:List Value->List D->Bool
 | [],[]=>true
 | v::vs,d::ds=>(match ofClosed v,d with
  | some (.bool a),.bool b=>a == b
  | some (.int k a),.int k' b=>decide (k=k') && a == b
  | some (.str a),.str b=>a == b
  | some .nilp,.nilp=>true
  | some .nilfn,.nilfn=>true
  | some (.map none),.map none=>true
  | some (.imm .exact []),.imm .exact []=>true
  | _,_=>false) && zeroB vs ds
 | _,_=>false

theorem zeu:∀ {vs:List Value} {ds:List D},zeroB vs ds=true->ofClosedL vs=some ds
 | [],[],_=>rfl
 | [],_::_,h=>by simp [zeroB] at h
 | _::_,[],h=>by simp [zeroB] at h
 | v::vs,d::ds,h=>by
  simp only [zeroB,ai] at h
  obtain ⟨h1,h2⟩:=h
  have e2:=zeu h2
  simp only [ofClosedL,e2]
  generalize ofClosed v=o at h1 ⊢
  split at h1
  ·simp at h1;rw [h1]
  ·simp at h1;rw [h1.1,h1.2]
  ·simp at h1;rw [h1]
  ·rfl
  ·rfl
  ·rfl
  ·rfl
  ·simp at h1

def tokB (P:Program) (E:Env) (τ : Phi) (t c:Nat):Bool:=
 (τ t == some c) &&
 (match P.info? t with
 | some i=>i.size == (E.ty c).size && i.bytes == (E.ty c).bytes && (match i.zero with
  | some z=>zeroB z.cells.toList (E.ty c).zero && isAggV z == (E.ty c).ag
  | none=>false)
 | none=>false) &&
 (!(E.ty c).eqc || eqB P t (E.ty c).zero) &&
 (match (E.ty c).k,P.underlying t with
 | .bool,some .bool=>true
 | .int k,some (.int k')=>decide (k=k')
 | .str,some .string=>true
 | .slice e,some (.slice e')=>τ e' == some e
 | .struct fs,some (.struct fs')=>fs'.size == fs.length && (fs'.toList.zip fs).all fun p=>p.1.offset == p.2.1 && τ p.1.type == some p.2.2
 | .arr n e,some (.array n' e')=>n == n' && τ e' == some e
 | .map k e,some (.map k' e')=>τ k' == some k && τ e' == some e
 | .ptr _,some (.pointer _)=>true
 | .func,some (.func _ _ _)=>true
 | _,_=>false)

theorem zrs {P:Program} {E:Env} {τ : Phi} {t c:Nat} (h:tokB P E τ t c=true):TOk P E τ t c:=by
 simp only [tokB,ai] at h
 obtain ⟨⟨⟨h1,h2⟩,h3⟩,h4⟩:=h
 refine ⟨by simpa using h1,?_,fun he=>?_,?_⟩
 ·split at h2
  ·rename_i i hi
   simp only [ai,beq_iff_eq] at h2
   obtain ⟨⟨h5,h6⟩,h7⟩:=h2
   refine ⟨i,hi,h5,h6,fun _ _=>?_⟩
   split at h7
   ·rename_i z hz
    simp only [ai,beq_iff_eq] at h7
    exact ⟨z,hz,zeu h7.1,h7.2⟩
   ·simp at h7
  ·simp at h2
 ·rw [he] at h3
  exact zsr (by simpa using h3)
 ·generalize hk:(E.ty c).k=kk at h4 ⊢
  generalize hu:P.underlying t=u at h4 ⊢
  split at h4
  ·rfl
  ·rename_i k k';simp at h4;rw [h4]
  ·rfl
  ·rename_i e e';exact ⟨e',rfl,by simpa using h4⟩
  ·rename_i fs fs'
   simp only [ai,beq_iff_eq] at h4
   refine ⟨fs',rfl,h4.1,fun i f p hf hp=>?_⟩
   have:(fs'.toList.zip fs)[i]? = some (f,p):=by
    rw [List.getElem?_zip_eq_some];exact ⟨by simpa using hf,hp⟩
   have:=aw.1 h4.2 _ (bf this)
   simpa using this
  ·rename_i n e n' e'
   simp only [ai,beq_iff_eq] at h4
   exact ⟨e',by rw [h4.1],h4.2⟩
  ·rename_i k e k' e'
   simp only [ai,beq_iff_eq] at h4
   exact ⟨k',e',rfl,h4⟩
  ·exact ⟨_,rfl⟩
  ·exact ⟨_,_,_,rfl⟩
  ·simp at h4


def look:List (Nat × Nat)->Phi
 | [],_=>none
 | p::l,n=>if n=p.1 then some p.2 else look l n

theorem z7z:∀ {l:List (Nat × Nat)} {n c:Nat},look l n=some c->(n,c) ∈ l
 | [],n,c,h=>by simp [look] at h
 | p::l,n,c,h=>by
  simp only [look] at h
  split at h
  ·rename_i e;simp at h;subst h;subst e;simp
  ·exact List.mem_cons_of_mem _ (z7z h)

theorem zps {P:Program} {E:Env} {tl:List (Nat × Nat)} (h:(tl.all fun p=>tokB P E (look tl) p.1 p.2)=true):TAll P E (look tl):=fun t c hc=>
 zrs (aw.1 h (t,c) (z7z hc))

def fnOkB (P:Program) (f:Nat):Bool:=
 match P.funcs[f]? with
 | some fn=>!fn.body.isNone && !(fn.name == "runtime.NumGoroutine")
 | none=>false

theorem zno {P:Program} {fl:List (Nat × Nat)} (h:(fl.all fun p=>fnOkB P p.1)=true):FnsOk P (look fl):=fun f f' hf=>by
 have:=aw.1 h (f,f') (z7z hf)
 simp only [fnOkB] at this
 split at this
 ·rename_i fn hfn
  simp only [ai,br] at this
  exact ⟨fn,hfn,this.1,this.2⟩
 ·simp at this

end Dv

namespace Dv
open Go (Value Program World Act Oper Operand Code Ending Exit)

section
variable {P:Program} {E:Env} {F:Phi} {T:Phi} {B M:Nat} {ρ : Rho} {H:HS} {os:List Obj} {w:World} {a:Act} {sl:List D}

end

def Good (P:Program) (E:Env) (T F:Phi) (pt:Nat × Nat) (p:Nat × Nat):Prop:=∀ G,E.fn p.2=some G->(E.mp p.2=false/\(FnL P T F p.1 G\/Hatch P E T F pt p.1 p.2))\/(E.mp p.2=true/\FnM P T F pt p.1 G)

section
variable {P:Program} {E:Env} {T F:Phi} {pt:Nat × Nat}
theorem z0 {f f':Nat} {G:DFn} (h:FnL P T F f G) (e:E.fn f'=some G) (hm:E.mp f'=false:=by rfl):Good P E T F pt (f,f'):=fun G' h'=>by
 simp only at h'
 rw [e] at h';simp at h';subst h';exact .inl ⟨hm,.inl h⟩

theorem z5h {f f':Nat} (h:Hatch P E T F pt f f') (hm:E.mp f'=false:=by rfl):Good P E T F pt (f,f'):=fun _ _=>.inl ⟨hm,.inr h⟩

theorem zz {f f':Nat} {G:DFn} (h:FnM P T F pt f G) (e:E.fn f'=some G) (hm:E.mp f'=true:=by rfl):Good P E T F pt (f,f'):=fun G' h'=>by
 simp only at h'
 rw [e] at h';simp at h';subst h';exact .inr ⟨hm,h⟩

theorem z59 {f f':Nat} (e:E.fn f'=none):Good P E T F pt (f,f'):=fun G' h'=>by
 simp only at h'
 rw [e] at h';cases h'

theorem allc {p:Nat × Nat} {l:List (Nat × Nat)} (h:Good P E T F pt p) (h':∀ q,q ∈ l->Good P E T F pt q):∀ q,q ∈ p::l->Good P E T F pt q:=fun q hq=>by
 rcases aC.1 hq with e | e
 ·rw [e];exact h
 ·exact h' q e

theorem alln:∀ q,q ∈ ([]:List (Nat × Nat))->Good P E T F pt q:=fun _ h=>by cases h
end

theorem zru {P:Program} {E:Env} {T:Phi} {fl:List (Nat × Nat)} {pt:Nat × Nat} (h1:TAll P E T) (h2:P.follows .mixedOrders=true) (h3:FnsOk P (look fl)) (h4:∀ q,q ∈ fl->Good P E T (look fl) pt q):Tie P E T (look fl):=
 ⟨h1,h2,h3,pt,fun f f' G hf hG=>h4 (f,f') (z7z hf) G hG⟩

end Dv

namespace Dv
open Go (Value Program World Act Oper Operand Code)

def siteR (l post:List DOpr):List DOpr:=eraseOps l.dropLast++((match l.getLast? with
 | some ⟨d,.call _ f as,g⟩=>[⟨d,.call 0 f as,g⟩]
 | _=>[])++eraseOps post)

def isCallV (o:Option Oper):Bool:=match o with
 | some o=>(match o.op with
  | .call { callee:=.value _,args:=_,argTypes:=_ }=>true
  | _=>false)
 | none=>false

def siteB (N:Nat) (ops:List Oper) (l:List DOpr) (c:Opd):Bool:=match l.getLast?,c with
 | some ⟨some k,.call md _ _,_⟩,.t k'=>k == k' && (md == 5 || md == 6) && decide (k<N) && isCallV ops[l.length - 1]?
 | _,_=>false

def ifaceX (o:Oper):Option (Nat × Operand):=match o.op with
 | .makeInterface t x=>some (t,x)
 | _=>none

def panicX (o:Oper):Option Nat:=match o.op with
 | .panic (.tmp i)=>some i
 | _=>none

def panB (pt:Nat × Nat) (N:Nat) (ops:List Oper) (l:List DOpr):Bool:=match ops.drop (l.length - 1),l.getLast? with
 | [o1,o2],some ⟨some i2,.mark b _,none⟩=>(match ifaceX o1,panicX o2,o1.dst with
  | some (t,_),some i',some i=>i == i' && i == i2 && decide (i<N) && t == (if b then pt.2 else pt.1) && o1.guard.isNone && o2.guard.isNone
  | _,_,_=>false)
 | _,_=>false

def panE (F:Phi) (ops:List Oper) (l:List DOpr):Option DC × Option DC:=match ops.drop (l.length - 1),l.getLast? with
 | o1::_,some ⟨_,.mark _ x',_⟩=>((ifaceX o1).bind fun p=>(stripOpd F p.2).map fun x=>.cond x .skip .skip,some (.cond x' .skip .skip))
 | _,_=>(none,none)

def lastK (l:List DOpr):Nat:=match l.getLast? with
 | some ⟨some k,_,_⟩=>k
 | _=>0

def mkQ:List DOpr->List DOpr->List DOpr
 | a::as,b::bs=>(if isNoop a=true then noopD else b)::mkQ as bs
 | _,_=>[]
def isCallD (d:DOpr):Bool:=match d.op with
 | .call _ _ _=>true
 | _=>false
def callIx (ds:List DOpr):List Nat:=(b6 ds.length).filter fun i=>match ds[i]? with
 | some d=>isCallD d
 | none=>false
def tryB (N:Nat) (ds:List DOpr) (i:Nat) (d:DOpr):Bool:=match d.dst,d.op,d.gd with
 | some kk,.call md _ as,none=>decide (kk<N) && (md == 0 || (md == 4 && !as.isEmpty && callIx ds == [i]))
 | _,_,_=>false
def probeB (N:Nat) (S:List Nat) (ops:List Oper) (ds:List DOpr) (ap:List (Nat × Nat)) (ks:List Nat) (k:Nat):Bool:=
 drawB ops ds ap && ops.length == ds.length && decide (k<N) && (ds.all fun d=>match d.dst with
  | some n=>!S.contains n
  | none=>true) &&
 ((b6 ds.length).all fun i=>match ds[i]? with
  | some d=>if isNoop d=true then (callIx ds).all fun m=>((masks [] ops).getD i 0).testBit m else if isCallD d=true then tryB N ds i d else quietB d.op
  | none=>true) &&
 ((callIx ds).all fun m=>(b6 ds.length).all fun i=>i == m || (match ds[m]?,ds[i]? with
  | some dm,some d=>dm.dst.isNone || !(d.dst == dm.dst)
  | _,_=>true)) &&
 (ks.all fun j=>(callIx ds).any fun m=>match ds[m]? with
  | some dm=>dm.dst == some j
  | none=>false) &&
 ((callIx ds).all fun m=>match ds[m]? with
  | some dm=>(match dm.dst with
   | some j=>ks.contains j
   | none=>true)
  | none=>true)

def eqsP (T F:Phi) (onp:Nat->DC):Code->DC->List (Option DC × Option DC)
 | .seq x y,.seq x' y'=>eqsP T F onp x x'++eqsP T F onp y y'
 | .cond c x y,.cond c' x' y'=>((stripOpd F c).map fun c=>.cond c .skip .skip,some (.cond c' .skip .skip))::(eqsP T F onp x x'++eqsP T F onp y y')
 | .block _ x,.block _ x'=>eqsP T F onp x x'
 | .loop x,.loop x'=>eqsP T F onp x x'
 | .region _ ops _,.seq (.probe _ dsQ _ k) (.ifp _ d (.region _ _ ds))=>[((stripOps T F ops.toList ops.toList).map (.region false []),some (.region false [] (eraseOps ds))),(some (.region false [] dsQ),some (.region false [] (mkQ dsQ ds))),(some d,some (onp k))]
 | .region _ ops _,.seq (.region _ _ l) (.ifp _ d (.region _ _ post))=>[((stripOps T F ops.toList ops.toList).map (.region false []),some (.region false [] (siteR l post))),(some d,some (onp (lastK l)))]
 | .region _ ops _,.seq (.region _ _ l) d=>[((stripOps T F ops.toList (ops.toList.take (l.length - 1))).map (.region false []),some (.region false [] (eraseOps l.dropLast))),panE F ops.toList l,(some d,some (onp (lastK l)))]
 | c,dc=>[(stripC T F c,some (eraseC dc))]

def boolP (pt:Nat × Nat) (S:List Nat) (N:Nat):Code->DC->Bool
 | .seq x y,.seq x' y'=>boolP pt S N x x' && boolP pt S N y y'
 | .cond _ x y,.cond _ x' y'=>boolP pt S N x x' && boolP pt S N y y'
 | .block i x,.block i' x'=>i == i' && decide (i<panX) && boolP pt S N x x'
 | .loop x,.loop x'=>boolP pt S N x x'
 | .region _ ops dr,.seq (.probe apQ dsQ ks k) (.ifp c _ (.region dr' ap ds))=>dr && dr' && (match c with | .t k'=>k' == k | _=>false) && drawB ops.toList ds ap && probeB N S ops.toList dsQ apQ ks k
 | .region _ ops dr,.seq (.region dr' ap l) (.ifp c _ (.region dr2 ap2 _))=>!dr && !dr' && !dr2 && ap.isEmpty && ap2.isEmpty && siteB N ops.toList l c
 | .region _ ops dr,.seq (.region dr' ap l) _=>!dr && !dr' && ap.isEmpty && panB pt N ops.toList l
 | c,dc=>drawC false c dc && exB dc

section
variable {P:Program} {T F:Phi}

theorem z3x {all:List Oper}:∀ {os:List Oper} {a b:List DOpr},stripOps T F all os=some (a++b)->∃ os1 os2,os=os1++os2/\stripOps T F all os1=some a/\stripOps T F all os2=some b
 | os,[],b,h=>⟨[],os,rfl,rfl,h⟩
 | [],x::a,b,h=>by simp [stripOps] at h
 | o::os,x::a,b,h=>by
  simp only [stripOps] at h
  split at h
  ·rename_i op gd r h1 h2 h3
   simp only [bi,aa,bF] at h
   obtain ⟨rfl,rfl⟩:=h
   obtain ⟨os1,os2,e,h4,h5⟩:=z3x h3
   exact ⟨o::os1,os2,by rw [e];rfl,by simp only [stripOps,h1,h2,h4],h5⟩
  ·simp at h

theorem z7l:∀ (l:List DOpr),(eraseOps l).length=l.length
 | []=>rfl
 | _::l=>by simp [eraseOps,z7l l]

theorem z4r {all:List Oper}:∀ {os:List Oper} {a:List DOpr},stripOps T F all os=some a->os.length=a.length
 | [],a,h=>by simp [stripOps] at h;subst h;rfl
 | o::os,a,h=>by
  simp only [stripOps] at h
  split at h
  ·rename_i op gd r h1 h2 h3
   simp only [aa] at h
   subst h
   simp [z4r h3]
  ·simp at h

theorem z6j:∀ {l:List DOpr} {x:DOpr},l.getLast? = some x->l=l.dropLast++[x]:=by
 intro l x h
 have hne:l ≠ []:=by rintro rfl;simp at h
 have:=List.dropLast_concat_getLast hne
 rw [List.getLast?_eq_some_getLast hne] at h
 simp only [aa] at h
 rw [h] at this
 exact this.symm

theorem zo8 {pt:Nat × Nat} {S:List Nat} {N id:Nat} {onp:Nat->DC} {ops:Array Oper} {l post:List DOpr} {c:Opd} (hb:siteB N ops.toList l c=true) (h:stripOps T F ops.toList ops.toList=some (siteR l post)) :
  CLp P pt T F onp S N (.region id ops false) (.seq (.region false [] l) (.ifp c (onp (lastK l)) (.region false [] post))):=by
 unfold siteB at hb
 split at hb
 case h_2=>simp at hb
 rename_i k md f as g0 k' hl
 simp only [ai,beq_iff_eq,bz,decide_eq_true_eq] at hb
 obtain ⟨⟨⟨hk,hmd⟩,hN⟩,hc⟩:=hb
 subst hk
 have e:=z6j hl
 have hlen:l.length - 1=l.dropLast.length:=by simp
 rw [hlen] at hc
 have hlast:lastK l=k:=by simp [lastK,hl]
 rw [hlast]
 simp only [siteR,hl] at h
 generalize l.dropLast=pre' at *
 obtain ⟨pre,r,e1,h1,h2⟩:=z3x h
 obtain ⟨o1,post0,e2,h3,h4⟩:=z3x h2
 have hlp:=z4r h1
 rw [z7l] at hlp
 match o1,h3 with
 | [],h3=>simp [stripOps] at h3
 | _::_::_,h3=>have:=z4r h3;simp at this
 | [o],h3=>
  have eo:ops.toList=pre++o::post0:=by rw [e1,e2];rfl
  have ho:ops.toList[pre'.length]? = some o:=by rw [eo,<- hlp];simp
  rw [ho] at hc
  simp only [stripOps] at h3
  split at h3
  case h_2=>simp at h3
  rename_i op gd r0 g1 g2 g3
  simp only [aa,bF,DOpr.mk.injEq] at h3
  obtain ⟨⟨hd,rfl,rfl⟩,_⟩:=h3
  simp only [isCallV] at hc
  split at hc
  case h_2=>simp at hc
  rename_i f0 args at_ hop
  rw [hop] at g1
  simp only [stripOp] at g1
  have:∃ a b,stripOpd F f0=some a/\stripL F args.toList=some b/\DOp.call 0 a b=DOp.call 0 f as:=by
   unfold o2 at g1
   split at g1
   ·rename_i a b q1 q2;exact ⟨a,b,q1,q2,by simpa using g1⟩
   ·simp at g1
  obtain ⟨a,b,q1,q2,q3⟩:=this
  simp only [DOp.call.injEq,true_and] at q3
  obtain ⟨rfl,rfl⟩:=q3
  rw [e]
  exact .site eo (z13 h1) hop q1 q2 hd g2 hmd hN (z13 h4)

theorem zqy {pt:Nat × Nat} {S:List Nat} {N id:Nat} {onp:Nat->DC} {ops:Array Oper} {l:List DOpr} (hmk:∀ b (v:Value) (w:World),(d6 (if b=true then pt.2 else pt.1) v).run P w=.ok (.iface (if b=true then pt.2 else pt.1) v) w)
  (hb:panB pt N ops.toList l=true) (h:stripOps T F ops.toList (ops.toList.take (l.length - 1))=some (eraseOps l.dropLast)) (he:(panE F ops.toList l).1=(panE F ops.toList l).2) :
  CLp P pt T F onp S N (.region id ops false) (.seq (.region false [] l) (onp (lastK l))):=by
 unfold panB at hb
 split at hb
 case h_2=>simp at hb
 rename_i o1 o2 i2 b x' hd hl
 split at hb
 case h_2=>simp at hb
 rename_i t x i' i q1 q2 q3
 simp only [ai,beq_iff_eq,decide_eq_true_eq,eD] at hb
 obtain ⟨⟨⟨⟨⟨rfl,rfl⟩,hN⟩,ht⟩,hg1⟩,hg2⟩:=hb
 have hlast:lastK l=i:=by simp [lastK,hl]
 rw [hlast]
 simp only [panE,hd,hl,q1,bU,ab,DC.cond.injEq,and_true,exists_eq_right] at he
 have eo:ops.toList=ops.toList.take (l.length - 1)++[o1,o2]:=by rw [<- hd,b7]
 have hi:o1.op=.makeInterface t x:=by
  unfold ifaceX at q1
  split at q1
  ·rename_i t0 x0 hop;simp only [aa,ak] at q1;rw [hop,q1.1,q1.2]
  ·simp at q1
 have hp:o2.op=.panic (.tmp i):=by
  unfold panicX at q2
  split at q2
  ·rename_i t0 hop;simp only [aa] at q2;rw [hop,q2]
  ·simp at q2
 have hm:=hmk b
 rw [<- ht] at hm
 rw [z6j hl]
 exact .pan eo (z13 h) hi q3 hg1 hp hg2 he hm ht hN

theorem z74 {ds:List DOpr} {m:Nat}:m ∈ callIx ds ↔ ∃ d,ds[m]? = some d/\isCallD d=true:=by
 unfold callIx
 rw [List.mem_filter,bV]
 constructor
 ·rintro ⟨h1,h2⟩
  rw [ao h1] at h2
  exact ⟨_,ao h1,h2⟩
 ·rintro ⟨d,h1,h2⟩
  exact ⟨(ac.1 h1).1,by rw [h1];exact h2⟩
theorem zp0:∀ {a b:List DOpr} {i:Nat} {x:DOpr},a=mkQ a b->a[i]? = some x->x=noopD\/b[i]? = some x
 | [],_,i,x,_,h=>by simp at h
 | p::a,[],i,x,h,h2=>by simp [mkQ] at h
 | p::a,q::b,0,x,h,h2=>by
  simp only [mkQ,bF] at h
  simp only [bB,aa] at h2 ⊢
  subst h2
  split at h
  ·exact .inl h.1
  ·exact .inr h.1.symm
 | p::a,q::b,i+1,x,h,h2=>by
  simp only [mkQ,bF] at h
  exact zp0 (i:=i) h.2 (by simpa using h2)

theorem zjr {S:List Nat} {N k:Nat} {ops:Array Oper} {ds dsQ:List DOpr} {ap:List (Nat × Nat)} {ks:List Nat} (h1:OpsL T F ops.toList ops.toList ds) (hq:dsQ=mkQ dsQ ds) (hb:probeB N S ops.toList dsQ ap ks k=true) :
  ProbeOk T F ops dsQ ap ks (callIx dsQ) N/\(∀ (i:Nat) d n,dsQ[i]? = some d->d.dst=some n->n ∉ S)/\k<N:=by
 simp only [probeB,ai,decide_eq_true_eq,beq_iff_eq] at hb
 obtain ⟨⟨⟨⟨⟨⟨⟨hd,hl⟩,hk⟩,hS⟩,hkd⟩,hu⟩,hks⟩,hkM⟩:=hb
 have dk:=z81 hd
 simp only [drawB,ai] at hd
 obtain ⟨⟨⟨_,hp⟩,_⟩,_⟩:=hd
 have hl':ops.size=dsQ.length:=by simpa using hl
 refine ⟨⟨hl',⟨fun i m=>((masks [] ops.toList).getD i 0).testBit m=true,fun i m hm=>?_,fun j i oj oi hji hj hi=>?_,fun i o d ho hdi=>?_⟩,dk.back,dk.aps,dk.consts,fun m hm i dm d n hdm hdi hne hn=>?_,fun j hj=>?_,fun m dm j hm hdm hj=>?_⟩,fun i d n hdi hn=>?_,hk⟩
 ·obtain ⟨o,h5,h6⟩:=z5g (acc:=[]) (cx _) hm
  exact ⟨o,by simpa using h5,h6⟩
 ·have hlt:=(ac.1 hi).1
  have:=aw.1 (aw.1 hp i (bV.2 hlt)) j (bV.2 hji)
  simp only [hj,hi,bz,ai] at this
  exact this.imp (fun h=>h) (fun h=>⟨z8c h.1,h.2⟩)
 ·have hlt:=(ac.1 hdi).1
  have hx:=aw.1 hkd i (bV.2 hlt)
  simp only [hdi] at hx
  by_cases hn:isNoop d=true
  ·rw [if_pos hn] at hx
   exact .inl ⟨zcu hn,fun m hm=>aw.1 hx m hm⟩
  ·rw [if_neg hn] at hx
   have hin:ds[i]? = some d:=(zp0 hq hdi).resolve_left fun e=>hn (by rw [e];rfl)
   have hL:=OpsL.at h1 i o d (by simpa using ho) hin
   by_cases hc:isCallD d=true
   ·rw [if_pos hc] at hx
    have hM:i ∈ callIx dsQ:=z74.2 ⟨d,hdi,hc⟩
    unfold tryB at hx
    split at hx
    case h_2=>cases hx
    rename_i kk md f' as e1 e2 e3
    simp only [ai,decide_eq_true_eq,bz,beq_iff_eq,br,List.isEmpty_eq_false_iff] at hx
    have hop:=hL.op
    rw [e2] at hop
    have hg:=hL.gd
    have hdst:=hL.dst
    rw [e1] at hdst
    rw [e3] at hg
    have hgn:o.guard=none:=by
     unfold stripGd at hg
     split at hg
     ·assumption
     ·split at hg
      ·split at hg
       ·simp at hg
       ·simp at hg
      ·simp at hg
    refine .inr (.inr ⟨hM,kk,md,f',as,⟨?_,hdst.symm,hgn,by obtain ⟨x,y,z⟩:=d;simp only at e1 e2 e3;rw [e1,e2,e3]⟩,hx.2.imp id fun h=>⟨h.1.1,h.1.2,h.2⟩,hx.1⟩)
    generalize o.op=oo at hop
    cases hop with
    | call _ q1 q2=>exact ⟨_,_,_,rfl,q1,q2⟩
   ·rw [if_neg hc] at hx
    exact .inr (.inl ⟨fun hM=>by
     obtain ⟨d',h5,h6⟩:=z74.1 hM
     rw [hdi] at h5
     simp only [aa] at h5
     exact hc (h5 ▸ h6),hL,hx⟩)
 ·have:=aw.1 (aw.1 hu m hm) i (bV.2 (ac.1 hdi).1)
  simp only [hdm,hdi,hn,bz,beq_iff_eq,Option.isNone_some,aE,false_or,br] at this
  rcases this with h | h
  ·exact absurd h hne
  ·intro e;rw [e] at h;simp at h
 ·have:=aw.1 hks j hj
  obtain ⟨m,hm,h2⟩:=dW.1 this
  obtain ⟨dm,h3,_⟩:=z74.1 hm
  rw [h3] at h2
  exact ⟨m,dm,hm,h3,by simpa using h2⟩
 ·have:=aw.1 hkM m hm
  simp only [hdm,hj] at this
  simpa using this
 ·have:=aw.1 hS d (bf hdi)
  rw [hn] at this
  simpa using this

theorem z5p {pt:Nat × Nat} {S:List Nat} {N:Nat} {onp:Nat->DC} (hmix:P.follows .mixedOrders=true) (hmk:∀ b (v:Value) (w:World),(d6 (if b=true then pt.2 else pt.1) v).run P w=.ok (.iface (if b=true then pt.2 else pt.1) v) w) :
  ∀ {c:Code} {dc:DC},(eqsP T F onp c dc).map ia=(eqsP T F onp c dc).map fN->boolP pt S N c dc=true->CLp P pt T F onp S N c dc:=by
 intro c dc
 have app:∀ {l1 l2:List (Option DC × Option DC)},(l1++l2).map ia=(l1++l2).map fN->l1.map ia=l1.map fN/\l2.map ia=l2.map fN:=by
  intro l1 l2 h
  simp only [List.map_append] at h
  exact List.append_inj h (by simp)
 induction c,dc using eqsP.induct with
 | case1 x y x' y' ih1 ih2=>
  intro h hb
  simp only [eqsP] at h
  simp only [boolP,ai] at hb
  exact .seq (ih1 (app h).1 hb.1) (ih2 (app h).2 hb.2)
 | case2 c x y c' x' y' ih1 ih2=>
  intro h hb
  simp only [eqsP,ax,bF,ab,DC.cond.injEq,and_true,exists_eq_right] at h
  simp only [boolP,ai] at hb
  exact .cond h.1 (ih1 (app h.2).1 hb.1) (ih2 (app h.2).2 hb.2)
 | case3 i x i' x' ih=>
  intro h hb
  simp only [eqsP] at h
  simp only [boolP,ai,beq_iff_eq,decide_eq_true_eq] at hb
  obtain ⟨⟨rfl,h2⟩,h3⟩:=hb
  exact .block h2 (ih h h3)
 | case4 x x' ih=>
  intro h hb
  simp only [eqsP] at h
  simp only [boolP] at hb
  exact .loop (ih h hb)
 | case5 id ops dr apQ dsQ ks k c d dr' ap ds=>
  intro h hb
  simp only [eqsP,ax,aG,bF,and_true,ab,DC.region.injEq,true_and,exists_eq_right,aa] at h
  simp only [boolP,ai] at hb
  obtain ⟨⟨⟨⟨rfl,rfl⟩,hc⟩,h3⟩,h4⟩:=hb
  obtain ⟨g1,g2,g3⟩:=h
  have hc':c=.t k:=by
   split at hc
   ·rename_i k';rw [beq_iff_eq] at hc;rw [hc]
   ·cases hc
  subst hc'
  have h1:=z13 g1
  obtain ⟨p1,p2,p3⟩:=zjr h1 g2 h4
  rw [g3]
  exact .tried hmix h1 (z81 h3) p1 p2 p3
 | case6 id ops dr dr' ap l c d dr2 ap2 post=>
  intro h hb
  simp only [eqsP,ax,aG,bF,and_true,ab,DC.region.injEq,true_and,exists_eq_right,aa] at h
  simp only [boolP,ai,br,eR] at hb
  obtain ⟨⟨⟨⟨⟨rfl,rfl⟩,rfl⟩,rfl⟩,rfl⟩,h3⟩:=hb
  rw [h.2]
  exact zo8 h3 h.1
 | case7 id ops dr dr' ap l d hne=>
  intro h hb
  have hb':(!dr && !dr' && ap.isEmpty && panB pt N ops.toList l)=true:=by
   cases d with
   | ifp c d1 d2=>cases d2 <;> first | exact hb | exact absurd rfl (hne _ _ _ _ _)
   | _=>exact hb
  have h':([((stripOps T F ops.toList (ops.toList.take (l.length - 1))).map (DC.region false []),some (DC.region false [] (eraseOps l.dropLast))),panE F ops.toList l,(some d,some (onp (lastK l)))]:List (Option DC × Option DC)).map ia=List.map fN [((stripOps T F ops.toList (ops.toList.take (l.length - 1))).map (DC.region false []),some (DC.region false [] (eraseOps l.dropLast))),panE F ops.toList l,(some d,some (onp (lastK l)))]:=by
   cases d with
   | ifp c d1 d2=>cases d2 <;> first | exact h | exact absurd rfl (hne _ _ _ _ _)
   | _=>exact h
  simp only [ax,aG,bF,and_true,ab,DC.region.injEq,true_and,exists_eq_right,aa] at h'
  simp only [ai,br,eR] at hb'
  obtain ⟨⟨⟨rfl,rfl⟩,rfl⟩,h3⟩:=hb'
  rw [h'.2.2]
  exact zqy hmk h3 h'.1 h'.2.1
 | case8 c dc h1 h2 h3 h4 h5 h6 h7=>
  intro h hb
  have hb':(drawC false c dc && exB dc)=true:=by
   unfold boolP at hb
   split at hb
   all_goals first
    | exact hb
    | exact (h1 _ _ _ _ rfl rfl).elim
    | exact (h2 _ _ _ _ _ _ rfl rfl).elim
    | exact (h3 _ _ _ _ rfl rfl).elim
    | exact (h4 _ _ rfl rfl).elim
    | exact (h5 _ _ _ _ _ _ _ _ _ _ _ _ rfl rfl).elim
    | exact (h6 _ _ _ _ _ _ _ _ _ _ _ rfl rfl).elim
    | exact (h7 _ _ _ _ _ _ _ rfl rfl).elim
  have h':stripC T F c=some (eraseC dc):=by
   unfold eqsP at h
   split at h
   all_goals first
    | (simpa using h;done)
    | exact (h1 _ _ _ _ rfl rfl).elim
    | exact (h2 _ _ _ _ _ _ rfl rfl).elim
    | exact (h3 _ _ _ _ rfl rfl).elim
    | exact (h4 _ _ rfl rfl).elim
    | exact (h5 _ _ _ _ _ _ _ _ _ _ _ _ rfl rfl).elim
    | exact (h6 _ _ _ _ _ _ _ _ _ _ _ rfl rfl).elim
    | exact (h7 _ _ _ _ _ _ _ rfl rfl).elim
  simp only [ai] at hb'
  exact .base (zp6 h' hb'.1) hb'.2

end

def fnMB (T:Phi) (pt:Nat × Nat) (fn:dD) (G:DFn):Bool:=
 (match fn.body with
 | some c=>boolP pt [] G.ntmps c G.body
 | none=>false) && fn.ntmps == G.ntmps && rvB T fn.results.toList G.results

theorem z2c {P:Program} {T F:Phi} {pt:Nat × Nat} {f:Nat} {fn:dD} {G:DFn} (hmix:P.follows .mixedOrders=true) (h:P.funcs[f]? = some fn) (k1:P.concrete pt.1=true) (k2:P.concrete pt.2=true)
  (h1:(match fn.body with | some c=>(eqsP T F (fun k=>.exit (panX+k)) c G.body).map ia | none=>[])=(match fn.body with | some c=>(eqsP T F (fun k=>.exit (panX+k)) c G.body).map fN | none=>[])) (h2:fnMB T pt fn G=true):FnM P T F pt f G:=by
 simp only [fnMB,ai,beq_iff_eq] at h2
 obtain ⟨⟨h3,h4⟩,h5⟩:=h2
 cases hb:fn.body with
 | none=>rw [hb] at h3;simp at h3
 | some c=>
  rw [hb] at h1 h3
  refine ⟨fn,c,h,hb,h4,z7c h5,z5p hmix (fun b v w=>?_) h1 h3⟩
  cases b
  ·exact fw w _ v k1
  ·exact fw w _ v k2

end Dv

namespace Dv
open Go (Value Program World Act Oper Operand Code)

def tailB (ops:List Oper) (k:Nat):Bool:=
 ((b6 ops.length).all fun i=>match ops[i]? with
  | some o=>o.after.toList.all fun e=>!bH .any e || e.on<i
  | none=>true) &&
 ((b6 k).all fun m=>((masks [] ops).getD k 0).testBit m) &&
 (match ops[k+1]? with
  | some o=>o.after.toList.any fun e=>bH .any e && e.on == k
  | none=>false)

theorem zmi {ops:Array Oper} {k:Nat} {o2:Oper} (h2:ops.toList[k+1]? = some o2) (h:tailB ops.toList k=true):TailOk ops k o2:=by
 simp only [tailB,ai] at h
 obtain ⟨⟨q1,q2⟩,q3⟩:=h
 refine ⟨fun i o ho e he hb=>?_,⟨fun i m=>((masks [] ops.toList).getD i 0).testBit m=true,fun i m hm=>?_,fun m hm=>?_⟩,?_⟩
 ·have hlt:=(aK.1 ho).1
  have:=aw.1 q1 i (bV.2 (by simpa using hlt))
  rw [show ops.toList[i]? = some o from by simpa using ho] at this
  have:=aw.1 this e (by simpa using he)
  simpa [hb] using this
 ·obtain ⟨o,h5,h6⟩:=z5g (acc:=[]) (cx _) hm
  exact ⟨o,by simpa using h5,h6⟩
 ·exact aw.1 q2 m (bV.2 hm)
 ·rw [h2] at q3
  obtain ⟨e,he,hb⟩:=dW.1 q3
  simp only [ai,beq_iff_eq] at hb
  exact ⟨e,by simpa using he,hb.1,hb.2⟩

def siteOB (N:Nat) (o:Oper) (k md:Nat):Bool:=isCallV (some o) && (o.dst == some k) && o.guard.isNone && (md == 5 || md == 6) && decide (k<N)

theorem zey {T F:Phi} {N k md:Nat} {o:Oper} {f':Opd} {as:List Opd} (hb:siteOB N o k md=true) (h:stripOp T F o.op=some (.call 0 f' as)):SiteO F N o k md f' as:=by
 simp only [siteOB,ai,beq_iff_eq,bz,decide_eq_true_eq,eD] at hb
 obtain ⟨⟨⟨⟨hc,hd⟩,hg⟩,hmd⟩,hk⟩:=hb
 simp only [isCallV] at hc
 split at hc
 case h_2=>simp at hc
 rename_i f0 args at_ hop
 rw [hop] at h
 simp only [stripOp] at h
 have:∃ a b,stripOpd F f0=some a/\stripL F args.toList=some b/\DOp.call 0 a b=DOp.call 0 f' as:=by
  unfold o2 at h
  split at h
  ·rename_i a b q1 q2;exact ⟨a,b,q1,q2,by simpa using h⟩
  ·simp at h
 obtain ⟨a,b,q1,q2,q3⟩:=this
 simp only [DOp.call.injEq,true_and] at q3
 obtain ⟨rfl,rfl⟩:=q3
 exact ⟨⟨f0,args,at_,hop,q1,q2⟩,hd,hg,hmd,hk⟩

theorem zli {P:Program} {T F:Phi} {pt:Nat × Nat} {S:List Nat} {N id:Nat} {onp:Nat->DC} {ops:Array Oper} {pre:List Oper} {o1 o2:Oper} {pre':List DOpr} {ap:List (Nat × Nat)} {k1 md1 k2 md2:Nat} {f1 f2:Opd} {as1 as2:List Opd} (hmix:P.follows .mixedOrders=true)
  (hops:ops.toList=pre++[o1,o2]) (h1:stripOps T F pre pre=some (eraseOps pre')) (hdk:drawB pre pre' ap=true) (hgp:(pre.all fun o=>o.guard.isNone)=true) (b1:siteOB N o1 k1 md1=true) (s1:stripOp T F o1.op=some (.call 0 f1 as1)) (b2:siteOB N o2 k2 md2=true) (s2:stripOp T F o2.op=some (.call 0 f2 as2)) (ht:tailB ops.toList pre.length=true) :
  CLp P pt T F onp S N (.region id ops true) (drawnD onp ap pre' k1 md1 f1 as1 k2 md2 f2 as2):=
 .drawn hmix hops (z13 h1) (z81 (by simpa using hdk)) (fun o ho=>by simpa using aw.1 hgp o ho) (zey b1 s1) (zey b2 s2) (zmi (by rw [hops];simp) ht)

theorem zd5 {P:Program} {T F:Phi} {pt:Nat × Nat} {S:List Nat} {N id:Nat} {onp:Nat->DC} {ops:Array Oper} {pre':List DOpr} {ap:List (Nat × Nat)} {k1 md1 k2 md2:Nat} {f1 f2:Opd} {as1 as2:List Opd} (k:Nat) (hmix:P.follows .mixedOrders=true) (hlen:ops.size=k+2)
  (h1:stripOps T F (ops.toList.take k) (ops.toList.take k)=some (eraseOps pre')) (hdk:drawB (ops.toList.take k) pre' ap=true) (hgp:((ops.toList.take k).all fun o=>o.guard.isNone)=true) (b1:siteOB N (ops.getD k default) k1 md1=true) (s1:stripOp T F (ops.getD k default).op=some (.call 0 f1 as1))
  (b2:siteOB N (ops.getD (k+1) default) k2 md2=true) (s2:stripOp T F (ops.getD (k+1) default).op=some (.call 0 f2 as2)) (ht:tailB ops.toList k=true) :
  CLp P pt T F onp S N (.region id ops true) (drawnD onp ap pre' k1 md1 f1 as1 k2 md2 f2 as2):=by
 have hl:(ops.toList.take k).length=k:=by simp;omega
 refine zli (pre:=ops.toList.take k) (o1:=ops.getD k default) (o2:=ops.getD (k+1) default) hmix ?_ h1 hdk hgp b1 s1 b2 s2 (by rw [hl];exact ht)
 have e:ops.toList=ops.toList.take k++ops.toList.drop k:=(b7 k _).symm
 have h3:k<ops.toList.length:=by simp;omega
 have h4:k+1<ops.toList.length:=by simp;omega
 rw [cJ h3,cJ h4,cu (by simp;omega)] at e
 have g1:ops.getD k default=ops.toList[k]:=by simp [aj,show k<ops.size from by omega]
 have g2:ops.getD (k+1) default=ops.toList[k+1]:=by simp [aj,show k+1<ops.size from by omega]
 rw [g1,g2]
 exact e

end Dv

namespace Dv
open Go (Value Program World Act Oper Operand Code Ending Exit FrameMode)


def nowr (S:List Nat):DC->Bool
 | .region _ _ ops=>ops.all fun o=>(match o.dst with
  | some n=>!S.contains n
  | none=>true)
 | .seq a b=>nowr S a && nowr S b
 | .cond _ a b=>nowr S a && nowr S b
 | .ifp _ a b=>nowr S a && nowr S b
 | .block _ a=>nowr S a
 | .loop a=>nowr S a
 | .rfunc _ _ _ _=>false
 | .probe _ _ _ k=>!S.contains k
 | _=>true

section
variable {P:Program} {E:Env} {CL:CLink} {F:Phi} {T:Phi} {B M:Nat} {D0:List cX} {K:Nat->Prop} {ρ : Rho} {H:HS} {os:List Obj} {w:World} {a:Act} {sl:List D} {pt:Nat × Nat}

theorem z6s {sl:List D} {o:Option Nat} {d:D} {x:Nat} (h:o ≠ some x):(putO sl o d).getD x .undef=sl.getD x .undef:=by
 cases o with
 | none=>rfl
 | some n=>
  simp only [putO,am]
  rw [aX (fun e=>h (by rw [e]))]

theorem z9r {callP:Nat->List D->Option D} {callS callY:Nat->List D->List Obj->Option (D × List Obj)} {id:Nat} {o:DOpr} {st st':St} {x:Nat} (h:step1 E callP callS callY id o st=some st') (hx:o.dst ≠ some x):st'.sl.getD x .undef=st.sl.getD x .undef:=by
 unfold step1 at h
 split at h
 ·split at h
  ·simp only [aa] at h;subst h;exact z6s hx
  ·simp at h
 ·simp only [aa] at h;subst h;exact z6s hx

theorem z79 {callP:Nat->List D->Option D} {callS callY:Nat->List D->List Obj->Option (D × List Obj)} {x:Nat}:∀ {l:List DOpr} {st st':St},stepOps E callP callS callY l st=some st'->(∀ o,o ∈ l->o.dst ≠ some x)->st'.sl.getD x .undef=st.sl.getD x .undef
 | [],st,st',h,_=>by simp only [stepOps,aa] at h;rw [h]
 | o::l,st,st',h,hx=>by
  rw [ze] at h
  simp only [aI] at h
  obtain ⟨s1,h1,h2⟩:=h
  rw [z79 h2 (fun o ho=>hx o (by simp [ho])),z9r h1 (hx o (by simp))]

theorem z63 {callP:Nat->List D->Option D} {callS callY:Nat->List D->List Obj->Option (D × List Obj)} {x:Nat}:∀ {l:List DOpr} {id:Nat} {st st':St},stepOpsD E callP callS callY id l st=some st'->(∀ o,o ∈ l->o.dst ≠ some x)->st'.sl.getD x .undef=st.sl.getD x .undef
 | [],id,st,st',h,_=>by simp only [stepOpsD,aa] at h;rw [h]
 | o::l,id,st,st',h,hx=>by
  rw [z47] at h
  simp only [aI] at h
  obtain ⟨s1,h1,h2⟩:=h
  rw [z63 h2 (fun o ho=>hx o (by simp [ho])),z9r h1 (hx o (by simp))]

theorem zqu {S:List Nat} {x:Nat} (hxS:x ∈ S):∀ {n:Nat} {c:DC} {st st':St} {ex:Ex},nowr S c=true->dC E n c st=some (ex,st')->st'.sl.getD x .undef=st.sl.getD x .undef:=by
 intro n
 induction n with
 | zero=>intro c st st' ex _ h;simp [dC] at h
 | succ n ih=>
  intro c st st' ex hw h
  cases c with
  | skip=>simp [dC] at h;rw [h.2]
  | ret=>simp [dC] at h;rw [h.2]
  | exit id=>simp [dC] at h;rw [h.2]
  | seq c d=>
   simp only [nowr,ai] at hw
   simp only [dC] at h
   split at h
   ·rename_i st1 h1;rw [ih hw.2 h,ih hw.1 h1]
   ·exact ih hw.1 h
  | cond c a b=>
   simp only [nowr,ai] at hw
   simp only [dC] at h
   split at h
   ·exact ih hw.1 h
   ·exact ih hw.2 h
   ·simp at h
  | ifp c a b=>
   simp only [nowr,ai] at hw
   simp only [dC] at h
   split at h
   ·exact ih hw.1 h
   ·exact ih hw.2 h
  | block id a=>
   simp only [nowr] at hw
   simp only [dC] at h
   split at h
   ·rename_i id' st1 h1
    simp only [aa,ak] at h
    rw [<- h.2];exact ih hw h1
   ·exact ih hw h
  | loop a=>
   have hw':=hw
   simp only [nowr] at hw'
   simp only [dC] at h
   split at h
   ·rename_i st1 h1;rw [ih hw h,ih hw' h1]
   ·exact ih hw' h
  | region dr ap ops=>
   simp only [nowr,aw] at hw
   have hw':∀ o,o ∈ ops->o.dst ≠ some x:=fun o ho e=>by
    have:=hw o ho
    rw [e] at this
    simp [hxS] at this
   simp only [dC,ab,ak] at h
   obtain ⟨s1,h1,_,rfl⟩:=h
   split at h1
   ·unfold checkAp at h1
    split at h1
    ·rename_i s2 h2
     split at h1
     ·simp only [aa] at h1;subst h1
      have:=z63 h2 hw'
      exact this
     ·simp at h1
    ·simp at h1
   ·exact z79 h1 hw'
  | probe ap ops ks k=>
   simp only [nowr,br] at hw
   have hk:k ≠ x:=fun e=>by subst e;simp [hxS] at hw
   simp only [dC] at h
   split at h
   ·unfold probeR at h
    split at h
    ·split at h
     ·simp at h
     ·simp only [aa,ak] at h;rw [<- h.2]
    ·split at h
     ·simp only [aa,ak] at h
      rw [<- h.2]
      simp only [am,aX hk]
     ·simp at h
   ·simp at h
  | rfunc f ps asg body=>simp [nowr] at hw


theorem z4q {fn:dD} {tmps:Array Value} {r:Option Nat} {R:Ending->World->Prop} {u:FrameMode} (hu:u ≠ .run):∀ (l:List Nat) (w:World),
  (∀ x,x ∈ l->w.heap[x]? = some (.deferred (some [])))->l.Nodup ->
  (∀ w',(w'.heap=l.foldl (fun hp x=>hp.setIfInBounds x (.deferred none)) w.heap/\Still w w')->dp (Fw r) 0 P fn tmps R D0 u w') ->
  dp (Fw r) 0 P fn tmps R (l.map mkMark++D0) u w
 | [],w,_,_,h=>h w ⟨rfl,Still.refl _⟩
 | x::l,w,hm,hnd,h=>by
  have hx:=hm x (by simp)
  obtain ⟨hnx,hnd⟩:=fd.1 hnd
  refine ⟨hu,.inl ⟨x,{ w with heap:=w.heap.setIfInBounds x (.deferred none) },rfl,?_,?_⟩⟩
  ·unfold gg
   simp [Go.getObj,ge,dK,hx]
  ·refine z4q hu l _ (fun y hy=>?_) hnd (fun w' he=>h w' ⟨he.1,he.2.os,he.2.tape,he.2.out,he.2.dr⟩)
   have:x ≠ y:=fun e=>hnx (by rw [e];exact hy)
   simp only [bQ this]
   exact hm y (by simp [hy])

structure Closes (P:Program) (E:Env) (T F:Phi) (pt:Nat × Nat) (g:Nat) (eff:List D->D->List Obj->Option (List Obj)) (sh:List D->Prop):Prop where
 idle:∀ (ρ : Rho) (H:HS) (w:World) (caps:Array Value) (ds:List D),sh ds->RepL F ρ H w.heap caps.toList ds ->
  iv (Fw none) 0 P g caps .returning w fun e u' w'=>(∃ v,e=.returned v)/\u'=.returning/\w'=w
 hit:∀ (B:Nat) (ρ : Rho) (H:HS) (os os':List Obj) (w:World) (caps:Array Value) (ds:List D) (v:Value) (e:D),sh ds->RepL F ρ H w.heap caps.toList ds->SR (CLk T F true) F B ρ H w.heap os->PanV pt v e->eff ds e os=some os' ->
  iv (Fw none) 0 P g caps (.panicking [{ v:=v,recovered:=false }]) w fun en u' w'=>(∃ v,en=.returned v)/\kB u'=.returning/\os.length<=os'.length /\ ∃ ρ' H',PostT (CLk T F true) F B (fun i=>i<os.length) ρ H w ρ' H' w' os'

def onpD (S:List Nat) (tl:Nat->List DOpr) (k:Nat):DC:=if S.contains k=true then deadC else .seq (.region false [] (tl k)) .ret

theorem zdr {S:List Nat} {tl:Nat->List DOpr}:Leaves E (onpD S tl):=by
 intro k j st ex st' h
 unfold onpD at h
 split at h
 ·cases j with
  | zero=>simp [dC] at h
  | succ j=>simp [dC,getO] at h
 ·cases j with
  | zero=>simp [dC] at h
  | succ j=>
   simp only [dC] at h
   cases j with
   | zero=>simp [dC] at h
   | succ j=>
    simp only [dC] at h
    split at h
    ·rename_i h1
     simp only [aa,ak] at h
     rw [<- h.1]
     exact ⟨(by intro e;cases e),fun i e=>by cases e⟩
    ·rename_i x hx
     simp only [ab,ak] at h
     obtain ⟨s1,h1,rfl,rfl⟩:=h
     exact (hx s1 (by simpa using h1)).elim

def rvSlot:RV->Nat
 | .tmp t=>t
 | .cell a _=>a

theorem z6r {st st2:St} (hp:st.hp=st2.hp):∀ {rs:List RV},(∀ rv,rv ∈ rs->st.sl.getD (rvSlot rv) .undef=st2.sl.getD (rvSlot rv) .undef)->resD E st rs=resD E st2 rs
 | [],_=>rfl
 | .tmp t::r,h=>by
  simp only [resD]
  rw [z6r hp (fun rv hr=>h rv (by simp [hr])),show st.sl.getD t .undef=st2.sl.getD t .undef from h (.tmp t) (by simp)]
 | .cell a t::r,h=>by
  simp only [resD]
  rw [z6r hp (fun rv hr=>h rv (by simp [hr])),show st.sl.getD a .undef=st2.sl.getD a .undef from h (.cell a t) (by simp),hp]

theorem zat {fn:dD} {tmps tmps':Array Value} {rs:List RV} (hr:RvL T fn.results.toList rs) (h:∀ rv,rv ∈ rs->tmps.getD (rvSlot rv) ay=tmps'.getD (rvSlot rv) ay):eB fn tmps=eB fn tmps':=by
 have e:∀ tmps,eB fn tmps=(do
   let vs <- fn.results.mapM (resF tmps)
   pure (if h:vs.size=1 then vs[0] else .tuple vs)):=fun _=>rfl
 have key:∀ {l:List fM} {rs:List RV},RvL T l rs->(∀ rv,rv ∈ rs->tmps.getD (rvSlot rv) ay=tmps'.getD (rvSlot rv) ay)->∀ x,x ∈ l->resF tmps x=resF tmps' x:=by
  intro l
  induction l with
  | nil=>intro rs _ _ x hx;cases hx
  | cons y l ih=>
   intro rs hl hs x hx
   cases rs with
   | nil=>cases y <;> exact hl.elim
   | cons r rs=>
    rcases aC.1 hx with rfl | hx
    ·cases x <;> cases r <;> simp only [RvL] at hl
     ·obtain ⟨rfl,_⟩:=hl
      have:=hs _ jn
      simp only [rvSlot] at this
      simp only [resF,this]
     ·obtain ⟨rfl,_⟩:=hl
      have:=hs _ jn
      simp only [rvSlot] at this
      simp only [resF,this]
    ·refine ih (rs:=rs) ?_ (fun rv hr=>hs rv (by simp [hr])) x hx
     cases y <;> cases r <;> simp only [RvL] at hl
     ·exact hl.2
     ·exact hl.2.2
 rw [e,e,ey,ey]
 have hm:fn.results.toList.mapM (resF tmps)=fn.results.toList.mapM (resF tmps'):=by
  have:=key hr h
  generalize fn.results.toList=l at this
  induction l with
  | nil=>rfl
  | cons y l ih=>
   rw [fg,fg,this y (by simp),ih (fun x hx=>this x (by simp [hx]))]
 rw [hm]


theorem zbi {n:Nat} {x y:DC} {st st':St} {ex:Ex} (hx:∀ m st1 e,dC E m x st=some (e,st1)->e=.normal) (h:dC E n (.seq x y) st=some (ex,st')):∃ m st1,n=m+1/\dC E m x st=some (.normal,st1)/\dC E m y st1=some (ex,st'):=by
 cases n with
 | zero=>simp [dC] at h
 | succ m=>
  simp only [dC] at h
  split at h
  ·rename_i st1 h1;exact ⟨m,st1,rfl,h1,h⟩
  ·rename_i hne
   have:=hx m st' ex h
   subst this
   exact absurd h (hne _)

theorem z1d {m:Nat} {ap:List (Nat × Nat)} {ops:List DOpr} {st st1:St} {e:Ex} (h:dC E m (.region false ap ops) st=some (e,st1)):e=.normal /\ ∃ j,m=j+1/\stepOps E (runP E (dC E j)) (runS E (dC E j)) (runY (dC E j)) ops st=some st1:=by
 cases m with
 | zero=>simp [dC] at h
 | succ j=>
  simp only [dC,aE,if_false,ab,ak] at h
  obtain ⟨s1,h1,h2,rfl⟩:=h
  exact ⟨h2.symm,j,rfl,h1⟩


theorem zce {tmps:Array Value} (hs:RepL F ρ H w.heap tmps.toList sl):∀ (cs:List Nat),(∀ x,x ∈ cs->x<sl.length)->RepL F ρ H w.heap (cs.map fun x=>tmps.getD x ay) (cs.map fun x=>sl.getD x .undef)
 | [],_=>.nil
 | x::cs,h=>by
  have hx:=h x (by simp)
  obtain ⟨v,hv,hr⟩:=hs.get (ao hx)
  have e1:tmps.getD x ay=v:=by
   have:tmps[x]? = some v:=by simpa using hv
   simp [aj,this]
  have e2:sl.getD x .undef=sl[x]:=by rw [am,ao hx,bD]
  rw [ax,ax,e1,e2]
  exact .cons hr (zce hs cs fun y hy=>h y (by simp [hy]))

theorem z4j (TA:TAll P E T) (FO:FnsOk P F) {f f' g g' km:Nat} {fn:dD} {G:DFn} {i0 i1:Nat} {o0:Array Oper} {oM oD:Oper} {rest:Code} {ops0:List DOpr} {cs S:List Nat} {rest':DC} {tl:Nat->List DOpr}
  {eff:List D->D->List Obj->Option (List Obj)} {sh:List D->Prop} {atD:Array d9}
  (hG:E.fn f'=some G) (hmp:E.mp f'=false) (hfn:P.funcs[f]? = some fn) (hb:fn.body=some (.seq (.region i0 o0 false) (.seq (.region i1 #[oM,oD] false) rest))) (hnt:fn.ntmps=G.ntmps) (hres:RvL T fn.results.toList G.results)
  (hbody:G.body=.seq (.region false [] ops0) (.seq (.region false [] [⟨some km,.mkfn g' (cs.map .t),none⟩]) rest')) (h0:OpsL T F o0.toList o0.toList ops0)
  (hM:oM.op=.makeFunc (.func g) #[] (cs.map Operand.tmp).toArray) (hMd:oM.dst=some km) (hMg:oM.guard=none)
  (hD:oD.op=.defer { callee:=.value (.tmp km),args:=#[],argTypes:=atD }) (hDd:oD.dst=none) (hDg:oD.guard=none) (hFg:F g=some g')
  (hcl:CLp P pt T F (onpD S tl) S G.ntmps rest rest') (hkm:km<G.ntmps) (hkc:∀ x,x ∈ cs->x ≠ km) (hkS:∀ x,x ∈ cs->x<G.ntmps) (hnw:nowr cs rest'=true) (hcS:∀ x,x ∈ cs->x ∈ S) (hrS:∀ rv,rv ∈ G.results->rvSlot rv ∈ S)
  (C:Closes P E T F pt g eff sh)
  (hsh:∀ (n:Nat) (st st1:St),stepOps E (runP E (dC E n)) (runS E (dC E n)) (runY (dC E n)) ops0 st=some st1->G.ntmps<=st.sl.length->sh (cs.map fun x=>st1.sl.getD x .undef))
  (htl:∀ (j k:Nat) (sl:List D) (mk:D) (hp:List Obj) (ex:Ex) (st':St),k ∉ S->k<sl.length->isMark mk=true->dC E j (.seq (.region false [] (tl k)) .ret) ⟨sl.set k mk,hp⟩=some (ex,st') ->
   ex=.ret/\(∀ t,t ≠ k->st'.sl.getD t .undef=sl.getD t .undef) /\ ∀ e v,markE mk=some e->PanV pt v e->eff (cs.map fun x=>sl.getD x .undef) e hp=some st'.hp):Hatch P E T F pt f f':=by
 intro n KC K r B ρ H os os' w vals ds d h S0 hr
 have hmain:ez (Fw none) 0 P f vals w (StatR (CLk T F true) F B ρ H os w d os'):=by
  refine fV hfn hb trivial ?_
  simp only [runS,hG,hmp,finishQ] at h
  have slots:=z8b (os:=os) hnt hr
  have hlen0:G.ntmps<=(startF G ds os).sl.length:=by simp [startF];omega
  cases hrun:dC E n G.body (startF G ds os) with
  | none=>rw [hrun] at h;simp [finishF] at h
  | some x=>
  obtain ⟨ex,st'⟩:=x
  rw [hrun] at h
  rw [hbody] at hrun
  obtain ⟨n1,st1,rfl,h1,h2⟩:=zbi (fun m s e h=>(z1d h).1) hrun
  obtain ⟨_,n2,rfl,g1⟩:=z1d h1
  obtain ⟨n3,st2,hn3,g2,h3⟩:=zbi (fun m s e h=>(z1d h).1) h2
  obtain rfl:n2=n3:=by omega
  obtain ⟨_,n4,rfl,q2⟩:=z1d g2
  have K1:=K (n4+1) (by omega)
  have len1:(startF G ds os).sl.length=st1.sl.length:=z2d g1
  -- the first region
  refine iu (eJ ?_)
  have sz0:o0.size=ops0.length:=by simpa using h0.len
  rw [eC,sz0]
  refine zav TA FO K1.pure K1.stat K1.yld ops0 0 (by simpa using h0) g1 S0 slots (fun a1 w1 ρ1 H1 p1 hs1 hlen1 hd1=>?_)
  -- the closure
  refine iu (eJ ?_)
  rw [show (b6 (#[oM,oD]:Array Oper).size)=[0,1] from rfl]
  have hst2:st2=⟨putO st1.sl (some km) (.fn g' (cs.map fun x=>st1.sl.getD x .undef)),st1.hp⟩:=by
   have e:(cs.map Opd.t).map (getO st1.sl)=cs.map fun x=>st1.sl.getD x .undef:=by
    rw [lg];rfl
   simp only [stepOps,wantedD,if_true,stepOp,DOp.fin,finOp,pureOp,af,applyEf,e] at q2
   simpa using q2.symm
  subst hst2
  have hcap:=zce hs1 cs (fun x hx=>by rw [<- len1];exact aH (hkS x hx) hlen0)
  have hevalM:((cs.map Operand.tmp).toArray.map a1.eval)=(cs.map fun x=>a1.tmps.getD x ay).toArray:=by
   rw [List.map_toArray,lg];rfl
  rw [bG]
  unfold bW
  rw [show (#[oM,oD]:Array Oper)[0]? = some oM from rfl]
  have hwM:aO oM (dN #[oM,oD] a1.tmps)=true:=by unfold aO;rw [hMg]
  simp only [hwM,if_true]
  refine ⟨fun _ _=>trivial,?_⟩
  rw [show (Fw none).round=none from rfl,cW]
  have exM:(aZ a1.eval oM).run P w1=.ok (.value (.func (.func g) #[] (cs.map fun x=>a1.tmps.getD x ay).toArray)) w1:=by
   unfold aZ
   rw [hM]
   simp [hevalM,Go.Instr.makeFunc]
  rw [exM,eF,hMd]
  have hs2:=z2h (dst:=some km) hs1 (.fn g g' (cs.map fun x=>a1.tmps.getD x ay).toArray (cs.map fun x=>st1.sl.getD x .undef) hFg (by simp) (fun j v d hv hd=>hcap.2 j v d (by simpa using hv) hd))
  have hkm1:km<a1.tmps.size:=by
   have e1:st1.sl.length=a1.tmps.size:=by simpa using hs1.1.symm
   omega
  have gkm:(a1.put (some km) (.func (.func g) #[] (cs.map fun x=>a1.tmps.getD x ay).toArray)).eval (.tmp km)=.func (.func g) #[] (cs.map fun x=>a1.tmps.getD x ay).toArray:=by
   simp [Act.eval,Act.put,aj,hkm1]
  have hd2:=(z12 a1 (some km) (.func (.func g) #[] (cs.map fun x=>a1.tmps.getD x ay).toArray)).trans hd1
  generalize hcv:(cs.map fun x=>a1.tmps.getD x ay)=cv at hcap gkm hs2 hd2 ⊢
  generalize a1.put (some km) (.func (.func g) #[] cv.toArray)=a2 at gkm hs2 hd2 ⊢
  rw [bG]
  unfold bW
  rw [show (#[oM,oD]:Array Oper)[1]? = some oD from rfl]
  have hwD:aO oD (dN #[oM,oD] a2.tmps)=true:=by unfold aO;rw [hDg]
  simp only [hwD,if_true]
  refine ⟨fun _ _=>trivial,?_⟩
  rw [show (Fw none).round=none from rfl,cW]
  have exD:(aZ a2.eval oD).run P w1=.ok (.defer { target:=.fn (.func g) cv.toArray,args:=#[] }) w1:=by
   unfold aZ
   rw [hD]
   simp [cM,gkm,a8]
  rw [exD]
  unfold fO
  simp only [hDd]
  rw [show (Act.put { a2 with defers:={ target:=jo (.func g) cv.toArray,args:=#[] }::a2.defers } none ay) = { a2 with defers:={ target:=jo (.func g) cv.toArray,args:=#[] }::a2.defers } from rfl]
  simp only [cz,Exit.then]
  obtain ⟨D1,hD1⟩:∃ D1:List cX,D1=[{ target:=jo (.func g) cv.toArray,args:=#[] }]:=⟨_,rfl⟩
  have ha2:a2.defers=[]:=hd2
  rw [ha2,<- hD1]
  have shp:=hsh _ _ _ g1 hlen0
  generalize hcd:(cs.map fun x=>st1.sl.getD x .undef)=cd at hcap hs2 h3 shp ⊢
  have len2:G.ntmps<=(putO st1.sl (some km) (.fn g' cd)).length:=by simp only [putO,fa];omega
  have hmk0:Marks w1.heap.size w1.heap []:=⟨.nil,fun r h=>by cases h⟩
  -- leaving by way of the closure
  have leave:∀ (u:FrameMode) (tmps:Array Value) (l:List Nat) (w':World) (R:Ending->World->Prop),u ≠ .run->(∀ x,x ∈ l->w'.heap[x]? = some (.deferred (some [])))->l.Nodup ->
    (∀ w2,(w2.heap=l.foldl (fun hp x=>hp.setIfInBounds x (.deferred none)) w'.heap/\Still w' w2)->iv (Fw none) 0 P g cv.toArray u w2 fun en u' w3=>(∃ v,en=.returned v)/\kB u'=.returning /\ ∃ v,(eB fn tmps).run P w3=.ok v w3/\R (.returned v) w3) ->
    dp (Fw none) 0 P fn tmps R (l.map mkMark++D1) u w':=by
   intro u tmps l w' R hu hml hnd hcall
   refine z4q hu l w' hml hnd (fun w2 he=>?_)
   rw [hD1]
   refine ⟨hu,.inr ⟨fun h=>(by cases h),.func g,cv.toArray,g,cv.toArray,rfl,?_,fun _ _=>trivial,?_⟩⟩
   ·unfold bP
    simp only [Array.empty_append]
    exact z3r FO hFg _
   ·refine (hcall w2 he).mono ?_
    rintro en u' w3 ⟨⟨v,rfl⟩,hu',hR⟩
    show dp (Fw none) 0 P fn tmps R [] (kB u') w3
    rw [hu']
    exact hR
  refine codeP TA FO zdr (fun m hm=>KC m (by omega)) (fun m hm=>K m (by omega)) (n4+1) (ar _) rest rest' hcl B w1.heap.size D1 _ st' ex ρ1 H1 { a2 with defers:=D1 } w1 [] h3 len2 p1.sr hs2 rfl hmk0 (ar _) _ (fun a' w' ok hxi=>?_) (fun v a' w' pk=>?_)
  ·obtain ⟨ρ',H',l,p,hs',hlen,hdf,hm⟩:=ok
   have p12:=p1.trans (p.weaken fun i hi=>aH hi hlen1)
   have goal:((resD E st' G.results).map fun l=>(oneRes l,st'.hp))=some (d,os')->dp (Fw none) 0 P fn a'.tmps (StatR (CLk T F true) F B ρ H os w d os') a'.defers .returning w':=by
    intro hh
    simp only [ab,ak] at hh
    obtain ⟨rl,h1,rfl,rfl⟩:=hh
    rw [hdf]
    refine leave .returning a'.tmps l w' _ (fun e=>by cases e) (fun x hx=>(hm.at_ x hx).2) hm.nd (fun w2 he=>?_)
    obtain ⟨u1,u2,u3,u4,u5⟩:=unmark p.sr l w'.heap p.sr (fun x hx=>(hm.at_ x hx).2) hm.nd
    obtain ⟨he,hst2⟩:=he
    rw [<- he] at u1 u2 u3 u4 u5
    refine (C.idle ρ' H' w2 cv.toArray cd shp (hcap.mono (p.ext.trans u2))).mono ?_
    rintro en u' w3 ⟨⟨v,rfl⟩,rfl,rfl⟩
    obtain ⟨v2,q1,q3⟩:=z4c TA u1 (hs'.mono u2) hres h1
    refine ⟨⟨v,rfl⟩,rfl,v2,q1,aD hlen1 hlen,ρ',H',⟨p12.ext.trans u2,u1,by rw [u3];exact p12.size,fun b hb=>?_,fun b ds' hd=>?_,p12.hnew,p12.vac,p12.fz.trans u5,p12.still.trans hst2,fun b hb ho=>by rw [u4 b (fun hbl=>by have:=(hm.at_ b hbl).1;have:=p1.size;omega)];exact p12.frame b hb ho,p12.rb,p12.hn⟩,q3⟩
    ·rw [u4 b (fun hbl=>by have:=(hm.at_ b hbl).1;have:=S0.hB;have:=p1.size;omega)]
     exact p12.frB b hb
    ·rw [u4 b (fun hbl=>by have:=(hm.at_ b hbl).1;have:=z33 hd;have:=p1.size;omega)]
     exact p12.frD b ds' hd
   cases ex with
   | normal=>exact goal h
   | ret=>exact goal h
   | exit i=>simp [finishF] at h
  ·obtain ⟨j,k,sl0,mk,hp,e,m1,m2,m3,m4,m5,a0,ok,hdf0,htm⟩:=pk
   obtain ⟨ρ',H',l,p,hs',hlen,hdf,hm⟩:=ok
   have hkS' : ¬ k ∈ S:=by
    intro hk
    unfold onpD at m1
    rw [if_pos (by simpa using hk)] at m1
    cases j with
    | zero=>simp [dC] at m1
    | succ j=>simp [dC,getO] at m1
   unfold onpD at m1
   rw [if_neg (by simpa using hkS')] at m1
   obtain ⟨rfl,hsame,heff⟩:=htl j k sl0 mk hp ex st' hkS' m2 m3 m1
   have hcds:(cs.map fun x=>sl0.getD x .undef)=cd:=by
    rw [<- hcd]
    refine List.map_congr_left fun x hx=>?_
    rw [<- hsame x (fun e=>hkS' (e ▸ hcS x hx)),zqu hx hnw h3]
    exact z6s (o:=some km) (fun e=>hkc x hx (qM e).symm)
   have p12:=p1.trans (p.weaken fun i hi=>aH hi hlen1)
   simp only [finishF,ab,ak] at h
   obtain ⟨rl,h1,rfl,rfl⟩:=h
   show dp (Fw none) 0 P fn a'.tmps _ a'.defers (.panicking _) w'
   rw [hdf0,hdf]
   refine leave (.panicking _) a'.tmps l w' _ (fun e=>by cases e) (fun x hx=>(hm.at_ x hx).2) hm.nd (fun w2 he=>?_)
   obtain ⟨u1,u2,u3,u4,u5⟩:=unmark p.sr l w'.heap p.sr (fun x hx=>(hm.at_ x hx).2) hm.nd
   obtain ⟨he,hst2⟩:=he
   rw [<- he] at u1 u2 u3 u4 u5
   have pu:PostT (CLk T F true) F B (fun i=>i<(startF G ds os).hp.length) ρ H w ρ' H' w2 hp:=by
    refine ⟨p12.ext.trans u2,u1,by rw [u3];exact p12.size,fun b hb=>?_,fun b ds' hd=>?_,p12.hnew,p12.vac,p12.fz.trans u5,p12.still.trans hst2,fun b hb ho=>by rw [u4 b (fun hbl=>by have:=(hm.at_ b hbl).1;have:=p1.size;omega)];exact p12.frame b hb ho,p12.rb,p12.hn⟩
    ·rw [u4 b (fun hbl=>by have:=(hm.at_ b hbl).1;have:=S0.hB;have:=p1.size;omega)]
     exact p12.frB b hb
    ·rw [u4 b (fun hbl=>by have:=(hm.at_ b hbl).1;have:=z33 hd;have:=p1.size;omega)]
     exact p12.frD b ds' hd
   refine (C.hit B ρ' H' hp st'.hp w2 cv.toArray cd v e shp (hcap.mono (p.ext.trans u2)) u1 m5 (by rw [<- hcds];exact heff e v m4 m5)).mono ?_
   rintro en u' w3 ⟨⟨v',rfl⟩,hu',hl3,ρ3,H3,p3⟩
   have h1':resD E ⟨sl0,st'.hp⟩ G.results=some rl:=by
    rw [<- h1]
    exact z6r (st:=⟨sl0,st'.hp⟩) (st2:=st') rfl (fun rv hrv=>(hsame _ (fun e=>hkS' (e ▸ hrS rv hrv))).symm)
   obtain ⟨v2,q1,q3⟩:=z4c (st:=⟨sl0,st'.hp⟩) TA p3.sr ((hs'.mono u2).mono p3.ext) hres h1'
   rw [zat (tmps':=a'.tmps) hres (fun rv hrv=>(htm _ (hrS rv hrv) (fun e=>hkS' (e ▸ hrS rv hrv))).symm)] at q1
   exact ⟨⟨v',rfl⟩,hu',v2,q1,aD hlen1 (aD hlen hl3),ρ3,H3,pu.trans (p3.weaken fun i hi=>aH hi (aD hlen1 hlen)),q3⟩
 exact hmain

end
end Dv

namespace Dv
open Go (Value Program World Act Oper Operand Code Ending Exit FrameMode Frame Item)

section
variable {P:Program} {Q:Exit->Act->List Frame->World->Prop} {a:Act} {cs:List Frame} {w:World}

theorem z2w {id:Nat} {ops:Array Oper} {o:Oper} {rest:List Nat} (hl:b6 ops.size=0::rest) (ho:ops[0]? = some o) (hw:aO o (dN ops a.tmps)=true) (hr:(aZ a.eval o).run P w=.ok .recover w)
  (h:match dJ cs with
   | some (v,cs')=>cz (Fw none) 0 P ops (fun e a' w'=>Q e a' cs' w') rest (a.put o.dst v) w
   | none=>cz (Fw none) 0 P ops (fun e a' w'=>Q e a' cs w') rest (a.put o.dst .nilIface) w):(Code.region id ops false).wpSIn (Fw none) 0 P Q a cs w:=by
 intro b k hb hro hF hroom
 have hg:=Go.stepGR_op (P:=P) (b:=b) (k:=k) (cs:=cs) (w:=w) (rest:=rest) ho hw
 rw [hro,cW] at hg
 have h0:(mD (b.atR a (.inRegion ops (0::rest)::k)) cs w).fenced P (Fw none):=Go.fenced_oper hF hroom ho (fun _ _=>trivial)
 have hfin:∀ v,(b.atR a (.inRegion ops (0::rest)::k)).finish v=b.atR (a.put o.dst v) (.inRegion ops rest::k):=by
  intro v;rw [Go.Frame.finish_atR,ho];rfl
 have hk:(b.atR a (.inRegion ops (0::rest)::k)).kind=.deferred:=hb
 have htr:=Go.tryRecover_deferred hk cs
 have hstep:∀ {v:Value} {cs':List Frame} {e a' w'},(∃ x,dJ cs=some (x,cs')/\v=x)\/(dJ cs=none/\cs'=cs/\v=.nilIface)->lh (jB P (Fw none)) P (mD (b.atR (a.put o.dst v) (.inRegion ops rest::k)) cs' w) b k cs' e a' w' ->
   lh (jB P (Fw none)) P (mD (b.atR a (.code (.region id ops false)::k)) cs w) b k cs' e a' w':=by
  intro v cs' e a' w' hrec harr
  refine .of_steps (.one (Go.fenced_calm hF hroom rfl) Go.stepR_region) ?_
  rw [hl]
  refine .of_steps (.one h0 (Go.step_lone_go ?_)) harr
  rw [hg,<- hfin]
  simp only [Go.Frame.atR,hro] at htr ⊢
  rcases hrec with ⟨x,hx,rfl⟩ | ⟨hx,rfl,rfl⟩
  ·simp [kx,hr,htr,hx]
  ·simp [kx,hr,htr,hx]
 split at h
 ·rename_i v cs' hrec
  have hlen:=Go.recoverD_length hrec
  obtain ⟨e,a',w',hq,harr⟩:=lD _ _ _ h b k cs' (hro.trans rfl) hF (hlen ▸ hroom)
  exact ⟨e,a',cs',w',hlen,hq,hstep (.inl ⟨v,hrec,rfl⟩) harr⟩
 ·rename_i hrec
  obtain ⟨e,a',w',hq,harr⟩:=lD _ _ _ h b k cs (hro.trans rfl) hF hroom
  exact ⟨e,a',cs,w',rfl,hq,hstep (.inr ⟨hrec,rfl,rfl⟩) harr⟩


theorem z8f (t:Nat) (p:dO) (x:Value) (n:Int) (w:World) (hs:(Go.sizeOf t).run P w=.ok 1 w) (hc:w.cell? p=some x) (hz:w.frozen? p=false):(fX t (.pointer (some p)) (.int .i64 n)).run P w=.ok () (w.setCell p (.int .i64 n)):=by
 simp [fX,Go.storeVar,go_sem,hc,hz,hs]

theorem z5u {o:Oper} {ev:Operand->Value} {at_:Array d9} (ho:o.op=.call { callee:=.builtin .recover,args:=#[],argTypes:=at_ }):(aZ ev o).run P w=.ok .recover w:=by
 unfold aZ
 rw [ho]
 simp [cM,bP,Go.builtin]

variable {E:Env} {F T:Phi} {pt:Nat × Nat}

def effC (E:Env) (cE:Nat) (ds:List D) (e:D) (os:List Obj):Option (List Obj):=match ds,e with
 | [.loc i o],.agg [.int .i64 n]=>storeD E os cE (.loc i o) (.int .i64 n)
 | _,_=>none

def shC (ds:List D):Prop:=∃ i o,ds=[.loc i o]

theorem z4l (TA:TAll P E T) (FO:FnsOk P F) {g c c' tE cE id:Nat} {fn:dD} {oR oC:Oper} {atR atC:Array d9} (hfn:P.funcs[g]? = some fn) (hb:fn.body=some (.region id #[oR,oC] false)) (hnt:fn.ntmps=3) (hres:fn.results = #[])
  (hR:oR.op=.call { callee:=.builtin .recover,args:=#[],argTypes:=atR }) (hRd:oR.dst=some 1) (hRg:oR.guard=none)
  (hC:oC.op=.call { callee:=.value (.func c),args:=#[.tmp 1,.tmp 0],argTypes:=atC }) (hCd:oC.dst=some 2) (hCg:oC.guard=none) (hF:F c=some c') (hT:T tE=some cE) (hsz:(E.ty cE).size=1)
  (hfail:∀ (p:dO) (x:Value) (n:Int) (w:World),(w.alloc (.cells #[.int .i64 n] pt.2)).cell? p=some x->(w.alloc (.cells #[.int .i64 n] pt.2)).frozen? p=false ->
   iP P c #[.iface pt.2 (.agg #[.int .i64 n]),.pointer (some p)] w fun e w'=>e=.returned (.tuple #[])/\w'=(w.alloc (.cells #[.int .i64 n] pt.2)).setCell p (.int .i64 n))
  (hnil:∀ (p:dO) (w:World),iP P c #[.nilIface,.pointer (some p)] w fun e w'=>e=.returned (.tuple #[])/\w'=w):Closes P E T F pt g (effC E cE) shC:=by
 have core:∀ (u u':FrameMode) (v x:Value) (w w':World) (R:Ending->FrameMode->World->Prop),(∀ c₀ cs,c₀.mode=u->(dJ (c₀ :: cs)=some (v,{ c₀ with mode:=u' }::cs))\/(dJ (c₀ :: cs)=none/\v=.nilIface/\u'=u)) ->
   iP P c #[v,x] w (fun e w2=>e=.returned (.tuple #[])/\w2=w')->(∀ z,R (.returned z) u' w')->iv (Fw none) 0 P g #[x] u w R:=by
  intro u u' v x w w' R hrec hcall hend
  refine gt hfn hb trivial (fun c₀ cs hu=>?_)
  rw [hnt]
  have hev:(#[x]++ct (3 - (#[x]:Array Value).size) ay) = #[x,ay,ay]:=rfl
  rw [hev]
  refine z2w (o:=oR) (rest:=[1]) rfl rfl (by unfold aO;rw [hRg]) (z5u hR) ?_
  have tail:∀ (cs':List Frame),cs' = { c₀ with mode:=u' }::cs->cz (Fw none) 0 P #[oR,oC] (fun e a' w'=>Go.bodyPostS P fn c₀ cs R e a' cs' w') [1] (Act.put { tmps:=#[x,ay,ay],defers:=[] } oR.dst v) w:=by
   intro cs' hcs'
   rw [hRd,bG]
   unfold bW
   rw [show (#[oR,oC]:Array Oper)[1]? = some oC from rfl]
   have hwD:∀ tm,aO oC (dN #[oR,oC] tm)=true:=fun tm=>by unfold aO;rw [hCg]
   simp only [hwD,if_true]
   refine ⟨fun _ _=>trivial,?_⟩
   rw [show (Fw none).round=none from rfl,cW]
   have ex:(aZ (Act.put { tmps:=#[x,ay,ay],defers:=[] } (some 1) v).eval oC).run P w=.ok (.enter c #[v,x]) w:=by
    unfold aZ
    rw [hC]
    have ea:(#[Operand.tmp 1,Operand.tmp 0]:Array Operand).map (Act.put { tmps:=#[x,ay,ay],defers:=[] } (some 1) v).eval = #[v,x]:=by simp [Act.put,Act.eval]
    have ef:(Act.put { tmps:=#[x,ay,ay],defers:=[] } (some 1) v).eval (.func c)=.func (.func c) #[] #[]:=rfl
    simp [cM,ea,ef,a8,bP,z3r FO hF]
   rw [ex]
   unfold fO
   refine ⟨fun h=>(by cases h),(show ez cf 0 P c #[v,x] w _ from j7.2 hcall).mono ?_⟩
   rintro e w2 ⟨rfl,rfl⟩
   simp only [cz,hCd]
   refine ⟨rfl,u',hcs',.tuple #[],?_,hend _⟩
   simp [eB,hres]
  rcases hrec c₀ cs hu with h | ⟨h,rfl,rfl⟩
  ·rw [h];exact tail _ rfl
  ·rw [h];exact tail _ (by rw [<- hu])
 have shape:∀ {ρ : Rho} {H:HS} {w:World} {caps:Array Value} {i o:Nat},RepL F ρ H w.heap caps.toList [.loc i o]->∃ b cc,ρ i=some (.blk b cc)/\caps = #[.pointer (some ⟨b,o,none⟩)]:=by
  intro ρ H w caps i o hr
  obtain ⟨x,hx⟩:∃ x,caps.toList=[x]:=by
   have:=hr.1
   match hl:caps.toList with
   | [x]=>exact ⟨x,rfl⟩
   | []=>rw [hl] at this;simp at this
   | _::_::_=>rw [hl] at this;simp at this
  have hv:=hr.2 0 x (.loc i o) (by rw [hx];rfl) rfl
  cases hv with
  | loc b cc _ _ hid=>exact ⟨b,cc,hid,by cases caps;simp at hx;rw [hx]⟩
 constructor
 ·intro ρ H w caps ds hs hr
  obtain ⟨i,o,rfl⟩:=hs
  obtain ⟨b,cc,hid,rfl⟩:=shape hr
  exact core .returning .returning .nilIface _ w w _ (fun c₀ cs hu=>.inr ⟨by simp [dJ,hu],rfl,rfl⟩) (hnil _ _) (fun z=>⟨⟨z,rfl⟩,rfl,rfl⟩)
 ·intro B ρ H os os' w caps ds v e hs hr S hpan heff
  obtain ⟨i,o,rfl⟩:=hs
  obtain ⟨b,cc,hid,rfl⟩:=shape hr
  rcases hpan with ⟨n,rfl,rfl⟩ | ⟨n,rfl,rfl⟩
  ·simp [effC] at heff
  have heff:storeD E os cE (.loc i o) (.int .i64 n)=some os':=heff
  have p1:PostT (CLk T F true) F B (fun i=>i<os.length) ρ H w ρ (hold H w.heap.size 0) (w.alloc (.cells #[.int .i64 n] pt.2)) os:=Grew.postT S (z58 H w.heap _ 0) (FzAt.push _ (by intro arr el fr h;cases h;rfl)) ⟨rfl,rfl,rfl,ar _⟩
  obtain ⟨w2,hst,hp2,hst2⟩:=zbw (P:=P) (TA _ _ hT) p1.sr (.loc b cc i o hid) (.int .i64 n) heff
  have hcell:∃ x,(w.alloc (.cells #[.int .i64 n] pt.2)).cell? ⟨b,o,none⟩=some x/\(w.alloc (.cells #[.int .i64 n] pt.2)).frozen? ⟨b,o,none⟩=false:=by
   simp only [storeD] at heff
   split at heff
   ·rename_i cs hos
    split at heff
    ·rename_i hc
     obtain ⟨bk,hb1,hrel⟩:=p1.sr.dom i _ hos rfl
     obtain ⟨b',c',rfl,arr,el,q1,q2,q3,_⟩:=hrel
     rw [hid] at hb1
     simp only [aa,Bk.blk.injEq] at hb1
     obtain ⟨rfl,rfl⟩:=hb1
     have hlt:o<arr.size:=by rw [hsz] at hc;omega
     refine ⟨arr[o],?_,?_⟩
     ·unfold Go.World.cell?
      rw [q1]
      simp [hlt]
     ·unfold Go.World.frozen?
      rw [q1]
      simp
    ·simp at heff
   ·simp at heff
  obtain ⟨x,hc,hz⟩:=hcell
  have hrun:=z8f (P:=P) tE ⟨b,o,none⟩ x n _ (by rw [<- hsz];exact (TA _ _ hT).size) hc hz
  rw [hrun] at hst
  simp only [pU,true_and] at hst
  subst hst
  have p2:=hp2.toT p1.sr (z1u heff).1 hst2 (K:=fun i=>i<os.length)
  refine core _ (.panicking [{ v:=.iface pt.2 (.agg #[.int .i64 n]),recovered:=true }]) _ _ w _ _ (fun c₀ cs hu=>.inl ?_) (hfail _ x n w hc hz) (fun z=>⟨⟨z,rfl⟩,rfl,?_,ρ,_,p1.trans p2⟩)
  ·simp [dJ,hu]
  ·rw [(z1u (K:=fun _=>True) heff).2];exact ar _


def tlC (tF tE a k:Nat):List DOpr:=[⟨some k,.extract (.t k) 1,none⟩,⟨some k,.field tF (.t k) 0,none⟩,⟨none,.store tE (.t a) (.t k),none⟩]

theorem zj3 {tF tE a:Nat} (hk:(E.ty tF).k=.struct [(0,tE)]) (hsz:(E.ty tE).size=1) (hag:(E.ty tE).ag=false) (j k:Nat) (sl:List D) (mk:D) (hp:List Obj) (ex:Ex) (st':St) (hka : ¬ k ∈ [a]) (hlt:k<sl.length)
  (h:dC E j (.seq (.region false [] (tlC tF tE a k)) .ret) ⟨sl.set k mk,hp⟩=some (ex,st')) :
  ex=.ret/\(∀ t,t ≠ k->st'.sl.getD t .undef=sl.getD t .undef) /\ ∀ e v,markE mk=some e->PanV pt v e->effC E tE ([a].map fun x=>sl.getD x .undef) e hp=some st'.hp:=by
 have hne:k ≠ a:=by simpa using hka
 obtain ⟨m,st1,rfl,h1,h2⟩:=zbi (fun m s e h=>(z1d h).1) h
 obtain ⟨_,m',rfl,g1⟩:=z1d h1
 have h2:Ex.ret=ex/\st1=st':=by simpa [dC] using h2
 obtain ⟨rfl,rfl⟩:=h2
 have hg:∀ d,((sl.set k d).getD k .undef)=d:=fun d=>by rw [am,ba hlt,bD]
 have ha:∀ d,((sl.set k d).getD a .undef)=sl.getD a .undef:=fun d=>by rw [am,aX hne,<- am]
 simp only [tlC,ze,aI] at g1
 obtain ⟨s1,q1,s2,q2,s3,q3,q4⟩:=g1
 simp only [stepOps,aa] at q4
 subst q4
 simp only [step1,wantedD,if_true] at q1 q2 q3
 split at q1
 case h_2=>simp at q1
 rename_i d1 hp1 e1
 simp only [aa] at q1
 subst q1
 split at q2
 case h_2=>simp at q2
 rename_i d2 hp2 e2
 simp only [aa] at q2
 subst q2
 split at q3
 case h_2=>simp at q3
 rename_i d3 hp3 e3
 simp only [aa] at q3
 subst q3
 simp only [putO,hU] at e2 e3 ⊢
 simp only [stepOp,DOp.fin,finOp,pureOp,getO,hg,ha] at e1 e2 e3
 refine ⟨trivial,fun t ht=>?_,fun e v hmk hpan=>?_⟩
 ·rw [am,aX (fun e=>ht e.symm),<- am]
 ·unfold markE at hmk
  split at hmk
  case h_3=>simp at hmk
  case h_2=>simp at e1
  rename_i e' r
  simp only [aa] at hmk
  subst hmk
  simp only [cp,bB,af,applyEf,aa,ak] at e1
  obtain ⟨rfl,rfl⟩:=e1
  rcases hpan with ⟨n,_,rfl⟩ | ⟨n,_,rfl⟩
  ·simp [fieldD,hk] at e2
  ·simp only [fieldD,hk,bB,hsz,hag,takeC,bU,ofCells,af,applyEf,aa,ak] at e2
   obtain ⟨rfl,rfl⟩:=e2
   simp only [ab,ak] at e3
   obtain ⟨hp4,e3,_,rfl⟩:=e3
   show effC E tE [sl.getD a .undef] _ hp=some hp4
   generalize sl.getD a .undef=da at e3 ⊢
   cases da <;> first | exact e3 | (simp [storeD] at e3;done)


theorem z76 {x t:Nat} {pre:List DOpr} {callP:Nat->List D->Option D} {callS callY:Nat->List D->List Obj->Option (D × List Obj)} {st st1:St} (h:stepOps E callP callS callY (pre++[⟨some x,.alloc t,none⟩]) st=some st1) (hx:x<st.sl.length):shC ([x].map fun x=>st1.sl.getD x .undef):=by
 obtain ⟨s1,h1,h2⟩:=z46 h
 rw [ze] at h2
 simp only [aI,stepOps,aa] at h2
 obtain ⟨s2,h2,rfl⟩:=h2
 have hl:=z2d h1
 simp only [step1,wantedD,if_true] at h2
 split at h2
 case h_2=>simp at h2
 rename_i d hp e
 simp only [aa] at h2
 subst h2
 simp only [stepOp,DOp.fin,finOp,pureOp] at e
 split at e
 case isFalse=>simp at e
 simp only [af,aa,ak] at e
 obtain ⟨rfl,_⟩:=e
 refine ⟨s1.hp.length,0,?_⟩
 simp only [putO,ax,aG,am]
 rw [ba (by omega)];rfl

end
end Dv

namespace Dv
open Go (Value Program World Act Oper Operand Code Ending Exit FrameMode Frame Item)

section
variable {P:Program} {E:Env} {F T:Phi} {pt:Nat × Nat}

def effN (_:List D) (_:D) (_:List Obj):Option (List Obj):=none
def shN (ds:List D):Prop:=ds.length=2

theorem zel {g id0 id1 t t2:Nat} {fn:dD} {oR oA oM oB:Oper} {X:Code} {atR:Array d9} (hfn:P.funcs[g]? = some fn)
  (hb:fn.body=some (.seq (.region id0 #[oR,oA] false) (.seq (.region id1 #[oM,oB] false) (.cond (.tmp 5) X .skip)))) (hnt:fn.ntmps=9) (hres:fn.results = #[])
  (hR:oR.op=.call { callee:=.builtin .recover,args:=#[],argTypes:=atR }) (hRd:oR.dst=some 3) (hRg:oR.guard=none)
  (hA:oA.op=.assign (.tmp 3)) (hAd:oA.dst=some 2) (hAg:oA.guard=none)
  (hM:oM.op=.move (.tmp 2)) (hMd:oM.dst=some 4) (hMg:oM.guard=none)
  (hB:oB.op=.binOp .neq t (.tmp 4) (.const .nilIface) t2) (hBd:oB.dst=some 5) (hBg:oB.guard=none)
  (hu:(match P.underlying t with | some (.interface _)=>true | _=>false)=true):Closes P E T F pt g effN shN:=by
 obtain ⟨ms,hu⟩:∃ ms,P.underlying t=some (.interface ms):=by
  split at hu
  ·rename_i ms h;exact ⟨ms,h⟩
  ·cases hu
 have hbin:∀ w,(b8 .neq t .nilIface .nilIface).run P w=.ok (.bool false) w:=fun w=>by
  have h:∀ d:Nat,(fx (d+1) t .nilIface .nilIface).run P w=.ok true w:=fun d=>by simp [fx,cA hu]
  simp [b8,gI,gE,h]
 have hg:∀ w,(fq .neq t (.tmp 4) (.const .nilIface) .nilIface .nilIface).run P w=.ok () w:=fun w=>by simp [fq]
 constructor
 ·intro ρ H w caps ds hs hr
  obtain ⟨x,y,hx⟩:∃ x y,caps = #[x,y]:=by
   have h1:=hr.1
   rw [hs] at h1
   obtain ⟨l⟩:=caps
   match l,h1 with
   | [x,y],_=>exact ⟨x,y,rfl⟩
  subst hx
  refine gt hfn hb trivial (fun c₀ cs hu=>?_)
  rw [hnt]
  have hev:(#[x,y]++ct (9 - (#[x,y]:Array Value).size) ay) = #[x,y,ay,ay,ay,ay,ay,ay,ay]:=rfl
  rw [hev]
  refine ib (z2w (o:=oR) (rest:=[1]) rfl rfl (by unfold aO;rw [hRg]) (z5u hR) ?_)
  have hrec:dJ (c₀ :: cs)=none:=by simp [dJ,hu]
  rw [hrec]
  simp only [hRd]
  rw [bG]
  unfold bW
  rw [show (#[oR,oA]:Array Oper)[1]? = some oA from rfl]
  have hwA:∀ tm,aO oA (dN #[oR,oA] tm)=true:=fun tm=>by unfold aO;rw [hAg]
  simp only [hwA,if_true]
  refine ⟨fun _ _=>trivial,?_⟩
  rw [show (Fw none).round=none from rfl,cW]
  have e1:(aZ (Act.put { tmps:=#[x,y,ay,ay,ay,ay,ay,ay,ay],defers:=[] } (some 3) .nilIface).eval oA).run P w=.ok (.value .nilIface) w:=by
   unfold aZ
   rw [hA]
   simp [Act.put,Act.eval]
  rw [e1,eF,hAd]
  simp only [cz]
  refine ib (f5 rfl (eJ ?_))
  rw [show b6 (#[oM,oB]:Array Oper).size=[0,1] from rfl,bG]
  unfold bW
  rw [show (#[oM,oB]:Array Oper)[0]? = some oM from rfl]
  have hwM:∀ tm,aO oM (dN #[oM,oB] tm)=true:=fun tm=>by unfold aO;rw [hMg]
  have hwB:∀ tm,aO oB (dN #[oM,oB] tm)=true:=fun tm=>by unfold aO;rw [hBg]
  simp only [hwM,if_true]
  refine ⟨fun _ _=>trivial,?_⟩
  rw [show (Fw none).round=none from rfl,cW]
  have e2:(aZ (Act.put (Act.put { tmps:=#[x,y,ay,ay,ay,ay,ay,ay,ay],defers:=[] } (some 3) .nilIface) (some 2) .nilIface).eval oM).run P w=.ok (.value .nilIface) w:=by
   unfold aZ
   rw [hM]
   simp [Act.put,Act.eval]
  rw [e2,eF,hMd,bG]
  unfold bW
  rw [show (#[oM,oB]:Array Oper)[1]? = some oB from rfl]
  simp only [hwB,if_true]
  refine ⟨fun _ _=>trivial,?_⟩
  rw [show (Fw none).round=none from rfl,cW]
  have e3:(aZ (Act.put (Act.put (Act.put { tmps:=#[x,y,ay,ay,ay,ay,ay,ay,ay],defers:=[] } (some 3) .nilIface) (some 2) .nilIface) (some 4) .nilIface).eval oB).run P w=.ok (.value (.bool false)) w:=by
   unfold aZ
   rw [hB]
   simp [Act.put,Act.eval,au,hg w,hbin w]
  rw [e3,eF,hBd]
  simp only [cz]
  refine kM (t:=false) (by simp [Act.put,Act.eval]) (f5 rfl (jl ?_))
  refine ⟨rfl,.returning,?_,.tuple #[],?_,⟨_,rfl⟩,rfl,rfl⟩
  ·rw [<- hu]
  ·simp [eB,hres]
 ·intro B ρ H os os' w caps ds v e hs hr S hpan heff
  simp [effN] at heff

end
end Dv

namespace Dv
open Go (Value Program World Act Oper Operand Code Ending Exit FrameMode Frame Item)

section
variable {P:Program} {E:Env} {F T:Phi} {pt:Nat × Nat}

theorem zg9 {Fe:jK} {n:Nat} {ops:Array Oper} {Q:Exit->Act->World->Prop} {i:Nat} {K:Act->World->Prop} {a:Act} {w:World} {o:Oper} (ho:ops[i]? = some o) (h:bW Fe n P ops Q i K a w) :
  bW Fe n P ops Q i (fun a' w'=>K a' w' /\ ∃ v,a'.tmps=(a.put o.dst v).tmps) a w:=by
 unfold bW at h ⊢
 simp only [ho] at h ⊢
 have ht:∀ (dfs:List cX) (x:Option Nat) (v:Value),(Act.put { a with defers:=dfs } x v).tmps=(a.put x v).tmps:=fun dfs x v=>by cases x <;> rfl
 split
 ·rename_i hw
  rw [if_pos hw] at h
  unfold Oper.wpIn at h ⊢
  refine ⟨h.1,?_⟩
  have h:=h.2
  generalize (o.semAt Fe.round a.eval).run P w=r at h ⊢
  cases r with
  | ok x w'=>
   cases x <;> simp only [fO] at h ⊢ <;>
    first
     | exact ⟨h,_,rfl⟩
     | exact ⟨h,_,ht _ _ _⟩
     | exact ⟨h.1,j4 h.2 (fun e w'' he=>by cases e <;> first | exact ⟨he,_,rfl⟩ | exact he)⟩
     | exact ⟨h.1,kr h.2 (fun _ _ he=>⟨he,_,rfl⟩)⟩
     | exact ⟨h.1,j5 h.2 (fun e w'' he=>by cases e <;> first | exact ⟨he,_,rfl⟩ | exact he)⟩
  | halt x w'=>cases x <;> exact h
 ·rename_i hw
  rw [if_neg hw] at h
  exact ⟨h.1,h.2,_,rfl⟩

def effE (E:Env) (cV cE:Nat) (Z:D) (ds:List D) (e:D) (os:List Obj):Option (List Obj):=match ds,e with
 | [.loc i o,.loc j p],.int .i64 n=>(storeD E os cV (.loc i o) Z).bind fun os1=>storeD E os1 cE (.loc j p) (.int .i64 n)
 | _,_=>none

def shE (ds:List D):Prop:=∃ i o j p,ds=[.loc i o,.loc j p]

def readyE (d0 d1 d2 d3:Bool):List Nat:=(if d0 then [] else [0])++(if d1 then [] else [1])++(if d1 && !d2 then [2] else [])++(if d0 && !d3 then [3] else [])++(if d0 && d1 && d2 && d3 then [4] else [])

def cntE (d0 d1 d2 d3:Bool):Nat:=d0.toNat+d1.toNat+d2.toNat+d3.toNat

section
variable {B:Nat} {ρ0:Rho} {H0:HS} {w0:World} {os os1 os':List Obj} {cV cE tV tE:Nat} {Z:D} {i o j p:Nat} {n:Int} {V:Value} {oZ oV oT oS oS2:Oper} {u1:Nat}

def slE (i o j p:Nat) (Z:D) (n:Int) (d0 d2:Bool):List D:=[.loc i o,.loc j p,.undef,.undef,.undef,.bool true,if d0 then Z else .undef,.undef,if d2 then .int .i64 n else .undef]

structure InvE (F:Phi) (B:Nat) (ρ0:Rho) (H0:HS) (w0:World) (os os1:List Obj) (i o j p:Nat) (Z:D) (n:Int) (V:Value) (d0 d1 d2 d3:Bool) (a:Act) (w:World):Prop where
 st:∃ ρ H,PostT (CLk T F true) F B (fun k=>k<os.length) ρ0 H0 w0 ρ H w (if d3 then os1 else os)/\RepL F ρ H w.heap a.tmps.toList (slE i o j p Z n d0 d2)
 x:a.tmps[2]? = some V
 y:d1=true->a.tmps[7]? = some V
 df:a.defers=[]


theorem InvE.post {d0 d1 d2 d3:Bool} {a:Act} {w:World} (I:InvE (T:=T) F B ρ0 H0 w0 os os1 i o j p Z n V d0 d1 d2 d3 a w):a.tmps.size=9:=by
 obtain ⟨ρ,H,_,hs⟩:=I.st
 have:=hs.1
 simpa [slE] using this

theorem opE (TA:TAll P E T) (FO:FnsOk P F) {ops:Array Oper} {Q:Exit->Act->World->Prop} {ix:Nat} {oo:Oper} {dop:DOpr} {a:Act} {w:World} {ρ : Rho} {H:HS} {st st':St} {next:Act->World->Prop}
  (ho:ops[ix]? = some oo) (hl:OprL T F ops.toList oo dop) (h:step1 E (fun _ _=>none) (fun _ _ _=>none) (fun _ _ _=>none) st.hp.length dop st=some st')
  (hle:os.length<=st.hp.length) (p1:PostT (CLk T F true) F B (fun k=>k<os.length) ρ0 H0 w0 ρ H w st.hp) (hs:RepL F ρ H w.heap a.tmps.toList st.sl) (hdf:a.defers=[])
  (hn:∀ a' w' ρ' H' v,PostT (CLk T F true) F B (fun k=>k<os.length) ρ0 H0 w0 ρ' H' w' st'.hp->RepL F ρ' H' w'.heap a'.tmps.toList st'.sl->a'.defers=[]->a'.tmps=(a.put oo.dst v).tmps->next a' w'):bW (Fw none) 0 P ops Q ix next a w:=by
 have hfr:Free ρ st.hp st.hp.length:=⟨by
  cases hr : ρ st.hp.length with
  | none=>rfl
  | some bk=>have:=p1.sr.lt _ _ hr;omega,.inl rfl⟩
 have h1:=z5e (P:=P) (E:=E) (CL:=CLk T F true) (F:=F) (T:=T) (B:=B) (K:=fun k=>k<os.length) (ρ:=ρ) (H:=H) (w:=w) (a:=a) TA FO (callP:=fun _ _=>none) (callS:=fun _ _ _=>none) (callY:=fun _ _ _=>none)
  (fun f f' _ r H w vals ds d h=>by cases h) (fun f f' _ r B ρ H os os' w vals ds d h=>by simp [noMark] at h) (fun r B ρ H os os' w vals ds d l b c h=>by cases h)
  (r:=none) (Q:=Q) ho hl h p1.sr hfr (fun k hk=>⟨by omega,by omega⟩) hs (next:=fun a' w'=>∃ ρ' H',PostT (CLk T F true) F B (fun k=>k<os.length) ρ0 H0 w0 ρ' H' w' st'.hp/\RepL F ρ' H' w'.heap a'.tmps.toList st'.sl/\a'.defers=[])
  (fun a' w' ρ' H' p2 hs' _ hd=>⟨ρ',H',p1.trans p2,hs',hd.trans hdf⟩)
 refine iF (fun a' w' hh=>?_) (zg9 ho h1)
 obtain ⟨⟨ρ',H',p2,hs',hd⟩,v,hv⟩:=hh
 exact hn a' w' ρ' H' v p2 hs' hd hv


theorem handE {ops:Array Oper} {Q:Exit->Act->World->Prop} {ix:Nat} {oo:Oper} {a:Act} {w:World} {K:Act->World->Prop} {v:Value}
  (ho:ops[ix]? = some oo) (hg:oo.guard=none) (hex:(aZ a.eval oo).run P w=.ok (.value v) w) (h:K (a.put oo.dst v) w):bW (Fw none) 0 P ops Q ix K a w:=by
 unfold bW
 simp only [ho]
 have hw:aO oo (dN ops a.tmps)=true:=by unfold aO;rw [hg]
 rw [if_pos hw]
 refine ⟨fun _ _=>trivial,?_⟩
 rw [show (Fw none).round=none from rfl,cW,hex,eF]
 exact h

theorem anyE (TA:TAll P E T) (FO:FnsOk P F) {ops:Array Oper} (h0:ops[0]? = some oZ) (h1:ops[1]? = some oV) (h2:ops[2]? = some oT) (h3:ops[3]? = some oS) (h4:ops[4]? = some oS2) {t1:Nat}
  (hZ:oZ.op=.build tV #[]) (hZd:oZ.dst=some 6) (hZg:oZ.guard=none)
  (hV:oV.op=.move (.tmp 2)) (hVd:oV.dst=some 7) (hVg:oV.guard=none)
  (hT:oT.op=.typeAssert (.tmp 7) t1 pt.1 false) (hTd:oT.dst=some 8) (hTg:oT.guard=none)
  (hS:oS.op=.store tV (.tmp 0) (.tmp 6)) (hSd:oS.dst=none) (hSg:oS.guard=none)
  (hS2:oS2.op=.store tE (.tmp 1) (.tmp 8)) (hS2d:oS2.dst=none) (hS2g:oS2.guard=none)
  (hTV:T tV=some cV) (hTE:T tE=some cE) {kk:a6} (hu:P.underlying pt.1=some (.int kk))
  (hz:∀ id g hp,stepOp E (fun _ _=>none) (fun _ _ _=>none) (fun _ _ _=>none) id g hp (.build cV [])=some (Z,hp))
  (hrd:∀ d0 d1 d2 d3,bI .any ops #[d0,d1,d2,d3,false]=readyE d0 d1 d2 d3) (hrd':bI .any ops #[true,true,true,true,true]=[])
  (he1:storeD E os cV (.loc i o) Z=some os1) (he2:storeD E os1 cE (.loc j p) (.int .i64 n)=some os') (hVV:V=.iface pt.1 (.int .i64 n))
  {Q:Exit->Act->World->Prop} (hQ:∀ a w ρ H,PostT (CLk T F true) F B (fun k=>k<os.length) ρ0 H0 w0 ρ H w os'->a.defers=[]->Q .normal a w) :
  ∀ (m:Nat) (d0 d1 d2 d3:Bool) (a:Act) (w:World),cntE d0 d1 d2 d3+m=5->InvE (T:=T) F B ρ0 H0 w0 os os1 i o j p Z n V d0 d1 d2 d3 a w->eA (Fw none) 0 P .any ops Q m #[d0,d1,d2,d3,false] a w:=by
 have hl1:os1.length=os.length:=(z1u (K:=fun _=>True) he1).2
 have hl2:os'.length=os1.length:=(z1u (K:=fun _=>True) he2).2
 intro m
 induction m with
 | zero=>
  intro d0 d1 d2 d3 a w hc I
  exfalso
  cases d0 <;> cases d1 <;> cases d2 <;> cases d3 <;> simp [cntE] at hc
 | succ m ih=>
  intro d0 d1 d2 d3 a w hc I
  have hrr:=hrd d0 d1 d2 d3
  refine Go.wpAnyIn_all hrr ?_ ?_
  ·cases d0 <;> cases d1 <;> cases d2 <;> cases d3 <;> simp [readyE]
  have hsz:=I.post
  obtain ⟨ρ,H,p1,hs⟩:=I.st
  have hlen:os.length<=(if d3 then os1 else os).length:=by cases d3 <;> simp [hl1]
  have put7:∀ (x:Nat) (v:Value) (y:Nat),x ≠ y->x<9->(a.put (some x) v).tmps[y]? = a.tmps[y]?:=fun x v y hne hx=>by
   simp only [Act.put]
   rw [bQ hne]
  intro ix hix
  have hix':(ix=0/\d0=false)\/(ix=1/\d1=false)\/(ix=2/\d1=true/\d2=false)\/(ix=3/\d0=true/\d3=false)\/(ix=4/\d0=true/\d1=true/\d2=true/\d3=true):=by
   revert hix;unfold readyE
   cases d0 <;> cases d1 <;> cases d2 <;> cases d3 <;> simp <;> omega
  rcases hix' with ⟨rfl,rfl⟩ | ⟨rfl,rfl⟩ | ⟨rfl,rfl,rfl⟩ | ⟨rfl,rfl,rfl⟩ | ⟨rfl,rfl,rfl,rfl,rfl⟩
  ·refine opE TA FO (dop:=⟨some 6,.build cV [],none⟩) (st:=⟨slE i o j p Z n false d2,if d3 then os1 else os⟩) (st':=⟨slE i o j p Z n true d2,if d3 then os1 else os⟩) h0 ⟨hZd.symm,by rw [hZ];exact .build hTV rfl,by rw [hZg];rfl⟩ ?_ hlen p1 hs I.df (fun a' w' ρ' H' v p2 hs' hd ht=>?_)
   ·simp only [step1,wantedD,if_true,hz]
    rfl
   ·rw [hZd] at ht
    refine ih true d1 d2 d3 a' w' (by cases d1 <;> cases d2 <;> cases d3 <;> simp [cntE] at hc ⊢ <;> omega) ⟨⟨ρ',H',p2,hs'⟩,?_,fun e=>?_,hd⟩
    ·rw [ht,put7 6 v 2 (by decide) (by decide)];exact I.x
    ·rw [ht,put7 6 v 7 (by decide) (by decide)];exact I.y e
  ·refine handE (v:=V) h1 hVg ?_ ?_
   ·unfold aZ
    rw [hV]
    simp [Act.eval,aj,I.x]
   ·rw [hVd]
    refine ih d0 true d2 d3 _ w (by cases d0 <;> cases d2 <;> cases d3 <;> simp [cntE] at hc ⊢ <;> omega) ⟨⟨ρ,H,p1,?_⟩,?_,fun _=>?_,(z12 a (some 7) V).trans I.df⟩
    ·have:=z2h (dst:=some 7) (d:=.undef) hs (.undef V (by rw [hVV];intro b h;cases h))
     simpa [putO,slE] using this
    ·rw [put7 7 V 2 (by decide) (by decide)];exact I.x
    ·simp [Act.put,hsz]
  ·refine handE (v:=.int .i64 n) h2 hTg ?_ ?_
   ·unfold aZ
    rw [hT]
    have:=I.y rfl
    have e7:a.eval (.tmp 7)=V:=by simp [Act.eval,aj,this]
    simp [e7,hVV,Go.Instr.typeAssert,cA hu]
   ·rw [hTd]
    refine ih d0 true true d3 _ w (by cases d0 <;> cases d3 <;> simp [cntE] at hc ⊢ <;> omega) ⟨⟨ρ,H,p1,?_⟩,?_,fun _=>?_,(z12 a (some 8) _).trans I.df⟩
    ·have:=z2h (dst:=some 8) (d:=.int .i64 n) hs (.int .i64 n)
     simpa [putO,slE] using this
    ·rw [put7 8 _ 2 (by decide) (by decide)];exact I.x
    ·rw [put7 8 _ 7 (by decide) (by decide)];exact I.y rfl
  ·refine opE TA FO (dop:=⟨none,.store cV (.t 0) (.t 6),none⟩) (st:=⟨slE i o j p Z n true d2,os⟩) (st':=⟨slE i o j p Z n true d2,os1⟩) h3 ⟨hSd.symm,by rw [hS];exact .store hTV rfl rfl,by rw [hSg];rfl⟩ ?_ (ar _) p1 hs I.df (fun a' w' ρ' H' v p2 hs' hd ht=>?_)
   ·simp only [step1,wantedD,if_true,stepOp,DOp.fin,finOp]
    rw [show getO (slE i o j p Z n true d2) (.t 0)=.loc i o from rfl,show getO (slE i o j p Z n true d2) (.t 6)=Z from rfl,he1]
    rfl
   ·rw [hSd] at ht
    have ht:a'.tmps=a.tmps:=ht
    refine ih true d1 d2 true a' w' (by cases d1 <;> cases d2 <;> simp [cntE] at hc ⊢ <;> omega) ⟨⟨ρ',H',p2,hs'⟩,?_,fun e=>?_,hd⟩
    ·rw [ht];exact I.x
    ·rw [ht];exact I.y e
  ·refine opE TA FO (dop:=⟨none,.store cE (.t 1) (.t 8),none⟩) (st:=⟨slE i o j p Z n true true,os1⟩) (st':=⟨slE i o j p Z n true true,os'⟩) h4 ⟨hS2d.symm,by rw [hS2];exact .store hTE rfl rfl,by rw [hS2g];rfl⟩ ?_ hlen p1 hs I.df (fun a' w' ρ' H' v p2 hs' hd ht=>?_)
   ·simp only [step1,wantedD,if_true,stepOp,DOp.fin,finOp]
    rw [show getO (slE i o j p Z n true true) (.t 1)=.loc j p from rfl,show getO (slE i o j p Z n true true) (.t 8)=.int .i64 n from rfl,he2]
    rfl
   ·exact Go.wpAnyIn_done (by simpa using hrd') (hQ a' w' ρ' H' p2 hd) m

end


theorem zi3 (hmix:P.follows .mixedOrders=true) (TA:TAll P E T) (FO:FnsOk P F) {g id0 id1 id2 t t2 t1 tV tE cV cE:Nat} {Z:D} {fn:dD} {oR oA oM oB oZ oV oT oS oS2:Oper} {atR:Array d9} (hfn:P.funcs[g]? = some fn)
  (hb:fn.body=some (.seq (.region id0 #[oR,oA] false) (.seq (.region id1 #[oM,oB] false) (.cond (.tmp 5) (.region id2 #[oZ,oV,oT,oS,oS2] true) .skip)))) (hnt:fn.ntmps=9) (hres:fn.results = #[])
  (hR:oR.op=.call { callee:=.builtin .recover,args:=#[],argTypes:=atR }) (hRd:oR.dst=some 3) (hRg:oR.guard=none)
  (hA:oA.op=.assign (.tmp 3)) (hAd:oA.dst=some 2) (hAg:oA.guard=none)
  (hM:oM.op=.move (.tmp 2)) (hMd:oM.dst=some 4) (hMg:oM.guard=none)
  (hB:oB.op=.binOp .neq t (.tmp 4) (.const .nilIface) t2) (hBd:oB.dst=some 5) (hBg:oB.guard=none)
  (hui:(match P.underlying t with | some (.interface _)=>true | _=>false)=true)
  (hZ:oZ.op=.build tV #[]) (hZd:oZ.dst=some 6) (hZg:oZ.guard=none)
  (hV:oV.op=.move (.tmp 2)) (hVd:oV.dst=some 7) (hVg:oV.guard=none)
  (hT:oT.op=.typeAssert (.tmp 7) t1 pt.1 false) (hTd:oT.dst=some 8) (hTg:oT.guard=none)
  (hS:oS.op=.store tV (.tmp 0) (.tmp 6)) (hSd:oS.dst=none) (hSg:oS.guard=none)
  (hS2:oS2.op=.store tE (.tmp 1) (.tmp 8)) (hS2d:oS2.dst=none) (hS2g:oS2.guard=none)
  (hTV:T tV=some cV) (hTE:T tE=some cE) {kk:a6} (hu:P.underlying pt.1=some (.int kk))
  (hz:∀ id g hp,stepOp E (fun _ _=>none) (fun _ _ _=>none) (fun _ _ _=>none) id g hp (.build cV [])=some (Z,hp))
  (hrd:∀ d0 d1 d2 d3,bI .any #[oZ,oV,oT,oS,oS2] #[d0,d1,d2,d3,false]=readyE d0 d1 d2 d3) (hrd':bI .any #[oZ,oV,oT,oS,oS2] #[true,true,true,true,true]=[]) :
  Closes P E T F pt g (effE E cV cE Z) shE:=by
 obtain ⟨ms,hui'⟩:∃ ms,P.underlying t=some (.interface ms):=by
  split at hui
  ·rename_i ms h;exact ⟨ms,h⟩
  ·cases hui
 constructor
 ·intro ρ H w caps ds hs hr
  refine (zel (E:=E) (F:=F) (T:=T) (pt:=pt) hfn hb hnt hres hR hRd hRg hA hAd hAg hM hMd hMg hB hBd hBg hui).idle ρ H w caps ds ?_ hr
  obtain ⟨i,o,j,p,rfl⟩:=hs
  rfl
 ·intro B ρ H os os' w caps ds v e hs hr S hpan heff
  obtain ⟨i,o,j,p,rfl⟩:=hs
  rcases hpan with ⟨n,rfl,rfl⟩ | ⟨n,rfl,rfl⟩
  case inr=>simp [effE] at heff
  simp only [effE,aI] at heff
  obtain ⟨os1,he1,he2⟩:=heff
  obtain ⟨V,hVV⟩:∃ V,V=Value.iface pt.1 (.int .i64 n):=⟨_,rfl⟩
  obtain ⟨x,y,hx⟩:∃ x y,caps = #[x,y]:=by
   have h1:=hr.1
   obtain ⟨l⟩:=caps
   match l,h1 with
   | [x,y],_=>exact ⟨x,y,rfl⟩
  subst hx
  rw [<- hVV]
  have hbin:∀ w,(b8 .neq t V .nilIface).run P w=.ok (.bool true) w:=fun w=>by
   have h:∀ d:Nat,(fx (d+1) t V .nilIface).run P w=.ok false w:=fun d=>by rw [hVV];simp [fx,cA hui']
   simp [b8,gI,gE,h]
  have hg:∀ w,(fq .neq t (.tmp 4) (.const .nilIface) V .nilIface).run P w=.ok () w:=fun w=>by rw [hVV];simp [fq]
  refine gt hfn hb trivial (fun c₀ cs huu=>?_)
  rw [hnt]
  have hev:(#[x,y]++ct (9 - (#[x,y]:Array Value).size) ay) = #[x,y,ay,ay,ay,ay,ay,ay,ay]:=rfl
  rw [hev]
  refine ib (z2w (o:=oR) (rest:=[1]) rfl rfl (by unfold aO;rw [hRg]) (z5u hR) ?_)
  have hrec:dJ (c₀ :: cs)=some (V,{ c₀ with mode:=.panicking [{ v:=V,recovered:=true }] }::cs):=by simp [dJ,huu]
  rw [hrec]
  simp only [hRd]
  rw [bG]
  refine handE (v:=V) (by rfl) hAg ?_ ?_
  ·unfold aZ
   rw [hA]
   simp [Act.put,Act.eval]
  rw [hAd]
  simp only [cz]
  refine ib (f5 rfl (eJ ?_))
  rw [show b6 (#[oM,oB]:Array Oper).size=[0,1] from rfl,bG]
  refine handE (v:=V) (by rfl) hMg ?_ ?_
  ·unfold aZ
   rw [hM]
   simp [Act.put,Act.eval]
  rw [hMd,bG]
  refine handE (v:=.bool true) (by rfl) hBg ?_ ?_
  ·unfold aZ
   rw [hB]
   simp [Act.put,Act.eval,au,hg w,hbin w]
  rw [hBd]
  simp only [cz]
  refine kM (t:=true) (by simp [Act.put,Act.eval]) (f5 rfl (fc hmix ?_))
  refine anyE (T:=T) (B:=B) (ρ0:=ρ) (H0:=H) (w0:=w) (os:=os) (os1:=os1) (os':=os') (i:=i) (o:=o) (j:=j) (p:=p) (n:=n) (V:=V) TA FO (by rfl) (by rfl) (by rfl) (by rfl) (by rfl) hZ hZd hZg hV hVd hVg hT hTd hTg hS hSd hSg hS2 hS2d hS2g hTV hTE hu hz hrd hrd' he1 he2 hVV (fun a' w' ρ' H' p hd=>?_) 5 false false false false _ _ rfl ⟨⟨ρ,H,?_,?_⟩,?_,(fun e=>by cases e),rfl⟩
  ·refine ⟨hd,.panicking [{ v:=V,recovered:=true }],?_,.tuple #[],?_,⟨_,rfl⟩,rfl,?_,ρ',H',p⟩
   ·rfl
   ·simp [eB,hres]
   ·rw [(z1u (K:=fun _=>True) he2).2,(z1u (K:=fun _=>True) he1).2];exact ar _
  ·have:=PostT.refl (B:=B) (K:=fun k=>k<os.length) (w:=w) S
   exact ⟨this.ext,this.sr,this.size,this.frB,this.frD,this.hnew,this.vac,this.fz,⟨this.still.os,this.still.tape,this.still.out,eH _⟩,this.frame,this.rb,this.hn⟩
  ·obtain ⟨r1,r2⟩:=hr
   have rx:=r2 0 x (.loc i o) rfl rfl
   have ry:=r2 1 y (.loc j p) rfl rfl
   have ru:Rep F ρ H w.heap V .undef:=.undef V (by rw [hVV];intro b h;cases h)
   refine .cons rx (.cons ry (.cons ru (.cons ru (.cons ru (.cons (.bool true) (.cons .u0 (.cons .u0 (.cons .u0 .nil))))))))
  ·simp [Act.put]


def tlE (cV cE a b:Nat) (Z:D) (k:Nat):List DOpr:=[⟨some k,.extract (.t k) 1,none⟩,⟨none,.store cV (.t a) (.c Z),none⟩,⟨none,.store cE (.t b) (.t k),none⟩,⟨some k,.un .neg (.t k),none⟩]

theorem zrt {cV cE a b:Nat} {Z:D} (j k:Nat) (sl:List D) (mk:D) (hp:List Obj) (ex:Ex) (st':St) (hka : ¬ k ∈ [a,b]) (hlt:k<sl.length)
  (h:dC E j (.seq (.region false [] (tlE cV cE a b Z k)) .ret) ⟨sl.set k mk,hp⟩=some (ex,st')) :
  ex=.ret/\(∀ t,t ≠ k->st'.sl.getD t .undef=sl.getD t .undef) /\ ∀ e v,markE mk=some e->PanV pt v e->effE E cV cE Z ([a,b].map fun x=>sl.getD x .undef) e hp=some st'.hp:=by
 have hna:k ≠ a:=fun e=>hka (by simp [e])
 have hnb:k ≠ b:=fun e=>hka (by simp [e])
 obtain ⟨m,st1,rfl,h1,h2⟩:=zbi (fun m s e h=>(z1d h).1) h
 obtain ⟨_,m',rfl,g1⟩:=z1d h1
 have h2:Ex.ret=ex/\st1=st':=by simpa [dC] using h2
 obtain ⟨rfl,rfl⟩:=h2
 have hg:∀ d,((sl.set k d).getD k .undef)=d:=fun d=>by rw [am,ba hlt,bD]
 have ha:∀ d,((sl.set k d).getD a .undef)=sl.getD a .undef:=fun d=>by rw [am,aX hna,<- am]
 have hb:∀ d,((sl.set k d).getD b .undef)=sl.getD b .undef:=fun d=>by rw [am,aX hnb,<- am]
 simp only [tlE,ze,aI] at g1
 obtain ⟨s1,q1,s2,q2,s3,q3,s4,q4,q5⟩:=g1
 simp only [stepOps,aa] at q5
 subst q5
 simp only [step1,wantedD,if_true] at q1 q2 q3 q4
 split at q1
 case h_2=>simp at q1
 rename_i d1 hp1 e1
 simp only [aa] at q1
 subst q1
 split at q2
 case h_2=>simp at q2
 rename_i d2 hp2 e2
 simp only [aa] at q2
 subst q2
 split at q3
 case h_2=>simp at q3
 rename_i d3 hp3 e3
 simp only [aa] at q3
 subst q3
 split at q4
 case h_2=>simp at q4
 rename_i d4 hp4 e4
 simp only [aa] at q4
 subst q4
 simp only [putO,hU] at e2 e3 e4 ⊢
 simp only [stepOp,DOp.fin,finOp,pureOp,getO,hg,ha,hb] at e1 e2 e3 e4
 refine ⟨trivial,fun t ht=>?_,fun e v hmk hpan=>?_⟩
 ·rw [am,aX (fun e=>ht e.symm),<- am]
 ·unfold markE at hmk
  split at hmk
  case h_3=>simp at hmk
  case h_2=>simp at e1
  rename_i e' r
  simp only [aa] at hmk
  subst hmk
  simp only [cp,bB,af,applyEf,aa,ak] at e1
  obtain ⟨rfl,rfl⟩:=e1
  rcases hpan with ⟨n,_,rfl⟩ | ⟨n,_,rfl⟩
  case inr=>simp [unD] at e4
  simp only [unD,af,applyEf,aa,ak] at e4
  obtain ⟨_,rfl⟩:=e4
  simp only [ab,ak] at e2 e3
  obtain ⟨hp5,e2,_,rfl⟩:=e2
  obtain ⟨hp6,e3,_,rfl⟩:=e3
  show effE E cV cE Z [sl.getD a .undef,sl.getD b .undef] _ hp=some hp6
  generalize sl.getD a .undef=da at e2 ⊢
  generalize sl.getD b .undef=db at e3 ⊢
  cases da <;> first | (simp [storeD] at e2;done) | skip
  cases db <;> first | (simp [storeD] at e3;done) | skip
  simp only [effE,e2,bU,e3]

theorem zm1 {x y t u:Nat} {callP:Nat->List D->Option D} {callS callY:Nat->List D->List Obj->Option (D × List Obj)} {st st1:St} (h:stepOps E callP callS callY [⟨some x,.alloc t,none⟩,⟨some y,.alloc u,none⟩] st=some st1) (hx:x<st.sl.length) (hy:y<st.sl.length) (hne:y ≠ x) :
  shE ([x,y].map fun x=>st1.sl.getD x .undef):=by
 rw [ze] at h
 simp only [aI] at h
 obtain ⟨s1,h1,h⟩:=h
 rw [ze] at h
 simp only [aI] at h
 obtain ⟨s2,h2,h⟩:=h
 simp only [stepOps,aa] at h
 subst h
 simp only [step1,wantedD,if_true] at h1 h2
 split at h1
 case h_2=>simp at h1
 rename_i d1 hp1 e1
 simp only [aa] at h1
 subst h1
 split at h2
 case h_2=>simp at h2
 rename_i d2 hp2 e2
 simp only [aa] at h2
 subst h2
 simp only [stepOp,DOp.fin,finOp,pureOp] at e1 e2
 split at e1
 case isFalse=>simp at e1
 split at e2
 case isFalse=>simp at e2
 simp only [af,aa,ak] at e1 e2
 obtain ⟨rfl,rfl⟩:=e1
 obtain ⟨rfl,rfl⟩:=e2
 simp only [putO,ax,aG,am]
 rw [ba (by simpa using hy),aX hne,ba hx]
 exact ⟨_,_,_,_,rfl⟩

end
end Dv

namespace Dv
open Go (Value Program World Act Oper Operand Code Ending Exit DataW MemPlace)

inductive DTc (E:Env):Nat->List D->Prop
 | bool {c b} (h:(E.ty c).k=.bool):DTc E c [.bool b]
 | int {c k n} (h:(E.ty c).k=.int k) (hw:(Go.Lit.int k n).wf=true):DTc E c [.int k n]
 | str {c s} (h:(E.ty c).k=.str):DTc E c [.str s]
 | slice {c e els} (h:(E.ty c).k=.slice e) (hl:els.length<=Go.maxLen) (he:∀ x,x ∈ els->DTc E e x.cellsL) (ho:∀ x,x ∈ els->ofCells (E.ty e).ag x.cellsL=some x):DTc E c [.imm .none els]
 | struct {c fs ds} (h:(E.ty c).k=.struct fs) (hl:ds.length=(E.ty c).size) (hf:∀ (i:Nat) p,fs[i]? = some p->DTc E p.2 ((ds.drop p.1).take (E.ty p.2).size)):DTc E c ds
 | arr {c n e ds} (h:(E.ty c).k=.arr n e) (hl:ds.length=(E.ty c).size) (hf:∀ i,i<n->DTc E e ((ds.drop (i*(E.ty e).size)).take (E.ty e).size)):DTc E c ds

def tileB (E:Env):Nat->List (Nat × Nat)->Option Nat
 | cur,[]=>some cur
 | cur,(off,u)::fs=>if off=cur then tileB E (cur+(E.ty u).size) fs else none

def inB (E:Env):Nat->Nat->Bool
 | 0,_=>false
 | n+1,c=>match (E.ty c).k with
  | .bool=>(E.ty c).size == 1
  | .int _=>(E.ty c).size == 1
  | .str=>(E.ty c).size == 1
  | .slice e=>(E.ty c).size == 1 && !((E.ty e).size == 0) && inB E n e
  | .struct fs=>(tileB E 0 fs == some (E.ty c).size) && fs.all fun p=>inB E n p.2
  | .arr k e=>(k*(E.ty e).size == (E.ty c).size) && inB E n e
  | _=>false

theorem zl7 {R:Nat->D->Prop}:∀ (n:Nat),(∀ i,i<n->∃ x,R i x)->∃ l:List D,l.length=n /\ ∀ (i:Nat) x,l[i]? = some x->R i x
 | 0,_=>⟨[],rfl,fun i x h=>by simp at h⟩
 | n+1,h=>by
  obtain ⟨l,h1,h2⟩:=zl7 n fun i hi=>h i (by omega)
  obtain ⟨x,hx⟩:=h n (by omega)
  refine ⟨l++[x],by simp [h1],fun i y hy=>?_⟩
  by_cases e:i<l.length
  ·rw [az e] at hy;exact h2 i y hy
  ·rw [aF (by omega)] at hy
   have:i - l.length=0:=by
    have:=(ac.1 hy).1;simp at this;omega
   rw [this] at hy;simp at hy;subst hy
   rw [show i=n from by omega];exact hx

theorem zl4 {sz:Nat} (hsz:0<sz):∀ {els:List D} {j:Nat} {d:D},(∀ x,x ∈ els->x.cellsL.length=sz)->(flat els)[j]? = some d->∃ x,els[j / sz]? = some x/\x.cellsL[j % sz]? = some d
 | [],j,d,_,h=>by simp [flat] at h
 | x::els,j,d,hu,h=>by
  have hx:=hu x (by simp)
  rw [z2a] at h
  by_cases hj:j<sz
  ·rw [az (by omega)] at h
   exact ⟨x,by rw [Nat.div_eq_of_lt hj];rfl,by rw [Nat.mod_eq_of_lt hj];exact h⟩
  ·rw [aF (by omega),hx] at h
   obtain ⟨y,h1,h2⟩:=zl4 hsz (fun z hz=>hu z (by simp [hz])) h
   have e1:j / sz=(j - sz) / sz+1:=by rw [Nat.div_eq_sub_div hsz (by omega)]
   have e2:j % sz=(j - sz) % sz:=by rw [Nat.mod_eq_sub_mod (by omega)]
   exact ⟨y,by rw [e1];simpa using h1,by rw [e2];exact h2⟩


abbrev HAll (W:World):HS:=fun b _=>b<W.heap.size

section
variable {P:Program} {E:Env} {F:Phi} {T:Phi} {W:World} {Hh:Type} {enc:Nat × Value->Hh} {spare:Nat->Bool} {held:Bool}

theorem DTc.len {c:Nat} {ds:List D} (h:DTc E c ds) (m:Nat) (hi:inB E m c=true):ds.length=(E.ty c).size/\(∀ d,d ∈ ds->d.atom=true\/(E.ty c).ag=true)/\((E.ty c).ag=false->ds.length=1):=by
 cases m with
 | zero=>simp [inB] at hi
 | succ m=>
  cases h with
  | bool h=>simp [inB,h] at hi;exact ⟨by simp [hi],fun d hd=>by simp at hd;subst hd;exact .inl rfl,fun _=>rfl⟩
  | int h hw=>simp [inB,h] at hi;exact ⟨by simp [hi],fun d hd=>by simp at hd;subst hd;exact .inl rfl,fun _=>rfl⟩
  | str h=>simp [inB,h] at hi;exact ⟨by simp [hi],fun d hd=>by simp at hd;subst hd;exact .inl rfl,fun _=>rfl⟩
  | slice h hl he ho=>simp [inB,h] at hi;exact ⟨by simp [hi],fun d hd=>by simp at hd;subst hd;exact .inl rfl,fun _=>rfl⟩
  | struct h hl hf=>exact ⟨hl,fun d hd=>.inr (by simp [TI.ag,h]),fun hag=>by simp [TI.ag,h] at hag⟩
  | arr h hl hf=>exact ⟨hl,fun d hd=>.inr (by simp [TI.ag,h]),fun hag=>by simp [TI.ag,h] at hag⟩

theorem z9p {m:Nat} (atoms:∀ {c:Nat} {ds:List D},DTc E c ds->inB E m c=true->∀ d,d ∈ ds->d.atom=true):∀ {fs:List (Nat × Nat)} {cur tot:Nat} {ds:List D},tileB E cur fs=some tot->(fs.all fun p=>inB E m p.2)=true->cur+ds.length=tot -> 
  (∀ (i:Nat) p,fs[i]? = some p->cur<=p.1/\DTc E p.2 ((ds.drop (p.1 - cur)).take (E.ty p.2).size))->∀ d,d ∈ ds->d.atom=true
 | [],cur,tot,ds,h,_,hl,_=>by
  simp [tileB] at h
  have:ds=[]:=bK.1 (by omega)
  subst this;intro d hd;cases hd
 | (off,u)::fs,cur,tot,ds,h,ha,hl,hf=>by
  simp only [tileB] at h
  split at h
  ·rename_i e
   subst e
   simp only [fy,ai] at ha
   have h0:DTc E u (ds.take (E.ty u).size):=by
    have:=(hf 0 (off,u) rfl).2
    simpa using this
   have l0:=(h0.len m ha.1).1
   have hle:(E.ty u).size<=ds.length:=by rw [List.length_take] at l0;omega
   have ih:=z9p atoms (ds:=ds.drop (E.ty u).size) h ha.2 (by simp;omega) (fun i p hp=>by
    obtain ⟨g1,g2⟩:=hf (i+1) p (by simpa using hp)
    have g3:off+(E.ty u).size<=p.1:=by
     -- offsets go up
     have:∀ {fs:List (Nat × Nat)} {cur tot:Nat},tileB E cur fs=some tot->∀ (i:Nat) p,fs[i]? = some p->cur<=p.1:=by
      intro fs
      induction fs with
      | nil=>intro cur tot _ i p hp;simp at hp
      | cons q fs ih=>
       intro cur tot h i p hp
       simp only [tileB] at h
       split at h
       ·rename_i e
        cases i with
        | zero=>simp at hp;subst hp;omega
        | succ i=>have:=ih h i p (by simpa using hp);omega
       ·simp at h
     exact this h i p hp
    refine ⟨g3,?_⟩
    rw [ce,show (E.ty u).size+(p.1 - (off+(E.ty u).size))=p.1 - off from by omega]
    exact g2)
   intro d hd
   rw [<- b7 (E.ty u).size ds] at hd
   rcases aV.1 hd with h1 | h1
   ·exact atoms h0 ha.1 d h1
   ·exact ih d h1
  ·simp at h

theorem DTc.atoms:∀ (m:Nat) {c:Nat} {ds:List D},DTc E c ds->inB E m c=true->∀ d,d ∈ ds->d.atom=true
 | 0,c,ds,_,hi=>by simp [inB] at hi
 | m+1,c,ds,h,hi=>by
  cases h with
  | bool h=>intro d hd;simp at hd;subst hd;rfl
  | int h hw=>intro d hd;simp at hd;subst hd;rfl
  | str h=>intro d hd;simp at hd;subst hd;rfl
  | slice h hl he ho=>intro d hd;simp at hd;subst hd;rfl
  | struct h hl hf=>
   simp only [inB,h,ai,beq_iff_eq] at hi
   exact z9p (fun h' hi'=>DTc.atoms m h' hi') hi.1 hi.2 (by omega) (fun i p hp=>⟨by omega,by simpa using hf i p hp⟩)
  | arr h hl hf=>
   rename_i k e
   simp only [inB,h,ai,beq_iff_eq] at hi
   intro d hd
   obtain ⟨j,hj,hjd⟩:=List.mem_iff_getElem.1 hd
   have hsz:0<(E.ty e).size:=by
    rcases Nat.eq_zero_or_pos (E.ty e).size with h0 | h0
    ·rw [h0] at hi;omega
    ·exact h0
   have hq:j / (E.ty e).size<k:=Nat.div_lt_of_lt_mul (by rw [Nat.mul_comm];omega)
   refine DTc.atoms m (hf _ hq) hi.2 d (List.mem_iff_getElem?.2 ⟨j % (E.ty e).size,?_⟩)
   rw [List.getElem?_take,if_pos (jX _ hsz),List.getElem?_drop,jN j,ao hj,hjd]

end
end Dv

namespace Dv
open Go (Value Program World Act Oper Operand Code Ending Exit DataW MemPlace)

section
variable {P:Program} {E:Env} {F:Phi} {T:Phi} {W:World} {Hh:Type} {enc:Nat × Value->Hh} {spare:Nat->Bool} {held:Bool}

theorem z6a {α β : Type} {f : α -> Option β}:∀ {l:List α} {r:List β},l.mapM f=some r->r.length=l.length /\ ∀ (i:Nat) x,l[i]? = some x->∃ y,f x=some y/\r[i]? = some y
 | [],r,h=>by simp at h;subst h;exact ⟨rfl,fun i x h=>by simp at h⟩
 | x::l,r,h=>by
  rw [fg] at h
  simp only [bind,aI,pure,aa] at h
  obtain ⟨y,h1,r',h2,rfl⟩:=h
  obtain ⟨i1,i2⟩:=z6a h2
  refine ⟨by simp [i1],fun i z hz=>?_⟩
  cases i with
  | zero=>simp at hz;subst hz;exact ⟨y,h1,rfl⟩
  | succ i=>simpa using i2 i z (by simpa using hz)

theorem zaa {a:dO} {n:Nat} {cs:List Value} (h:W.cells? 0 a n=some cs):cs.length=n /\ ∀ j,j<n->(a.add j).spot=none/\cellOf W.heap a.block (a.off+j)=cs[j]? /\ a.block<W.heap.size:=by
 unfold World.cells? at h
 rw [if_pos (cx _)] at h
 obtain ⟨h1,h2⟩:=z6a h
 refine ⟨by simpa using h1,fun j hj=>?_⟩
 obtain ⟨v,h3,h4⟩:=h2 j j (by simp [hj])
 have hs:(a.add j).spot=none:=by
  unfold World.cell? at h3
  split at h3
  ·split at h3
   ·simp at h3
   ·rename_i hn;simpa using hn
  ·simp at h3
 have hb:(a.add j).block=a.block:=by unfold fU;split <;> rfl
 have ho:(a.add j).off=a.off+j:=by
  unfold fU;split
  ·rename_i e;subst e;rfl
  ·rfl
 have h5:a.add j=⟨a.block,a.off+j,none⟩:=by
  cases hx:a.add j with
  | mk b o s=>rw [hx] at hs hb ho;simp at hs hb ho;rw [hs,hb,ho]
 rw [h5,cell?_eq] at h3
 exact ⟨hs,by rw [h3,h4],zd7 h3⟩

theorem z5n {H:HS} {hp:Heap} {cs:List Value} {k:Nat} {d1 d2:List D} (h1:RepL F ρ0 H hp (cs.take k) d1) (h2:RepL F ρ0 H hp (cs.drop k) d2):RepL F ρ0 H hp cs (d1++d2):=by
 have:=h1.append h2
 rwa [b7] at this

theorem TOk.cells {t c:Nat} (h:TOk P E T t c):P.cellsOf t=(E.ty c).size:=by
 obtain ⟨i,hi,h1,_⟩:=h.info
 simp [Program.cellsOf,hi,h1]

theorem z7r (TA:TAll P E T):∀ (fuel m:Nat) {t c:Nat} {cs:List Value} {x:DataW Hh} {ps:List MemPlace},DataW.trod enc P W 0 spare held fuel t cs=some (x,ps)->T t=some c->inB E m c=true ->
  ∃ ds,RepL F ρ0 (HAll W) W.heap cs ds/\DTc E c ds
 | 0,m,t,c,cs,x,ps,h,_,_=>by simp [DataW.trod] at h
 | fuel+1,0,t,c,cs,x,ps,h,_,hi=>by simp [inB] at hi
 | fuel+1,m+1,t,c,cs,x,ps,h,ht,hi=>by
  have Tt:=TA _ _ ht
  have hu:=Tt.und
  unfold DataW.trod at h
  cases hk:(E.ty c).k with
  | bool=>
   rw [hk] at hu;simp only at hu
   simp only [hu] at h
   split at h <;> simp_all
   exact ⟨_,.cons (.bool _) .nil,.bool hk⟩
  | int k=>
   rw [hk] at hu;simp only at hu
   simp only [hu] at h
   split at h
   all_goals first | (simp at h;done) | skip
   all_goals (try (simp_all;done))
   rename_i q q' n heq
   simp at heq;subst heq
   split at h
   ·rename_i hc
    obtain ⟨rfl,hw⟩:=hc
    exact ⟨_,.cons (.int _ _) .nil,.int hk hw⟩
   ·simp at h
  | str=>
   rw [hk] at hu;simp only at hu
   simp only [hu] at h
   split at h <;> simp_all
   exact ⟨_,.cons (.str _) .nil,.str hk⟩
  | slice e=>
   rw [hk] at hu;simp only at hu
   obtain ⟨e',hu,he'⟩:=hu
   have Te:=TA _ _ he'
   simp only [inB,hk,ai,beq_iff_eq,br,beq_eq_false_iff_ne] at hi
   obtain ⟨⟨hs1,hsz⟩,hie⟩:=hi
   have hce:=Te.cells
   simp only [hu] at h
   split at h
   all_goals first | (simp at h;done) | skip
   all_goals (try (simp_all;done))
   ·-- nil
    exact ⟨[.imm .none []],.cons (.imm .none [] none 0 0 0 0 (fun _=>ay) (fun x hx=>by cases hx) (by simp) (fun h=>by cases h) (fun k hk=>by cases hk) (fun h=>absurd rfl h) (fun j hj=>by simp [flat] at hj) (fun j d hd=>by simp [flat] at hd)) .nil,.slice hk (by simp) (fun x hx=>by cases hx) (fun x hx=>by cases hx)⟩
   ·rename_i e2 a len cap heq
    simp at heq;subst heq
    rw [hce] at h
    split at h
    ·rename_i hc
     obtain ⟨_,hlc,hcm⟩:=hc
     simp only [aI] at h
     obtain ⟨elems,h1,_⟩:=h
     obtain ⟨l1,l2⟩:=z6a h1
     have each:∀ i,i<len->∃ x:D,ofCells (E.ty e).ag x.cellsL=some x/\DTc E e x.cellsL/\x.cellsL.length=(E.ty e).size/\x.storable=true /\ ∃ csi,W.cells? 0 (a.add (i*(E.ty e).size)) (E.ty e).size=some csi/\RepL F ρ0 (HAll W) W.heap csi x.cellsL:=by
      intro i hi2
      obtain ⟨y,h3,_⟩:=l2 i i (by simp [hi2])
      simp only [aI] at h3
      obtain ⟨csi,h4,h5⟩:=h3
      obtain ⟨y1,y2⟩:=y
      obtain ⟨ds,h6,h7⟩:=z7r TA fuel m h5 he' hie
      obtain ⟨g1,g2,g3⟩:=h7.len m hie
      have g4:=h7.atoms m hie
      cases hag:(E.ty e).ag with
      | true=>exact ⟨.agg ds,rfl,h7,g1,by simpa [D.storable] using g4,csi,h4,h6⟩
      | false=>
       have:=g3 hag
       obtain ⟨d,rfl⟩:∃ d,ds=[d]:=by
        cases ds with
        | nil=>simp at this
        | cons d r=>cases r with
         | nil=>exact ⟨d,rfl⟩
         | cons _ _=>simp at this
       have hat:=g4 d (by simp)
       have hcl:d.cellsL=[d]:=by cases d <;> first | rfl | simp [D.atom] at hat
       refine ⟨d,by rw [hcl];rfl,by rw [hcl];exact h7,by rw [hcl];exact g1,?_,csi,h4,by rw [hcl];exact h6⟩
       cases d <;> first | exact hat | simp [D.atom] at hat
     obtain ⟨els,hlen,hels⟩:=zl7 len each
     have hun:∀ x,x ∈ els->x.cellsL.length=(E.ty e).size/\x.storable=true:=fun x hx=>by
      obtain ⟨i,hi3⟩:=gu hx
      exact ⟨(hels i x hi3).2.2.1,(hels i x hi3).2.2.2.1⟩
     have hpos:0<(E.ty e).size:=Nat.pos_of_ne_zero hsz
     have hspot:∀ i,i<len->a=⟨a.block,a.off,none⟩:=fun i hi3=>by
      obtain ⟨x0,hx0⟩:∃ x0,els[0]? = some x0:=⟨_,ao (by omega)⟩
      obtain ⟨_,_,_,_,cs0,hc0,_⟩:=hels 0 x0 hx0
      have:=((zaa hc0).2 0 hpos).1
      rw [fI] at this
      have e0:(a.add 0).add 0=a:=by simp [fU]
      rw [e0] at this
      cases a with | mk b o s=>simp at this;rw [this]
     have main:∀ (j:Nat) d,(flat els)[j]? = some d->a.block<W.heap.size /\ ∃ v,cellOf W.heap a.block (a.off+j)=some v/\Rep F ρ0 (HAll W) W.heap v d:=by
      intro j d hd
      obtain ⟨x,hx1,hx2⟩:=zl4 hpos (fun z hz=>(hun z hz).1) hd
      obtain ⟨_,_,hxl,_,csi,hci,hri⟩:=hels _ x hx1
      have hr:=jX j hpos
      obtain ⟨c1,c2⟩:=zaa hci
      obtain ⟨_,c3,c4⟩:=c2 _ hr
      obtain ⟨v,hv,hrv⟩:=hri.get hx2
      have hb:(a.add (j / (E.ty e).size*(E.ty e).size)).block=a.block:=by unfold fU;split <;> rfl
      have hof:(a.add (j / (E.ty e).size*(E.ty e).size)).off=a.off+j / (E.ty e).size*(E.ty e).size:=by
       unfold fU;split
       ·rename_i e;rw [e];rfl
       ·rfl
      rw [hb,hof,dt,jN j,hv] at c3
      rw [hb] at c4
      exact ⟨c4,v,c3,hrv⟩
     refine ⟨[.imm .none els],.cons ?_ .nil,.slice hk (by rw [hlen];omega) (fun x hx=>?_) (fun x hx=>?_)⟩
     ·have hr:=Rep.imm (φ:=F) (ρ:=ρ0) (H:=HAll W) (hp:=W.heap) .none els (some a) cap a.block a.off (E.ty e).size (fun j=>(cellOf W.heap a.block (a.off+j)).getD ay) hun (by omega) (fun h=>by cases h) (fun k hk=>by cases hk)
       (fun hne=>by
        have:0<els.length:=List.length_pos_iff.2 hne
        rw [<- hspot 0 (by omega)])
       (fun j hj=>by
        obtain ⟨d,hd⟩:∃ d,(flat els)[j]? = some d:=⟨_,ao hj⟩
        obtain ⟨c1,v,c2,c3⟩:=main j d hd
        exact ⟨c1,by rw [c2];rfl⟩)
       (fun j d hd=>by
        obtain ⟨c1,v,c2,c3⟩:=main j d hd
        rw [c2];exact c3)
      rwa [hlen] at hr
     ·obtain ⟨i,hi3⟩:=gu hx
      exact (hels i x hi3).2.1
     ·obtain ⟨i,hi3⟩:=gu hx
      exact (hels i x hi3).1
    ·simp at h
  | struct fs=>
   rw [hk] at hu;simp only at hu
   obtain ⟨fs',hu,hfl,hff⟩:=hu
   simp only [inB,hk,ai,beq_iff_eq] at hi
   simp only [hu] at h
   split at h
   ·rename_i hlen
    simp only [ab] at h
    obtain ⟨xs,h1,_⟩:=h
    obtain ⟨l1,l2⟩:=z6a h1
    rw [Tt.cells] at hlen
    have go:∀ (fl:List (Nat × Nat)) (cur k:Nat),fs.drop k=fl->tileB E cur fl=some (E.ty c).size->cur<=(E.ty c).size ->
      ∃ ds,RepL F ρ0 (HAll W) W.heap (cs.drop cur) ds /\ ∀ (i:Nat) p,fl[i]? = some p->cur<=p.1/\DTc E p.2 ((ds.drop (p.1 - cur)).take (E.ty p.2).size):=by
     intro fl
     induction fl with
     | nil=>
      intro cur k _ ht2 hcur
      simp [tileB] at ht2
      refine ⟨[],?_,fun i p hp=>by simp at hp⟩
      rw [cu (by omega)];exact .nil
     | cons q fl ih=>
      intro cur k hd ht2 hcur
      obtain ⟨off,u⟩:=q
      simp only [tileB] at ht2
      split at ht2
      ·rename_i e0
       subst e0
       have hq:fs[k]? = some (off,u):=by
        have:=congrArg (fun l:List (Nat × Nat)=>l[0]?) hd;simpa using this
       have hklt:=(ac.1 hq).1
       obtain ⟨f,hf⟩:∃ f,fs'[k]? = some f:=⟨_,cH (by omega)⟩
       obtain ⟨o1,o2⟩:=hff k f (off,u) hf hq
       obtain ⟨y,h3,_⟩:=l2 k f (by simpa using hf)
       obtain ⟨y1,y2⟩:=y
       have hin:inB E m u=true:=aw.1 hi.2 (off,u) (bf hq)
       obtain ⟨d1,h6,h7⟩:=z7r TA fuel m h3 o2 hin
       have Tf:=TA _ _ o2
       rw [Tf.cells,o1] at h6
       simp only at h6
       have g1:d1.length=(E.ty u).size:=(h7.len m hin).1
       have hle:off+(E.ty u).size<=(E.ty c).size:=by
        have hup:∀ {fs:List (Nat × Nat)} {cur tot:Nat},tileB E cur fs=some tot->cur<=tot:=by
         intro fs
         induction fs with
         | nil=>intro cur tot h;simp [tileB] at h;omega
         | cons q fs ih=>
          intro cur tot h
          simp only [tileB] at h
          split at h
          ·have:=ih h;omega
          ·simp at h
        exact hup ht2
       obtain ⟨d2,i1,i2⟩:=ih (off+(E.ty u).size) (k+1) (by
        have:=congrArg (fun l:List (Nat × Nat)=>l.drop 1) hd
        simpa [ce,eQ] using this) ht2 hle
       refine ⟨d1++d2,z5n (k:=(E.ty u).size) h6 (by rw [ce];exact i1),fun i p hp=>?_⟩
       cases i with
       | zero=>
        simp at hp;subst hp
        refine ⟨ar _,?_⟩
        simp only [Nat.sub_self,eI]
        rw [cQ (by omega),dn (by omega)]
        exact h7
       | succ i=>
        obtain ⟨j1,j2⟩:=i2 i p (by simpa using hp)
        refine ⟨by omega,?_⟩
        rw [jO,cu (by omega),eg,g1,show p.1 - off - (E.ty u).size=p.1 - (off+(E.ty u).size) from by omega]
        exact j2
      ·simp at ht2
    obtain ⟨ds,r1,r2⟩:=go fs 0 0 rfl hi.1 (cx _)
    rw [eI] at r1
    refine ⟨ds,r1,.struct hk (by rw [<- hlen];exact r1.1.symm) (fun i p hp=>by simpa using (r2 i p hp).2)⟩
   ·simp at h
  | arr n e=>
   rw [hk] at hu;simp only at hu
   obtain ⟨e',hu,he'⟩:=hu
   have Te:=TA _ _ he'
   simp only [inB,hk,ai,beq_iff_eq] at hi
   have hce:=Te.cells
   simp only [hu] at h
   split at h
   ·rename_i hlen
    simp only [ab] at h
    obtain ⟨xs,h1,_⟩:=h
    obtain ⟨l1,l2⟩:=z6a h1
    rw [Tt.cells] at hlen
    have go:∀ (r k:Nat),k+r=n->∃ ds,RepL F ρ0 (HAll W) W.heap (cs.drop (k*(E.ty e).size)) ds /\ ∀ i,i<r->DTc E e ((ds.drop (i*(E.ty e).size)).take (E.ty e).size):=by
     intro r
     induction r with
     | zero=>
      intro k hk2
      refine ⟨[],?_,fun i hi2=>by omega⟩
      rw [cu (by rw [hlen,<- hi.1,show k=n from by omega];exact ar _)];exact .nil
     | succ r ih=>
      intro k hk2
      obtain ⟨y,h3,_⟩:=l2 k k (c9 (by omega))
      obtain ⟨y1,y2⟩:=y
      rw [hce] at h3
      obtain ⟨d1,h6,h7⟩:=z7r TA fuel m h3 he' hi.2
      have g1:d1.length=(E.ty e).size:=(h7.len m hi.2).1
      obtain ⟨d2,i1,i2⟩:=ih (k+1) (by omega)
      refine ⟨d1++d2,z5n (k:=(E.ty e).size) h6 (by rw [ce];rw [be,lE] at i1;exact i1),fun i hi2=>?_⟩
      cases i with
      | zero=>
       rw [fI,eI,cQ (by omega),dn (by omega)]
       exact h7
      | succ i=>
       have:=i2 i (by omega)
       rw [be,lE,jO,cu (by omega),eg,g1,Nat.add_sub_cancel]
       exact this
    obtain ⟨ds,r1,r2⟩:=go n 0 (by omega)
    rw [fI,eI] at r1
    exact ⟨ds,r1,.arr hk (by rw [<- hlen];exact r1.1.symm) r2⟩
   ·simp at h
  | map k e=>simp [inB,hk] at hi
  | ptr e=>simp [inB,hk] at hi
  | func=>simp [inB,hk] at hi
  | other=>simp [inB,hk] at hi

end
end Dv

namespace Dv
open Go (Value Program World Act Oper Operand Code Ending Exit DataW MemPlace)

def Typed (E:Env) (c:Nat) (x:D):Prop:=DTc E c x.cellsL/\ofCells (E.ty c).ag x.cellsL=some x

section
variable {P:Program} {E:Env} {F:Phi} {T:Phi} {W:World} {Hh:Type} {enc:Nat × Value->Hh}

theorem zr8 (TA:TAll P E T) {m t c base:Nat} {v:Value} {d:DataW Hh} {ps:List MemPlace} (ht:T t=some c) (hin:inB E m c=true) (hok:Value.okWide P W .any base t v) (h:DataW.Trod enc P W 0 (fun _=>true) true t v d ps) :
  ∃ x:D,Rep F ρ0 (HAll W) W.heap v x/\Typed E c x:=by
 obtain ⟨fuel,h⟩:=h
 obtain ⟨ds,h1,h2⟩:=z7r (F:=F) TA fuel m h ht hin
 have hu:=(TA _ _ ht).und
 obtain ⟨_,_,g3⟩:=h2.len m hin
 have g4:=h2.atoms m hin
 have single:(E.ty c).ag=false->(∀ cs,v ≠ .agg cs)->(∀ cs,v ≠ .tuple cs)->∃ x:D,Rep F ρ0 (HAll W) W.heap v x/\Typed E c x:=by
  intro hag n1 n2
  have hv:v.cells.toList=[v]:=by
   cases v <;> first | rfl | exact absurd rfl (n1 _) | exact absurd rfl (n2 _)
  rw [hv] at h1
  have:=g3 hag
  obtain ⟨x,rfl⟩:∃ x,ds=[x]:=by
   cases ds with
   | nil=>simp at this
   | cons d r=>cases r with
    | nil=>exact ⟨d,rfl⟩
    | cons _ _=>simp at this
  have hat:=g4 x (by simp)
  have hcl:x.cellsL=[x]:=by cases x <;> first | rfl | simp [D.atom] at hat
  exact ⟨x,h1.of_cons.1,by rw [hcl];exact h2,by rw [hcl,hag];rfl⟩
 cases h2 with
 | bool hk=>
  rw [hk] at hu;simp only at hu
  refine single (by simp [TI.ag,hk]) (fun cs e=>?_) (fun cs e=>?_) <;> subst e <;> simp [Value.okWide,hu,fQ,gW] at hok
 | int hk hw=>
  rw [hk] at hu;simp only at hu
  refine single (by simp [TI.ag,hk]) (fun cs e=>?_) (fun cs e=>?_) <;> subst e <;> simp [Value.okWide,hu,fQ,gW] at hok
 | str hk=>
  rw [hk] at hu;simp only at hu
  refine single (by simp [TI.ag,hk]) (fun cs e=>?_) (fun cs e=>?_) <;> subst e <;> simp [Value.okWide,hu,fQ,gW] at hok
 | slice hk hl he ho=>
  rw [hk] at hu;simp only at hu
  obtain ⟨e',hu,_⟩:=hu
  refine single (by simp [TI.ag,hk]) (fun cs e=>?_) (fun cs e=>?_) <;> subst e <;> simp [Value.okWide,hu,fQ,gW] at hok
 | struct hk hl hf=>
  rename_i fs
  rw [hk] at hu;simp only at hu
  obtain ⟨fs',hu,_⟩:=hu
  have h3:DTc E c ds:=.struct hk hl hf
  obtain ⟨cs,rfl,_⟩:∃ cs,v=.agg cs/\cs.size=P.cellsOf t:=by
   simp only [Value.okWide,hu] at hok
   obtain ⟨cs,e1,e2,_⟩:=hok
   exact ⟨cs,e1,e2⟩
  refine ⟨.agg ds,?_,h3,by simp [D.cellsL,ofCells,TI.ag,hk]⟩
  have:=h1.agg
  simpa [Value.cells] using this
 | arr hk hl hf=>
  rename_i k e
  rw [hk] at hu;simp only at hu
  obtain ⟨e',hu,_⟩:=hu
  have h3:DTc E c ds:=.arr hk hl hf
  obtain ⟨cs,rfl,_⟩:∃ cs,v=.agg cs/\cs.size=P.cellsOf t:=by
   simp only [Value.okWide,hu] at hok
   obtain ⟨cs,e1,e2,_⟩:=hok
   exact ⟨cs,e1,e2⟩
  refine ⟨.agg ds,?_,h3,by simp [D.cellsL,ofCells,TI.ag,hk]⟩
  have:=h1.agg
  simpa [Value.cells] using this

def TypedL (E:Env):List Nat->List D->Prop
 | [],[]=>True
 | c::cs,x::xs=>Typed E c x/\TypedL E cs xs
 | _,_=>False

def tysB (E:Env) (T:Phi):List Nat->List Nat->Bool
 | [],[]=>true
 | t::ts,c::cs=>(T t == some c) && inB E 20 c && tysB E T ts cs
 | _,_=>false

theorem zg4 (TA:TAll P E T) {base:Nat}:∀ {ts cs:List Nat} {vs:List Value} {ds:List (DataW Hh)} {ps:List MemPlace},tysB E T ts cs=true->(∀ (j:Nat) t v,ts[j]? = some t->vs[j]? = some v->Value.okWide P W .any base t v) ->
  DataW.TrodAll enc P W 0 (fun _=>true) true ts vs ds ps->∃ xs,RepL F ρ0 (HAll W) W.heap vs xs/\TypedL E cs xs
 | [],[],[],[],ps,_,_,_=>⟨[],.nil,trivial⟩
 | t::ts,c::cs,v::vs,d::ds,ps,hb,hok,h=>by
  simp only [tysB,ai,beq_iff_eq] at hb
  obtain ⟨p,q,h1,h2,_⟩:=h
  obtain ⟨x,r1,r2⟩:=zr8 (F:=F) TA hb.1.1 hb.1.2 (hok 0 t v rfl rfl) h1
  obtain ⟨xs,r3,r4⟩:=zg4 TA hb.2 (fun j t' v' h3 h4=>hok (j+1) t' v' (by simpa using h3) (by simpa using h4)) h2
  exact ⟨x::xs,.cons r1 r3,r2,r4⟩
 | [],_::_,_,_,_,hb,_,_=>by simp [tysB] at hb
 | _::_,[],_,_,_,hb,_,_=>by simp [tysB] at hb
 | [],[],_::_,_,_,_,_,h=>h.elim
 | [],[],[],_::_,_,_,_,h=>h.elim
 | _::_,_::_,[],_,_,_,_,h=>h.elim
 | _::_,_::_,_::_,[],_,_,_,h=>h.elim

theorem zd9 (hl:jE P=true) {W':World} {sp:Nat->Bool}:∀ {ts:List Nat} {vs:List Value} {ds:List (DataW Hh)} {ps:List MemPlace},(ts.all fun t=>P.readableRec t && decide (t<P.types.size))=true ->
  DataW.TrodAll enc P W 0 (fun _=>true) true ts vs ds ps->(∀ p,p ∈ ps->W.sameAt W' p)->(∀ p,p ∈ ps->sp p.block=true)->DataW.TrodAll enc P W' 0 sp true ts vs ds ps
 | [],[],[],ps,_,h,_,_=>h
 | t::ts,v::vs,d::ds,ps,hb,h,hs,hsp=>by
  simp only [fy,ai,decide_eq_true_eq] at hb
  obtain ⟨p,q,h1,h2,rfl⟩:=h
  exact ⟨p,q,li hl hb.1.1 hb.1.2 h1 (fun x hx=>hs x (cZ _ hx)) (fun x hx=>hsp x (cZ _ hx)),
   zd9 hl hb.2 h2 (fun x hx=>hs x (fh _ hx)) (fun x hx=>hsp x (fh _ hx)),rfl⟩
 | [],[],_::_,_,_,h,_,_=>h.elim
 | [],_::_,_,_,_,h,_,_=>h.elim
 | _::_,[],_,_,_,h,_,_=>h.elim
 | _::_,_::_,[],_,_,h,_,_=>h.elim

theorem zmz {f:dD} {s:iX} {apart fresh handsOn again:Bool} {W':World} {args:Array Value} {v:Value} {ds gs:List (DataW Hh)} {before pa pv:List MemPlace}
  (hW:DataW.Whole enc P f.params.toList s.vars apart W args.toList ds gs before)
  (hres:∀ (b:Nat) (sp:Nat->Bool) (hd:Bool),DataW.TrodAll enc P W' b sp hd f.resultTypes.toList (v.resultList f.resultTypes.size) (s.fn Hh (ds++gs)).results [])
  (hargs:∀ sp:Nat->Bool,(∀ p ∈ before,sp p.block=true)->DataW.TrodAll enc P W' 0 sp true f.params.toList args.toList (s.fn Hh (ds++gs)).args pa)
  (hvars:∀ sp:Nat->Bool,(∀ p ∈ before,sp p.block=true)->DataW.TrodVars enc P W' sp s.vars (s.fn Hh (ds++gs)).vars pv)
  (hps:before=pa++pv) (hk:W.keptBut W' (· ∈ before)) (hfz:∀ a:dO,a.block<W.heap.size->W'.frozen? a=W.frozen? a)
  (hok:∀ (j:Nat) (t:d9) (r:Value),f.resultTypes[j]? = some t->(v.resultList f.resultTypes.size)[j]? = some r->Value.okWide P W' .any 0 t r) :
  s.post enc P f apart fresh handsOn again W args v W':=by
 have hlt:∀ p,p ∈ before->p.block<W.heap.size:=fun p hp=>hW.lt p hp
 have hin:∀ p,p ∈ before->p ∈ pa\/p ∈ pv:=fun p hp=>by rw [hps] at hp;exact aV.1 hp
 have hin':∀ p,p ∈ ([]++pa)++pv->p ∈ before:=fun p hp=>by rw [hps];simpa using hp
 have hd:∀ p,p ∈ before->(fun b=>decide (b<W.heap.size)) p.block=true:=fun p hp=>by simpa using hlt p hp
 refine ⟨ds,gs,before,[],pa,pv,hW,hres _ _ _,hargs _ hd,hvars _ hd,Go.World.keptBut_mono (fun p hp=>⟨hp,.inr (hin p hp)⟩) hk,fun _=>?_⟩
 obtain ⟨_,_,_,_,_,hz,hn⟩:=hW
 refine ⟨hok,_,_,([]++pa)++pv,⟨[]++pa,pv,j8 (hargs _ fun _ _=>rfl) (hres _ _ _),hvars _ fun _ _=>rfl,rfl,fun b off hp=>?_,fun ha=>?_⟩,fun p hp _=>hin' p hp⟩
 ·have h1:=hin' _ hp
  rw [hfz ⟨b,off,none⟩ (hlt _ h1)]
  exact hz b off h1
 ·have h1:=hn ha
  rw [hps] at h1
  simpa using h1

theorem zkd {B:List D->Prop} (t:Tie P E T F) (hl:jE P=true) {f f':Nat} {fn:dD} {cs:List Nat} {tb:Nat} (hf:F f=some f') (hty:tysB E T fn.params.toList cs=true) (hrd:(fn.params.toList.all fun t=>P.readableRec t && decide (t<P.types.size))=true)
  (hres:fn.resultTypes = #[tb]) (hb:P.underlying tb=some .bool) {s:iX} (hsv:s.vars=[]) (hs:∀ ds:List (DataW Hh),ds.length=cs.length->s.fn Hh ds = { results:=[.lit (.bool true)],args:=ds })
  (law:∀ xs,TypedL E cs xs->B xs->∃ n,runP E (dC E n) f' xs=some (.bool true)) {apart fresh handsOn again:Bool} {base:Nat} {args:Array Value} {ds gs:List (DataW Hh)} {before:List MemPlace}
  (hval:∀ (j:Nat) t v,fn.params[j]? = some t->args[j]? = some v->Value.okWide P W .any base t v)
  (hW:DataW.Whole enc P fn.params.toList s.vars apart W args.toList ds gs before) (hgl:∀ g cs,glTab.lookup g=some cs->∀ (j:Nat) k n,cs[j]? = some (k,n)->cellOf W.heap g j=some (.int k n)) (hB:∀ xs,RepL F ρ0 (HAll W) W.heap args.toList xs->B xs) :
  iP P f args W fun e W'=>∃ v,e=.returned v/\s.post enc P fn apart fresh handsOn again W args v W':=by
 have hW':=hW
 obtain ⟨p,q,hA,hV,rfl,hfz,hnd⟩:=hW
 rw [hsv] at hV
 have hg:gs=[]/\q=[]:=by
  cases gs with
  | nil=>exact ⟨rfl,hV⟩
  | cons _ _=>exact hV.elim
 obtain ⟨rfl,rfl⟩:=hg
 obtain ⟨xs,r1,r2⟩:=zg4 (F:=F) t.types (base:=base) hty (fun j t' v' h3 h4=>hval j t' v' (by simpa using h3) (by simpa using h4)) hA
 obtain ⟨n,hrun⟩:=law xs r2 (hB xs r1)
 have hcall:=zgs t n hf none (HAll W) W args xs (.bool true) hrun ⟨fun b o h=>h,fun g cs hg j k n hj=>⟨zd7 (hgl g cs hg j k n hj),hgl g cs hg j k n hj⟩⟩ r1
 have hdl:ds.length=cs.length:=by
  have h1:∀ {ts cs:List Nat},tysB E T ts cs=true->ts.length=cs.length:=by
   intro ts
   induction ts with
   | nil=>intro cs h;cases cs <;> simp [tysB] at h ⊢
   | cons t ts ih=>
    intro cs h
    cases cs with
    | nil=>simp [tysB] at h
    | cons c cs=>simp only [tysB,ai] at h;simp [ih h.2]
  have h2:∀ {ts:List Nat} {vs:List Value} {ds:List (DataW Hh)} {ps:List MemPlace},DataW.TrodAll enc P W 0 (fun _=>true) true ts vs ds ps->ds.length=ts.length:=by
   intro ts
   induction ts with
   | nil=>
    intro vs ds ps h
    cases vs with
    | nil=>cases ds with
     | nil=>rfl
     | cons _ _=>exact h.elim
    | cons _ _=>exact h.elim
   | cons t ts ih=>
    intro vs ds ps h
    cases vs with
    | nil=>exact h.elim
    | cons v vs=>cases ds with
     | nil=>exact h.elim
     | cons d ds=>
      obtain ⟨_,_,_,h2,_⟩:=h
      simp [ih h2]
  rw [h2 hA,h1 hty]
 refine (j7 (n:=0)).1 (hcall.mono fun e W' he=>?_)
 cases e with
 | panicked c=>exact he.elim
 | outgrown=>exact he.elim
 | returned v=>
  obtain ⟨H',g,⟨hfz',hst⟩,hv⟩:=he
  obtain rfl:=hv.boolv
  have hbelow:Go.RowKit.Below W.heap.size W W':=⟨hst.os,hst.tape,hst.out,g.size,g.old⟩
  have hlt:∀ x,x ∈ p->x.block<W.heap.size:=fun x hx=>hW'.lt x (by simpa using hx)
  have hsf:s.fn Hh (ds++[]) = { results:=[.lit (.bool true)],args:=ds }:=by rw [aS];exact hs ds hdl
  refine ⟨_,rfl,zmz (pa:=p) (pv:=[]) hW' (fun b sp hd=>?_) (fun sp hsp=>?_) (fun sp _=>?_) rfl (hbelow.frame _) (fun a hab=>?_) (Go.RowKit.ok_one hres rfl ?_)⟩
  ·rw [hsf,hres]
   refine ⟨[],[],⟨1,?_⟩,rfl,rfl⟩
   simp [Value.resultList,Value.cells,DataW.trod,hb]
  ·rw [hsf]
   exact zd9 hl hrd hA (fun x hx=>hbelow.same (hlt x hx)) (fun x hx=>hsp x (by simpa using hx))
  ·rw [hsf,hsv];rfl
  ·unfold World.frozen?;rw [g.old _ hab]
  ·simp [Value.okWide,hb,fQ,gW]

theorem law_post (t:Tie P E T F) (hl:jE P=true) {f f':Nat} {fn:dD} {cs:List Nat} {tb:Nat} (hf:F f=some f') (hty:tysB E T fn.params.toList cs=true) (hrd:(fn.params.toList.all fun t=>P.readableRec t && decide (t<P.types.size))=true)
  (hres:fn.resultTypes = #[tb]) (hb:P.underlying tb=some .bool) {s:iX} (hsv:s.vars=[]) (hs:∀ ds:List (DataW Hh),ds.length=cs.length->s.fn Hh ds = { results:=[.lit (.bool true)],args:=ds })
  (law:∀ xs,TypedL E cs xs->∃ n,runP E (dC E n) f' xs=some (.bool true)) {apart fresh handsOn again:Bool} {base:Nat} {args:Array Value} {ds gs:List (DataW Hh)} {before:List MemPlace}
  (hval:∀ (j:Nat) t v,fn.params[j]? = some t->args[j]? = some v->Value.okWide P W .any base t v)
  (hW:DataW.Whole enc P fn.params.toList s.vars apart W args.toList ds gs before) (hgl:∀ g cs,glTab.lookup g=some cs->∀ (j:Nat) k n,cs[j]? = some (k,n)->cellOf W.heap g j=some (.int k n)) :
  iP P f args W fun e W'=>∃ v,e=.returned v/\s.post enc P fn apart fresh handsOn again W args v W':=
 zkd (B:=fun _=>True) t hl hf hty hrd hres hb hsv hs (fun xs h _=>law xs h) hval hW hgl fun _ _=>trivial

end
end Dv

namespace Dv

section
variable {E:Env} {P P':Nat->List D->Option D} {S S':Nat->List D->List Obj->Option (D × List Obj)} {Y Y':Nat->List D->List Obj->Option (D × List Obj)}

theorem zdp (hP:∀ f as d,P f as=some d->P' f as=some d) {id:Nat} {g:Opd->D} {hp:List Obj} {op:DOp} {e:Ef} (h:pureOp E P id g hp op=some e):pureOp E P' id g hp op=some e:=by
 cases op with
 | call md f as=>
  cases md with
  | zero=>
   simp only [pureOp] at h ⊢
   split at h
   ·rename_i k caps hg
    split at h
    ·rename_i vs hv
     simp only [ab] at h
     obtain ⟨d,h1,rfl⟩:=h
     simp only [hg,hv,hP _ _ _ h1,af]
    ·simp at h
   ·simp at h
  | succ n=>exact h
 | _=>exact h

theorem zkk (hS:∀ f as hp r,S f as hp=some r->S' f as hp=some r) {k:Nat} {x:D} {rest:List D} {hp:List Obj} {r:D × Nat × Obj} (h:islD S k x rest hp=some r):islD S' k x rest hp=some r:=by
 unfold islD at h ⊢
 split at h
 case h_2=>simp at h
 split at h
 case h_2=>simp at h
 rename_i cs ho
 split at h
 case h_2=>simp at h
 rename_i vs cs1 e1 e2
 split at h
 case isFalse=>simp at h
 rename_i hat
 rw [if_pos hat]
 split at h
 case h_2=>simp at h
 rename_i d hp2 hr
 obtain ⟨h1,h2⟩:=zm hr
 rw [hS _ _ _ _ h1,zq h2]
 exact h

theorem z6k (hS:∀ f as hp r,S f as hp=some r->S' f as hp=some r):∀ f as hp r,disM E S f as hp=some r->disM E S' f as hp=some r:=by
 intro f as hp r h
 unfold disM at h ⊢
 cases hs:S f as hp with
 | none=>rw [hs] at h;simp at h
 | some x=>rw [hS _ _ _ _ hs];rw [hs] at h;exact h
theorem z9b (hP:∀ f as d,P f as=some d->P' f as=some d) (hS:∀ f as hp r,S f as hp=some r->S' f as hp=some r):∀ f as d,disP E P S f as=some d->disP E P' S' f as=some d:=by
 intro f as d h
 unfold disP at h ⊢
 split
 ·rename_i hm
  rw [if_pos hm] at h
  cases hs:disM E S f as [] with
  | none=>rw [hs] at h;simp at h
  | some x=>rw [z6k hS _ _ _ _ hs];rw [hs] at h;exact h
 ·rename_i hm
  rw [if_neg hm] at h
  cases hs:P f as with
  | none=>rw [hs] at h;simp at h
  | some x=>rw [hP _ _ _ hs];rw [hs] at h;exact h

theorem zhv (hP:∀ f as d,P f as=some d->P' f as=some d) (hS:∀ f as hp r,S f as hp=some r->S' f as hp=some r) (hY:∀ f as hp r,Y f as hp=some r->Y' f as hp=some r)
  {g:Opd->D} {hp:List Obj} {op:DOp} {r:D × List Obj} (h:finOp E P S Y g hp op=some r):finOp E P' S' Y' g hp op=some r:=by
 cases op with
 | mkcall f as=>
  simp only [finOp] at h ⊢
  split at h
  ·rename_i k caps hg
   split at h
   ·unfold makD at h ⊢
    simp only [ab] at h ⊢
    obtain ⟨r1,h1,h2⟩:=h
    obtain ⟨h3,h4⟩:=zm h1
    exact ⟨r1,by rw [hS _ _ _ _ h3];exact zq h4,h2⟩
   ·simp at h
  ·simp at h
 | call md f as=>
  match md with
  | 0=>
   simp only [finOp] at h ⊢
   cases hg:g f with
   | fn k caps=>
    rw [hg] at h
    obtain ⟨h1,h2⟩:=zm h
    simp only [hS _ _ _ _ h1];exact zq h2
   | bfn k r=>
    rw [hg] at h
    obtain ⟨h1,h2⟩:=zm h
    simp only [hS _ _ _ _ h1];exact zq h2
   | yld l=>rw [hg] at h;exact hY _ _ _ _ h
   | _=>rw [hg] at h;simp at h
  | 1=>
   simp only [finOp] at h ⊢
   split at h
   ·rename_i k caps hg
    split at h
    ·rename_i vs hv
     simp only [ab] at h
     obtain ⟨d,h1,rfl⟩:=h
     simp only [hg,hv,hP _ _ _ h1,af]
    ·simp at h
   ·simp at h
  | 3=>
   simp only [finOp] at h ⊢
   split at h
   ·rename_i k caps hg
    split at h
    ·rename_i vs hv
     split at h
     ·rename_i d hd
      simp only [hg,hv,hP _ _ _ hd];exact h
     ·simp at h
    ·simp at h
   ·simp at h
  | 2=>
   simp only [finOp] at h ⊢
   cases hg:g f with
   | fn k caps=>
    rw [hg] at h
    obtain ⟨h1,h2⟩:=zm h
    simp only [hS _ _ _ _ h1];exact zq h2
   | bfn k r=>
    rw [hg] at h
    obtain ⟨h1,h2⟩:=zm h
    simp only [hS _ _ _ _ h1];exact zq h2
   | yld l=>rw [hg] at h;exact hY _ _ _ _ h
   | _=>rw [hg] at h;simp at h
  | 5=>
   simp only [finOp] at h ⊢
   split at h
   ·rename_i k caps hg
    split at h
    ·rename_i hmp
     rw [if_pos hmp]
     split at h
     ·rename_i vs hv
      cases hc:S k vs [] with
      | none=>rw [hc] at h;simp [markR] at h
      | some x=>rw [hS _ _ _ _ hc];rw [hc] at h;exact h
     ·simp at h
    ·simp at h
   ·simp at h
  | 6=>
   simp only [finOp] at h ⊢
   cases hg:g f with
   | fn k caps=>
    rw [hg] at h
    simp only at h ⊢
    split at h
    ·rename_i hmp;rw [if_pos hmp];exact hS _ _ _ _ h
    ·simp at h
   | _=>rw [hg] at h;simp at h
  | 4=>
   cases as with
   | nil=>
    simp only [finOp] at h ⊢
    split at h
    ·rename_i k caps hg
     split at h
     ·unfold makD at h ⊢
      simp only [ab] at h ⊢
      obtain ⟨r1,h1,h2⟩:=h
      obtain ⟨h3,h4⟩:=zm h1
      exact ⟨r1,by rw [hS _ _ _ _ h3];exact zq h4,h2⟩
     ·simp at h
    ·simp at h
   | cons x as=>
    simp only [finOp] at h ⊢
    cases hg:g f with
    | fn k caps=>
     rw [hg] at h
     simp only [ab] at h ⊢
     obtain ⟨r1,h1,h2⟩:=h
     exact ⟨r1,zkk hS h1,h2⟩
    | _=>rw [hg] at h;simp at h
  | n+7=>
   simp only [finOp] at h ⊢
   cases hg:g f with
   | fn k caps=>
    rw [hg] at h
    obtain ⟨h1,h2⟩:=zm h
    simp only [hS _ _ _ _ h1];exact zq h2
   | bfn k r=>
    rw [hg] at h
    obtain ⟨h1,h2⟩:=zm h
    simp only [hS _ _ _ _ h1];exact zq h2
   | yld l=>rw [hg] at h;exact hY _ _ _ _ h
   | _=>rw [hg] at h;simp at h
 | _=>exact h

theorem z48 (hP:∀ f as d,P f as=some d->P' f as=some d) (hS:∀ f as hp r,S f as hp=some r->S' f as hp=some r) (hY:∀ f as hp r,Y f as hp=some r->Y' f as hp=some r)
  {id:Nat} {g:Opd->D} {hp:List Obj} {op:DOp} {r:D × List Obj} (h:stepOp E P S Y id g hp op=some r):stepOp E P' S' Y' id g hp op=some r:=by
 unfold stepOp at h ⊢
 generalize op.fin=b at h ⊢
 cases b with
 | true=>exact zhv hP hS hY h
 | false=>
  simp only [ab] at h ⊢
  obtain ⟨e,h1,h2⟩:=h
  exact ⟨e,zdp hP h1,h2⟩

theorem z2t (hP:∀ f as d,P f as=some d->P' f as=some d) (hS:∀ f as hp r,S f as hp=some r->S' f as hp=some r) (hY:∀ f as hp r,Y f as hp=some r->Y' f as hp=some r) :
  ∀ {ops:List DOpr} {st st':St},stepOps E P S Y ops st=some st'->stepOps E P' S' Y' ops st=some st'
 | [],st,st',h=>h
 | o::os,st,st',h=>by
  simp only [stepOps] at h ⊢
  split
  ·rename_i hw
   rw [if_pos hw] at h
   split at h
   ·rename_i d hp hst
    rw [z48 hP hS hY hst]
    exact z2t hP hS hY h
   ·simp at h
  ·rename_i hw
   rw [if_neg hw] at h
   exact z2t hP hS hY h

theorem z1c (hP:∀ f as d,P f as=some d->P' f as=some d) (hS:∀ f as hp r,S f as hp=some r->S' f as hp=some r) (hY:∀ f as hp r,Y f as hp=some r->Y' f as hp=some r) :
  ∀ {ops:List DOpr} {id:Nat} {st st':St},stepOpsD E P S Y id ops st=some st'->stepOpsD E P' S' Y' id ops st=some st'
 | [],id,st,st',h=>h
 | o::os,id,st,st',h=>by
  simp only [stepOpsD] at h ⊢
  split
  ·rename_i hw
   rw [if_pos hw] at h
   split at h
   ·rename_i d hp hst
    rw [z48 hP hS hY hst]
    exact z1c hP hS hY h
   ·simp at h
  ·rename_i hw
   rw [if_neg hw] at h
   exact z1c hP hS hY h

end

section
variable {E:Env} {rec rec':DC->St->Option (Ex × St)}

theorem zcz {b:Bool} {F:DFn} {x x':Option (Ex × St)} (h:∀ r,x=some r->x'=some r) {r:D × List Obj} (hr:finishQ b E F x=some r):finishQ b E F x'=some r:=by
 cases x with
 | none=>cases b <;> simp [finishQ,finishF,finishM] at hr
 | some y=>rw [h y rfl];exact hr

theorem z2v (h:∀ c st r,rec c st=some r->rec' c st=some r) {f:Nat} {args:List D} {hp:List Obj} {r:D × List Obj} (hr:runS E rec f args hp=some r):runS E rec' f args hp=some r:=by
 unfold runS at hr ⊢
 split at hr
 ·rename_i F hF
  exact zcz (fun r=>h _ _ r) hr
 ·simp at hr

theorem z40 (h:∀ c st r,rec c st=some r->rec' c st=some r) {f:Nat} {args:List D} {r:D} (hr:runP E rec f args=some r):runP E rec' f args=some r:=by
 unfold runP at hr ⊢
 split at hr
 ·rename_i d hp h1
  rw [z2v h h1];exact hr
 ·simp at hr

theorem z4v (h:∀ c st r,rec c st=some r->rec' c st=some r) {l:Nat} {args:List D} {hp:List Obj} {r:D × List Obj} (hr:runY rec l args hp=some r):runY rec' l args hp=some r:=by
 unfold runY at hr ⊢
 split at hr
 ·rename_i slots ps asg body hl
  split at hr
  ·rename_i hlen
   rw [if_pos hlen]
   split at hr
   ·rename_i st1 h1
    rw [h _ _ _ h1]
    split at hr
    ·rename_i s1 p1 a1 b1 h2
     simp only [h2]
     split at hr
     ·rename_i ex st2 h3
      rw [h _ _ _ h3]
      exact hr
     ·simp at hr
    ·simp at hr
   ·simp at hr
  ·simp at hr
 ·simp at hr

end

theorem zqv {E:Env}:∀ (n:Nat) {c:DC} {st:St} {r:Ex × St},dC E n c st=some r->dC E (n+1) c st=some r:=by
 intro n
 induction n with
 | zero=>intro c st r h;simp [dC] at h
 | succ n ih=>
  intro c st r h
  have ih':∀ c st r,dC E n c st=some r->dC E (n+1) c st=some r:=fun c st r h=>ih h
  cases c with
  | skip=>simpa [dC] using h
  | ret=>simpa [dC] using h
  | exit id=>simpa [dC] using h
  | seq a b=>
   rw [dC] at h ⊢
   cases ha:dC E n a st with
   | none=>rw [ha] at h;simp at h
   | some x=>
    rw [ih ha]
    rw [ha] at h
    obtain ⟨ex,st1⟩:=x
    cases ex with
    | normal=>exact ih h
    | exit id=>exact h
    | ret=>exact h
  | cond c a b=>
   rw [dC] at h ⊢
   split at h
   ·exact ih h
   ·exact ih h
   ·simp at h
  | ifp x a b=>
   rw [dC] at h ⊢
   split at h
   ·rename_i hc;rw [if_pos hc];exact ih h
   ·rename_i hc;rw [if_neg hc];exact ih h
  | block id a=>
   rw [dC] at h ⊢
   cases ha:dC E n a st with
   | none=>rw [ha] at h;simp at h
   | some x=>rw [ih ha];rw [ha] at h;exact h
  | loop a=>
   rw [dC] at h ⊢
   cases ha:dC E n a st with
   | none=>rw [ha] at h;simp at h
   | some x=>
    rw [ih ha]
    rw [ha] at h
    obtain ⟨ex,st1⟩:=x
    cases ex with
    | normal=>exact ih h
    | exit id=>exact h
    | ret=>exact h
  | region dr ap ops=>
   rw [dC] at h ⊢
   simp only [ab] at h ⊢
   obtain ⟨st',h1,h2⟩:=h
   refine ⟨st',?_,h2⟩
   have hP:∀ f as d,runP E (dC E n) f as=some d->runP E (dC E (n+1)) f as=some d:=fun f as d h=>z40 ih' h
   have hS:∀ f as hp r,runS E (dC E n) f as hp=some r->runS E (dC E (n+1)) f as hp=some r:=fun f as hp r h=>z2v ih' h
   have hY:∀ f as hp r,runY (dC E n) f as hp=some r->runY (dC E (n+1)) f as hp=some r:=fun f as hp r h=>z4v ih' h
   cases dr with
   | true=>
    simp only [if_true] at h1 ⊢
    unfold checkAp at h1 ⊢
    split at h1
    ·rename_i st1 h3
     rw [z1c hP hS hY h3]
     exact h1
    ·simp at h1
   | false=>
    simp only [aE,if_false] at h1 ⊢
    exact z2t hP hS hY h1
  | probe ap ops ks k=>
   rw [dC] at h ⊢
   have hP:∀ f as d,runP E (dC E n) f as=some d->runP E (dC E (n+1)) f as=some d:=fun f as d h=>z40 ih' h
   have hS:∀ f as hp r,runS E (dC E n) f as hp=some r->runS E (dC E (n+1)) f as hp=some r:=fun f as hp r h=>z2v ih' h
   have hY:∀ f as hp r,runY (dC E n) f as hp=some r->runY (dC E (n+1)) f as hp=some r:=fun f as hp r h=>z4v ih' h
   split at h
   ·rename_i st1 h1
    unfold checkAp at h1 ⊢
    split at h1
    ·rename_i s2 h3
     rw [z1c (z9b hP hS) (z6k hS) hY h3]
     simp only [h1]
     exact h
    ·simp at h1
   ·simp at h
  | rfunc f ps asg body=>
   rw [dC] at h ⊢
   split at h
   ·rename_i k caps hg
    split at h
    ·rename_i d hp' h1
     rw [z2v ih' h1]
     exact h
    ·simp at h
   ·simp at h

theorem z7p {E:Env} {n m:Nat} (hle:n<=m) {c:DC} {st:St} {r:Ex × St} (h:dC E n c st=some r):dC E m c st=some r:=by
 induction hle with
 | refl=>exact h
 | step _ ih=>exact zqv _ ih

end Dv

namespace Dv

open Classical in
noncomputable def dL (E:Env) (c:DC) (st:St):Option (Ex × St):=
 if h:∃ r n,dC E n c st=some r then some (choose h) else none

section
variable {E:Env}

theorem z25 {c:DC} {st:St} {r:Ex × St}:dL E c st=some r ↔ ∃ n,dC E n c st=some r:=by
 unfold dL
 constructor
 ·intro h
  split at h
  ·rename_i hx
   simp at h
   have:=dF hx
   rw [h] at this;exact this
  ·simp at h
 ·rintro ⟨n,hn⟩
  have hx:∃ r n,dC E n c st=some r:=⟨r,n,hn⟩
  rw [dif_pos hx]
  obtain ⟨m,hm⟩:=dF hx
  have h1:=z7p (cg n m) hn
  have h2:=z7p (bE n m) hm
  rw [h1] at h2;simp at h2;rw [<- h2]

theorem zbh {c:DC} {st:St} {x:Option (Ex × St)} (h1:∀ r,x=some r->∃ n,dC E n c st=some r) (h2:∀ n r,dC E n c st=some r->x=some r):dL E c st=x:=by
 cases hx:x with
 | some r=>exact z25.2 (h1 r hx)
 | none=>
  cases hd:dL E c st with
  | none=>rfl
  | some r=>
   obtain ⟨n,hn⟩:=z25.1 hd
   rw [h2 n r hn] at hx;cases hx

theorem z4k {n:Nat}:∀ c st r,dC E n c st=some r->dL E c st=some r:=fun _ _ _ h=>z25.2 ⟨n,h⟩

theorem zar {f:Nat} {args:List D} {hp:List Obj} {r:D × List Obj} (h:runS E (dL E) f args hp=some r):∃ n,runS E (dC E n) f args hp=some r:=by
 unfold runS at h ⊢
 split at h
 ·rename_i F hF
  cases hd:dL E F.body (startF F args hp) with
  | none=>rw [hd] at h;cases hb:E.mp f <;> simp [finishQ,finishF,finishM,hb] at h
  | some x=>
   obtain ⟨n,hn⟩:=z25.1 hd
   refine ⟨n,?_⟩
   simp only [hF,hn];rw [hd] at h;exact h
 ·simp at h

theorem zdk {f:Nat} {args:List D} {r:D} (h:runP E (dL E) f args=some r):∃ n,runP E (dC E n) f args=some r:=by
 unfold runP at h
 split at h
 ·rename_i d hp h1
  obtain ⟨n,hn⟩:=zar h1
  exact ⟨n,by unfold runP;rw [hn];exact h⟩
 ·simp at h

theorem zjf {l:Nat} {args:List D} {hp:List Obj} {r:D × List Obj} (h:runY (dL E) l args hp=some r):∃ n,runY (dC E n) l args hp=some r:=by
 unfold runY at h
 split at h
 ·rename_i slots ps asg body hl
  split at h
  ·rename_i hlen
   split at h
   ·rename_i st1 h1
    split at h
    ·rename_i s1 p1 a1 b1 h2
     split at h
     ·rename_i ex st2 h3
      obtain ⟨n,hn⟩:=z25.1 h1
      obtain ⟨m,hm⟩:=z25.1 h3
      refine ⟨max n m,?_⟩
      unfold runY
      simp only [hl,hlen,if_true,z7p (cg n m) hn,h2,z7p (bE n m) hm]
      exact h
     ·simp at h
    ·simp at h
   ·simp at h
  ·simp at h
 ·simp at h

theorem z5v {n m:Nat} (hle:n<=m) {f:Nat} {args:List D} {hp:List Obj} {r:D × List Obj} (h:runS E (dC E n) f args hp=some r):runS E (dC E m) f args hp=some r:=z2v (fun _ _ _ h=>z7p hle h) h
theorem z8g {n m:Nat} (hle:n<=m) {f:Nat} {args:List D} {r:D} (h:runP E (dC E n) f args=some r):runP E (dC E m) f args=some r:=z40 (fun _ _ _ h=>z7p hle h) h
theorem z6q {n m:Nat} (hle:n<=m) {l:Nat} {args:List D} {hp:List Obj} {r:D × List Obj} (h:runY (dC E n) l args hp=some r):runY (dC E m) l args hp=some r:=z4v (fun _ _ _ h=>z7p hle h) h

theorem zna {S:Nat->List D->List Obj->Option (D × List Obj)} {k:Nat} {x:D} {rest:List D} {hp:List Obj} {r:D × Nat × Obj} (h:islD S k x rest hp=some r) :
  ∃ vs os d,S k vs os=some d /\ ∀ S':Nat->List D->List Obj->Option (D × List Obj),S' k vs os=some d->islD S' k x rest hp=some r:=by
 unfold islD at h
 split at h
 case h_2=>simp at h
 split at h
 case h_2=>simp at h
 rename_i cs ho
 split at h
 case h_2=>simp at h
 rename_i vs cs1 e1 e2
 split at h
 case isFalse=>simp at h
 rename_i hat
 split at h
 case h_2=>simp at h
 rename_i d hp2 hr
 obtain ⟨h1,h2⟩:=zm hr
 refine ⟨_,_,_,h1,fun S' h'=>?_⟩
 unfold islD
 simp only [ho,e1,e2,if_pos hat]
 rw [h',zq h2]
 exact h

theorem z9q {P:Nat->List D->Option D} {S Y:Nat->List D->List Obj->Option (D × List Obj)} {Pn:Nat->Nat->List D->Option D} {Sn Yn:Nat->Nat->List D->List Obj->Option (D × List Obj)}
  (hPx:∀ k vs d,P k vs=some d->∃ n,Pn n k vs=some d) (hSx:∀ k vs hp r,S k vs hp=some r->∃ n,Sn n k vs hp=some r) (hYx:∀ k vs hp r,Y k vs hp=some r->∃ n,Yn n k vs hp=some r)
  {id:Nat} {g:Opd->D} {hp:List Obj} {op:DOp} {r:D × List Obj} (h:stepOp E P S Y id g hp op=some r):∃ n,stepOp E (Pn n) (Sn n) (Yn n) id g hp op=some r:=by
 by_cases hc:∃ md f as,op=.call md f as
 ·obtain ⟨md,f,as,rfl⟩:=hc
  match md with
  | 0=>
   simp only [stepOp,DOp.fin,pureOp,ab] at h
   obtain ⟨e,h1,h2⟩:=h
   split at h1
   ·rename_i k caps hg
    split at h1
    ·rename_i vs hv
     simp only [ab] at h1
     obtain ⟨d,h3,h4⟩:=h1
     obtain ⟨n,hn⟩:=hPx _ _ _ h3
     refine ⟨n,?_⟩
     simp only [stepOp,DOp.fin,pureOp,hg,hv,hn,af]
     subst h4
     exact congrArg some h2
    ·simp at h1
   ·simp at h1
  | 1=>
   simp only [stepOp,DOp.fin,finOp] at h
   split at h
   ·rename_i k caps hg
    split at h
    ·rename_i vs hv
     simp only [ab] at h
     obtain ⟨d,h3,h4⟩:=h
     obtain ⟨n,hn⟩:=hPx _ _ _ h3
     refine ⟨n,?_⟩
     simp only [stepOp,DOp.fin,finOp,hg,hv,hn,af]
     rw [h4]
    ·simp at h
   ·simp at h
  | 3=>
   simp only [stepOp,DOp.fin,finOp] at h
   split at h
   ·rename_i k caps hg
    split at h
    ·rename_i vs hv
     split at h
     ·rename_i d h3
      obtain ⟨n,hn⟩:=hPx _ _ _ h3
      exact ⟨n,by simp only [stepOp,DOp.fin,finOp,hg,hv,hn];exact h⟩
     ·simp at h
    ·simp at h
   ·simp at h
  | 2=>
   simp only [stepOp,DOp.fin,finOp] at h
   cases hg:g f with
   | fn k caps=>
    rw [hg] at h
    obtain ⟨h1,h2⟩:=zm h
    obtain ⟨n,hn⟩:=hSx _ _ _ _ h1
    exact ⟨n,by simp only [stepOp,DOp.fin,finOp,hg,hn];exact zq h2⟩
   | bfn k r=>
    rw [hg] at h
    obtain ⟨h1,h2⟩:=zm h
    obtain ⟨n,hn⟩:=hSx _ _ _ _ h1
    exact ⟨n,by simp only [stepOp,DOp.fin,finOp,hg,hn];exact zq h2⟩
   | yld l=>
    rw [hg] at h
    obtain ⟨n,hn⟩:=hYx _ _ _ _ h
    exact ⟨n,by simp only [stepOp,DOp.fin,finOp,hg];exact hn⟩
   | _=>rw [hg] at h;simp at h
  | 4=>
   cases as with
   | nil=>
    simp only [stepOp,DOp.fin,finOp] at h
    split at h
    ·rename_i k caps hg
     split at h
     ·rename_i vs hv
      unfold makD at h
      simp only [ab] at h
      obtain ⟨r1,h1,h2⟩:=h
      obtain ⟨h3,h4⟩:=zm h1
      obtain ⟨n,hn⟩:=hSx _ _ _ _ h3
      refine ⟨n,?_⟩
      simp only [stepOp,DOp.fin,finOp,hg,hv,makD]
      rw [hn,zq h4,<- h2];rfl
     ·simp at h
    ·simp at h
   | cons x as=>
    simp only [stepOp,DOp.fin,finOp] at h
    cases hg:g f with
    | fn k caps=>
     rw [hg] at h
     simp only [ab] at h
     obtain ⟨r1,h1,h2⟩:=h
     obtain ⟨vs,os,d,h3,h4⟩:=zna h1
     obtain ⟨n,hn⟩:=hSx _ _ _ _ h3
     refine ⟨n,?_⟩
     simp only [stepOp,DOp.fin,finOp,hg]
     rw [h4 _ hn,<- h2];rfl
    | _=>rw [hg] at h;simp at h
  | 5=>
   simp only [stepOp,DOp.fin,finOp] at h
   split at h
   ·rename_i k caps hg
    split at h
    ·rename_i hmp
     split at h
     ·rename_i vs hv
      cases hc:S k vs [] with
      | none=>rw [hc] at h;simp [markR] at h
      | some x=>
       obtain ⟨n,hn⟩:=hSx _ _ _ _ hc
       rw [hc] at h
       exact ⟨n,by simp only [stepOp,DOp.fin,finOp,hg,hv,hn,if_pos hmp];exact h⟩
     ·simp at h
    ·simp at h
   ·simp at h
  | 6=>
   simp only [stepOp,DOp.fin,finOp] at h
   cases hg:g f with
   | fn k caps=>
    rw [hg] at h
    simp only at h
    split at h
    ·rename_i hmp
     obtain ⟨n,hn⟩:=hSx _ _ _ _ h
     exact ⟨n,by simp only [stepOp,DOp.fin,finOp,hg,if_pos hmp];exact hn⟩
    ·simp at h
   | _=>rw [hg] at h;simp at h
  | k+7=>
   simp only [stepOp,DOp.fin,finOp] at h
   cases hg:g f with
   | fn k caps=>
    rw [hg] at h
    obtain ⟨h1,h2⟩:=zm h
    obtain ⟨n,hn⟩:=hSx _ _ _ _ h1
    exact ⟨n,by simp only [stepOp,DOp.fin,finOp,hg,hn];exact zq h2⟩
   | bfn k r=>
    rw [hg] at h
    obtain ⟨h1,h2⟩:=zm h
    obtain ⟨n,hn⟩:=hSx _ _ _ _ h1
    exact ⟨n,by simp only [stepOp,DOp.fin,finOp,hg,hn];exact zq h2⟩
   | yld l=>
    rw [hg] at h
    obtain ⟨n,hn⟩:=hYx _ _ _ _ h
    exact ⟨n,by simp only [stepOp,DOp.fin,finOp,hg];exact hn⟩
   | _=>rw [hg] at h;simp at h
 by_cases hc2:∃ f as,op=.mkcall f as
 ·obtain ⟨f,as,rfl⟩:=hc2
  simp only [stepOp,DOp.fin,finOp] at h
  split at h
  ·rename_i k caps hg
   split at h
   ·rename_i vs hv
    unfold makD at h
    simp only [ab] at h
    obtain ⟨r1,h1,h2⟩:=h
    obtain ⟨h3,h4⟩:=zm h1
    obtain ⟨n,hn⟩:=hSx _ _ _ _ h3
    refine ⟨n,?_⟩
    simp only [stepOp,DOp.fin,finOp,hg,hv,makD]
    rw [hn,zq h4,<- h2];rfl
   ·simp at h
  ·simp at h
 ·refine ⟨0,?_⟩
  cases op with
  | call md f as=>exact absurd ⟨md,f,as,rfl⟩ hc
  | mkcall f as=>exact absurd ⟨f,as,rfl⟩ hc2
  | _=>exact h

theorem zc1 {id:Nat} {g:Opd->D} {hp:List Obj} {op:DOp} {r:D × List Obj} (h:stepOp E (runP E (dL E)) (runS E (dL E)) (runY (dL E)) id g hp op=some r):∃ n,stepOp E (runP E (dC E n)) (runS E (dC E n)) (runY (dC E n)) id g hp op=some r:=
 z9q (Pn:=fun n=>runP E (dC E n)) (Sn:=fun n=>runS E (dC E n)) (Yn:=fun n=>runY (dC E n)) (fun _ _ _ h=>zdk h) (fun _ _ _ _ h=>zar h) (fun _ _ _ _ h=>zjf h) h

theorem zc0 {n m:Nat} (hle:n<=m) {id:Nat} {g:Opd->D} {hp:List Obj} {op:DOp} {r:D × List Obj} (h:stepOp E (runP E (dC E n)) (runS E (dC E n)) (runY (dC E n)) id g hp op=some r):stepOp E (runP E (dC E m)) (runS E (dC E m)) (runY (dC E m)) id g hp op=some r:=
 z48 (fun _ _ _ h=>z8g hle h) (fun _ _ _ _ h=>z5v hle h) (fun _ _ _ _ h=>z6q hle h) h

theorem z6o:∀ {ops:List DOpr} {st st':St},stepOps E (runP E (dL E)) (runS E (dL E)) (runY (dL E)) ops st=some st'->∃ n,stepOps E (runP E (dC E n)) (runS E (dC E n)) (runY (dC E n)) ops st=some st'
 | [],st,st',h=>⟨0,h⟩
 | o::os,st,st',h=>by
  simp only [stepOps] at h
  split at h
  ·rename_i hw
   split at h
   ·rename_i d hp h1
    obtain ⟨n,hn⟩:=zc1 h1
    obtain ⟨m,hm⟩:=z6o h
    refine ⟨max n m,?_⟩
    simp only [stepOps,if_pos hw,zc0 (cg n m) hn]
    exact z2t (fun _ _ _ h=>z8g (bE n m) h) (fun _ _ _ _ h=>z5v (bE n m) h) (fun _ _ _ _ h=>z6q (bE n m) h) hm
   ·simp at h
  ·rename_i hw
   obtain ⟨m,hm⟩:=z6o h
   exact ⟨m,by simp only [stepOps,if_neg hw];exact hm⟩

theorem z5s:∀ {ops:List DOpr} {id:Nat} {st st':St},stepOpsD E (runP E (dL E)) (runS E (dL E)) (runY (dL E)) id ops st=some st'->∃ n,stepOpsD E (runP E (dC E n)) (runS E (dC E n)) (runY (dC E n)) id ops st=some st'
 | [],id,st,st',h=>⟨0,h⟩
 | o::os,id,st,st',h=>by
  simp only [stepOpsD] at h
  split at h
  ·rename_i hw
   split at h
   ·rename_i d hp h1
    obtain ⟨n,hn⟩:=zc1 h1
    obtain ⟨m,hm⟩:=z5s h
    refine ⟨max n m,?_⟩
    simp only [stepOpsD,if_pos hw,zc0 (cg n m) hn]
    exact z1c (fun _ _ _ h=>z8g (bE n m) h) (fun _ _ _ _ h=>z5v (bE n m) h) (fun _ _ _ _ h=>z6q (bE n m) h) hm
   ·simp at h
  ·rename_i hw
   obtain ⟨m,hm⟩:=z5s h
   exact ⟨m,by simp only [stepOpsD,if_neg hw];exact hm⟩


theorem zld {st:St}:dL E .skip st=some (.normal,st):=z25.2 ⟨1,rfl⟩
theorem zp4 {st:St}:dL E .ret st=some (.ret,st):=z25.2 ⟨1,rfl⟩
theorem zlf {id:Nat} {st:St}:dL E (.exit id) st=some (.exit id,st):=z25.2 ⟨1,rfl⟩

theorem zfw {a b:DC} {st:St}:dL E (.seq a b) st=(match dL E a st with
  | some (.normal,st')=>dL E b st'
  | r=>r):=by
 refine zbh (fun r h=>?_) (fun n r h=>?_)
 ·split at h
  ·rename_i st' ha
   obtain ⟨n,hn⟩:=z25.1 ha
   obtain ⟨m,hm⟩:=z25.1 h
   refine ⟨max n m+1,?_⟩
   simp only [dC,z7p (cg n m) hn]
   exact z7p (bE n m) hm
  ·rename_i hne
   obtain ⟨n,hn⟩:=z25.1 h
   refine ⟨n+1,?_⟩
   simp only [dC,hn]
   obtain ⟨ex,st1⟩:=r
   cases ex with
   | normal=>exact absurd h (hne st1)
   | exit id=>rfl
   | ret=>rfl
 ·cases n with
  | zero=>simp [dC] at h
  | succ n=>
   simp only [dC] at h
   split at h
   ·rename_i st' ha
    rw [z4k _ _ _ ha];exact z4k _ _ _ h
   ·rename_i hne
    rw [z4k _ _ _ h]
    obtain ⟨ex,st1⟩:=r
    cases ex with
    | normal=>exact absurd h (hne st1)
    | exit id=>rfl
    | ret=>rfl

theorem zqt {c:Opd} {a b:DC} {st:St}:dL E (.cond c a b) st=(match getO st.sl c with
  | .bool true=>dL E a st
  | .bool false=>dL E b st
  | _=>none):=by
 refine zbh (fun r h=>?_) (fun n r h=>?_)
 ·split at h
  ·rename_i hg
   obtain ⟨n,hn⟩:=z25.1 h
   exact ⟨n+1,by simp only [dC,hg];exact hn⟩
  ·rename_i hg
   obtain ⟨n,hn⟩:=z25.1 h
   exact ⟨n+1,by simp only [dC,hg];exact hn⟩
  ·simp at h
 ·cases n with
  | zero=>simp [dC] at h
  | succ n=>
   simp only [dC] at h
   split at h
   ·rename_i hg;simp only [hg];exact z4k _ _ _ h
   ·rename_i hg;simp only [hg];exact z4k _ _ _ h
   ·simp at h

theorem zsu {x:Opd} {a b:DC} {st:St}:dL E (.ifp x a b) st=if isMark (getO st.sl x)=true then dL E a st else dL E b st:=by
 refine zbh (fun r h=>?_) (fun n r h=>?_)
 ·split at h
  ·rename_i hc
   obtain ⟨n,hn⟩:=z25.1 h
   exact ⟨n+1,by simp only [dC,if_pos hc];exact hn⟩
  ·rename_i hc
   obtain ⟨n,hn⟩:=z25.1 h
   exact ⟨n+1,by simp only [dC,if_neg hc];exact hn⟩
 ·cases n with
  | zero=>simp [dC] at h
  | succ n=>
   simp only [dC] at h
   split at h
   ·rename_i hc;rw [if_pos hc];exact z4k _ _ _ h
   ·rename_i hc;rw [if_neg hc];exact z4k _ _ _ h

theorem z82 {id:Nat} {a:DC} {st:St}:dL E (.block id a) st=(match dL E a st with
  | some (.exit id',st')=>some (if id'=id then .normal else .exit id',st')
  | r=>r):=by
 refine zbh (fun r h=>?_) (fun n r h=>?_)
 ·cases ha:dL E a st with
  | none=>rw [ha] at h;simp at h
  | some x=>
   obtain ⟨n,hn⟩:=z25.1 ha
   exact ⟨n+1,by simp only [dC,hn];rw [ha] at h;exact h⟩
 ·cases n with
  | zero=>simp [dC] at h
  | succ n=>
   simp only [dC] at h
   cases ha:dC E n a st with
   | none=>rw [ha] at h;simp at h
   | some x=>rw [z4k _ _ _ ha];rw [ha] at h;exact h

theorem zek {a:DC} {st:St}:dL E (.loop a) st=(match dL E a st with
  | some (.normal,st')=>dL E (.loop a) st'
  | r=>r):=by
 refine zbh (fun r h=>?_) (fun n r h=>?_)
 ·split at h
  ·rename_i st' ha
   obtain ⟨n,hn⟩:=z25.1 ha
   obtain ⟨m,hm⟩:=z25.1 h
   refine ⟨max n m+1,?_⟩
   simp only [dC,z7p (cg n m) hn]
   exact z7p (bE n m) hm
  ·rename_i hne
   obtain ⟨n,hn⟩:=z25.1 h
   refine ⟨n+1,?_⟩
   simp only [dC,hn]
   obtain ⟨ex,st1⟩:=r
   cases ex with
   | normal=>exact absurd h (hne st1)
   | exit id=>rfl
   | ret=>rfl
 ·cases n with
  | zero=>simp [dC] at h
  | succ n=>
   simp only [dC] at h
   split at h
   ·rename_i st' ha
    rw [z4k _ _ _ ha];exact z4k _ _ _ h
   ·rename_i hne
    rw [z4k _ _ _ h]
    obtain ⟨ex,st1⟩:=r
    cases ex with
    | normal=>exact absurd h (hne st1)
    | exit id=>rfl
    | ret=>rfl

theorem zle {ap:List (Nat × Nat)} {ops:List DOpr} {st:St}:dL E (.region false ap ops) st=(stepOps E (runP E (dL E)) (runS E (dL E)) (runY (dL E)) ops st).map fun st'=>(.normal,st'):=by
 refine zbh (fun r h=>?_) (fun n r h=>?_)
 ·simp only [ab] at h
  obtain ⟨st',h1,h2⟩:=h
  obtain ⟨n,hn⟩:=z6o h1
  exact ⟨n+1,by simp only [dC,aE,if_false,hn,af,h2]⟩
 ·cases n with
  | zero=>simp [dC] at h
  | succ n=>
   simp only [dC,aE,if_false,ab] at h ⊢
   obtain ⟨st',h1,h2⟩:=h
   exact ⟨st',z2t (fun _ _ _ h=>z40 z4k h) (fun _ _ _ _ h=>z2v z4k h) (fun _ _ _ _ h=>z4v z4k h) h1,h2⟩

theorem zlg {ap:List (Nat × Nat)} {ops:List DOpr} {st:St}:dL E (.region true ap ops) st=(checkAp ops ap (stepOpsD E (runP E (dL E)) (runS E (dL E)) (runY (dL E)) st.hp.length ops ⟨st.sl,st.hp++ae ops.length .dead⟩)).map fun st'=>(.normal,st'):=by
 have key:∀ {x y:Option St} {r:St},(∀ s,x=some s->y=some s)->checkAp ops ap x=some r->checkAp ops ap y=some r:=by
  intro x y r hxy h
  unfold checkAp at h
  split at h
  ·rename_i s;rw [hxy s rfl];exact h
  ·simp at h
 refine zbh (fun r h=>?_) (fun n r h=>?_)
 ·simp only [ab] at h
  obtain ⟨st',h1,h2⟩:=h
  have:∃ n,checkAp ops ap (stepOpsD E (runP E (dC E n)) (runS E (dC E n)) (runY (dC E n)) st.hp.length ops ⟨st.sl,st.hp++ae ops.length .dead⟩)=some st':=by
   cases hx:stepOpsD E (runP E (dL E)) (runS E (dL E)) (runY (dL E)) st.hp.length ops ⟨st.sl,st.hp++ae ops.length .dead⟩ with
   | none=>rw [hx] at h1;simp [checkAp] at h1
   | some s=>
    obtain ⟨n,hn⟩:=z5s hx
    exact ⟨n,by rw [hn];rw [hx] at h1;exact h1⟩
  obtain ⟨n,hn⟩:=this
  exact ⟨n+1,by simp only [dC,if_true,hn,af,h2]⟩
 ·cases n with
  | zero=>simp [dC] at h
  | succ n=>
   simp only [dC,if_true,ab] at h ⊢
   obtain ⟨st',h1,h2⟩:=h
   exact ⟨st',key (fun s hs=>z1c (fun _ _ _ h=>z40 z4k h) (fun _ _ _ _ h=>z2v z4k h) (fun _ _ _ _ h=>z4v z4k h) hs) h1,h2⟩

theorem zla {k:Nat} {vs:List D} {hp:List Obj} {r:D × List Obj} (h:disM E (runS E (dL E)) k vs hp=some r):∃ n,disM E (runS E (dC E n)) k vs hp=some r:=by
 unfold disM at h
 cases hc:runS E (dL E) k vs hp with
 | none=>rw [hc] at h;simp at h
 | some z=>
  obtain ⟨n,hn⟩:=zar hc
  exact ⟨n,by unfold disM;rw [hn];rw [hc] at h;exact h⟩
theorem zqr {k:Nat} {vs:List D} {r:D} (h:disP E (runP E (dL E)) (runS E (dL E)) k vs=some r):∃ n,disP E (runP E (dC E n)) (runS E (dC E n)) k vs=some r:=by
 unfold disP at h
 split at h
 ·rename_i hm
  cases hc:disM E (runS E (dL E)) k vs [] with
  | none=>rw [hc] at h;simp at h
  | some z=>
   obtain ⟨n,hn⟩:=zla hc
   exact ⟨n,by unfold disP;rw [if_pos hm,hn];rw [hc] at h;exact h⟩
 ·rename_i hm
  cases hc:runP E (dL E) k vs with
  | none=>rw [hc] at h;simp at h
  | some z=>
   obtain ⟨n,hn⟩:=zdk hc
   exact ⟨n,by unfold disP;rw [if_neg hm,hn];rw [hc] at h;exact h⟩

theorem z4u:∀ {ops:List DOpr} {id:Nat} {st st':St},stepOpsD E (disP E (runP E (dL E)) (runS E (dL E))) (disM E (runS E (dL E))) (runY (dL E)) id ops st=some st' ->
  ∃ n,stepOpsD E (disP E (runP E (dC E n)) (runS E (dC E n))) (disM E (runS E (dC E n))) (runY (dC E n)) id ops st=some st'
 | [],id,st,st',h=>⟨0,h⟩
 | o::os,id,st,st',h=>by
  have hP:∀ {n m:Nat},n<=m->∀ f as d,disP E (runP E (dC E n)) (runS E (dC E n)) f as=some d->disP E (runP E (dC E m)) (runS E (dC E m)) f as=some d:=fun hle=>z9b (fun _ _ _ h=>z8g hle h) (fun _ _ _ _ h=>z5v hle h)
  have hS:∀ {n m:Nat},n<=m->∀ f as hp r,disM E (runS E (dC E n)) f as hp=some r->disM E (runS E (dC E m)) f as hp=some r:=fun hle=>z6k (fun _ _ _ _ h=>z5v hle h)
  simp only [stepOpsD] at h
  split at h
  ·rename_i hw
   split at h
   ·rename_i d hp h1
    obtain ⟨n,hn⟩:=z9q (Pn:=fun n=>disP E (runP E (dC E n)) (runS E (dC E n))) (Sn:=fun n=>disM E (runS E (dC E n))) (Yn:=fun n=>runY (dC E n)) (fun _ _ _ h=>zqr h) (fun _ _ _ _ h=>zla h) (fun _ _ _ _ h=>zjf h) h1
    obtain ⟨m,hm⟩:=z4u h
    refine ⟨max n m,?_⟩
    simp only [stepOpsD,if_pos hw,z48 (hP (cg n m)) (hS (cg n m)) (fun _ _ _ _ h=>z6q (cg n m) h) hn]
    exact z1c (hP (bE n m)) (hS (bE n m)) (fun _ _ _ _ h=>z6q (bE n m) h) hm
   ·simp at h
  ·rename_i hw
   obtain ⟨m,hm⟩:=z4u h
   exact ⟨m,by simp only [stepOpsD,if_neg hw];exact hm⟩

theorem zfy {ap:List (Nat × Nat)} {ops:List DOpr} {ks:List Nat} {k:Nat} {st st1:St}
  (h:checkAp ops ap (stepOpsD E (disP E (runP E (dL E)) (runS E (dL E))) (disM E (runS E (dL E))) (runY (dL E)) st.hp.length ops ⟨st.sl,st.hp++ae ops.length .dead⟩)=some st1):dL E (.probe ap ops ks k) st=probeR ks k st st1:=by
 have:∃ n,checkAp ops ap (stepOpsD E (disP E (runP E (dC E n)) (runS E (dC E n))) (disM E (runS E (dC E n))) (runY (dC E n)) st.hp.length ops ⟨st.sl,st.hp++ae ops.length .dead⟩)=some st1:=by
  cases hx:stepOpsD E (disP E (runP E (dL E)) (runS E (dL E))) (disM E (runS E (dL E))) (runY (dL E)) st.hp.length ops ⟨st.sl,st.hp++ae ops.length .dead⟩ with
  | none=>rw [hx] at h;simp [checkAp] at h
  | some s=>
   obtain ⟨n,hn⟩:=z4u hx
   exact ⟨n,by rw [hn];rw [hx] at h;exact h⟩
 obtain ⟨n,hn⟩:=this
 have hd:∀ m,n<=m->dC E (m+1) (.probe ap ops ks k) st=probeR ks k st st1:=by
  intro m hm
  have:checkAp ops ap (stepOpsD E (disP E (runP E (dC E m)) (runS E (dC E m))) (disM E (runS E (dC E m))) (runY (dC E m)) st.hp.length ops ⟨st.sl,st.hp++ae ops.length .dead⟩)=some st1:=by
   unfold checkAp at hn ⊢
   split at hn
   case h_2=>simp at hn
   rename_i s hs
   rw [z1c (z9b (fun _ _ _ h=>z8g hm h) (fun _ _ _ _ h=>z5v hm h)) (z6k fun _ _ _ _ h=>z5v hm h) (fun _ _ _ _ h=>z6q hm h) hs]
   exact hn
  simp only [dC,this]
 refine zbh (fun r h=>⟨n+1,by rw [hd n (ar _)];exact h⟩) (fun m r h=>?_)
 have h2:=z7p (Nat.le_add_left m (n+1)) h
 rw [show n+1+m=(n+m)+1 from by omega,hd (n+m) (by omega)] at h2
 exact h2

theorem zfx {f:Opd} {ps:List Nat} {asg body:DC} {st:St}:dL E (.rfunc f ps asg body) st=(match guardF E (getO st.sl f) with
  | .fn k caps=>(match runS E (dL E) k (.yld st.hp.length::caps) (st.hp++[.loop false st.sl ps asg body none]) with
   | some (_,hp')=>(match hp'[st.hp.length]? with
    | some (.loop false _ _ _ _ none)=>some (.normal,⟨st.sl,hp'.set st.hp.length .dead⟩)
    | some (.loop false _ _ _ _ (some ex))=>some (ex,⟨st.sl,hp'.set st.hp.length .dead⟩)
    | _=>none)
   | none=>none)
  | _=>none):=by
 refine zbh (fun r h=>?_) (fun n r h=>?_)
 ·split at h
  ·rename_i k caps hg
   split at h
   ·rename_i d hp' h1
    obtain ⟨n,hn⟩:=zar h1
    exact ⟨n+1,by simp only [dC,hg,hn];exact h⟩
   ·simp at h
  ·simp at h
 ·cases n with
  | zero=>simp [dC] at h
  | succ n=>
   simp only [dC] at h
   split at h
   ·rename_i k caps hg
    split at h
    ·rename_i d hp' h1
     simp only [hg,z2v z4k h1]
     exact h
    ·simp at h
   ·simp at h

end
end Dv
