/- Texts that a proof of this claim uses, joined: Dv.Tail, Dv.SimM, Dv.SimP, Dv.Sim4, Dv.Eq, Dv.Link, Dv.Runs, Dv.Clone, Dv.LinkM, Dv.LinkD, Dv.Defer, Dv.Defer2, Dv.Defer3, Dv.Grow, Dv.Top, Dv.Top2, Dv.Top3, Dv.Lim, Dv.Lim2. -/
import Derived.Test.YtejanbpdkinjfaaDoorDvb
import Derived.Test.YtejanbpdkinjfaaDoorDva
import Derived.DeepKeys3
import Derived.Laws.Cover3
import Derived.Laws.Build
import Derived.RecoverIn
import Derived.Laws.World
import Derived.Carry
import Derived.ProofKit
set_option linter.all false
namespace Dv
open Go (Value Program World Act Oper Operand Code Exit)

section
variable {P : Program} {F : Go.Fence} {n : Nat} {Q Q' : Exit -> Act -> World -> Prop}

theorem zje {o : Oper} {a : Act} {w : World} {K K' : Act -> World -> Prop} (h : ∀ a w,K a w -> K' a w) (hQ : ∀ e a w,e ≠ .normal -> Q' e a w -> Q e a w) (hh : o.wpIn F n P a w K Q') : o.wpIn F n P a w K' Q:=by
 unfold Go.Oper.wpIn at *
 refine ⟨hh.1,?_⟩
 have hh:=hh.2
 have lo : Go.LetsOut Q' -> Go.LetsOut Q:=fun ⟨a,w,h⟩=>⟨a,w,hQ _ _ _ (fun e=>by cases e) h⟩
 generalize (o.semAt F.round a.eval).run P w = r at *
 cases r with
 | ok x w'=>
  cases x <;> simp only [Go.Oper.uponIn] at hh ⊢ <;>
   first
    | exact h _ _ hh
    | exact ⟨hh.1,Go.CallsIn.mono hh.2 (fun e w'' he=>by cases e <;> first | exact h _ _ he | exact hQ _ _ _ (fun e=>by cases e) he | exact lo he)⟩
    | exact ⟨hh.1,Go.RowsIn.mono hh.2 (fun _ _ he=>h _ _ he)⟩
    | exact ⟨hh.1,Go.RoundIn.mono hh.2 (fun e w'' he=>by cases e <;> first | exact h _ _ he | exact hQ _ _ _ (fun e=>by cases e) he | exact lo he)⟩
 | halt x w'=>cases x <;> simp only [Go.Oper.uponIn] at hh ⊢ <;> first | exact hh | exact hQ _ _ _ (fun e=>by cases e) hh

theorem zk1 (L : Array Bool) (i : Nat) (h : i < L.size) : ((L.push false).push false).setIfInBounds i true = ((L.setIfInBounds i true).push false).push false:=by
 apply Array.ext_getElem?
 intro j
 simp only [Array.getElem?_setIfInBounds,Array.getElem?_push,Array.size_push,Array.size_setIfInBounds]
 by_cases h1 : i = j
 ·subst h1
  simp [show i ≠ L.size from by omega,show i ≠ L.size + 1 from by omega,show i < L.size + 1 + 1 from by omega,h]
 ·simp [h1]

theorem zh3 (L : Array Bool) : ((L.push false).push false).setIfInBounds L.size true = (L.push true).push false:=by
 apply Array.ext_getElem?
 intro j
 simp only [Array.getElem?_setIfInBounds,Array.getElem?_push,Array.size_push]
 by_cases h1 : L.size = j
 ·subst h1; simp; omega
 ·simp [h1,show ¬ j = L.size from fun e=>h1 e.symm]

theorem zh4 (L : Array Bool) : ((L.push true).push false).getD (L.size + 1) true = false:=by
 rw [Array.getD_eq_getD_getElem?,Array.getElem?_push,Array.size_push,if_pos rfl]; rfl

theorem zcq {ops : Array Oper} {L : Array Bool} (hsz : L.size = ops.size) (hback : ∀ (i : Nat) o,ops[i]? = some o -> ∀ e,e ∈ o.after -> Go.Region.binds .any e = true -> e.on < i) (h : Go.Region.ready .any ops L = []) : ∀ i,i < ops.size -> L.getD i false = true:=by
 intro i
 induction i using Nat.strongRecOn with
 | _ i ih=>
  intro hi
  cases hv : L.getD i false with
  | true=>rfl
  | false=>
   exfalso
   have : i ∈ Go.Region.ready .any ops L:=by
    refine Go.mem_ready.2 ⟨?_,ops[i],by simp [hi],fun e he hb=>?_⟩
    ·have hi' : i < L.size:=by omega
     simpa [Array.getD_eq_getD_getElem?,hi'] using hv
    ·have hlt:=hback i ops[i] (by simp [hi]) e he hb
     exact ih _ hlt (by omega)
   rw [h] at this; cases this

def tailQ (F : Go.Fence) (n : Nat) (P : Program) (ops : Array Oper) (k : Nat) (Q : Exit -> Act -> World -> Prop) : Exit -> Act -> World -> Prop
 | .normal,a,w=>Go.wpOpsIn F n P ops Q [k,k + 1] a w
 | e,a,w=>Q e a w

theorem zpk {ops pre : Array Oper} {k : Nat} {o1 o2 : Oper} (hk : pre.size = k) (hpre : ∀ i,i < k -> ops[i]? = pre[i]?) (h1 : ops[k]? = some o1) (h2 : ops[k + 1]? = some o2) (hsz : ops.size = k + 2) (hg : ∀ (i : Nat) o,pre[i]? = some o -> o.guard = none)
  (hback : ∀ (i : Nat) o,ops[i]? = some o -> ∀ e,e ∈ o.after -> Go.Region.binds .any e = true -> e.on < i)
  {tab : Nat -> Nat -> Prop} (htab : ∀ i m,tab i m -> ∃ o,ops[i]? = some o /\ ∃ e,e ∈ o.after /\ Go.Region.binds .any e = true /\ (e.on = m \/ tab e.on m)) (hall : ∀ m,m < k -> tab k m) (hlast : ∃ e,e ∈ o2.after /\ Go.Region.binds .any e = true /\ e.on = k) :
  ∀ (m : Nat) (L : Array Bool) (a : Act) (w : World),L.size = k -> (∀ i,L.getD i false = true -> ∀ j,tab i j -> L.getD j false = true) ->
   Go.wpAnyIn F n P .any pre (tailQ F n P ops k Q) m L a w -> Go.wpAnyIn F n P .any ops Q (m + 2) ((L.push false).push false) a w:=by
 have get : ∀ (L : Array Bool) (i : Nat) (d : Bool),L.size = k -> i < k -> ((L.push false).push false).getD i d = L.getD i d:=by
  intro L i d hL hi
  have e1 : i < L.size:=by omega
  simp [Array.getD_eq_getD_getElem?,Array.getElem?_push,e1,show i ≠ L.size from by omega,show i ≠ L.size + 1 from by omega]
 have gk : ∀ (L : Array Bool) (d : Bool),L.size = k -> ((L.push false).push false).getD k d = false:=by
  intro L d hL
  rw [<- hL]; simp [Array.getD_eq_getD_getElem?,Array.getElem?_push]
 have rdy : ∀ (L : Array Bool) (i : Nat),L.size = k -> i < k -> (i ∈ Go.Region.ready .any ops ((L.push false).push false) ↔ i ∈ Go.Region.ready .any pre L):=by
  intro L i hL hi
  rw [Go.mem_ready,Go.mem_ready,get L i true hL hi,hpre i hi]
  constructor
  ·rintro ⟨q1,o,ho,q2⟩
   refine ⟨q1,o,ho,fun e he hb=>?_⟩
   have hlt:=hback i o (by rw [hpre i hi,ho]) e he hb
   rw [<- get L e.on false hL (by omega)]
   exact q2 e he hb
  ·rintro ⟨q1,o,ho,q2⟩
   refine ⟨q1,o,ho,fun e he hb=>?_⟩
   have hlt:=hback i o (by rw [hpre i hi,ho]) e he hb
   rw [get L e.on false hL (by omega)]
   exact q2 e he hb
 have notlast : ∀ (L : Array Bool),L.size = k -> k + 1 ∉ Go.Region.ready .any ops ((L.push false).push false):=by
  intro L hL hc
  obtain ⟨_,o,ho,q⟩:=Go.mem_ready.1 hc
  rw [h2] at ho; simp only [Option.some.injEq] at ho; subst ho
  obtain ⟨e,he,hb,hon⟩:=hlast
  have:=q e he hb
  rw [hon,gk L _ hL] at this
  cases this
 have bound : ∀ (L : Array Bool) (i : Nat),i ∈ Go.Region.ready .any ops L -> i < k + 2:=by
  intro L i hi
  obtain ⟨_,o,ho,_⟩:=Go.mem_ready.1 hi
  have:=(Array.getElem?_eq_some_iff.1 ho).1
  omega
 have atk : ∀ (L : Array Bool),L.size = k -> (∀ i,L.getD i false = true -> ∀ j,tab i j -> L.getD j false = true) -> k ∈ Go.Region.ready .any ops ((L.push false).push false) -> ∀ i,i < k -> L.getD i false = true:=by
  intro L hL hcl hr i hi
  obtain ⟨_,o,ho,q⟩:=Go.mem_ready.1 hr
  obtain ⟨o',ho',e,he,hb,hon⟩:=htab k i (hall i hi)
  rw [ho'] at ho; simp only [Option.some.injEq] at ho; subst ho
  have hlt:=hback k o' ho' e he hb
  have hq:=q e he hb
  rw [get L e.on false hL hlt] at hq
  rcases hon with rfl | ht
  ·exact hq
  ·exact hcl _ hq _ ht
 -- all of the first part is done
 have done : ∀ (m : Nat) (L : Array Bool) (a : Act) (w : World),L.size = k -> (∀ i,i < k -> L.getD i false = true) -> Go.wpOpsIn F n P ops Q [k,k + 1] a w -> Go.wpAnyIn F n P .any ops Q (m + 2) ((L.push false).push false) a w:=by
  intro m L a w hL hdone hops
  have hkr : k ∈ Go.Region.ready .any ops ((L.push false).push false):=by
   refine Go.mem_ready.2 ⟨gk L _ hL,o1,h1,fun e he hb=>?_⟩
   have hlt:=hback k o1 h1 e he hb
   rw [get L e.on false hL hlt]; exact hdone _ hlt
  refine ⟨fun hr=>(by rw [hr] at hkr; cases hkr),fun i hi=>?_⟩
  have hik : i = k:=by
   have:=bound _ i hi
   rcases Nat.lt_or_ge i k with hlt | hge
   ·have q:=(Go.mem_ready.1 hi).1
    rw [get L i true hL hlt] at q
    have:=hdone i hlt
    have hi' : i < L.size:=by omega
    simp [Array.getD_eq_getD_getElem?,hi'] at q this
    rw [q] at this; cases this
   ·rcases Nat.lt_or_ge k i with h3 | h3
    ·have : i = k + 1:=by omega
     subst this
     exact absurd hi (notlast L hL)
    ·omega
  subst hik
  rw [Go.wpOpsIn_cons] at hops
  refine Go.wpOpIn_mono (fun a w h=>?_) hops
  rw [Go.wpOpsIn_cons] at h
  have hset : ((L.push false).push false).setIfInBounds i true = (L.push true).push false:=by rw [<- hL]; exact zh3 L
  rw [hset]
  have g2 : ∀ (j : Nat) (d : Bool),j <= i -> ((L.push true).push false).getD j d = true:=by
   intro j d hj
   rcases Nat.lt_or_ge j i with hlt | hge
   ·have q:=hdone j hlt
    have hi' : j < L.size:=by omega
    simp [Array.getD_eq_getD_getElem?,Array.getElem?_push,hi',show j ≠ L.size from by omega,show j ≠ L.size + 1 from by omega] at q ⊢
    exact q
   ·have : j = i:=by omega
    subst this
    rw [<- hL]; simp [Array.getD_eq_getD_getElem?,Array.getElem?_push]
  have hlr : i + 1 ∈ Go.Region.ready .any ops ((L.push true).push false):=by
   refine Go.mem_ready.2 ⟨by have:=zh4 L; rw [hL] at this; exact this,o2,h2,fun e he hb=>?_⟩
   have hlt:=hback (i + 1) o2 h2 e he hb
   exact g2 _ _ (by omega)
  refine ⟨fun hr=>(by rw [hr] at hlr; cases hlr),fun j hj=>?_⟩
  have hjk : j = i + 1:=by
   have:=bound _ j hj
   rcases Nat.lt_or_ge i j with h3 | h3
   ·omega
   ·have q:=(Go.mem_ready.1 hj).1
    rw [g2 j true h3] at q; cases q
  subst hjk
  refine Go.wpOpIn_mono (fun a w h=>?_) h
  have h : Q .normal a w:=h
  have hnone : Go.Region.ready .any ops (((L.push true).push false).setIfInBounds (i + 1) true) = []:=by
   cases hr : Go.Region.ready .any ops (((L.push true).push false).setIfInBounds (i + 1) true) with
   | nil=>rfl
   | cons j l=>
    exfalso
    have hj : j ∈ Go.Region.ready .any ops (((L.push true).push false).setIfInBounds (i + 1) true):=by rw [hr]; simp
    have hb:=bound _ j hj
    have q:=(Go.mem_ready.1 hj).1
    rcases Nat.lt_or_ge i j with h3 | h3
    ·have : j = i + 1:=by omega
     subst this
     rw [<- hL] at q
     simp [Array.getD_eq_getD_getElem?] at q
    ·have q2:=g2 j true h3
     simp only [Array.getD_eq_getD_getElem?,Array.getElem?_setIfInBounds,show ¬ (i + 1 = j) from by omega,if_false] at q
     rw [Array.getD_eq_getD_getElem?,q] at q2
     cases q2
  cases m with
  | zero=>exact ⟨hnone,h⟩
  | succ m=>exact ⟨fun _=>h,fun j hj=>(by rw [hnone] at hj; cases hj)⟩
 intro m
 induction m with
 | zero=>
  intro L a w hL hcl h
  exact done 0 L a w hL (fun i hi=>zcq (by omega) (fun i o ho e he hb=>hback i o (by rw [hpre i (by have:=(Array.getElem?_eq_some_iff.1 ho).1; omega),ho]) e he hb) h.1 i (by omega)) h.2
 | succ m ih=>
  intro L a w hL hcl h
  by_cases hr : Go.Region.ready .any pre L = []
  ·exact done (m + 1) L a w hL (fun i hi=>zcq (by omega) (fun i o ho e he hb=>hback i o (by rw [hpre i (by have:=(Array.getElem?_eq_some_iff.1 ho).1; omega),ho]) e he hb) hr i (by omega)) (h.1 hr)
  ·obtain ⟨i0,hi0⟩:=List.exists_mem_of_ne_nil _ hr
   have lt0 : ∀ i,i ∈ Go.Region.ready .any pre L -> i < k:=fun i hi=>by
    obtain ⟨_,o,ho,_⟩:=Go.mem_ready.1 hi
    have:=(Array.getElem?_eq_some_iff.1 ho).1
    omega
   refine ⟨fun hn=>?_,fun i hi=>?_⟩
   ·have:=(rdy L i0 hL (lt0 i0 hi0)).2 hi0
    rw [hn] at this; cases this
   ·have hik : i < k:=by
     rcases Nat.lt_or_ge i k with hlt | hge
     ·exact hlt
     ·exfalso
      have:=bound _ i hi
      rcases Nat.lt_or_ge k i with h3 | h3
      ·have : i = k + 1:=by omega
       subst this
       exact notlast L hL hi
      ·have : i = k:=by omega
       subst this
       have q:=atk L hL hcl hi i0 (lt0 i0 hi0)
       have q2:=(Go.mem_ready.1 hi0).1
       have hi' : i0 < L.size:=by have:=lt0 i0 hi0; omega
       simp [Array.getD_eq_getD_getElem?,hi'] at q q2
       rw [q] at q2; cases q2
    have hir:=(rdy L i hL hik).1 hi
    have hw:=h.2 i hir
    obtain ⟨_,o,ho,haft⟩:=Go.mem_ready.1 hir
    unfold Go.wpOpIn at hw ⊢
    rw [hpre i hik]
    simp only [ho] at hw ⊢
    have hwd : ∀ y,Go.Region.wanted o y = true:=fun y=>by unfold Go.Region.wanted; rw [hg i o ho]
    simp only [hwd,if_true] at hw ⊢
    refine zje (fun a w h=>?_) (fun e a w hne h=>?_) hw
    ·have hset:=zk1 L i (by omega)
     rw [hset]
     refine ih _ a w (by simpa using hL) (fun j hj m ht=>?_) h
     have getS : ∀ x,(L.setIfInBounds i true).getD x false = (if i = x then true else L.getD x false):=fun x=>by
      simp only [Array.getD_eq_getD_getElem?,Array.getElem?_setIfInBounds]
      split
      ·rename_i e; subst e; have : i < L.size:=by omega
       simp [this]
      ·rfl
     rw [getS] at hj ⊢
     split
     ·rfl
     ·split at hj
      ·rename_i e; subst e
       obtain ⟨o',ho',e,he,hb,hon⟩:=htab _ m ht
       rw [hpre _ hik,ho] at ho'
       simp only [Option.some.injEq] at ho'; subst ho'
       have q:=haft e he hb
       rcases hon with rfl | ht2
       ·exact q
       ·exact hcl _ q _ ht2
      ·exact hcl _ hj _ ht
    ·cases e with
     | normal=>exact absurd rfl hne
     | _=>exact h

end
end Dv

namespace Dv
open Go (Value Program World Act Oper Operand Code Ending Exit)

def markE : D -> Option D
 | .tup (.undef :: e :: _)=>some e
 | .agg (.undef :: e :: _)=>some e
 | _=>none

def PanV (pt : Nat × Nat) (v : Value) (e : D) : Prop:=
 (∃ n,v = .iface pt.1 (.int .i64 n) /\ e = .int .i64 n) \/ (∃ n,v = .iface pt.2 (.agg #[.int .i64 n]) /\ e = .agg [.int .i64 n])

section
variable (P : Program) (CL : CLink) (F : Phi) (pt : Nat × Nat)

def StatMR (B : Nat) (ρ : Rho) (H : HS) (os : List Obj) (w : World) (d : D) (os' : List Obj) : Ending -> World -> Prop
 | .returned v,w'=>isMark d = false /\ os.length <= os'.length /\ ∃ ρ' H',PostT CL F B (fun i=>i < os.length) ρ H w ρ' H' w' os' /\ Rep F ρ' H' w'.heap v d
 | .panicked c,w'=>isMark d = true /\ (∃ e v,markE d = some e /\ PanV pt v e /\ c = [{ v:=v,recovered:=false }]) /\ os.length <= os'.length /\ ∃ ρ' H',PostT CL F B (fun i=>i < os.length) ρ H w ρ' H' w' os'
 | _,_=>False

def StatMAt (run : List D -> List Obj -> Option (D × List Obj)) (f : Nat) : Prop:=
 ∀ (r : Option Nat) (B : Nat) (ρ : Rho) (H : HS) (os os' : List Obj) (w : World) (vals : Array Value) (ds : List D) (d : D),run ds os = some (d,os') -> SR CL F B ρ H w.heap os -> RepL F ρ H w.heap vals.toList ds ->
  Go.CallsIn (Fw r) 0 P f vals w (StatMR CL F pt B ρ H os w d os')

end

section
variable {P : Program} {E : Env} {CL : CLink} {F : Phi} {T : Phi} {B M : Nat} {D0 : List Go.Deferred} {K : Nat -> Prop} {ρ : Rho} {H : HS} {os : List Obj} {w : World} {a : Act} {sl : List D} {pt : Nat × Nat}

theorem StatMAt.stat {run : List D -> List Obj -> Option (D × List Obj)} {f : Nat} (h : StatMAt P CL F pt run f) : StatAt P CL F (fun ds os=>noMark (run ds os)) f:=by
 intro r B ρ H os os' w vals ds d hr S hv
 obtain ⟨h1,h2⟩:=zf hr
 refine (h r B ρ H os os' w vals ds d h1 S hv).mono fun e w' he=>?_
 cases e with
 | returned v=>exact he.2
 | panicked c=>have:=he.1; simp only [h2] at this; cases this
 | outgrown=>exact he

theorem StatAt.filter {run : List D -> List Obj -> Option (D × List Obj)} {f : Nat} (h : StatAt P CL F run f) : StatAt P CL F (fun ds os=>noMark (run ds os)) f:=
 fun r B ρ H os os' w vals ds d hr S hv=>h r B ρ H os os' w vals ds d (zf hr).1 S hv

theorem zle {hp : List Obj} {d : D} {k : Bool} (h : isMark d = true) : frzK k hp d = none:=by
 unfold isMark at h
 split at h
 ·cases k <;> simp [frzK,frz,frzX,frz1,frzL,depth]
 ·cases k <;> simp [frzK,frz,frzX,frz1,frzL,depth]
 ·cases h

theorem zl9 {hp : List Obj} {n : Nat} {d : D} (h : frz hp n d = some .undef) : False:=by
 cases n with
 | zero=>simp [frz] at h
 | succ n=>
  simp only [frz] at h
  split at h
  all_goals first
   | (simp at h; done)
   | (simp only [Option.map_eq_some_iff] at h; obtain ⟨_,_,h⟩:=h; cases h; done)
   | skip
  all_goals
   split at h
   ·first
    | (simp only [Option.map_eq_some_iff] at h; obtain ⟨_,_,h⟩:=h; cases h; done)
    | (
     split at h
     ·simp only [Option.map_eq_some_iff] at h; obtain ⟨_,_,h⟩:=h; cases h
     ·simp at h)
   ·simp at h
theorem zd7 {hp : List Obj} {n : Nat} {l r : List D} (h : frzL (frz hp n) l = some (.undef :: r)) : False:=by
 cases l with
 | nil=>simp [frzL] at h
 | cons d l=>
  simp only [frzL] at h
  split at h
  ·rename_i d' r' h1 h2
   simp only [Option.some.injEq,List.cons.injEq] at h
   rw [h.1] at h1
   exact zl9 h1
  ·simp at h
theorem zo2 {hp : List Obj} {n : Nat} {d0 d1 : D} (h : frz hp n d0 = some d1) : isMark d1 = false:=by
 cases hm : isMark d1 with
 | false=>rfl
 | true=>
  exfalso
  cases n with
  | zero=>simp [frz] at h
  | succ n=>
   unfold isMark at hm
   split at hm
   ·rename_i r
    cases d0 <;> simp [frz] at h
    all_goals first
     | (exact zd7 h)
     | (split at h <;> simp at h; done)
     | (split at h <;> first | (simp at h; done) | (split at h <;> simp at h))
     | (rename_i q; cases q <;> simp at h; done)
   ·rename_i r
    cases d0 <;> simp [frz] at h
    all_goals first
     | (exact zd7 h)
     | (split at h <;> simp at h; done)
     | (split at h <;> first | (simp at h; done) | (split at h <;> simp at h))
     | (rename_i q; cases q <;> simp at h; done)
   ·cases hm

theorem PureAt.of_filter {run : List D -> List Obj -> Option (D × List Obj)} {f : Nat} (k : Bool) (h : StatAt P CL F (fun ds os=>noMark (run ds os)) f) : PureAt P F (fun ds=>match run ds [] with
  | some (d,hp)=>frzK k hp d
  | none=>none) f:=by
 have h1:=PureAt.of_stat k h
 intro r H w vals ds d hc hb hr
 refine h1 r H w vals ds d ?_ hb hr
 simp only at hc
 cases hx : run ds [] with
 | none=>rw [hx] at hc; cases hc
 | some x=>
  obtain ⟨d0,hp⟩:=x
  rw [hx] at hc
  simp only at hc
  have hm : isMark d0 = false:=by
   cases hm : isMark d0 with
   | false=>rfl
   | true=>rw [zle hm] at hc; cases hc
  simp only [hx,zq hm]
  exact hc

def exB : DC -> Bool
 | .exit id=>decide (id < panX)
 | .seq a b=>exB a && exB b
 | .cond _ a b=>exB a && exB b
 | .ifp _ a b=>exB a && exB b
 | .block _ a=>exB a
 | .loop a=>exB a
 | .rfunc _ _ _ _=>false
 | _=>true

theorem zu3 : ∀ {n : Nat} {c : DC} {st st' : St} {i : Nat},exB c = true -> dC E n c st = some (.exit i,st') -> i < panX:=by
 intro n
 induction n with
 | zero=>intro c st st' i _ h; simp [dC] at h
 | succ n ih=>
  intro c st st' i hb h
  cases c with
  | skip=>simp [dC] at h
  | ret=>simp [dC] at h
  | exit id=>simp [dC] at h; rw [<- h.1]; simpa [exB] using hb
  | seq x y=>
   simp only [exB,Bool.and_eq_true] at hb
   simp only [dC] at h
   split at h
   ·exact ih hb.2 h
   ·exact ih hb.1 h
  | cond c x y=>
   simp only [exB,Bool.and_eq_true] at hb
   simp only [dC] at h
   split at h
   ·exact ih hb.1 h
   ·exact ih hb.2 h
   ·simp at h
  | ifp c x y=>
   simp only [exB,Bool.and_eq_true] at hb
   simp only [dC] at h
   split at h
   ·exact ih hb.1 h
   ·exact ih hb.2 h
  | block id x=>
   simp only [exB] at hb
   simp only [dC] at h
   split at h
   ·rename_i id' st1 h1
    simp only [Option.some.injEq,Prod.mk.injEq] at h
    split at h
    ·cases h.1
    ·have:=ih hb h1
     have e:=h.1
     cases e; exact this
   ·exact ih hb h
  | loop x=>
   have hb2 : exB x = true:=hb
   simp only [dC] at h
   split at h
   ·exact ih hb h
   ·exact ih hb2 h
  | region dr ap ops=>
   simp only [dC,Option.map_eq_some_iff,Prod.mk.injEq] at h
   obtain ⟨s1,h1,h2,_⟩:=h
   cases h2
  | rfunc f ps asg body=>simp [exB] at hb

structure SiteO (F : Phi) (N : Nat) (o : Oper) (k md : Nat) (f' : Opd) (as : List Opd) : Prop where
 op : ∃ f args at_,o.op = .call { callee:=.value f,args,argTypes:=at_ } /\ stripOpd F f = some f' /\ stripL F (Array.toList args) = some as
 dst : o.dst = some k
 gd : o.guard = none
 md : md = 5 \/ md = 6
 lt : k < N

structure TailOk (ops : Array Oper) (k : Nat) (o2 : Oper) : Prop where
 back : ∀ (i : Nat) o,ops[i]? = some o -> ∀ e,e ∈ o.after -> Go.Region.binds .any e = true -> e.on < i
 tab : ∃ tab : Nat -> Nat -> Prop,(∀ i m,tab i m -> ∃ o,ops[i]? = some o /\ ∃ e,e ∈ o.after /\ Go.Region.binds .any e = true /\ (e.on = m \/ tab e.on m)) /\ ∀ m,m < k -> tab k m
 last : ∃ e,e ∈ o2.after /\ Go.Region.binds .any e = true /\ e.on = k

def drawnD (onp : Nat -> DC) (ap : List (Nat × Nat)) (pre' : List DOpr) (k1 md1 : Nat) (f1 : Opd) (as1 : List Opd) (k2 md2 : Nat) (f2 : Opd) (as2 : List Opd) : DC:=
 .seq (.region true ap pre') (.seq (.region false [] [⟨some k1,.call md1 f1 as1,none⟩]) (.ifp (.t k1) (onp k1) (.seq (.region false [] [⟨some k2,.call md2 f2 as2,none⟩]) (.ifp (.t k2) (onp k2) .skip))))

inductive CLp (P : Program) (pt : Nat × Nat) (T F : Phi) (onp : Nat -> DC) (N : Nat) : Code -> DC -> Prop
 | base {c dc} (h : CLk T F false c dc) (hx : exB dc = true) : CLp P pt T F onp N c dc
 | seq {x y x' y'} (h1 : CLp P pt T F onp N x x') (h2 : CLp P pt T F onp N y y') : CLp P pt T F onp N (.seq x y) (.seq x' y')
 | cond {c x y c' x' y'} (h : stripOpd F c = some c') (h1 : CLp P pt T F onp N x x') (h2 : CLp P pt T F onp N y y') : CLp P pt T F onp N (.cond c x y) (.cond c' x' y')
 | block {id x x'} (hid : id < panX) (h1 : CLp P pt T F onp N x x') : CLp P pt T F onp N (.block id x) (.block id x')
 | loop {x x'} (h1 : CLp P pt T F onp N x x') : CLp P pt T F onp N (.loop x) (.loop x')
 | site {id ops pre o post k f f' args as at_ md gd pre' post'} (hops : Array.toList ops = pre ++ o :: post) (h1 : OpsL T F (Array.toList ops) pre pre')
   (ho : o.op = .call { callee:=.value f,args,argTypes:=at_ }) (hf : stripOpd F f = some f') (ha : stripL F (Array.toList args) = some as) (hd : o.dst = some k) (hg : stripGd (Array.toList ops) o.guard = some gd) (hmd : md = 5 \/ md = 6) (hkN : k < N)
   (h2 : OpsL T F (Array.toList ops) post post') : CLp P pt T F onp N (.region id ops false) (.seq (.region false [] (pre' ++ [⟨some k,.call md f' as,gd⟩])) (.ifp (.t k) (onp k) (.region false [] post')))
 | drawn {id ops pre o1 o2 pre' ap k1 md1 f1 as1 k2 md2 f2 as2} (hmix : P.follows .mixedOrders = true) (hops : Array.toList ops = pre ++ [o1,o2]) (h1 : OpsL T F pre pre pre') (hdk : DrawOk (List.toArray pre) pre' ap) (hgp : ∀ o,o ∈ pre -> o.guard = none)
   (s1 : SiteO F N o1 k1 md1 f1 as1) (s2 : SiteO F N o2 k2 md2 f2 as2) (ht : TailOk ops pre.length o2) : CLp P pt T F onp N (.region id ops true) (drawnD onp ap pre' k1 md1 f1 as1 k2 md2 f2 as2)
 | pan {id ops pre o1 o2 t x x' i b pre'} (hops : Array.toList ops = pre ++ [o1,o2]) (h1 : OpsL T F (Array.toList ops) pre pre') (ho1 : o1.op = .makeInterface t x) (hd1 : o1.dst = some i) (hg1 : o1.guard = none)
   (ho2 : o2.op = .panic (.tmp i)) (hg2 : o2.guard = none) (hx : stripOpd F x = some x') (hmk : ∀ (v : Value) (w : World),(Go.Instr.makeInterface t v).run P w = .ok (.iface t v) w) (ht : t = if b then pt.2 else pt.1) (hi : i < N) :
   CLp P pt T F onp N (.region id ops false) (.seq (.region false [] (pre' ++ [⟨some i,.mark b x',none⟩])) (onp i))

def PanOk (E : Env) (CL : CLink) (F : Phi) (pt : Nat × Nat) (onp : Nat -> DC) (B M : Nat) (D0 : List Go.Deferred) (ρ : Rho) (H : HS) (w0 : World) (len : Nat) (ex : Ex) (st' : St) (v : Value) (a' : Act) (w' : World) : Prop:=
 ∃ j k sl0 mk hp e,dC E j (onp k) ⟨sl0.set k mk,hp⟩ = some (ex,st') /\ k < sl0.length /\ isMark mk = true /\ markE mk = some e /\ PanV pt v e /\ ∃ a0,Ok CL F B M D0 ρ H w0 len ⟨sl0,hp⟩ a0 w' /\ a'.defers = a0.defers /\ ∀ t,t ≠ k -> a'.tmps.getD t Go.undef = a0.tmps.getD t Go.undef

theorem Ok.after' {ρ' : Rho} {H' : HS} {len : Nat} {w0 w1 : World} {os' : List Obj} {st : St} (p : PostT CL F B (fun i=>i < len) ρ H w0 ρ' H' w1 os') (hlen : len <= os'.length) (h : Ok CL F B M D0 ρ' H' w1 os'.length st a w) : Ok CL F B M D0 ρ H w0 len st a w:=by
 obtain ⟨ρ2,H2,l,p2,h1,h2,h3,h4⟩:=h
 exact ⟨ρ2,H2,l,p.trans (p2.weaken fun i hi=>Nat.lt_of_lt_of_le hi hlen),h1,Nat.le_trans hlen h2,h3,h4⟩

theorem PanOk.after {onp : Nat -> DC} {ρ' : Rho} {H' : HS} {len : Nat} {w0 w1 : World} {os' : List Obj} {ex : Ex} {st : St} {v : Value} (p : PostT CL F B (fun i=>i < len) ρ H w0 ρ' H' w1 os') (hlen : len <= os'.length) (h : PanOk E CL F pt onp B M D0 ρ' H' w1 os'.length ex st v a w) : PanOk E CL F pt onp B M D0 ρ H w0 len ex st v a w:=by
 obtain ⟨j,k,sl0,mk,hp,e,h1,h2,h3,h4,h5,a0,h6,h7⟩:=h
 exact ⟨j,k,sl0,mk,hp,e,h1,h2,h3,h4,h5,a0,h6.after' p hlen,h7⟩

theorem z2p (TA : TAll P E T) (FO : FnsOk P F) {callP : Nat -> List D -> Option D} {callS callY : Nat -> List D -> List Obj -> Option (D × List Obj)}
  (hP : ∀ f f',F f = some f' -> PureAt P F (callP f') f) (hS : ∀ f f',F f = some f' -> StatAt P CL F (fun ds os=>noMark (callS f' ds os)) f) (hY : YieldAt P CL F callY)
  {r : Option Nat} {ops : Array Oper} {Q : Exit -> Act -> World -> Prop} {rest : List Oper} {is : List Nat} : ∀ (l : List Oper) (ds : List DOpr) (k : Nat) {ρ : Rho} {H : HS} {w : World} {a : Act} {st st' : St},
   ops.toList.drop k = l ++ rest -> OpsL T F ops.toList l ds -> stepOps E callP callS callY ds st = some st' -> SR CL F B ρ H w.heap st.hp -> RepL F ρ H w.heap a.tmps.toList st.sl ->
   (∀ a' w' ρ' H',PostT CL F B (fun i=>i < st.hp.length) ρ H w ρ' H' w' st'.hp -> RepL F ρ' H' w'.heap a'.tmps.toList st'.sl -> st.hp.length <= st'.hp.length -> a'.defers = a.defers -> Go.wpOpsIn (Fw r) 0 P ops Q is a' w') ->
   Go.wpOpsIn (Fw r) 0 P ops Q (List.range' k l.length ++ is) a w
 | [],[],k,ρ,H,w,a,st,st',hl,hL,h,S,hs,hn=>by
  simp only [stepOps,Option.some.injEq] at h; subst h
  exact hn a w ρ H (PostT.refl S) hs (Nat.le_refl _) rfl
 | [],_ :: _,k,ρ,H,w,a,st,st',hl,hL,h,S,hs,hn=>hL.elim
 | _ :: _,[],k,ρ,H,w,a,st,st',hl,hL,h,S,hs,hn=>hL.elim
 | o :: l,dop :: ds,k,ρ,H,w,a,st,st',hl,hL,h,S,hs,hn=>by
  obtain ⟨h1,h2⟩:=hL
  have hk : ops.toList[k]? = some o:=by
   have:=congrArg (fun l : List Oper=>l[0]?) hl
   simpa using this
  have ho : ops[k]? = some o:=by simpa using hk
  have hrest : ops.toList.drop (k + 1) = l ++ rest:=by
   have:=congrArg (fun l : List Oper=>l.drop 1) hl
   simpa [List.drop_drop,Nat.add_comm] using this
  rw [z8] at h
  simp only [Option.bind_eq_some_iff] at h
  obtain ⟨st1,h3,h4⟩:=h
  rw [List.length_cons,List.range'_succ,List.cons_append,Go.wpOpsIn_cons]
  refine z5x TA FO hP hS hY ho h1 h3 S S.free (fun i hi=>⟨hi,Nat.ne_of_lt hi⟩) hs (K:=fun i=>i < st.hp.length) (fun a' w' ρ' H' p hs' hlen hdf=>?_)
  refine z2p TA FO hP hS hY l ds (k + 1) hrest h2 h4 p.sr hs' (fun a2 w2 ρ2 H2 p2 hs2 hlen2 hdf2=>?_)
  exact hn a2 w2 ρ2 H2 (p.trans (p2.weaken fun i hi=>Nat.lt_of_lt_of_le hi hlen)) hs2 (Nat.le_trans hlen hlen2) (hdf2.trans hdf)

theorem z57 {callP : Nat -> List D -> Option D} {callS callY : Nat -> List D -> List Obj -> Option (D × List Obj)} : ∀ {l r : List DOpr} {st st' : St},stepOps E callP callS callY (l ++ r) st = some st' -> ∃ s,stepOps E callP callS callY l st = some s /\ stepOps E callP callS callY r s = some st'
 | [],r,st,st',h=>⟨st,rfl,h⟩
 | o :: l,r,st,st',h=>by
  rw [List.cons_append,z8] at h
  simp only [Option.bind_eq_some_iff] at h
  obtain ⟨s1,h1,h2⟩:=h
  obtain ⟨s,h3,h4⟩:=z57 h2
  exact ⟨s,by rw [z8,h1]; exact h3,h4⟩

theorem zat (FO : FnsOk P F) {callP : Nat -> List D -> Option D} {callS callY : Nat -> List D -> List Obj -> Option (D × List Obj)}
  (hM : ∀ f f',F f = some f' -> E.mp f' = true -> StatMAt P CL F pt (callS f') f)
  {r : Option Nat} {o : Oper} {id : Nat} {d : D} {os' : List Obj} {next : Act -> World -> Prop} {Q : Exit -> Act -> World -> Prop} {f : Operand} {args : Array Operand} {at_ : Array Go.TypeId} {md : Nat} {f' : Opd} {as : List Opd}
  (ho : o.op = .call { callee:=.value f,args,argTypes:=at_ }) (h1 : stripOpd F f = some f') (h2 : stripL F args.toList = some as) (hmd : md = 5 \/ md = 6)
  (S : SR CL F B ρ H w.heap os) (hs : RepL F ρ H w.heap a.tmps.toList sl)
  (h : stepOp E callP callS callY id (getO sl) os (.call md f' as) = some (d,os'))
  (hn : ∀ v w' ρ' H',isMark d = false -> PostT CL F B (fun i=>i < os.length) ρ H w ρ' H' w' os' -> Rep F ρ' H' w'.heap v d -> os.length <= os'.length -> next (a.put o.dst v) w')
  (hq : ∀ e v w' ρ' H',isMark d = true -> markE d = some e -> PanV pt v e -> PostT CL F B (fun i=>i < os.length) ρ H w ρ' H' w' os' -> os.length <= os'.length -> Q (.panic [{ v:=v,recovered:=false }]) a w') : o.wpIn (Fw r) 0 P a w next Q:=by
 refine ⟨fun f _=>trivial,?_⟩
 rw [Go.Oper.semAt_eq _ _ _ (by rw [ho]; intro c e; cases e)]
 have ef:=z6 S.hb hs h1
 have ea:=z3n S.hb hs h2
 have hargs : args.map a.eval = (args.toList.map a.eval).toArray:=by cases args; simp
 have exec : (Go.execOp a.eval o).run P w = ((Go.Deferred.ofValue (a.eval f) (args.map a.eval)).run P w).andThen fun d w'=>(Go.invoke d.target d.args).run P w':=by
  unfold Go.execOp
  rw [ho]
  simp only [Go.resolve,Go.Sem.run_bind]
 rw [exec]
 have enter : ∀ {k : Nat} {caps : List D},getO sl f' = .fn k caps -> ∃ g vals,F g = some k /\ (((Go.Deferred.ofValue (a.eval f) (args.map a.eval)).run P w).andThen fun d w'=>(Go.invoke d.target d.args).run P w') = .ok (.enter g vals) w /\
   RepL F ρ H w.heap vals.toList (as.map (getO sl) ++ caps):=by
  intro k caps hg
  rw [hg] at ef
  generalize a.eval f = vf at ef
  cases ef with
  | fn g g' cvs caps hF hcs hcr=>
   refine ⟨g,args.map a.eval ++ cvs,hF,?_,?_⟩
   ·simp [Go.Deferred.ofValue,Go.invoke,z4n FO hF]
   ·rw [Array.toList_append,hargs]
    exact ea.append ⟨by simpa using hcs,fun j v d hv hd=>hcr j v d (by simpa using hv) hd⟩
 rcases hmd with rfl | rfl
 ·simp only [stepOp,DOp.fin,finOp] at h
  split at h
  ·rename_i k caps hg
   split at h
   ·rename_i hmp
    split at h
    ·rename_i vs hv
     obtain ⟨g,vals,hF,hrun,hrep⟩:=enter hg
     rw [hrun]
     have hrep2 : RepL F ρ0 H w.heap vals.toList vs:=z2r (os:=[]) (fun id b c cs _ h=>by simp [rowOf] at h) (fun _ _ h=>h) hrep hv (fun id _ cs b c h=>by simp [rowOf] at h)
     cases hc : callS k vs [] with
     | none=>rw [hc] at h; simp [markR] at h
     | some x=>
      obtain ⟨d0,hp0⟩:=x
      rw [hc] at h
      simp only [markR,Option.map_eq_some_iff,Prod.mk.injEq] at h
      obtain ⟨d1,h3,rfl,rfl⟩:=h
      by_cases hm : isMark d0 = true
      ·rw [if_pos hm] at h3
       simp only [Option.some.injEq] at h3; subst h3
       refine ⟨by simp [Fw,Go.Fence.wide],(hM g k hF hmp r w.heap.size ρ0 H [] hp0 w vals vs d0 hc (SR.start S.hb) hrep2).mono fun e w' he=>?_⟩
       cases e with
       | returned v=>have:=he.1; rw [hm] at this; cases this
       | panicked c=>
        obtain ⟨_,⟨e,v,h4,h5,rfl⟩,_,ρ',H',p⟩:=he
        refine hq e v w' ρ H hm h4 h5 ?_ (Nat.le_refl _)
        have g2 : Grew H H w.heap w'.heap:=⟨p.size,fun b hb=>p.frB b hb,fun _ _ h=>h,fun _ _ h=>.inl h⟩
        exact g2.postT S p.fz p.still
       | outgrown=>exact he.elim
      ·rw [if_neg hm] at h3
       have hmd : isMark d1 = false:=zo2 h3
       have hp1:=PureAt.of_filter false (hM g k hF hmp).stat
       refine ⟨by simp [Fw,Go.Fence.wide],(hp1 r H w vals vs d1 (by simp only [hc]; exact h3) S.hb hrep2).mono fun e w' he=>?_⟩
       cases e with
       | returned v=>
        obtain ⟨H',g',⟨hf',hst'⟩,hv'⟩:=he
        exact hn v w' ρ H' hmd (g'.postT S hf' hst') (hv'.up ρ) (Nat.le_refl _)
       | panicked c=>exact he.elim
       | outgrown=>exact he.elim
    ·simp at h
   ·simp at h
  ·simp at h
 ·simp only [stepOp,DOp.fin,finOp] at h
  split at h
  ·rename_i k caps hg
   split at h
   ·rename_i hmp
    obtain ⟨g,vals,hF,hrun,hrep⟩:=enter hg
    rw [hrun]
    refine ⟨by simp [Fw,Go.Fence.wide],(hM g k hF hmp r B ρ H os os' w vals _ d h S hrep).mono fun e w' he=>?_⟩
    cases e with
    | returned v=>
     obtain ⟨hm,hlen,ρ',H',p,hv⟩:=he
     exact hn v w' ρ' H' hm p hv hlen
    | panicked c=>
     obtain ⟨hm,⟨e,v,h4,h5,rfl⟩,hlen,ρ',H',p⟩:=he
     exact hq e v w' ρ' H' hm h4 h5 p hlen
    | outgrown=>exact he.elim
   ·simp at h
  ·simp at h

end
end Dv

namespace Dv
open Go (Value Program World Act Oper Operand Code Ending Exit)

theorem least (p : Nat -> Prop) (h : ∃ n,p n) : ∃ m,p m /\ ∀ k,p k -> m <= k:=by
 obtain ⟨n,hn⟩:=h
 induction n using Nat.strongRecOn with
 | _ n ih=>
  by_cases hx : ∃ k,k < n /\ p k
  ·obtain ⟨k,hk,hp⟩:=hx; exact ih k hk hp
  ·exact ⟨n,hn,fun k hk=>Nat.le_of_not_lt fun hlt=>hx ⟨k,hlt,hk⟩⟩

section
variable {P : Program} {E : Env} {CL : CLink} {F : Phi} {T : Phi} {B M : Nat} {D0 : List Go.Deferred} {K : Nat -> Prop} {ρ : Rho} {H : HS} {os : List Obj} {w : World} {a : Act} {sl : List D} {pt : Nat × Nat}

theorem Marks.mono {hp hp' : Heap} {l : List Nat} (h : Marks M hp l) (hd : ∀ (b : Nat) ds,hp[b]? = some (.deferred ds) -> hp'[b]? = some (.deferred ds)) : Marks M hp' l:=
 ⟨h.nd,fun r hr=>⟨(h.at_ r hr).1,hd r _ (h.at_ r hr).2⟩⟩

theorem z3q {callP : Nat -> List D -> Option D} {callS callY : Nat -> List D -> List Obj -> Option (D × List Obj)} : ∀ {l : List DOpr} {st st' : St},stepOps E callP callS callY l st = some st' -> st.sl.length = st'.sl.length
 | [],st,st',h=>by simp only [stepOps,Option.some.injEq] at h; rw [h]
 | o :: l,st,st',h=>by
  rw [z8] at h
  simp only [Option.bind_eq_some_iff] at h
  obtain ⟨s1,h1,h2⟩:=h
  rw [<- z3q h2]
  unfold step1 at h1
  split at h1
  ·split at h1
   ·simp only [Option.some.injEq] at h1; subst h1
    simp only [putO]; split <;> simp
   ·simp at h1
  ·simp only [Option.some.injEq] at h1; subst h1
   simp only [putO]; split <;> simp

theorem zjn {callP : Nat -> List D -> Option D} {callS callY : Nat -> List D -> List Obj -> Option (D × List Obj)} {id : Nat} {o : DOpr} {st st' : St} (h : step1 E callP callS callY id o st = some st') : st.sl.length = st'.sl.length:=by
 unfold step1 at h
 split at h
 ·split at h
  ·simp only [Option.some.injEq] at h; subst h
   simp only [putO]; split <;> simp
  ·simp at h
 ·simp only [Option.some.injEq] at h; subst h
  simp only [putO]; split <;> simp
theorem z49 {callP : Nat -> List D -> Option D} {callS callY : Nat -> List D -> List Obj -> Option (D × List Obj)} : ∀ {l : List DOpr} {id : Nat} {st st' : St},stepOpsD E callP callS callY id l st = some st' -> st.sl.length = st'.sl.length
 | [],id,st,st',h=>by simp only [stepOpsD,Option.some.injEq] at h; rw [h]
 | o :: l,id,st,st',h=>by
  rw [z3r] at h
  simp only [Option.bind_eq_some_iff] at h
  obtain ⟨s1,h1,h2⟩:=h
  rw [zjn h1,z49 h2]

theorem zq6 : ∀ {n : Nat} {c : DC} {st st' : St} {ex : Ex},dC E n c st = some (ex,st') -> st.sl.length = st'.sl.length:=by
 intro n
 induction n with
 | zero=>intro c st st' ex h; simp [dC] at h
 | succ n ih=>
  intro c st st' ex h
  cases c with
  | skip=>simp [dC] at h; rw [h.2]
  | ret=>simp [dC] at h; rw [h.2]
  | exit id=>simp [dC] at h; rw [h.2]
  | seq x y=>
   simp only [dC] at h
   split at h
   ·rename_i st1 h1; rw [ih h1,ih h]
   ·exact ih h
  | cond c x y=>
   simp only [dC] at h
   split at h
   ·exact ih h
   ·exact ih h
   ·simp at h
  | ifp c x y=>
   simp only [dC] at h
   split at h
   ·exact ih h
   ·exact ih h
  | block id x=>
   simp only [dC] at h
   split at h
   ·rename_i id' st1 h1
    simp only [Option.some.injEq,Prod.mk.injEq] at h
    rw [ih h1,h.2]
   ·exact ih h
  | loop x=>
   simp only [dC] at h
   split at h
   ·rename_i st1 h1; rw [ih h1,ih h]
   ·exact ih h
  | region dr ap ops=>
   simp only [dC,Option.map_eq_some_iff,Prod.mk.injEq] at h
   obtain ⟨s1,h1,_,rfl⟩:=h
   split at h1
   ·unfold checkAp at h1
    split at h1
    ·rename_i s2 h2
     split at h1
     ·simp only [Option.some.injEq] at h1; subst h1
      have:=z49 h2
      exact this
     ·simp at h1
    ·simp at h1
   ·exact z3q h1
  | rfunc f ps asg body=>
   simp only [dC] at h
   split at h
   ·split at h
    ·split at h
     ·simp only [Option.some.injEq,Prod.mk.injEq] at h; rw [<- h.2]
     ·simp only [Option.some.injEq,Prod.mk.injEq] at h; rw [<- h.2]
     ·simp at h
    ·simp at h
   ·simp at h

structure Known (P : Program) (E : Env) (T F : Phi) (pt : Nat × Nat) (n : Nat) : Prop where
 code : CodeAt P T F (dC E n)
 pure : ∀ f f',F f = some f' -> PureAt P F (runP E (dC E n) f') f
 stat : ∀ f f',F f = some f' -> StatAt P (CLk T F true) F (fun ds os=>noMark (runS E (dC E n) f' ds os)) f
 plain : ∀ f f',F f = some f' -> E.mp f' = false -> StatAt P (CLk T F true) F (runS E (dC E n) f') f
 yld : YieldAt P (CLk T F true) F (runY (dC E n))
 mark : ∀ f f',F f = some f' -> E.mp f' = true -> StatMAt P (CLk T F true) F pt (runS E (dC E n) f') f

def CodePAt (P : Program) (E : Env) (T F : Phi) (pt : Nat × Nat) (onp : Nat -> DC) (N : Nat) (m : Nat) : Prop:=
 ∀ (c : Code) (dc : DC),CLp P pt T F onp N c dc -> ∀ (B M : Nat) (D0 : List Go.Deferred) (st st' : St) (ex : Ex) (ρ : Rho) (H : HS) (a : Act) (w : World) (l : List Nat),
  dC E m dc st = some (ex,st') -> N <= st.sl.length -> SR (CLk T F true) F B ρ H w.heap st.hp -> RepL F ρ H w.heap a.tmps.toList st.sl -> a.defers = l.map mkMark ++ D0 -> Marks M w.heap l -> M <= w.heap.size ->
  ∀ Q : Exit -> Act -> World -> Prop,(∀ a' w',Ok (CLk T F true) F B M D0 ρ H w st.hp.length st' a' w' -> (∀ i,ex = .exit i -> i < panX) -> Q (exOf ex) a' w') ->
   (∀ v a' w',PanOk E (CLk T F true) F pt onp B M D0 ρ H w st.hp.length ex st' v a' w' -> Q (.panic [{ v:=v,recovered:=false }]) a' w') -> c.wpIn (Fw none) 0 P Q a w

def Leaves (E : Env) (onp : Nat -> DC) : Prop:=∀ k j st ex st',dC E j (onp k) st = some (ex,st') -> ex ≠ .normal /\ ∀ i,ex = .exit i -> panX <= i

theorem PanOk.leaves {onp : Nat -> DC} {len : Nat} {w0 : World} {ex : Ex} {st : St} {v : Value} (L : Leaves E onp) (h : PanOk E CL F pt onp B M D0 ρ H w0 len ex st v a w) : ex ≠ .normal /\ ∀ i,ex = .exit i -> panX <= i:=by
 obtain ⟨j,k,sl0,mk,hp,e,h1,_⟩:=h
 exact L _ _ _ _ _ h1

theorem zhg {onp : Nat -> DC} (hL : Leaves E onp) {N : Nat} {n : Nat} (hC : ∀ m,m <= n -> CodePAt P E T F pt onp N m) {x : Code} {x' : DC} (h1 : CLp P pt T F onp N x x')
  {st st' : St} {ex : Ex} {l : List Nat} (h : dC E (n + 1) (.loop x') st = some (ex,st')) (hN : N <= st.sl.length) (S : SR (CLk T F true) F B ρ H w.heap st.hp) (hs : RepL F ρ H w.heap a.tmps.toList st.sl) (hd : a.defers = l.map mkMark ++ D0) (hm : Marks M w.heap l) (hM : M <= w.heap.size)
  (Q : Exit -> Act -> World -> Prop) (hQ : ∀ a' w',Ok (CLk T F true) F B M D0 ρ H w st.hp.length st' a' w' -> (∀ i,ex = .exit i -> i < panX) -> Q (exOf ex) a' w')
  (hQp : ∀ v a' w',PanOk E (CLk T F true) F pt onp B M D0 ρ H w st.hp.length ex st' v a' w' -> Q (.panic [{ v:=v,recovered:=false }]) a' w') : (Code.loop x).wpIn (Fw none) 0 P Q a w:=by
 classical
 let good : Nat -> Act -> World -> Prop:=fun m a1 w1=>m <= n /\ ∃ st1,dC E (m + 1) (.loop x') st1 = some (ex,st') /\ N <= st1.sl.length /\ Ok (CLk T F true) F B M D0 ρ H w st.hp.length st1 a1 w1
 have start : good n a w:=⟨Nat.le_refl _,st,h,hN,ρ,H,l,PostT.refl S,hs,Nat.le_refl _,hd,hm⟩
 refine Go.wpIn_loop (fun a1 w1=>∃ m,good m a1 w1) (fun a1 w1=>if hx : ∃ m,good m a1 w1 then Classical.choose (least (fun m=>good m a1 w1) hx) else 0) ⟨n,start⟩ (fun a1 w1 hx=>?_)
 have hmin:=Classical.choose_spec (least (fun m=>good m a1 w1) hx)
 rw [dif_pos hx]
 generalize Classical.choose (least (fun m=>good m a1 w1) hx) = m at hmin
 obtain ⟨⟨hmn,st1,hrun,hN1,ok1⟩,_⟩:=hmin
 obtain ⟨ρ1,H1,l1,p1,hs1,hlen1,hd1,hm1⟩:=ok1
 simp only [dC] at hrun
 split at hrun
 ·rename_i st2 hbody
  refine hC m hmn x x' h1 B M D0 st1 st2 .normal ρ1 H1 a1 w1 l1 hbody hN1 p1.sr hs1 hd1 hm1 (Nat.le_trans hM p1.size) _ (fun a2 w2 ok2 _=>?_) (fun v a2 w2 pk=>?_)
  ·have ok : Ok (CLk T F true) F B M D0 ρ H w st.hp.length st2 a2 w2:=ok2.after' p1 hlen1
   cases m with
   | zero=>simp [dC] at hrun
   | succ m=>
    have gm : good m a2 w2:=⟨by omega,st2,hrun,by rw [<- zq6 hbody]; exact hN1,ok⟩
    refine ⟨⟨m,gm⟩,?_⟩
    rw [dif_pos ⟨m,gm⟩]
    have:=(Classical.choose_spec (least (fun m=>good m a2 w2) ⟨m,gm⟩)).2 m gm
    omega
  ·exact absurd rfl (pk.leaves hL).1
 ·rename_i hne
  refine hC m hmn x x' h1 B M D0 st1 st' ex ρ1 H1 a1 w1 l1 hrun hN1 p1.sr hs1 hd1 hm1 (Nat.le_trans hM p1.size) _ (fun a2 w2 ok2 hxi=>?_) (fun v a2 w2 pk=>?_)
  ·have q:=hQ a2 w2 (ok2.after' p1 hlen1) hxi
   cases ex with
   | normal=>exact absurd hrun (hne st')
   | exit id=>exact q
   | ret=>exact q
  ·exact hQp v a2 w2 (pk.after p1 hlen1)

theorem z78 {n i : Nat} : List.range' 0 (n + 1 + i) = List.range' 0 n ++ (n :: List.range' (n + 1) i):=by
 have h1 : List.range' 0 (n + (1 + i)) = List.range' 0 n ++ List.range' (0 + n) (1 + i):=by
  rw [List.range'_append_1]
 rw [Nat.add_assoc,h1,Nat.zero_add,Nat.add_comm 1 i,List.range'_succ]

theorem zjq (TA : TAll P E T) (FO : FnsOk P F) {onp : Nat -> DC} {m : Nat} (K : ∀ j,j < m -> Known P E T F pt j)
  {id : Nat} {ops : Array Oper} {pre : List Oper} {o : Oper} {post : List Oper} {k : Nat} {f : Operand} {f' : Opd} {args : Array Operand} {as : List Opd} {at_ : Array Go.TypeId} {md : Nat} {gd : Option (Nat × Bool)} {pre' post' : List DOpr}
  (hops : ops.toList = pre ++ o :: post) (h1 : OpsL T F ops.toList pre pre') (ho : o.op = .call { callee:=.value f,args,argTypes:=at_ }) (hf : stripOpd F f = some f') (ha : stripL F args.toList = some as) (hd : o.dst = some k) (hg : stripGd ops.toList o.guard = some gd) (hmd : md = 5 \/ md = 6)
  (h2 : OpsL T F ops.toList post post') {st st' : St} {ex : Ex} {l : List Nat}
  (h : dC E m (.seq (.region false [] (pre' ++ [⟨some k,.call md f' as,gd⟩])) (.ifp (.t k) (onp k) (.region false [] post'))) st = some (ex,st')) (S : SR (CLk T F true) F B ρ H w.heap st.hp) (hs : RepL F ρ H w.heap a.tmps.toList st.sl) (hdf : a.defers = l.map mkMark ++ D0) (hm : Marks M w.heap l) (hk : k < st.sl.length)
  (Q : Exit -> Act -> World -> Prop) (hQ : ∀ a' w',Ok (CLk T F true) F B M D0 ρ H w st.hp.length st' a' w' -> (∀ i,ex = .exit i -> i < panX) -> Q (exOf ex) a' w')
  (hQp : ∀ v a' w',PanOk E (CLk T F true) F pt onp B M D0 ρ H w st.hp.length ex st' v a' w' -> Q (.panic [{ v:=v,recovered:=false }]) a' w') : (Code.region id ops false).wpIn (Fw none) 0 P Q a w:=by
 cases m with
 | zero=>simp [dC] at h
 | succ m1=>
 simp only [dC] at h
 cases m1 with
 | zero=>simp [dC] at h
 | succ m2=>
 simp only [dC,Bool.false_eq_true,if_false] at h
 cases hr : stepOps E (runP E (dC E m2)) (runS E (dC E m2)) (runY (dC E m2)) (pre' ++ [⟨some k,.call md f' as,gd⟩]) st with
 | none=>rw [hr] at h; simp at h
 | some st1=>
 rw [hr] at h
 simp only [Option.map_some] at h
 obtain ⟨sp,hr1,hr2⟩:=z57 hr
 have K2:=K m2 (by omega)
 refine Go.wpIn_region ?_
 have hsz : ops.size = pre.length + 1 + post.length:=by
  have:=congrArg List.length hops
  simp at this; omega
 rw [List.range_eq_range',hsz,z78]
 refine z2p TA FO K2.pure K2.stat K2.yld (rest:=o :: post) pre pre' 0 (by simpa using hops) h1 hr1 S hs (fun a1 w1 ρ1 H1 p1 hs1 hlen1 hdf1=>?_)
 rw [Go.wpOpsIn_cons]
 unfold Go.wpOpIn
 have hoi : ops[pre.length]? = some o:=by
  have : ops.toList[pre.length]? = some o:=by rw [hops]; simp
  simpa using this
 simp only [hoi]
 rw [z80 hs1 hg]
 have fin : ∀ (d : D) (hp1 : List Obj) (a2 : Act) (w2 : World) (ρ2 : Rho) (H2 : HS),PostT (CLk T F true) F B (fun i=>i < sp.hp.length) ρ1 H1 w1 ρ2 H2 w2 hp1 -> RepL F ρ2 H2 w2.heap a2.tmps.toList (putO sp.sl (some k) d) -> sp.hp.length <= hp1.length -> a2.defers = a1.defers ->
   dC E m2 (.region false [] post') ⟨putO sp.sl (some k) d,hp1⟩ = some (ex,st') -> Go.wpOpsIn (Fw none) 0 P ops Q (List.range' (pre.length + 1) post.length) a2 w2:=by
  intro d hp1 a2 w2 ρ2 H2 p2 hs2 hlen2 hdf2 h
  cases m2 with
  | zero=>simp [dC] at h
  | succ m3=>
  have K3:=K m3 (by omega)
  simp only [dC,Bool.false_eq_true,if_false,Option.map_eq_some_iff,Prod.mk.injEq] at h
  obtain ⟨st2,h3,rfl,rfl⟩:=h
  have p12:=p1.trans (p2.weaken fun i hi=>Nat.lt_of_lt_of_le hi hlen1)
  have:=z2p TA FO K3.pure K3.stat K3.yld (r:=none) (ops:=ops) (Q:=Q) (rest:=[]) (is:=[]) post post' (pre.length + 1) (by rw [hops]; simp) h2 h3 p2.sr hs2 (fun a3 w3 ρ3 H3 p3 hs3 hlen3 hdf3=>by
   have hq:=hQ a3 w3 ⟨ρ3,H3,l,p12.trans (p3.weaken fun i hi=>Nat.lt_of_lt_of_le hi (Nat.le_trans hlen1 hlen2)),hs3,Nat.le_trans hlen1 (Nat.le_trans hlen2 hlen3),?_,?_⟩ (fun i e=>by cases e)
   ·exact hq
   ·rw [hdf3,hdf2,hdf1,hdf]
   ·exact hm.mono (p12.trans (p3.weaken fun i hi=>Nat.lt_of_lt_of_le hi (Nat.le_trans hlen1 hlen2))).frD)
  simpa using this
 -- the call
 rw [z8] at hr2
 simp only [Option.bind_eq_some_iff] at hr2
 obtain ⟨s1,hr3,hr4⟩:=hr2
 simp only [stepOps,Option.some.injEq] at hr4
 subst hr4
 have hks : k < sp.sl.length:=by
  have e1 : sp.sl.length = a1.tmps.size:=by simpa using hs1.1.symm
  have e2 : st.sl.length = sp.sl.length:=z3q hr1
  omega
 have hgk : ∀ d,getO (putO sp.sl (some k) d) (.t k) = d:=fun d=>by
  simp only [getO,putO,List.getD_eq_getElem?_getD,List.getElem?_set_self hks,Option.getD_some]
 cases hwd : wantedD sp.sl gd with
 | false=>
  simp only [step1,hwd,Bool.false_eq_true,if_false,Option.some.injEq] at hr3
  subst hr3
  rw [if_neg (by simp)]
  simp only [hgk,isMark,Bool.false_eq_true,if_false] at h
  refine ⟨fun _ _=>trivial,?_⟩
  rw [hd]
  exact fin .undef sp.hp _ w1 ρ1 H1 (PostT.refl p1.sr) (z3u (dst:=some k) hs1 .u0) (Nat.le_refl _) (z18 _ _ _) h
 | true=>
 rw [if_pos rfl]
 simp only [step1,hwd,if_true] at hr3
 cases hc : stepOp E (runP E (dC E m2)) (runS E (dC E m2)) (runY (dC E m2)) sp.hp.length (getO sp.sl) sp.hp (.call md f' as) with
 | none=>rw [hc] at hr3; simp at hr3
 | some x=>
 obtain ⟨d,hp1⟩:=x
 rw [hc] at hr3
 simp only [Option.some.injEq] at hr3
 subst hr3
 refine zat FO K2.mark ho hf ha hmd p1.sr hs1 hc (fun v w2 ρ2 H2 hmk p2 hv hlen2=>?_) (fun e v w2 ρ2 H2 hmk he hv p2 hlen2=>?_)
 ·-- it has returned
  rw [hgk,hmk] at h
  simp only [Bool.false_eq_true,if_false] at h
  rw [hd]
  exact fin d hp1 _ w2 ρ2 H2 p2 (z3u (dst:=some k) (hs1.mono p2.ext) hv) hlen2 (z18 _ _ _) h
 ·-- it has panicked
  rw [hgk,hmk] at h
  simp only [if_true] at h
  have p12:=p1.trans (p2.weaken fun i hi=>Nat.lt_of_lt_of_le hi hlen1)
  exact hQp v a1 w2 ⟨m2,k,sp.sl,d,hp1,e,h,hks,hmk,he,hv,a1,⟨ρ2,H2,l,p12,hs1.mono p2.ext,Nat.le_trans hlen1 hlen2,by rw [hdf1,hdf],hm.mono p12.frD⟩,rfl,fun _ _=>rfl⟩

theorem zng (TA : TAll P E T) (FO : FnsOk P F) {onp : Nat -> DC} {m : Nat} (K : ∀ j,j < m -> Known P E T F pt j)
  {id : Nat} {ops : Array Oper} {pre : List Oper} {o1 o2 : Oper} {t i : Nat} {b : Bool} {x : Operand} {x' : Opd} {pre' : List DOpr}
  (hops : ops.toList = pre ++ [o1,o2]) (h1 : OpsL T F ops.toList pre pre') (ho1 : o1.op = .makeInterface t x) (hd1 : o1.dst = some i) (hg1 : o1.guard = none) (ho2 : o2.op = .panic (.tmp i)) (hg2 : o2.guard = none) (hx : stripOpd F x = some x')
  (hmk : ∀ (v : Value) (w : World),(Go.Instr.makeInterface t v).run P w = .ok (.iface t v) w) (ht : t = if b then pt.2 else pt.1) {st st' : St} {ex : Ex} {l : List Nat}
  (h : dC E m (.seq (.region false [] (pre' ++ [⟨some i,.mark b x',none⟩])) (onp i)) st = some (ex,st')) (S : SR (CLk T F true) F B ρ H w.heap st.hp) (hs : RepL F ρ H w.heap a.tmps.toList st.sl) (hdf : a.defers = l.map mkMark ++ D0) (hm : Marks M w.heap l) (hk : i < st.sl.length)
  (Q : Exit -> Act -> World -> Prop)
  (hQp : ∀ v a' w',PanOk E (CLk T F true) F pt onp B M D0 ρ H w st.hp.length ex st' v a' w' -> Q (.panic [{ v:=v,recovered:=false }]) a' w') : (Code.region id ops false).wpIn (Fw none) 0 P Q a w:=by
 cases m with
 | zero=>simp [dC] at h
 | succ m1=>
 simp only [dC] at h
 cases m1 with
 | zero=>simp [dC] at h
 | succ m2=>
 rw [show dC E (m2 + 1) (.region false [] (pre' ++ [⟨some i,.mark b x',none⟩])) st = (stepOps E (runP E (dC E m2)) (runS E (dC E m2)) (runY (dC E m2)) (pre' ++ [⟨some i,.mark b x',none⟩]) st).map fun st'=>(.normal,st') from by simp only [dC,Bool.false_eq_true,if_false]] at h
 cases hr : stepOps E (runP E (dC E m2)) (runS E (dC E m2)) (runY (dC E m2)) (pre' ++ [⟨some i,.mark b x',none⟩]) st with
 | none=>rw [hr] at h; simp at h
 | some st1=>
 rw [hr] at h
 simp only [Option.map_some] at h
 obtain ⟨sp,hr1,hr2⟩:=z57 hr
 have K2:=K m2 (by omega)
 refine Go.wpIn_region ?_
 have hsz : ops.size = pre.length + 1 + 1:=by
  have:=congrArg List.length hops
  simp at this; omega
 rw [List.range_eq_range',hsz,z78]
 refine z2p TA FO K2.pure K2.stat K2.yld (rest:=[o1,o2]) pre pre' 0 (by simpa using hops) h1 hr1 S hs (fun a1 w1 ρ1 H1 p1 hs1 hlen1 hdf1=>?_)
 rw [Go.wpOpsIn_cons]
 have hoi : ops[pre.length]? = some o1:=by
  have : ops.toList[pre.length]? = some o1:=by rw [hops]; simp
  simpa using this
 have hoj : ops[pre.length + 1]? = some o2:=by
  have : ops.toList[pre.length + 1]? = some o2:=by rw [hops]; simp
  simpa using this
 have hw1 : ∀ y,Go.Region.wanted o1 y = true:=fun y=>by unfold Go.Region.wanted; rw [hg1]
 have hw2 : ∀ y,Go.Region.wanted o2 y = true:=fun y=>by unfold Go.Region.wanted; rw [hg2]
 rw [z8] at hr2
 simp only [Option.bind_eq_some_iff] at hr2
 obtain ⟨s1,hr3,hr4⟩:=hr2
 simp only [stepOps,Option.some.injEq] at hr4
 subst hr4
 simp only [step1,wantedD,if_true] at hr3
 have hks : i < sp.sl.length:=by rw [<- z3q hr1]; exact hk
 have hv:=z6 p1.sr.hb hs1 hx
 obtain ⟨e,v0,hmark,hv0,hpv⟩ : ∃ e v0,s1 = ⟨sp.sl.set i (.tup [.undef,e]),sp.hp⟩ /\ a1.eval x = v0 /\ PanV pt (.iface t v0) e:=by
  simp only [stepOp,DOp.fin,pureOp] at hr3
  split at hr3
  ·rename_i d hp1 hst
   simp only [Option.some.injEq] at hr3; subst hr3
   simp only [Option.map_eq_some_iff] at hst
   obtain ⟨ef,h3,h4⟩:=hst
   split at h3
   ·rename_i n hg
    simp only [Option.some.injEq] at h3; subst h3
    simp only [applyEf,Prod.mk.injEq] at h4
    obtain ⟨rfl,rfl⟩:=h4
    rw [hg] at hv
    refine ⟨_,_,rfl,rfl,.inl ⟨n,?_,rfl⟩⟩
    rw [ht]
    generalize a1.eval x = vv at hv
    cases hv; rfl
   ·rename_i n hg
    simp only [Option.some.injEq] at h3; subst h3
    simp only [applyEf,Prod.mk.injEq] at h4
    obtain ⟨rfl,rfl⟩:=h4
    rw [hg] at hv
    refine ⟨_,_,rfl,rfl,.inr ⟨n,?_,rfl⟩⟩
    rw [ht]
    obtain ⟨vs,e1,e2⟩:=hv.aggL
    rw [e1]
    have hl:=e2.1
    match vs,hl with
    | [q],_=>
     have:=e2.2 0 q _ rfl rfl
     cases this; rfl
   ·simp at h3
  ·simp at hr3
 subst hmark
 unfold Go.wpOpIn
 simp only [hoi,hw1,if_true]
 refine ⟨fun _ _=>trivial,?_⟩
 rw [Go.Oper.semAt_eq _ _ _ (by rw [ho1]; intro c e; cases e)]
 have ex1 : (Go.execOp a1.eval o1).run P w1 = .ok (.value (.iface t v0)) w1:=by
  unfold Go.execOp
  rw [ho1]
  simp only [Go.Sem.run_bind,hmk,hv0]
  rfl
 rw [ex1]
 show Go.wpOpsIn (Fw none) 0 P ops Q [pre.length + 1] (a1.put o1.dst (.iface t v0)) w1
 rw [Go.wpOpsIn_cons]
 unfold Go.wpOpIn
 simp only [hoj,hw2,if_true]
 refine ⟨fun _ _=>trivial,?_⟩
 rw [Go.Oper.semAt_eq _ _ _ (by rw [ho2]; intro c e; cases e)]
 have hti : (a1.put o1.dst (.iface t v0)).eval (.tmp i) = .iface t v0:=by
  rw [hd1]
  have hlt : i < a1.tmps.size:=by have:=hs1.1; simp at this; omega
  simp [Act.put,Act.eval,Array.getD_eq_getD_getElem?,hlt]
 have ex2 : (Go.execOp (a1.put o1.dst (.iface t v0)).eval o2).run P w1 = .halt (.panic (.iface t v0)) w1:=by
  unfold Go.execOp
  rw [ho2]
  simp only [hti]
  rfl
 rw [ex2]
 refine hQp (.iface t v0) _ w1 ⟨m2 + 1,i,sp.sl,_,sp.hp,e,h,hks,rfl,rfl,hpv,a1,⟨ρ1,H1,l,p1,hs1,hlen1,by rw [hdf1,hdf],hm.mono p1.frD⟩,z18 _ _ _,fun t ht=>?_⟩
 rw [hd1]
 simp [Act.put,Array.getD_eq_getD_getElem?,Ne.symm ht]

theorem zjr (FO : FnsOk P F) {onp : Nat -> DC} {m : Nat} (K : ∀ j,j < m -> Known P E T F pt j)
  {ops : Array Oper} {i : Nat} {o : Oper} {k : Nat} {f : Operand} {f' : Opd} {args : Array Operand} {as : List Opd} {at_ : Array Go.TypeId} {md : Nat} {X : DC} {next : Act -> World -> Prop} (hoi : ops[i]? = some o)
  (ho : o.op = .call { callee:=.value f,args,argTypes:=at_ }) (hf : stripOpd F f = some f') (ha : stripL F args.toList = some as) (hd : o.dst = some k) (hg : o.guard = none) (hmd : md = 5 \/ md = 6)
  {st st' : St} {ex : Ex} {len : Nat} {w0 : World} {ρ0 : Rho} {H0 : HS} {l : List Nat}
  (h : dC E m (.seq (.region false [] [⟨some k,.call md f' as,none⟩]) (.ifp (.t k) (onp k) X)) st = some (ex,st')) (p1 : PostT (CLk T F true) F B (fun i=>i < len) ρ0 H0 w0 ρ H w st.hp) (hlen1 : len <= st.hp.length)
  (hs : RepL F ρ H w.heap a.tmps.toList st.sl) (hdf : a.defers = l.map mkMark ++ D0) (hm : Marks M w.heap l) (hk : k < st.sl.length) (Q : Exit -> Act -> World -> Prop)
  (hnext : ∀ (m' : Nat) (d : D) (hp1 : List Obj) (a2 : Act) (w2 : World) (ρ2 : Rho) (H2 : HS),m' < m -> PostT (CLk T F true) F B (fun i=>i < len) ρ0 H0 w0 ρ2 H2 w2 hp1 -> RepL F ρ2 H2 w2.heap a2.tmps.toList (putO st.sl (some k) d) -> len <= hp1.length -> a2.defers = l.map mkMark ++ D0 -> Marks M w2.heap l ->
   dC E m' X ⟨putO st.sl (some k) d,hp1⟩ = some (ex,st') -> next a2 w2)
  (hQp : ∀ v a' w',PanOk E (CLk T F true) F pt onp B M D0 ρ0 H0 w0 len ex st' v a' w' -> Q (.panic [{ v:=v,recovered:=false }]) a' w') : Go.wpOpIn (Fw none) 0 P ops Q i next a w:=by
 cases m with
 | zero=>simp [dC] at h
 | succ m1=>
 simp only [dC] at h
 cases m1 with
 | zero=>simp [dC] at h
 | succ m2=>
 simp only [dC,Bool.false_eq_true,if_false] at h
 cases hr : stepOps E (runP E (dC E m2)) (runS E (dC E m2)) (runY (dC E m2)) [⟨some k,.call md f' as,none⟩] st with
 | none=>rw [hr] at h; simp at h
 | some st1=>
 rw [hr] at h
 simp only [Option.map_some] at h
 have K2:=K m2 (by omega)
 unfold Go.wpOpIn
 simp only [hoi]
 have hw : Go.Region.wanted o (Go.yielded ops a.tmps) = true:=by unfold Go.Region.wanted; rw [hg]
 rw [if_pos hw]
 rw [z8] at hr
 simp only [Option.bind_eq_some_iff] at hr
 obtain ⟨s1,hr3,hr4⟩:=hr
 simp only [stepOps,Option.some.injEq] at hr4
 subst hr4
 simp only [step1,wantedD,if_true] at hr3
 cases hc : stepOp E (runP E (dC E m2)) (runS E (dC E m2)) (runY (dC E m2)) st.hp.length (getO st.sl) st.hp (.call md f' as) with
 | none=>rw [hc] at hr3; simp at hr3
 | some x=>
 obtain ⟨d,hp1⟩:=x
 rw [hc] at hr3
 simp only [Option.some.injEq] at hr3
 subst hr3
 have hgk : getO (putO st.sl (some k) d) (.t k) = d:=by
  simp only [getO,putO,List.getD_eq_getElem?_getD,List.getElem?_set_self hk,Option.getD_some]
 refine zat FO K2.mark ho hf ha hmd p1.sr hs hc (fun v w2 ρ2 H2 hmk p2 hv hlen2=>?_) (fun e v w2 ρ2 H2 hmk he hv p2 hlen2=>?_)
 ·rw [hgk,hmk] at h
  simp only [Bool.false_eq_true,if_false] at h
  have p12:=p1.trans (p2.weaken fun i hi=>Nat.lt_of_lt_of_le hi hlen1)
  rw [hd]
  exact hnext m2 d hp1 _ w2 ρ2 H2 (by omega) p12 (z3u (dst:=some k) (hs.mono p2.ext) hv) (Nat.le_trans hlen1 hlen2) ((z18 _ _ _).trans hdf) (hm.mono p2.frD) h
 ·rw [hgk,hmk] at h
  simp only [if_true] at h
  have p12:=p1.trans (p2.weaken fun i hi=>Nat.lt_of_lt_of_le hi hlen1)
  exact hQp v a w2 ⟨m2,k,st.sl,d,hp1,e,h,hk,hmk,he,hv,a,⟨ρ2,H2,l,p12,hs.mono p2.ext,Nat.le_trans hlen1 hlen2,hdf,hm.mono p2.frD⟩,rfl,fun _ _=>rfl⟩


theorem zih (hmix : P.follows .mixedOrders = true) (TA : TAll P E T) (FO : FnsOk P F) {onp : Nat -> DC} {m : Nat} (K : ∀ j,j < m -> Known P E T F pt j)
  {id : Nat} {ops : Array Oper} {pre : List Oper} {o1 o2 : Oper} {pre' : List DOpr} {ap : List (Nat × Nat)} {N k1 md1 k2 md2 : Nat} {f1 f2 : Opd} {as1 as2 : List Opd} (hops : ops.toList = pre ++ [o1,o2]) (h1 : OpsL T F pre pre pre') (hdk : DrawOk pre.toArray pre' ap)
  (hgp : ∀ o,o ∈ pre -> o.guard = none) (s1 : SiteO F N o1 k1 md1 f1 as1) (s2 : SiteO F N o2 k2 md2 f2 as2) (ht : TailOk ops pre.length o2) {st st' : St} {ex : Ex} {l : List Nat}
  (h : dC E m (drawnD onp ap pre' k1 md1 f1 as1 k2 md2 f2 as2) st = some (ex,st')) (hN : N <= st.sl.length) (S : SR (CLk T F true) F B ρ H w.heap st.hp) (hs : RepL F ρ H w.heap a.tmps.toList st.sl) (hdf : a.defers = l.map mkMark ++ D0) (hm : Marks M w.heap l)
  (Q : Exit -> Act -> World -> Prop) (hQ : ∀ a' w',Ok (CLk T F true) F B M D0 ρ H w st.hp.length st' a' w' -> (∀ i,ex = .exit i -> i < panX) -> Q (exOf ex) a' w')
  (hQp : ∀ v a' w',PanOk E (CLk T F true) F pt onp B M D0 ρ H w st.hp.length ex st' v a' w' -> Q (.panic [{ v:=v,recovered:=false }]) a' w') : (Code.region id ops true).wpIn (Fw none) 0 P Q a w:=by
 unfold drawnD at h
 cases m with
 | zero=>simp [dC] at h
 | succ m1=>
 simp only [dC] at h
 cases m1 with
 | zero=>simp [dC] at h
 | succ m2=>
 rw [show dC E (m2 + 1) (.region true ap pre') st = (checkAp pre' ap (stepOpsD E (runP E (dC E m2)) (runS E (dC E m2)) (runY (dC E m2)) st.hp.length pre' ⟨st.sl,st.hp ++ List.replicate pre'.length .dead⟩)).map fun st'=>(Ex.normal,st') from rfl] at h
 cases hr : checkAp pre' ap (stepOpsD E (runP E (dC E m2)) (runS E (dC E m2)) (runY (dC E m2)) st.hp.length pre' ⟨st.sl,st.hp ++ List.replicate pre'.length .dead⟩) with
 | none=>rw [hr] at h; simp at h
 | some st1=>
 rw [hr] at h
 simp only [Option.map_some] at h
 have K2:=K m2 (by omega)
 have hlen1 : st.sl.length = st1.sl.length:=by
  unfold checkAp at hr
  split at hr
  ·rename_i s2 h2
   split at hr
   ·simp only [Option.some.injEq] at hr; subst hr
    have:=z49 h2
    exact this
   ·simp at hr
  ·simp at hr
 refine Go.wpIn_region_any hmix ?_
 have hsz : ops.size = pre.length + 2:=by
  have:=congrArg List.length hops
  simpa using this
 have g1 : ops[pre.length]? = some o1:=by
  have : ops.toList[pre.length]? = some o1:=by rw [hops]; simp
  simpa using this
 have g2 : ops[pre.length + 1]? = some o2:=by
  have : ops.toList[pre.length + 1]? = some o2:=by rw [hops]; simp
  simpa using this
 obtain ⟨tab,htab,hall⟩:=ht.tab
 rw [hsz,show Array.replicate (pre.length + 2) false = ((Array.replicate pre.length false).push false).push false from by
  rw [Array.replicate_succ,Array.replicate_succ]]
 refine zpk (k:=pre.length) (pre:=pre.toArray) (by simp) (fun i hi=>?_) g1 g2 hsz (fun i o ho=>hgp o (List.mem_of_getElem? (by simpa using ho))) ht.back htab hall ht.last pre.length (Array.replicate pre.length false) a _ (by simp) (fun i hi=>?_) ?_
 ·have : ops.toList[i]? = pre[i]?:=by rw [hops,List.getElem?_append_left hi]
  simpa using this
 ·exfalso
  simp [Array.getD_eq_getD_getElem?,Array.getElem?_replicate] at hi
  split at hi <;> simp at hi
 have main:=zao TA FO K2.pure K2.stat K2.yld (r:=none) (ops:=pre.toArray) (ds:=pre') (ap:=ap) (Q:=tailQ (Fw none) 0 P ops pre.length Q) (a:=a) (w:=w) (st:=st) (stF:=st1) (by simpa using h1) hdk hr S hs (fun a1 w1 ρ1 H1 p1 hs1 hl1 hd1=>by
  show Go.wpOpsIn (Fw none) 0 P ops Q [pre.length,pre.length + 1] a1 w1
  rw [Go.wpOpsIn_cons]
  obtain ⟨f,args,at_,c1,c2,c3⟩:=s1.op
  refine zjr FO (fun j hj=>K j (by omega)) g1 c1 c2 c3 s1.dst s1.gd s1.md h p1 hl1 hs1 (hd1.trans hdf) (hm.mono p1.frD) (by have:=s1.lt; omega) Q (fun m' d hp1 a2 w2 ρ2 H2 hm' p2 hs2 hl2 hd2 hm2 h3=>?_) hQp
  rw [Go.wpOpsIn_cons]
  obtain ⟨f',args',at',c1',c2',c3'⟩:=s2.op
  refine zjr FO (fun j hj=>K j (by omega)) g2 c1' c2' c3' s2.dst s2.gd s2.md h3 p2 hl2 hs2 hd2 hm2 (by have:=s2.lt; simp only [putO,List.length_set]; omega) Q (fun m'' d' hp2 a3 w3 ρ3 H3 hm'' p3 hs3 hl3 hd3 hm3 h4=>?_) hQp
  cases m'' with
  | zero=>simp [dC] at h4
  | succ m''=>
  simp only [dC,Option.some.injEq,Prod.mk.injEq] at h4
  obtain ⟨rfl,rfl⟩:=h4
  exact hQ a3 w3 ⟨ρ3,H3,l,p3,hs3,hl3,hd3,hm3⟩ (fun i e=>by cases e))
 simpa using main

theorem codeP (TA : TAll P E T) (FO : FnsOk P F) {onp : Nat -> DC} (hL : Leaves E onp) {n : Nat} (KC : ∀ m,m <= n -> CodeAt P T F (dC E m)) (K : ∀ m,m < n -> Known P E T F pt m) {N : Nat} : ∀ m,m <= n -> CodePAt P E T F pt onp N m:=by
 intro m
 induction m using Nat.strongRecOn with
 | _ m ih=>
 intro hmn c dc hcl B M D0 st st' ex ρ H a w l h hN S hs hdf hm hM Q hQ hQp
 cases hcl with
 | base hb hxb=>exact KC m hmn false c dc hb none (fun _=>rfl) B M D0 st st' ex ρ H a w l h S hs hdf hm hM Q (fun a' w' ok=>hQ a' w' ok (fun i e=>zu3 hxb (e ▸ h)))
 | seq h1 h2=>
  cases m with
  | zero=>simp [dC] at h
  | succ m=>
  simp only [dC] at h
  refine Go.wpIn_seq ?_
  split at h
  ·rename_i st1 hx
   refine ih m (by omega) (by omega) _ _ h1 B M D0 st st1 .normal ρ H a w l hx hN S hs hdf hm hM _ (fun a1 w1 ok1 _=>?_) (fun v a1 w1 pk=>absurd rfl (pk.leaves hL).1)
   obtain ⟨ρ1,H1,l1,p1,hs1,hlen1,hd1,hm1⟩:=ok1
   exact ih m (by omega) (by omega) _ _ h2 B M D0 st1 st' ex ρ1 H1 a1 w1 l1 h (by rw [<- zq6 hx]; exact hN) p1.sr hs1 hd1 hm1 (Nat.le_trans hM p1.size) Q (fun a2 w2 ok2 hxi=>hQ a2 w2 (ok2.after' p1 hlen1) hxi) (fun v a2 w2 pk=>hQp v a2 w2 (pk.after p1 hlen1))
  ·rename_i hne
   refine ih m (by omega) (by omega) _ _ h1 B M D0 st st' ex ρ H a w l h hN S hs hdf hm hM _ (fun a1 w1 ok1 hxi=>?_) (fun v a1 w1 pk=>?_)
   ·have q:=hQ a1 w1 ok1 hxi
    cases ex with
    | normal=>exact absurd h (hne st')
    | exit id=>exact q
    | ret=>exact q
   ·exact hQp v a1 w1 pk
 | cond hc h1 h2=>
  cases m with
  | zero=>simp [dC] at h
  | succ m=>
  simp only [dC] at h
  have hv:=z6 S.hb hs hc
  split at h
  ·rename_i hg
   rw [hg] at hv
   exact Go.wpIn_cond_true hv.boolv (ih m (by omega) (by omega) _ _ h1 B M D0 st st' ex ρ H a w l h hN S hs hdf hm hM Q hQ hQp)
  ·rename_i hg
   rw [hg] at hv
   exact Go.wpIn_cond_false hv.boolv (ih m (by omega) (by omega) _ _ h2 B M D0 st st' ex ρ H a w l h hN S hs hdf hm hM Q hQ hQp)
  ·simp at h
 | block hid h1=>
  rename_i id x x'
  cases m with
  | zero=>simp [dC] at h
  | succ m=>
  simp only [dC] at h
  refine Go.wpIn_block ?_
  split at h
  ·rename_i id' st1 hx
   simp only [Option.some.injEq,Prod.mk.injEq] at h
   obtain ⟨h3,rfl⟩:=h
   refine ih m (by omega) (by omega) _ _ h1 B M D0 st st1 (.exit id') ρ H a w l hx hN S hs hdf hm hM _ (fun a1 w1 ok1 hxi=>?_) (fun v a1 w1 pk=>?_)
   rotate_left
   ·have h5:=(pk.leaves hL).2 id' rfl
    rw [if_neg (by omega)] at h3
    subst h3
    exact hQp v a1 w1 pk
   have hid':=hxi id' rfl
   have q:=hQ a1 w1 ok1 (fun i e=>by
    split at h3
    ·rw [<- h3] at e; cases e
    ·rw [<- h3] at e; cases e; exact hid')
   simp only [exOf,Exit.inBlock]
   split at h3
   ·rename_i e; rw [if_pos e]; subst h3; exact q
   ·rename_i e; rw [if_neg e]; subst h3; exact q
  ·rename_i hne
   refine ih m (by omega) (by omega) _ _ h1 B M D0 st st' ex ρ H a w l h hN S hs hdf hm hM _ (fun a1 w1 ok1 hxi=>?_) (fun v a1 w1 pk=>?_)
   ·have q:=hQ a1 w1 ok1 hxi
    cases ex with
    | normal=>exact q
    | exit id'=>exact absurd h (hne id' st')
    | ret=>exact q
   ·exact hQp v a1 w1 pk
 | loop h1=>
  cases m with
  | zero=>simp [dC] at h
  | succ m=>exact zhg hL (fun j hj=>ih j (by omega) (by omega)) h1 h hN S hs hdf hm hM Q hQ hQp
 | pan hops h1 ho1 hd1 hg1 ho2 hg2 hx hmk ht hi=>exact zng TA FO (fun j hj=>K j (by omega)) hops h1 ho1 hd1 hg1 ho2 hg2 hx hmk ht h S hs hdf hm (by omega) Q hQp
 | drawn hmix hops h1 hdk hgp s1 s2 ht=>exact zih hmix TA FO (fun j hj=>K j (by omega)) hops h1 hdk hgp s1 s2 ht h hN S hs hdf hm Q hQ hQp
 | site hops h1 ho hf ha hd hg hmd hkN h2=>exact zjq TA FO (fun j hj=>K j (by omega)) hops h1 ho hf ha hd hg hmd h2 h S hs hdf hm (by omega) Q hQ hQp

end
end Dv

namespace Dv
open Go (Value Program World Act Oper Operand Code Ending Exit)

structure FnM (P : Program) (T F : Phi) (pt : Nat × Nat) (f : Nat) (G : DFn) : Prop where
 tie : ∃ fn c,P.funcs[f]? = some fn /\ fn.body = some c /\ fn.ntmps = G.ntmps /\ RvL T fn.results.toList G.results /\ CLp P pt T F (fun k=>.exit (panX + k)) G.ntmps c G.body

def Hatch (P : Program) (E : Env) (T F : Phi) (pt : Nat × Nat) (f f' : Nat) : Prop:=
 ∀ n,(∀ m,m <= n -> CodeAt P T F (dC E m)) -> (∀ m,m < n -> Known P E T F pt m) -> StatAt P (CLk T F true) F (runS E (dC E n) f') f

structure Tie (P : Program) (E : Env) (T F : Phi) : Prop where
 types : TAll P E T
 mixed : P.follows .mixedOrders = true
 ok : FnsOk P F
 fns : ∃ pt,∀ f f' G,F f = some f' -> E.fn f' = some G -> (E.mp f' = false /\ (FnL P T F f G \/ Hatch P E T F pt f f')) \/ (E.mp f' = true /\ FnM P T F pt f G)

section
variable {P : Program} {E : Env} {CL : CLink} {F : Phi} {T : Phi} {B M : Nat} {D0 : List Go.Deferred} {K : Nat -> Prop} {ρ : Rho} {H : HS} {os : List Obj} {w : World} {a : Act} {sl : List D} {pt : Nat × Nat}

theorem zks {r : Option Nat} {Q : Exit -> Act -> World -> Prop} (ex : Ex) (h : Q (exOf ex) a w) : (exCode ex).wpIn (Fw r) 0 P Q a w:=by
 cases ex with
 | normal=>exact Go.wpIn_skip h
 | exit id=>exact Go.wpIn_exit h
 | ret=>exact Go.wpIn_ret h

theorem zgz (o : Go.Obj) : (Go.newObj o).run P w = .ok w.heap.size { w with heap:=w.heap.push o }:=by
 simp [Go.newObj,Go.Sem.run]

theorem zh2 (t : Tie P E T F) {n : Nat} (hK : Known P E T F pt n) {f : Operand} {f' : Opd} {ps : Array Nat} {asg body : Code} {asg' body' : DC} (hf : stripOpd F f = some f') (h1 : CLk T F true asg asg') (h2 : CLk T F true body body')
  {st st' : St} {ex : Ex} {l : List Nat} (h : dC E (n + 1) (.rfunc f' ps.toList asg' body') st = some (ex,st')) (S : SR (CLk T F true) F B ρ H w.heap st.hp) (hs : RepL F ρ H w.heap a.tmps.toList st.sl) (hd : a.defers = l.map mkMark ++ D0) (hm : Marks M w.heap l) (hM : M <= w.heap.size)
  (Q : Exit -> Act -> World -> Prop) (hQ : ∀ a' w',Ok (CLk T F true) F B M D0 ρ H w st.hp.length st' a' w' -> Q (exOf ex) a' w') : (Code.rangeFunc f ps asg body).wpIn (Fw none) 0 P Q a w:=by
 refine Go.wpIn_rangeFunc fun fn _=>?_
 simp only [dC] at h
 split at h
 ·rename_i k caps hg0
  obtain ⟨hg,hmp⟩:=zl3 hg0
  split at h
  ·rename_i dd hp' hrun
   -- the record is laid
   have hLo : ∃ L : Go.Loop,L = { state:=.ready,pending:=none,fn:=fn,tmps:=a.tmps,params:=ps,assign:=asg,body:=body,defers:=w.heap.size }:=⟨_,rfl⟩
   obtain ⟨L,hL⟩:=hLo
   obtain ⟨w1,hw1⟩ : ∃ w1 : World,w1 = { w with heap:=(w.heap.push (.deferred (some []))).push (.loop L) }:=⟨_,rfl⟩
   have e0 : (Go.Instr.enterLoop fn a.tmps ps asg body none).run P w = .ok (w.heap.size + 1,[mkMark w.heap.size]) w1:=by
    unfold Go.Instr.enterLoop
    simp only [Go.Sem.run_bind,zgz,Go.Result.andThen_ok,Go.Sem.run_pure]
    rw [hw1,hL]
    simp [mkMark]
   have hw1h : w1.heap = (w.heap.push (.deferred (some []))).push (.loop L):=by rw [hw1]
   have hbl : w1.heap[w.heap.size + 1]? = some (.loop L):=by rw [hw1h,show w.heap.size + 1 = (w.heap.push (.deferred (some []))).size from by simp]; exact z3v _ _
   have hbd : w1.heap[w.heap.size]? = some (.deferred (some [])):=by rw [hw1h]; simp [Array.getElem?_push]
   have g : Grew H H w.heap w1.heap:=by
    have g1:=z4h H w.heap (.deferred (some []))
    have g2:=z4h H (w.heap.push (.deferred (some []))) (.loop L)
    rw [hw1h]
    exact ⟨Nat.le_trans g1.size g2.size,fun b hb=>(g2.old b (Nat.lt_of_lt_of_le hb g1.size)).trans (g1.old b hb),fun _ _ h=>h,fun _ _ h=>.inl h⟩
   have hsz1 : w1.heap.size = w.heap.size + 2:=by rw [hw1h]; simp
   have S1:=S.grew g
   have fr:=S1.free
   have hfz1 : FzAt w.heap w1.heap:=by rw [hw1h]; exact FzAt.trans (FzAt.push _ (by intro arr el fr h; cases h)) (FzAt.push _ (by intro arr el fr h; cases h))
   have hst1 : Still w w1:=by rw [hw1]; exact ⟨rfl,rfl,rfl,Nat.le_refl _⟩
   have p0 : PostT (CLk T F true) F B (fun i=>i < st.hp.length) ρ H w ρ H w1 st.hp:=g.postT S hfz1 hst1
   have x2:=fr.ext (.blk (w.heap.size + 1) 0) H w1.heap
   have S2 : SR (CLk T F true) F B (upd ρ st.hp.length (.blk (w.heap.size + 1) 0)) H w1.heap (st.hp ++ [.loop false st.sl ps.toList asg' body' none]):=by
    rw [<- zgk]
    refine S1.add fr (o:=.loop false st.sl ps.toList asg' body' none) (bk:=.blk (w.heap.size + 1) 0) ?_ ?_ ?_ ?_
    ·refine ⟨_,_,rfl,L,hbl,?_,by rw [hL],by rw [hL]; exact h1,by rw [hL]; exact h2,by rw [hL]; rfl,by rw [hL]; rfl⟩
     rw [hL]
     exact (hs.mono (g.ext ρ S.hb)).mono x2
    ·intro b c e; simp at e; obtain ⟨rfl,rfl⟩:=e; have:=S.hB; omega
    ·intro b c e i o' c' ho hl r; simp at e; obtain ⟨rfl,rfl⟩:=e
     have:=(S.own i o' _ c' ho hl r).2; omega
    ·intro cs b c e; cases e
   have p1 : PostT (CLk T F true) F B (fun i=>i < st.hp.length) ρ H w (upd ρ st.hp.length (.blk (w.heap.size + 1) 0)) H w1 (st.hp ++ [.loop false st.sl ps.toList asg' body' none]):=
    ⟨(g.ext ρ S.hb).trans x2,S2,g.size,p0.frB,p0.frD,p0.hnew,fun i hi hn=>by
     simp only [upd]; rw [if_neg (Nat.ne_of_lt hi)]; exact hn,hfz1,hst1,p0.frame,rbU (.inr (by omega)),p0.hn⟩
   -- the call
   have ef:=z6 S.hb hs hf
   rw [hg] at ef
   generalize hvf : a.eval f = vf at ef
   cases ef with
   | fn gf gf' cvs caps' hF hcs hcr=>
    have hargs : RepL F (upd ρ st.hp.length (.blk (w.heap.size + 1) 0)) H w1.heap (#[Value.func (.yield (w.heap.size + 1)) #[] #[]] ++ cvs).toList (.yld st.hp.length :: caps):=by
     simp only [Array.toList_append,List.cons_append,List.nil_append]
     refine .cons (.yld _ 0 _ (by simp [upd])) ?_
     exact ⟨by simpa using hcs,fun j v d hv hd=>(hcr j v d (by simpa using hv) hd).mono ((g.ext ρ S.hb).trans x2)⟩
    refine ⟨w.heap.size + 1,[mkMark w.heap.size],w1,{ target:=.fn (.func gf) cvs,args:=#[] ++ #[Value.func (.yield (w.heap.size + 1)) #[] #[]] },w1,gf,#[Value.func (.yield (w.heap.size + 1)) #[] #[]] ++ cvs,w1,e0,?_,fun _ _=>trivial,?_,by simp [Fw,Go.Fence.wide],?_⟩
    ·simp only [Go.resolve,hvf,Go.Deferred.ofValue]
     simp [Act.eval]
    ·simp [Go.invoke,z4n t.ok hF]
    ·refine (hK.plain gf k hF hmp none B _ H _ hp' w1 _ _ dd hrun S2 hargs).mono fun e w3 he=>?_
     cases e with
     | panicked c=>exact he.elim
     | outgrown=>exact he.elim
     | returned v=>
      obtain ⟨hlen3,ρ3,H3,p3,_⟩:=he
      have hr3 : ρ3 st.hp.length = some (.blk (w.heap.size + 1) 0):=p3.ext.rho _ _ (by simp [upd])
      have p13 : PostT (CLk T F true) F B (fun i=>i < st.hp.length) ρ H w ρ3 H3 w3 hp':=p1.trans (p3.weaken fun i hi=>by simp; omega)
      -- after the call
      have fin : ∀ (slots : List D) (ps2 : List Nat) (asg2 body2 : DC) (pend : Option Ex),hp'[st.hp.length]? = some (.loop false slots ps2 asg2 body2 pend) -> st' = ⟨st.sl,hp'.set st.hp.length .dead⟩ -> ex = pend.getD .normal ->
        Go.rangePost (Fw none) 0 P (w.heap.size + 1) Q { a with defers:=[mkMark w.heap.size] ++ a.defers } (.returned v) w3:=by
       intro slots ps2 asg2 body2 pend ho hst hex
       obtain ⟨L3,hb3,ht3,hps3,ha3,hb3',hst3,hpe3⟩:=zbj p3.sr hr3 ho
       obtain ⟨w4,hw4⟩ : ∃ w4 : World,w4 = { w3 with heap:=w3.heap.setIfInBounds (w.heap.size + 1) (.loop { L3 with state:=.exhausted }) }:=⟨_,rfl⟩
       have hend : (Go.Instr.endLoop (w.heap.size + 1)).run P w3 = .ok L3.pending w4:=by
        have hnb : (L3.state == Go.LoopState.busy) = false:=by rw [hst3]; cases pend <;> rfl
        unfold Go.Instr.endLoop
        simp only [Go.Sem.run_bind,z3t hb3,Go.Result.andThen_ok,hnb]
        rw [hw4]
        simp [Go.setObj,Go.Sem.run,hb3]
       have S4:=(p3.sr.kill st.hp.length).setFree (b:=w.heap.size + 1) (o:=.loop { L3 with state:=.exhausted }) (by rw [hb3]; intro a el fr h; cases h) (by intro a el fr h; cases h) (fun i o' c hi hl r=>by
        rw [List.getElem?_set] at hi
        split at hi
        ·split at hi
         ·simp at hi; subst hi; simp [Obj.live] at hl
         ·simp at hi
        ·rename_i hne
         exact hne (p3.sr.inj st.hp.length i _ o' (w.heap.size + 1) 0 c ho rfl hi hl hr3 r))
       have other : ∀ b,b ≠ w.heap.size + 1 -> w4.heap[b]? = w3.heap[b]?:=fun b hb=>by rw [hw4]; simp [Array.getElem?_setIfInBounds,Ne.symm hb]
       have hheap4 : w4.heap = w3.heap.setIfInBounds (w.heap.size + 1) (.loop { L3 with state:=.exhausted }):=by rw [hw4]
       have p4 : PostT (CLk T F true) F B (fun i=>i < st.hp.length) ρ H w ρ3 H3 w4 (hp'.set st.hp.length .dead):=by
        rw [<- hheap4] at S4
        refine ⟨p13.ext.trans S4.2,S4.1,by rw [hheap4]; simpa using p13.size,fun b hb=>?_,fun b ds hdd=>?_,p13.hnew,p13.vac,p13.fz.trans ?_,p13.still.trans ?_,fun b hb ho=>by rw [other b (by omega)]; exact p13.frame b hb ho,p13.rb,p13.hn⟩
        ·rw [other b (by have:=S.hB; omega)]; exact p13.frB b hb
        ·rw [other b (by have:=z2m hdd; omega)]; exact p13.frD b ds hdd
        ·exact FzAt.at (b:=w.heap.size + 1) (o:=.loop { L3 with state:=.exhausted }) (by rw [hheap4,Array.getElem?_setIfInBounds]; simp [z2m hb3]) (by intro arr el fr h; cases h) other
        ·rw [hw4]; exact ⟨rfl,rfl,rfl,Nat.le_refl _⟩
       refine ⟨L3.pending,w4,hend,?_⟩
       have ok : Ok (CLk T F true) F B M D0 ρ H w st.hp.length st' { a with defers:=[mkMark w.heap.size] ++ a.defers } w4:=by
        refine ⟨ρ3,H3,w.heap.size :: l,by rw [hst]; exact p4,by rw [hst]; exact hs.mono p4.ext,by rw [hst]; simp at hlen3 ⊢; omega,by simp [hd],⟨List.nodup_cons.2 ⟨fun hin=>?_,hm.nd⟩,fun r hr=>?_⟩⟩
        ·have:=z2m (hm.at_ _ hin).2; omega
        ·rcases List.mem_cons.1 hr with rfl | hr
         ·refine ⟨hM,?_⟩
          rw [other _ (by omega)]; exact p3.frD _ _ hbd
         ·have h0:=(hm.at_ r hr).2
          refine ⟨(hm.at_ r hr).1,?_⟩
          exact p4.frD r _ h0
       have q:=hQ _ _ ok
       rw [hpe3]
       cases pend with
       | none=>subst hex; exact q
       | some ex2=>
        have e2 : ex = ex2:=hex
        rw [e2] at q
        exact zks ex2 q
      split at h
      ·rename_i slots ps2 asg2 body2 ho
       simp at h
       exact fin _ _ _ _ none ho h.2.symm h.1.symm
      ·rename_i slots ps2 asg2 body2 ex2 ho
       simp at h
       exact fin _ _ _ _ (some ex2) ho h.2.symm h.1.symm
      ·simp at h
  ·simp at h
 ·simp at h

theorem zki {n : Nat} (hC : ∀ m,m <= n -> CodeAt P T F (dC E m)) {b : Bool} {x : Code} {x' : DC} (h1 : CLk T F b x x') {r : Option Nat} (hr : b = false -> r = none)
  {st st' : St} {ex : Ex} {l : List Nat} (h : dC E (n + 1) (.loop x') st = some (ex,st')) (S : SR (CLk T F true) F B ρ H w.heap st.hp) (hs : RepL F ρ H w.heap a.tmps.toList st.sl) (hd : a.defers = l.map mkMark ++ D0) (hm : Marks M w.heap l) (hM : M <= w.heap.size)
  (Q : Exit -> Act -> World -> Prop) (hQ : ∀ a' w',Ok (CLk T F true) F B M D0 ρ H w st.hp.length st' a' w' -> Q (exOf ex) a' w') : (Code.loop x).wpIn (Fw r) 0 P Q a w:=by
 -- what holds ahead of each round,with the fuel that is left
 classical
 let good : Nat -> Act -> World -> Prop:=fun m a1 w1=>m <= n /\ ∃ st1,dC E (m + 1) (.loop x') st1 = some (ex,st') /\ Ok (CLk T F true) F B M D0 ρ H w st.hp.length st1 a1 w1
 have start : good n a w:=⟨Nat.le_refl _,st,h,ρ,H,l,PostT.refl S,hs,Nat.le_refl _,hd,hm⟩
 refine Go.wpIn_loop (fun a1 w1=>∃ m,good m a1 w1) (fun a1 w1=>if hx : ∃ m,good m a1 w1 then Classical.choose (least (fun m=>good m a1 w1) hx) else 0) ⟨n,start⟩ (fun a1 w1 hx=>?_)
 have hmin:=Classical.choose_spec (least (fun m=>good m a1 w1) hx)
 rw [dif_pos hx]
 generalize Classical.choose (least (fun m=>good m a1 w1) hx) = m at hmin
 obtain ⟨⟨hmn,st1,hrun,ok1⟩,_⟩:=hmin
 obtain ⟨ρ1,H1,l1,p1,hs1,hlen1,hd1,hm1⟩:=ok1
 simp only [dC] at hrun
 split at hrun
 ·rename_i st2 hbody
  refine hC m hmn b x x' h1 r hr B M D0 st1 st2 .normal ρ1 H1 a1 w1 l1 hbody p1.sr hs1 hd1 hm1 (Nat.le_trans hM p1.size) _ (fun a2 w2 ok2=>?_)
  have ok : Ok (CLk T F true) F B M D0 ρ H w st.hp.length st2 a2 w2:=ok2.after' p1 hlen1
  cases m with
  | zero=>simp [dC] at hrun
  | succ m=>
   have gm : good m a2 w2:=⟨by omega,st2,hrun,ok⟩
   refine ⟨⟨m,gm⟩,?_⟩
   rw [dif_pos ⟨m,gm⟩]
   have:=(Classical.choose_spec (least (fun m=>good m a2 w2) ⟨m,gm⟩)).2 m gm
   omega
 ·rename_i hne
  refine hC m hmn b x x' h1 r hr B M D0 st1 st' ex ρ1 H1 a1 w1 l1 hrun p1.sr hs1 hd1 hm1 (Nat.le_trans hM p1.size) _ (fun a2 w2 ok2=>?_)
  have q:=hQ a2 w2 (ok2.after' p1 hlen1)
  cases ex with
  | normal=>exact absurd hrun (hne st')
  | exit id=>exact q
  | ret=>exact q

theorem zlz (t : Tie P E T F) {n : Nat} (K : ∀ m,m < n -> Known P E T F pt m) : CodeAt P T F (dC E n):=by
 cases n with
 | zero=>intro b c dc _ r _ B M D0 st st' ex ρ H a w l h; simp [dC] at h
 | succ n=>
 have hK:=K n (by omega)
 have hC:=hK.code
 have hP:=hK.pure
 have hS:=hK.stat
 have hY:=hK.yld
 intro b c dc hcl r hr B M D0 st st' ex ρ H a w l h S hs hd hm hM Q hQ
 cases hcl with
 | skip=>
  simp [dC] at h; obtain ⟨rfl,rfl⟩:=h
  exact Go.wpIn_skip (hQ a w ⟨ρ,H,l,PostT.refl S,hs,Nat.le_refl _,hd,hm⟩)
 | ret=>
  simp [dC] at h; obtain ⟨rfl,rfl⟩:=h
  exact Go.wpIn_ret (hQ a w ⟨ρ,H,l,PostT.refl S,hs,Nat.le_refl _,hd,hm⟩)
 | exit=>
  simp [dC] at h; obtain ⟨rfl,rfl⟩:=h
  exact Go.wpIn_exit (hQ a w ⟨ρ,H,l,PostT.refl S,hs,Nat.le_refl _,hd,hm⟩)
 | seq h1 h2=>
  simp only [dC] at h
  refine Go.wpIn_seq ?_
  split at h
  ·rename_i st1 hx
   refine hC _ _ _ h1 r hr B M D0 st st1 .normal ρ H a w l hx S hs hd hm hM _ (fun a1 w1 ok1=>?_)
   obtain ⟨ρ1,H1,l1,p1,hs1,hlen1,hd1,hm1⟩:=ok1
   refine hC _ _ _ h2 r hr B M D0 st1 st' ex ρ1 H1 a1 w1 l1 h p1.sr hs1 hd1 hm1 (Nat.le_trans hM p1.size) Q (fun a2 w2 ok2=>hQ a2 w2 (ok2.after' p1 hlen1))
  ·rename_i hne
   refine hC _ _ _ h1 r hr B M D0 st st' ex ρ H a w l h S hs hd hm hM _ (fun a1 w1 ok1=>?_)
   have q:=hQ a1 w1 ok1
   cases ex with
   | normal=>exact absurd h (hne st')
   | exit id=>exact q
   | ret=>exact q
 | cond hc h1 h2=>
  simp only [dC] at h
  have hv:=z6 S.hb hs hc
  split at h
  ·rename_i hg
   rw [hg] at hv
   exact Go.wpIn_cond_true hv.boolv (hC _ _ _ h1 r hr B M D0 st st' ex ρ H a w l h S hs hd hm hM Q hQ)
  ·rename_i hg
   rw [hg] at hv
   exact Go.wpIn_cond_false hv.boolv (hC _ _ _ h2 r hr B M D0 st st' ex ρ H a w l h S hs hd hm hM Q hQ)
  ·simp at h
 | block h1=>
  rename_i id x x'
  simp only [dC] at h
  refine Go.wpIn_block ?_
  split at h
  ·rename_i id' st1 hx
   simp only [Option.some.injEq,Prod.mk.injEq] at h
   obtain ⟨h3,rfl⟩:=h
   refine hC _ _ _ h1 r hr B M D0 st st1 (.exit id') ρ H a w l hx S hs hd hm hM _ (fun a1 w1 ok1=>?_)
   have q:=hQ a1 w1 ok1
   simp only [exOf,Exit.inBlock]
   split at h3
   ·rename_i e; rw [if_pos e]; subst h3; exact q
   ·rename_i e; rw [if_neg e]; subst h3; exact q
  ·rename_i hne
   refine hC _ _ _ h1 r hr B M D0 st st' ex ρ H a w l h S hs hd hm hM _ (fun a1 w1 ok1=>?_)
   have q:=hQ a1 w1 ok1
   cases ex with
   | normal=>exact q
   | exit id'=>exact absurd h (hne id' st')
   | ret=>exact q
 | dead=>simp [dC,getO] at h
 | loop h1=>exact zki (fun m hmn=>(K m (by omega)).code) h1 hr h S hs hd hm hM Q hQ
 | rfunc hf h1 h2=>
  obtain rfl:=hr rfl
  exact zh2 t hK hf h1 h2 h S hs hd hm hM Q hQ
 | region hl=>
  rename_i id ops ap ds
  simp only [dC,Option.map_eq_some_iff,Prod.mk.injEq] at h
  obtain ⟨st1,h1,rfl,rfl⟩:=h
  refine Go.wpIn_region ?_
  have:=z5v t.types t.ok hP hS hY (r:=r) (Q:=Q) ds 0 (by simpa using hl) h1 S hs (fun a' w' ρ' H' p hs' hlen hdf=>hQ a' w' ⟨ρ',H',l,p,hs',hlen,hdf.trans hd,hm.mono p.frD⟩)
  have hsz : ops.size = ds.length:=by simpa using hl.len
  rw [List.range_eq_range',hsz]
  exact this
 | asg A e=>
  rename_i id ops ap ds pre q iL iB
  simp only [dC,Option.map_eq_some_iff,Prod.mk.injEq] at h
  obtain ⟨st1,h1,rfl,rfl⟩:=h
  rw [e] at h1
  exact zpf t.mixed t.types t.ok hP hS hY A h1 S hs (fun a' w' ρ' H' p hs' hlen hdf=>hQ a' w' ⟨ρ',H',l,p,hs',hlen,hdf.trans hd,hm.mono p.frD⟩)
 | draw hl hdo=>
  rename_i id ops ap ds
  simp only [dC,if_true,Option.map_eq_some_iff,Prod.mk.injEq] at h
  obtain ⟨st1,h1,rfl,rfl⟩:=h
  exact zlr t.mixed t.types t.ok hP hS hY hl hdo h1 S hs (fun a' w' ρ' H' p hs' hlen hdf=>hQ a' w' ⟨ρ',H',l,p,hs',hlen,hdf.trans hd,hm.mono p.frD⟩)

theorem z7g {fn : Go.Func} {tmps : Array Value} {r : Option Nat} {R : Ending -> World -> Prop} {chain} : ∀ (l : List Nat) (w : World),
  (∀ x,x ∈ l -> w.heap[x]? = some (.deferred (some []))) -> l.Nodup ->
  (∀ w',(w'.heap = l.foldl (fun hp x=>hp.setIfInBounds x (.deferred none)) w.heap /\ Still w w') -> R (.panicked chain) w') ->
  Go.LeavesInM (Fw r) 0 P fn tmps R (l.map mkMark) (.panicking chain) w
 | [],w,_,_,h=>h w ⟨rfl,Still.refl _⟩
 | x :: l,w,hm,hnd,h=>by
  have hx:=hm x (by simp)
  obtain ⟨hnx,hnd⟩:=List.nodup_cons.1 hnd
  refine ⟨fun e=>(by cases e),.inl ⟨x,{ w with heap:=w.heap.setIfInBounds x (.deferred none) },rfl,?_,?_⟩⟩
  ·unfold Go.Instr.takeDeferred
   simp [Go.getObj,Go.setObj,Go.Sem.run,hx]
  ·refine z7g l _ (fun y hy=>?_) hnd (fun w' he=>h w' ⟨he.1,he.2.os,he.2.tape,he.2.out,he.2.dr⟩)
   have : x ≠ y:=fun e=>hnx (by rw [e]; exact hy)
   simp only [Array.getElem?_setIfInBounds_ne this]
   exact hm y (by simp [hy])

theorem zek : Leaves E (fun k=>.exit (panX + k)):=by
 intro k j st ex st' h
 cases j with
 | zero=>simp [dC] at h
 | succ j=>
  simp only [dC,Option.some.injEq,Prod.mk.injEq] at h
  rw [<- h.1]
  exact ⟨by simp,fun i e=>by cases e; omega⟩

theorem zdz {fn : Go.Func} {G : DFn} {vals : Array Value} {ds : List D} (hnt : fn.ntmps = G.ntmps) (hr : RepL F ρ H w.heap vals.toList ds) : RepL F ρ H w.heap (vals ++ Array.replicate (fn.ntmps - vals.size) Go.undef).toList (startF G ds os).sl:=by
 simp only [startF,Array.toList_append,Array.toList_replicate]
 have : vals.size = ds.length:=by simpa using hr.1
 rw [this,hnt]
 exact hr.append ⟨by simp,fun j v d hv hd=>by
  rw [List.getElem?_replicate] at hv hd
  split at hv
  ·rename_i hj
   rw [if_pos hj] at hd
   simp at hv hd; subst hv; subst hd; exact .u0
  ·simp at hv⟩

theorem zn7 (TA : TAll P E T) (FO : FnsOk P F) {n f : Nat} {G : DFn} (KC : ∀ m,m <= n -> CodeAt P T F (dC E m)) (K : ∀ m,m < n -> Known P E T F pt m) (hf : FnM P T F pt f G) :
  StatMAt P (CLk T F true) F pt (fun ds os=>finishM E G (dC E n G.body (startF G ds os))) f:=by
 obtain ⟨fn,c,hfn,hb,hnt,hres,hcl⟩:=hf.tie
 intro r B ρ H os os' w vals ds d h S hr
 simp only at h
 have h0 : Go.CallsIn (Fw none) 0 P f vals w (StatMR (CLk T F true) F pt B ρ H os w d os'):=by
  refine Go.callsIn_of_wp_marks hfn hb trivial ?_
  have slots:=zdz (os:=os) hnt hr
  cases hrun : dC E n G.body (startF G ds os) with
  | none=>rw [hrun] at h; simp [finishM] at h
  | some x=>
  obtain ⟨ex,st'⟩:=x
  rw [hrun] at h
  have hlen : G.ntmps <= (startF G ds os).sl.length:=by simp [startF]; omega
  refine codeP TA FO zek KC K n (Nat.le_refl _) c G.body hcl B w.heap.size [] (startF G ds os) st' ex ρ H _ w [] hrun hlen S slots rfl ⟨.nil,fun r h=>by cases h⟩ (Nat.le_refl _) _ (fun a' w' ok hxi=>?_) (fun v a' w' pk=>?_)
  ·obtain ⟨ρ',H',l,p,hs',hlen,hdf,hm⟩:=ok
   have goal : noMark ((resD E st' G.results).map fun l=>(oneRes l,st'.hp)) = some (d,os') -> Go.LeavesInM (Fw none) 0 P fn a'.tmps (StatMR (CLk T F true) F pt B ρ H os w d os') a'.defers .returning w':=by
    intro hh
    obtain ⟨h1,hmk⟩:=zf hh
    simp only [Option.map_eq_some_iff,Prod.mk.injEq] at h1
    obtain ⟨rl,h1,rfl,rfl⟩:=h1
    rw [hdf,List.append_nil]
    refine z3z l w' (fun x hx=>(hm.at_ x hx).2) hm.nd (fun w2 he=>?_)
    obtain ⟨u1,u2,u3,u4,u5⟩:=unmark p.sr l w'.heap p.sr (fun x hx=>(hm.at_ x hx).2) hm.nd
    obtain ⟨he,hst2⟩:=he
    rw [<- he] at u1 u2 u3 u4 u5
    obtain ⟨v,h2,h3⟩:=z8d TA u1 (hs'.mono u2) hres h1
    refine ⟨v,h2,hmk,hlen,ρ',H',⟨p.ext.trans u2,u1,by rw [u3]; exact p.size,fun b hb=>?_,fun b ds' hd=>?_,p.hnew,p.vac,p.fz.trans u5,p.still.trans hst2,fun b hb ho=>by rw [u4 b (fun hbl=>by have:=(hm.at_ b hbl).1; omega)]; exact p.frame b hb ho,p.rb,p.hn⟩,h3⟩
    ·rw [u4 b (fun hbl=>by have:=(hm.at_ b hbl).1; have:=S.hB; omega)]
     exact p.frB b hb
    ·rw [u4 b (fun hbl=>by have:=(hm.at_ b hbl).1; have:=z2m hd; omega)]
     exact p.frD b ds' hd
   cases ex with
   | normal=>exact goal h
   | ret=>exact goal h
   | exit i=>
    have:=hxi i rfl
    simp only [finishM] at h
    rw [if_neg (by omega)] at h
    cases h
  ·obtain ⟨j,k,sl0,mk,hp,e,h1,h2,h3,h4,h5,a0,ok,hdf0,_⟩:=pk
   obtain ⟨ρ',H',l,p,hs',hlen,hdf,hm⟩:=ok
   have hx : ex = .exit (panX + k) /\ st' = ⟨sl0.set k mk,hp⟩:=by
    cases j with
    | zero=>simp [dC] at h1
    | succ j=>
     simp only [dC,Option.some.injEq,Prod.mk.injEq] at h1
     exact ⟨h1.1.symm,h1.2.symm⟩
   obtain ⟨rfl,rfl⟩:=hx
   have hg : (sl0.set k mk).getD k .undef = mk:=by rw [List.getD_eq_getElem?_getD,List.getElem?_set_self h2,Option.getD_some]
   simp only [finishM,Nat.add_sub_cancel_left,hg,h3,and_true,Nat.le_add_right,if_true,Option.some.injEq,Prod.mk.injEq] at h
   obtain ⟨rfl,rfl⟩:=h
   show Go.LeavesInM (Fw none) 0 P fn a'.tmps _ a'.defers (.panicking _) w'
   rw [hdf0,hdf,List.append_nil]
   refine z7g l w' (fun x hx=>(hm.at_ x hx).2) hm.nd (fun w2 he=>?_)
   obtain ⟨u1,u2,u3,u4,u5⟩:=unmark p.sr l w'.heap p.sr (fun x hx=>(hm.at_ x hx).2) hm.nd
   obtain ⟨he,hst2⟩:=he
   rw [<- he] at u1 u2 u3 u4 u5
   refine ⟨h3,⟨e,v,h4,h5,rfl⟩,hlen,ρ',H',⟨p.ext.trans u2,u1,by rw [u3]; exact p.size,fun b hb=>?_,fun b ds' hd=>?_,p.hnew,p.vac,p.fz.trans u5,p.still.trans hst2,fun b hb ho=>by rw [u4 b (fun hbl=>by have:=(hm.at_ b hbl).1; omega)]; exact p.frame b hb ho,p.rb,p.hn⟩⟩
   ·rw [u4 b (fun hbl=>by have:=(hm.at_ b hbl).1; have:=S.hB; omega)]
    exact p.frB b hb
   ·rw [u4 b (fun hbl=>by have:=(hm.at_ b hbl).1; have:=z2m hd; omega)]
    exact p.frD b ds' hd
 exact h0

theorem zkp (t : Tie P E T F) : ∃ pt,∀ n,Known P E T F pt n:=by
 obtain ⟨pt,hfns⟩:=t.fns
 refine ⟨pt,fun n=>?_⟩
 induction n using Nat.strongRecOn with
 | _ n K=>
 have hC:=zlz t K
 have KC : ∀ m,m <= n -> CodeAt P T F (dC E m):=fun m hm=>by
  rcases Nat.lt_or_eq_of_le hm with h | rfl
  ·exact (K m h).code
  ·exact hC
 have plain : ∀ f f',F f = some f' -> E.mp f' = false -> StatAt P (CLk T F true) F (runS E (dC E n) f') f:=by
  intro f f' hf hmp
  cases hG : E.fn f' with
  | none=>
   intro r B ρ H os os' w vals ds d h
   simp [runS,hG] at h
  | some G=>
   rcases hfns f f' G hf hG with ⟨_,h1 | h1⟩ | ⟨h1,_⟩
   ·have:=zcj t.types hC h1
    intro r B ρ H os os' w vals ds d h
    refine this r B ρ H os os' w vals ds d ?_
    simpa [runS,hG,hmp,finishQ] using h
   ·exact h1 n KC K
   ·rw [hmp] at h1; cases h1
 have mark : ∀ f f',F f = some f' -> E.mp f' = true -> StatMAt P (CLk T F true) F pt (runS E (dC E n) f') f:=by
  intro f f' hf hmp
  cases hG : E.fn f' with
  | none=>
   intro r B ρ H os os' w vals ds d h
   simp [runS,hG] at h
  | some G=>
   rcases hfns f f' G hf hG with ⟨h1,_⟩ | ⟨_,h1⟩
   ·rw [hmp] at h1; cases h1
   ·have:=zn7 t.types t.ok KC K h1
    intro r B ρ H os os' w vals ds d h
    refine this r B ρ H os os' w vals ds d ?_
    simpa [runS,hG,hmp,finishQ] using h
 have stat : ∀ f f',F f = some f' -> StatAt P (CLk T F true) F (fun ds os=>noMark (runS E (dC E n) f' ds os)) f:=fun f f' hf=>by
  cases hmp : E.mp f' with
  | true=>exact (mark f f' hf hmp).stat
  | false=>exact (plain f f' hf hmp).filter
 exact ⟨hC,fun f f' hf=>PureAt.of_filter (E.keep f') (stat f f' hf),stat,plain,zax hC,mark⟩

theorem za5 (t : Tie P E T F) (n : Nat) {f f' : Nat} (hf : F f = some f') : PureAt P F (runP E (dC E n) f') f:=by
 obtain ⟨pt,h⟩:=zkp t
 exact (h n).pure f f' hf

end
end Dv

namespace Dv
open Go (Value Program World Act Oper Operand Code)

def ktF (P : Program) (rec : Nat -> Option (List D)) : Nat -> List Go.Field -> Option (List D)
 | _,[]=>some []
 | off,f :: fs=>
  if f.offset = off /\ (f.name != "_") = true then
   (match rec f.type with
   | some ks=>if ks.length = P.cellsOf f.type then (ktF P rec (off + ks.length) fs).map (ks ++ ·) else none
   | none=>none)
  else none

def kt (P : Program) : Nat -> Nat -> Option (List D)
 | 0,_=>none
 | n + 1,t=>
  match P.underlying t with
  | some .bool=>some [.bool false]
  | some (.int q)=>some [.int q 0]
  | some .string=>some [.str []]
  | some (.struct fs)=>if P.stoodInHeld t then none else ktF P (kt P n) 0 fs.toList
  | some (.array m e)=>(match kt P n e with
   | some ks=>if ks.length = P.cellsOf e then some (List.replicate m ks).flatten else none
   | none=>none)
  | _=>none

def vo (P : Program) (t : Nat) (xs : List Value) : Value:=
 match P.underlying t with
 | some (.struct _)=>.agg xs.toArray
 | some (.array _ _)=>.agg xs.toArray
 | _=>xs.headD Go.undef

section
variable {P : Program} {E : Env} {τ : Phi}

theorem z33 : ∀ {xs : List Value} {zs : List D},klB xs zs = true -> xs.length = zs.length
 | [],[],_=>rfl
 | [],_ :: _,h=>by simp [klB] at h
 | x :: xs,[],h=>by cases x <;> simp [klB] at h
 | x :: xs,z :: zs,h=>by
  cases x <;> cases z <;> simp [klB] at h
  ·simp [z33 h]
  ·simp [z33 h.2]
  ·simp [z33 h]

theorem z31 : ∀ {k1 k2 : List D} {xs : List Value},klB xs (k1 ++ k2) = true -> klB (xs.take k1.length) k1 = true /\ klB (xs.drop k1.length) k2 = true
 | [],k2,xs,h=>by simpa [klB] using h
 | z :: k1,k2,[],h=>by cases z <;> simp [klB] at h
 | z :: k1,k2,x :: xs,h=>by
  cases x <;> cases z <;> simp [klB] at h
  ·have:=z31 h; simpa [klB] using this
  ·have:=z31 h.2; simpa [klB,h.1] using this
  ·have:=z31 h; simpa [klB] using this

theorem z4e : ∀ {xs : List Value} {ks zs : List D},klB xs zs = true -> kindsL ks zs = true -> klB xs ks = true
 | [],[],[],_,_=>rfl
 | [],_,_ :: _,h,_=>by simp [klB] at h
 | x :: xs,_,[],h,_=>by cases x <;> simp [klB] at h
 | [],k :: ks,[],_,h=>by cases k <;> simp [kindsL] at h
 | x :: xs,[],z :: zs,_,h=>by cases z <;> simp [kindsL] at h
 | x :: xs,k :: ks,z :: zs,h,h'=>by
  cases x <;> cases z <;> simp [klB] at h <;> cases k <;> simp [kindsL] at h'
  ·simpa [klB] using z4e h h'
  ·simp [klB,h.1,h'.1]; exact z4e h.2 h'.2
  ·simpa [klB] using z4e h h'

theorem z4d : ∀ {xs ys : List Value} {ks : List D} {r : Bool},klB xs ks = true -> veqL xs ys = some r -> klB ys ks = true
 | [],[],ks,_,h,_=>h
 | [],_ :: _,_,_,_,h=>by simp [veqL] at h
 | _ :: _,[],_,_,_,h=>by simp [veqL] at h
 | x :: xs,y :: ys,[],_,h,_=>by cases x <;> simp [klB] at h
 | x :: xs,y :: ys,k :: ks,r,h,h'=>by
  simp only [veqL] at h'
  cases e1 : veq x y with
  | none=>simp [e1] at h'
  | some p=>cases e2 : veqL xs ys with
   | none=>simp [e1,e2] at h'
   | some q=>
    cases x <;> cases k <;> simp [klB] at h <;> cases y <;> simp [veq] at e1
    ·simpa [klB] using z4d h e2
    ·simp [klB,<- e1.1,h.1]; exact z4d h.2 e2
    ·simpa [klB] using z4d h e2

theorem z6i : ∀ (n : Nat) {xs ys : List Value} {r : Bool},veqL xs ys = some r -> ∃ r1 r2,veqL (xs.take n) (ys.take n) = some r1 /\ veqL (xs.drop n) (ys.drop n) = some r2 /\ r = (r1 && r2)
 | 0,xs,ys,r,h=>⟨true,r,by simp [veqL],by simpa using h,by simp⟩
 | n + 1,[],[],r,h=>⟨true,true,by simp [veqL],by simp [veqL],by simp [veqL] at h; simp [h]⟩
 | n + 1,[],_ :: _,r,h=>by simp [veqL] at h
 | n + 1,_ :: _,[],r,h=>by simp [veqL] at h
 | n + 1,x :: xs,y :: ys,r,h=>by
  simp only [veqL] at h
  cases e1 : veq x y with
  | none=>simp [e1] at h
  | some p=>cases e2 : veqL xs ys with
   | none=>simp [e1,e2] at h
   | some q=>
    simp [e1,e2] at h
    obtain ⟨r1,r2,h1,h2,h3⟩:=z6i n e2
    refine ⟨p && r1,r2,?_,?_,?_⟩
    ·simp only [List.take_succ_cons,veqL,e1,h1]
    ·simpa using h2
    ·rw [<- h,h3,Bool.and_assoc]

theorem zbl {xs : List Value} {b : Bool} (h : klB xs [.bool b] = true) : ∃ a,xs = [.bool a]:=by
 match xs with
 | []=>simp [klB] at h
 | x :: xs=>
  cases x <;> simp [klB] at h
  have:=z33 h; simp at this; subst this; exact ⟨_,rfl⟩

theorem zem {xs : List Value} {k : Go.IntKind} {n : Int} (h : klB xs [.int k n] = true) : ∃ a,xs = [.int k a]:=by
 match xs with
 | []=>simp [klB] at h
 | x :: xs=>
  cases x <;> simp [klB] at h
  have:=z33 h.2; simp at this; subst this; exact ⟨_,by rw [h.1]⟩

theorem zel {xs : List Value} {b : List UInt8} (h : klB xs [.str b] = true) : ∃ a,xs = [.string a]:=by
 match xs with
 | []=>simp [klB] at h
 | x :: xs=>
  cases x <;> simp [klB] at h
  have:=z33 h; simp at this; subst this; exact ⟨_,rfl⟩

theorem zko {n t : Nat} {ks : List D} (h : kt P n t = some ks) : ∃ u,P.underlying t = some u:=by
 cases n with
 | zero=>simp [kt] at h
 | succ n=>
  cases hu : P.underlying t with
  | none=>simp [kt,hu] at h
  | some u=>exact ⟨u,rfl⟩

theorem z24 (w : World) {n e off : Nat} {ks : List D} {xs : List Value} (h : kt P n e = some ks) (hl : ks.length = P.cellsOf e) (hk : klB ((xs.drop off).take (P.cellsOf e)) ks = true) :
  (Go.part e xs.toArray off).run P w = .ok (vo P e ((xs.drop off).take (P.cellsOf e))) w:=by
 cases n with
 | zero=>simp [kt] at h
 | succ n=>
  have plain : P.plainKey e = true -> ks.length = 1 -> (∀ l,vo P e l = l.headD Go.undef) -> (Go.part e xs.toArray off).run P w = .ok (vo P e ((xs.drop off).take (P.cellsOf e))) w:=by
   intro hp h1 hv
   have h2:=z33 hk
   rw [h1] at h2 hl
   rw [<- hl] at h2 ⊢
   cases hx : xs.drop off with
   | nil=>rw [hx] at h2; simp at h2
   | cons v r=>
    have hv' : xs[off]? = some v:=by
     have:=congrArg (fun l : List Value=>l[0]?) hx
     simpa using this
    rw [Go.run_part_plain w hp (by simpa using hv'),hv]
    simp
  unfold kt at h
  split at h
  ·rename_i hu; simp at h; subst h; exact plain (by simp [Program.plainKey,hu]) rfl (fun l=>by simp [vo,hu])
  ·rename_i hu; simp at h; subst h; exact plain (by simp [Program.plainKey,hu]) rfl (fun l=>by simp [vo,hu])
  ·rename_i hu; simp at h; subst h; exact plain (by simp [Program.plainKey,hu]) rfl (fun l=>by simp [vo,hu])
  ·rename_i fs hu
   obtain ⟨i,hi⟩:=Go.info_of_underlying hu
   simp [Go.part,Go.isAgg,Go.run_underlying hu,Go.run_sizeOf w hi,vo,hu,List.extract]
  ·rename_i m e' hu
   obtain ⟨i,hi⟩:=Go.info_of_underlying hu
   simp [Go.part,Go.isAgg,Go.run_underlying hu,Go.run_sizeOf w hi,vo,hu,List.extract]
  ·simp at h

theorem zs9 : ∀ (n t : Nat) {ks : List D},kt P n t = some ks -> ∀ (w : World) (d : Nat) (xs ys : List Value) (r : Bool),klB xs ks = true -> veqL xs ys = some r -> (Go.Op.equalIn (d + n) t (vo P t xs) (vo P t ys)).run P w = .ok r w
 | 0,t,ks,h=>by simp [kt] at h
 | n + 1,t,ks,h=>by
  intro w d xs ys r hk hv
  have hk':=z4d hk hv
  unfold kt at h
  split at h
  ·rename_i hu; simp at h; subst h
   obtain ⟨a,rfl⟩:=zbl hk
   obtain ⟨b,rfl⟩:=zbl hk'
   simp [veqL,veq] at hv; subst hv
   simp only [vo,hu,List.headD_cons]
   exact Go.run_equalIn_bool' w (d + n) t a b hu
  ·rename_i q hu; simp at h; subst h
   obtain ⟨a,rfl⟩:=zem hk
   obtain ⟨b,rfl⟩:=zem hk'
   simp [veqL,veq] at hv; subst hv
   simp only [vo,hu,List.headD_cons]
   exact Go.run_equalIn_int w (d + n) t q q a b hu
  ·rename_i hu; simp at h; subst h
   obtain ⟨a,rfl⟩:=zel hk
   obtain ⟨b,rfl⟩:=zel hk'
   simp only [veqL,veq,Option.some.injEq,Bool.and_true] at hv; subst hv
   have:=Go.run_equalIn_string w (d + n) t a b hu
   simp only [vo,hu,List.headD_cons]
   rw [show d + (n + 1) = d + n + 1 from rfl,this,<- Go.beq_toListBytes]
   obtain ⟨⟨x⟩⟩:=a
   obtain ⟨⟨y⟩⟩:=b
   show Go.Result.ok ((⟨x⟩ : Array UInt8) == ⟨y⟩) w = Go.Result.ok (x == y) w
   simp
  ·rename_i fs hu
   split at h
   ·simp at h
   ·rename_i hst
    have hst : P.stoodInHeld t = false:=by simpa using hst
    have hfs : P.fieldsOf t = fs:=by simp [Program.fieldsOf,hu]
    simp only [vo,hu]
    rw [show d + (n + 1) = (d + n) + 1 from rfl,Go.run_equalIn_struct w (d + n) t xs.toArray ys.toArray (by rw [hfs]; exact hu) hst,hfs]
    have go : ∀ (l : List Go.Field) (off : Nat) (ks : List D) (r : Bool),ktF P (kt P n) off l = some ks -> klB (xs.drop off) ks = true -> veqL (xs.drop off) (ys.drop off) = some r ->
      (Go.Op.eqFields (d + n) xs.toArray ys.toArray l).run P w = .ok r w:=by
     intro l
     induction l with
     | nil=>
      intro off ks r hf hk hv
      simp [ktF] at hf; subst hf
      have hk2:=z4d hk hv
      have e1:=z33 hk
      have e2:=z33 hk2
      rw [List.length_eq_zero_iff.1 e1,List.length_eq_zero_iff.1 e2] at hv
      simp [veqL] at hv; subst hv
      simp [Go.Op.eqFields]
     | cons f l ih=>
      intro off ks r hf hk hv
      simp only [ktF] at hf
      split at hf
      ·rename_i hc
       obtain ⟨hoff,hname⟩:=hc
       split at hf
       ·rename_i k1 hk1
        split at hf
        ·rename_i hl1
         simp only [Option.map_eq_some_iff] at hf
         obtain ⟨k2,hf2,rfl⟩:=hf
         obtain ⟨c1,c2⟩:=z31 hk
         obtain ⟨r1,r2,v1,v2,v3⟩:=z6i k1.length hv
         have c1':=z4d c1 v1
         rw [List.drop_drop] at c2 v2
         rw [List.drop_drop] at v2
         have hn : f.name ≠ "_":=by simpa using hname
         rw [hl1] at c1 c1' v1
         have p1:=z24 (P:=P) w (xs:=xs) (off:=off) hk1 hl1 c1
         have p2:=z24 (P:=P) w (xs:=ys) (off:=off) hk1 hl1 c1'
         have p3:=zs9 n f.type hk1 w d _ _ r1 c1 v1
         have p4:=ih (off + k1.length) k2 r2 hf2 (by simpa [Nat.add_comm] using c2) (by simpa [Nat.add_comm] using v2)
         simp only [Go.Op.eqFields,hn,ne_eq,not_false_eq_true,if_true,Go.Sem.run_bind,hoff,p1,p2,p3,Go.Result.andThen_ok]
         cases r1
         ·simp [v3]
         ·simp [p4,v3]
        ·simp at hf
       ·simp at hf
      ·simp at hf
    exact go fs.toList 0 ks r h (by simpa using hk) (by simpa using hv)
  ·rename_i m e hu
   split at h
   ·rename_i k1 hk1
    split at h
    ·rename_i hl1
     simp at h; subst h
     obtain ⟨u,hue⟩:=zko hk1
     obtain ⟨i,hi⟩:=Go.info_of_underlying hue
     simp only [vo,hu]
     rw [show d + (n + 1) = (d + n) + 1 from rfl,Go.run_equalIn_array w (d + n) xs.toArray ys.toArray hu hi,List.range_eq_range']
     have go : ∀ (m off : Nat) (r : Bool),klB (xs.drop (off * P.cellsOf e)) (List.replicate m k1).flatten = true -> veqL (xs.drop (off * P.cellsOf e)) (ys.drop (off * P.cellsOf e)) = some r ->
       (Go.Op.eqItems (d + n) e (P.cellsOf e) xs.toArray ys.toArray (List.range' off m)).run P w = .ok r w:=by
      intro m
      induction m with
      | zero=>
       intro off r hk hv
       have hk2:=z4d hk hv
       have e1:=z33 hk
       have e2:=z33 hk2
       simp only [List.replicate_zero,List.flatten_nil,List.length_nil] at e1 e2
       rw [List.length_eq_zero_iff.1 e1,List.length_eq_zero_iff.1 e2] at hv
       simp [veqL] at hv; subst hv
       simp [Go.Op.eqItems]
      | succ m ih=>
       intro off r hk hv
       rw [List.replicate_succ,List.flatten_cons] at hk
       obtain ⟨c1,c2⟩:=z31 hk
       obtain ⟨r1,r2,v1,v2,v3⟩:=z6i k1.length hv
       have c1':=z4d c1 v1
       rw [List.drop_drop] at c2 v2
       rw [List.drop_drop] at v2
       rw [hl1] at c1 c1' v1 c2 v2
       have p1:=z24 (P:=P) w (xs:=xs) (off:=off * P.cellsOf e) hk1 hl1 c1
       have p2:=z24 (P:=P) w (xs:=ys) (off:=off * P.cellsOf e) hk1 hl1 c1'
       have p3:=zs9 n e hk1 w d _ _ r1 c1 v1
       have e3 : (off + 1) * P.cellsOf e = off * P.cellsOf e + P.cellsOf e:=Nat.succ_mul _ _
       have p4:=ih (off + 1) r2 (by rw [e3]; exact c2) (by rw [e3]; exact v2)
       rw [List.range'_succ]
       simp only [Go.Op.eqItems,Go.Sem.run_bind,p1,p2,p3,Go.Result.andThen_ok]
       cases r1
       ·simp [v3]
       ·simp [p4,v3]
     exact go m 0 r (by simpa using hk) (by simpa using hv)
    ·simp at h
   ·simp at h
  ·simp at h

theorem zkq : ∀ (n t : Nat) {ks : List D},kt P n t = some ks -> ∀ (w : World) (em : Bool) (d : Nat) (xs : List Value),klB xs ks = true -> (Go.Instr.checkKey em (d + n) t (vo P t xs)).run P w = .ok () w
 | 0,t,ks,h=>by simp [kt] at h
 | n + 1,t,ks,h=>by
  intro w em d xs hk
  unfold kt at h
  rw [show d + (n + 1) = (d + n) + 1 from rfl,Go.Instr.checkKey]
  split at h
  ·rename_i hu; simp at h; subst h
   obtain ⟨a,rfl⟩:=zbl hk
   simp [vo,hu,Go.run_underlying hu]
  ·rename_i q hu; simp at h; subst h
   obtain ⟨a,rfl⟩:=zem hk
   simp [vo,hu,Go.run_underlying hu]
  ·rename_i hu; simp at h; subst h
   obtain ⟨a,rfl⟩:=zel hk
   simp [vo,hu,Go.run_underlying hu]
  ·rename_i fs hu
   split at h
   ·simp at h
   ·simp only [vo,hu,Go.Sem.run_bind,Go.run_underlying hu,Go.Result.andThen_ok]
    rw [<- Array.forIn_toList]
    have go : ∀ (l : List Go.Field) (off : Nat) (ks : List D),ktF P (kt P n) off l = some ks -> klB (xs.drop off) ks = true ->
      (forIn l PUnit.unit fun (f : Go.Field) (_ : PUnit)=>(do
       if f.name ≠ "_" then do
        let a <- Go.part f.type xs.toArray f.offset
        Go.Instr.checkKey em (d + n) f.type a
        pure (ForInStep.yield PUnit.unit)
       else pure (ForInStep.yield PUnit.unit) : Go.Sem (ForInStep PUnit))).run P w = .ok PUnit.unit w:=by
     intro l
     induction l with
     | nil=>intro off ks hf hk; simp
     | cons f l ih=>
      intro off ks hf hk
      simp only [ktF] at hf
      split at hf
      ·rename_i hc
       obtain ⟨hoff,hname⟩:=hc
       split at hf
       ·rename_i k1 hk1
        split at hf
        ·rename_i hl1
         simp only [Option.map_eq_some_iff] at hf
         obtain ⟨k2,hf2,rfl⟩:=hf
         obtain ⟨c1,c2⟩:=z31 hk
         rw [List.drop_drop] at c2
         have hn : f.name ≠ "_":=by simpa using hname
         rw [hl1] at c1
         have p1:=z24 (P:=P) w (xs:=xs) (off:=off) hk1 hl1 c1
         have p3:=zkq n f.type hk1 w em d _ c1
         have p4:=ih (off + k1.length) k2 hf2 (by simpa [Nat.add_comm] using c2)
         simp only [List.forIn_cons,Go.Sem.run_bind,hn,ne_eq,not_false_eq_true,if_true,hoff,p1,p3,Go.Result.andThen_ok,Go.Sem.run_pure]
         simpa using p4
        ·simp at hf
       ·simp at hf
      ·simp at hf
    have:=go fs.toList 0 ks h (by simpa using hk)
    simp at this
    simp [this]
  ·rename_i m e hu
   split at h
   ·rename_i k1 hk1
    split at h
    ·rename_i hl1
     simp at h; subst h
     obtain ⟨u,hue⟩:=zko hk1
     obtain ⟨i,hi⟩:=Go.info_of_underlying hue
     simp only [vo,hu,Go.Sem.run_bind,Go.run_underlying hu,Go.Result.andThen_ok]
     simp only [Std.Legacy.Range.forIn_eq_forIn_range',Std.Legacy.Range.size,Nat.sub_zero,Nat.add_one_sub_one,Nat.div_one]
     have go : ∀ (m off : Nat),klB (xs.drop (off * P.cellsOf e)) (List.replicate m k1).flatten = true ->
       (forIn (List.range' off m) PUnit.unit fun (j : Nat) (_ : PUnit)=>(do
        let s <- Go.sizeOf e
        let a <- Go.part e xs.toArray (j * s)
        Go.Instr.checkKey em (d + n) e a
        pure (ForInStep.yield PUnit.unit) : Go.Sem (ForInStep PUnit))).run P w = .ok PUnit.unit w:=by
      intro m
      induction m with
      | zero=>intro off hk; simp
      | succ m ih=>
       intro off hk
       rw [List.replicate_succ,List.flatten_cons] at hk
       obtain ⟨c1,c2⟩:=z31 hk
       rw [List.drop_drop] at c2
       rw [hl1] at c1 c2
       have p1:=z24 (P:=P) w (xs:=xs) (off:=off * P.cellsOf e) hk1 hl1 c1
       have p3:=zkq n e hk1 w em d _ c1
       have e3 : (off + 1) * P.cellsOf e = off * P.cellsOf e + P.cellsOf e:=Nat.succ_mul _ _
       have p4:=ih (off + 1) (by rw [e3]; exact c2)
       rw [List.range'_succ]
       simp only [List.forIn_cons,Go.Sem.run_bind,Go.run_sizeOf w hi,Go.Result.andThen_ok,p1,p3,Go.Sem.run_pure]
       simpa using p4
     have:=go m 0 (by simpa using hk)
     simp at this
     simp [this]
    ·simp at h
   ·simp at h
  ·simp at h

def eqB (P : Program) (t : Nat) (zs : List D) : Bool:=
 (match kt P 16 t with
  | some ks=>kindsL ks zs
  | none=>false) &&
 (match P.underlying t with
  | some (.struct _)=>true
  | some (.array _ _)=>true
  | _=>false) && !P.eqGuardType P.depth t

theorem zu4 {t : Nat} {zs : List D} (h : eqB P t zs = true) : EqOk P t zs:=by
 simp only [eqB,Bool.and_eq_true,Bool.not_eq_true'] at h
 obtain ⟨⟨h1,h2⟩,h3⟩:=h
 split at h1
 ·rename_i ks hks
  have hvo : ∀ l,vo P t l = .agg l.toArray:=by
   intro l
   unfold vo
   split at h2
   ·rfl
   ·rfl
   ·simp at h2
  refine ⟨fun w d xs ys r hk hv=>?_,fun w em d vs hk=>?_,?_,h3⟩
  ·have:=zs9 16 t hks w d xs ys r (z4e hk h1) hv
   rwa [hvo,hvo] at this
  ·have:=zkq 16 t hks w em d vs (z4e hk h1)
   rwa [hvo] at this
  ·split at h2
   ·rename_i hu; exact ⟨_,hu,trivial⟩
   ·rename_i hu; exact ⟨_,hu,trivial⟩
   ·simp at h2
 ·simp at h1

end
end Dv

namespace Dv
open Go (Value Program World Act Oper Operand Code)


def maskOf (acc : List Nat) : List Go.Edge -> Nat
 | []=>0
 | e :: es=>if Go.Region.binds .any e then 2 ^ e.on ||| (acc.getD e.on 0 ||| maskOf acc es) else maskOf acc es

def masks : List Nat -> List Oper -> List Nat
 | acc,[]=>acc
 | acc,o :: os=>masks (acc ++ [maskOf acc o.after.toList]) os

def slotsOkB (o o' : DOpr) : Bool:=
 (match o.dst with
 | none=>true
 | some n=>!(reads o').contains n && !(o'.dst == some n)) &&
 (match o'.dst with
 | none=>true
 | some n=>!(reads o).contains n)

def notT (x : Opd) (n : Nat) : Bool:=
 match x with
 | .t m=>!(m == n)
 | _=>true

def keptB (ds : List DOpr) (x : Opd) (j : Nat) : Bool:=
 (List.range ds.length).all fun k=>k < j || (match ds[k]? with
  | some ok=>(match ok.dst with
   | some n=>notT x n
   | none=>true)
  | none=>true)

def apB (ds : List DOpr) (p : Nat × Nat) : Bool:=
 match ds[p.1]?,ds[p.2]? with
 | some oj,some oi=>((touch oj.op).all fun x=>keptB ds x p.1) && ((touch oi.op).all fun y=>keptB ds y p.2)
 | _,_=>true

def constB (x : Opd) : Bool:=
 match x with
 | .c d=>(did d).isNone
 | _=>true

def drawB (ops : List Oper) (ds : List DOpr) (ap : List (Nat × Nat)) : Bool:=
 ((List.range ops.length).all fun i=>match ops[i]? with
  | some o=>o.after.toList.all fun e=>!Go.Region.binds .any e || e.on < i
  | none=>true) &&
 ((List.range ds.length).all fun i=>(List.range i).all fun j=>match ds[j]?,ds[i]? with
  | some oj,some oi=>((masks [] ops).getD i 0).testBit j || (slotsOkB oj oi && heapOk (ap.contains (j,i)) oj.op oi.op)
  | _,_=>true) &&
 (ap.all (apB ds)) &&
 (ds.all fun o=>(touch o.op).all constB)

theorem z5a {acc : List Nat} : ∀ {es : List Go.Edge} {m : Nat},(maskOf acc es).testBit m = true -> ∃ e,e ∈ es /\ Go.Region.binds .any e = true /\ (e.on = m \/ (acc.getD e.on 0).testBit m = true)
 | [],m,h=>by simp [maskOf] at h
 | e :: es,m,h=>by
  simp only [maskOf] at h
  split at h
  ·rename_i hb
   simp only [Nat.testBit_or,Nat.testBit_two_pow,Bool.or_eq_true,decide_eq_true_eq] at h
   rcases h with h | h | h
   ·exact ⟨e,by simp,hb,.inl h⟩
   ·exact ⟨e,by simp,hb,.inr h⟩
   ·obtain ⟨e',h1,h2⟩:=z5a h
    exact ⟨e',by simp [h1],h2⟩
  ·obtain ⟨e',h1,h2⟩:=z5a h
   exact ⟨e',by simp [h1],h2⟩

theorem z8m : ∀ {os : List Oper} {acc : List Nat} {i : Nat},i < acc.length -> (masks acc os)[i]? = acc[i]?
 | [],acc,i,_=>rfl
 | o :: os,acc,i,h=>by
  simp only [masks]
  rw [z8m (by simp; omega),List.getElem?_append_left h]

theorem zaa : ∀ {os : List Oper} {acc : List Nat} {i m : Nat},acc.length <= i -> ((masks acc os).getD i 0).testBit m = true ->
  ∃ o,os[i - acc.length]? = some o /\ ∃ e,e ∈ o.after /\ Go.Region.binds .any e = true /\ (e.on = m \/ ((masks acc os).getD e.on 0).testBit m = true)
 | [],acc,i,m,hi,h=>by
  simp only [masks] at h
  rw [List.getD_eq_getElem?_getD,List.getElem?_eq_none hi] at h
  simp at h
 | o :: os,acc,i,m,hi,h=>by
  simp only [masks] at h ⊢
  rcases Nat.eq_or_lt_of_le hi with e | e
  ·subst e
   have hg : (masks (acc ++ [maskOf acc o.after.toList]) os)[acc.length]? = some (maskOf acc o.after.toList):=by
    rw [z8m (by simp)]; simp
   rw [List.getD_eq_getElem?_getD,hg] at h
   obtain ⟨e,h1,h2,h3⟩:=z5a (by simpa using h)
   refine ⟨o,by simp,e,by simpa using h1,h2,h3.imp (fun h=>h) (fun h4=>?_)⟩
   have hlt : e.on < acc.length:=by
    rcases Nat.lt_or_ge e.on acc.length with h5 | h5
    ·exact h5
    ·rw [List.getD_eq_getElem?_getD,List.getElem?_eq_none h5] at h4; simp at h4
   rw [List.getD_eq_getElem?_getD,z8m (by simp; omega),List.getElem?_append_left hlt,<- List.getD_eq_getElem?_getD]
   exact h4
  ·obtain ⟨o',h1,h2⟩:=zaa (os:=os) (acc:=acc ++ [maskOf acc o.after.toList]) (i:=i) (m:=m) (by simp; omega) h
   refine ⟨o',?_,h2⟩
   simp only [List.length_append,List.length_cons,List.length_nil] at h1
   rw [show i - acc.length = (i - (acc.length + (0 + 1))) + 1 from by omega]
   simpa using h1

theorem ze0 {o o' : DOpr} (h : slotsOkB o o' = true) : slotsOk o o':=by
 simp only [slotsOkB,Bool.and_eq_true] at h
 obtain ⟨h1,h2⟩:=h
 constructor
 ·intro n hn
  rw [hn] at h1
  simp at h1
  exact ⟨h1.1,h1.2⟩
 ·intro n hn
  rw [hn] at h2
  simpa using h2

theorem zfu {ds : List DOpr} {x : Opd} {j : Nat} (h : keptB ds x j = true) : ∀ (k : Nat) ok n,j <= k -> ds[k]? = some ok -> ok.dst = some n -> x ≠ .t n:=by
 intro k ok n hk ho hn
 have hlt:=(List.getElem?_eq_some_iff.1 ho).1
 have:=List.all_eq_true.1 h k (List.mem_range.2 hlt)
 rw [ho] at this
 simp only [hn,Bool.or_eq_true,decide_eq_true_eq] at this
 rcases this with h1 | h1
 ·omega
 ·rintro rfl
  simp [notT] at h1

theorem zoo {ops : Array Oper} {ds : List DOpr} {ap : List (Nat × Nat)} (h : drawB ops.toList ds ap = true) : DrawOk ops ds ap:=by
 simp only [drawB,Bool.and_eq_true] at h
 obtain ⟨⟨⟨h1,h2⟩,h3⟩,h4⟩:=h
 refine ⟨fun i o ho e he hb=>?_,⟨fun i m=>((masks [] ops.toList).getD i 0).testBit m = true,fun i m hm=>?_,fun j i oj oi hji hj hi=>?_⟩,fun j i hin oj oi hj hi=>?_,fun i oi hi x hx d hd=>?_⟩
 ·have hlt:=(Array.getElem?_eq_some_iff.1 ho).1
  have:=List.all_eq_true.1 h1 i (List.mem_range.2 (by simpa using hlt))
  rw [show ops.toList[i]? = some o from by simpa using ho] at this
  have:=List.all_eq_true.1 this e (by simpa using he)
  simpa [hb] using this
 ·obtain ⟨o,h5,h6⟩:=zaa (acc:=[]) (Nat.zero_le _) hm
  exact ⟨o,by simpa using h5,h6⟩
 ·have hlt:=(List.getElem?_eq_some_iff.1 hi).1
  have:=List.all_eq_true.1 (List.all_eq_true.1 h2 i (List.mem_range.2 hlt)) j (List.mem_range.2 hji)
  simp only [hj,hi,Bool.or_eq_true,Bool.and_eq_true] at this
  exact this.imp (fun h=>h) (fun h=>⟨ze0 h.1,h.2⟩)
 ·have:=List.all_eq_true.1 h3 (j,i) hin
  simp only [apB,hj,hi,Bool.and_eq_true] at this
  exact ⟨fun x hx=>zfu (List.all_eq_true.1 this.1 x hx),fun y hy=>zfu (List.all_eq_true.1 this.2 y hy)⟩
 ·have:=List.all_eq_true.1 (List.all_eq_true.1 h4 oi (List.mem_of_getElem? hi)) x hx
  subst hd
  simpa [constB] using this


def bndB (ops : List Oper) (i j : Nat) : Bool:=
 match ops[i]? with
 | some o=>o.after.toList.any fun e=>Go.Region.binds .any e && e.on == j
 | none=>false
def isLk (q : AsgQ) (d : DOpr) : Bool:=
 match d.op with
 | .lookup t (.t m) (.t k) false=>t == q.t' && m == q.mt && k == q.kt
 | _=>false
def isBn (q : AsgQ) (d : DOpr) : Bool:=
 match d.op with
 | .bin _ _ _ _=>d.dst == some q.vt
 | _=>false
def madeB (ops : List Oper) (t : Nat) (ok : Nat -> Bool) : Bool:=
 (List.range ops.length).all fun j=>match ops[j]? with
  | some o=>!(o.dst == some t) || ok j
  | none=>true
def asgB (q : AsgQ) (ops : List Oper) (pre : List DOpr) : Bool:=
 decide (pre.findIdx (isLk q) < pre.length) && decide (pre.findIdx (isBn q) < pre.length) &&
 ((List.range pre.length).all fun i=>match pre[i]? with
  | some d=>d.gd.isNone && (i == pre.findIdx (isLk q) || plainD d.op) && (slots (opnds d.op)).all fun t=>madeB ops t fun j=>decide (j < i) && bndB ops i j
  | none=>true) &&
 ((List.range ops.length).all fun i=>match ops[i]? with
  | some o=>(o.after.toList.all fun e=>!Go.Region.binds .any e || decide (e.on < i)) && (match o.dst with
   | some t=>madeB ops t fun j=>j == i
   | none=>true)
  | none=>true) &&
 (madeB ops q.mt fun j=>decide (j < pre.length) && bndB ops pre.length j) && (madeB ops q.kt fun j=>decide (j < pre.length) && bndB ops pre.length j) && (madeB ops q.vt fun j=>decide (j < pre.length)) &&
 ((List.range pre.length).all fun i=>i == pre.findIdx (isLk q) || i == pre.findIdx (isBn q) || bndB ops pre.length i) && bndB ops (pre.length + 1) pre.length &&
 ((List.range (pre.length + 2)).all fun i=>bndB ops (pre.length + 2) i)

theorem z9h {ops : Array Oper} {i j : Nat} (h : bndB ops.toList i j = true) : boundTo ops i j:=by
 unfold bndB at h
 split at h
 ·rename_i o ho
  obtain ⟨e,he,h2⟩:=List.any_eq_true.1 h
  simp only [Bool.and_eq_true,beq_iff_eq] at h2
  exact ⟨o,by simpa using ho,e,by simpa using he,h2.1,h2.2⟩
 ·simp at h
theorem z60 {ops : Array Oper} {t : Nat} {ok : Nat -> Bool} (h : madeB ops.toList t ok = true) : ∀ (j : Nat) o,ops[j]? = some o -> o.dst = some t -> ok j = true:=by
 intro j o ho hd
 have hlt:=(Array.getElem?_eq_some_iff.1 ho).1
 have:=List.all_eq_true.1 h j (List.mem_range.2 (by simpa using hlt))
 rw [show ops.toList[j]? = some o from by simpa using ho] at this
 simpa [hd] using this
theorem z44 : ∀ {ops pre : List Oper} {p : Oper × Oper × Oper},asgSplit ops = some (pre,p) -> ops = pre ++ [p.1,p.2.1,p.2.2]
 | [],pre,p,h=>by simp [asgSplit] at h
 | [a],pre,p,h=>by simp [asgSplit] at h
 | [a,b],pre,p,h=>by simp [asgSplit] at h
 | [a,b,c],pre,p,h=>by simp [asgSplit] at h; obtain ⟨rfl,rfl⟩:=h; rfl
 | a :: b :: c :: d :: r,pre,p,h=>by
  unfold asgSplit at h
  split at h
  ·rename_i l q hq
   simp only [Option.some.injEq,Prod.mk.injEq] at h
   obtain ⟨rfl,rfl⟩:=h
   rw [z44 hq]; rfl
  ·simp at h
theorem z9l {t' : Nat} {oE oX oS : Oper} {q : AsgQ} (h : asgQof t' oE oX oS = some q) : q.oE = oE /\ q.oX = oX /\ q.oS = oS /\ q.t' = t' /\ (oE.op = .mapEntry q.t (.tmp q.mt) (.tmp q.kt) /\ oE.guard = none /\ oE.dst = some q.dE) /\
  (oX.op = .extract (.tmp q.dE) 1 /\ oX.guard = none /\ oX.dst = some q.dX) /\ (oS.op = .entryStore q.t (.tmp q.mt) (.tmp q.dX) (.tmp q.vt) /\ oS.guard = none /\ oS.dst = none):=by
 unfold asgQof at h
 split at h
 ·rename_i e1 e2 e3 e4 e5
  split at h
  ·rename_i hc
   obtain ⟨rfl,rfl,rfl,rfl,h5,h6,h7,h8⟩:=hc
   simp only [Option.some.injEq] at h
   subst h
   exact ⟨rfl,rfl,rfl,rfl,⟨e1,by simpa using h5,e2⟩,⟨e3,by simpa using h6,e4⟩,⟨e5,by simpa using h7,by simpa using h8⟩⟩
  ·simp at h
 ·simp at h
theorem zsr {T F : Phi} {ops : Array Oper} {pre : List DOpr} {q : AsgQ} {t' : Nat} {po : List Oper} {oE oX oS : Oper} (hsp : asgSplit ops.toList = some (po,oE,oX,oS)) (hq : asgQof t' oE oX oS = some q) (ht : T q.t = some q.t')
  (hops : OpsL T F ops.toList po pre) (h : asgB q ops.toList pre = true) : ∃ iL iB,AsgOk T F ops pre q iL iB:=by
 have e0:=z44 hsp
 have hpl : po.length = pre.length:=hops.len
 have hsz : ops.size = pre.length + 3:=by
  have:=congrArg List.length e0
  simp at this; omega
 obtain ⟨q1,q2,q3,_,qE,qX,qS⟩:=z9l hq
 unfold asgB at h
 simp only [Bool.and_eq_true,decide_eq_true_eq] at h
 obtain ⟨⟨⟨⟨⟨⟨⟨⟨⟨h1,h2⟩,h3⟩,h4⟩,h5⟩,h6⟩,h7⟩,h8⟩,h9⟩,h10⟩:=h
 have get : ∀ (k : Nat) (o : Oper),[oE,oX,oS][k]? = some o -> ops[pre.length + k]? = some o:=fun k o hk=>by
  have : ops.toList[pre.length + k]? = some o:=by
   rw [e0,List.getElem?_append_right (by omega),<- hpl,Nat.add_sub_cancel_left]; exact hk
  simpa using this
 have hpre : ∀ (i : Nat) d,pre[i]? = some d -> d.gd = none /\ (i ≠ pre.findIdx (isLk q) -> plainD d.op = true) /\ ∀ t,t ∈ slots (opnds d.op) -> madeB ops.toList t (fun j=>decide (j < i) && bndB ops.toList i j) = true:=fun i d hd=>by
  have hlt:=(List.getElem?_eq_some_iff.1 hd).1
  have:=List.all_eq_true.1 h3 i (List.mem_range.2 hlt)
  rw [hd] at this
  simp only [Bool.and_eq_true,Bool.or_eq_true,beq_iff_eq,List.all_eq_true] at this
  exact ⟨by simpa using this.1.1,fun hne=>this.1.2.resolve_left hne,this.2⟩
 have hat : ∀ (i : Nat) o,ops[i]? = some o -> (∀ e,e ∈ o.after -> Go.Region.binds .any e = true -> e.on < i) /\ ∀ t,o.dst = some t -> madeB ops.toList t (fun j=>j == i) = true:=fun i o ho=>by
  have hlt:=(Array.getElem?_eq_some_iff.1 ho).1
  have:=List.all_eq_true.1 h4 i (List.mem_range.2 (by simpa using hlt))
  rw [show ops.toList[i]? = some o from by simpa using ho] at this
  simp only [Bool.and_eq_true,List.all_eq_true] at this
  refine ⟨fun e he hb=>?_,fun t hd=>?_⟩
  ·have:=this.1 e (by simpa using he)
   simpa [hb] using this
  ·have:=this.2
   rw [hd] at this; exact this
 have hL:=List.getElem?_eq_getElem h1
 have hB:=List.getElem?_eq_getElem h2
 have hLk : isLk q pre[pre.findIdx (isLk q)] = true:=List.findIdx_getElem
 have hBn : isBn q pre[pre.findIdx (isBn q)] = true:=List.findIdx_getElem
 refine ⟨pre.findIdx (isLk q),pre.findIdx (isBn q),{
  len:=hsz
  lt:=⟨h1,h2⟩
  lk:=fun i o d ho hd=>⟨OpsL.at hops i o d (by
   have hlt:=(List.getElem?_eq_some_iff.1 hd).1
   have : ops.toList[i]? = some o:=by simpa using ho
   rw [e0,List.getElem?_append_left (by omega)] at this
   exact this) hd,(hpre i d hd).1⟩
  pl:=fun i d hne hd=>(hpre i d hd).2.1 hne
  E:=⟨by rw [q1]; exact get 0 _ rfl,by rw [q1]; exact qE⟩
  X:=⟨by rw [q2]; exact get 1 _ rfl,by rw [q2]; exact qX⟩
  S:=⟨by rw [q3]; exact get 2 _ rfl,by rw [q3]; exact qS⟩
  ty:=ht
  L:=by
   have hgd:=(hpre _ _ hL).1
   generalize pre[pre.findIdx (isLk q)] = d at hL hLk hgd
   unfold isLk at hLk
   split at hLk
   ·rename_i t m k e
    simp only [Bool.and_eq_true,beq_iff_eq] at hLk
    obtain ⟨⟨rfl,rfl⟩,rfl⟩:=hLk
    refine ⟨d.dst,?_⟩
    rw [hL]
    cases d
    simp only at e hgd
    rw [e,hgd]
   ·simp at hLk
  B:=by
   have hgd:=(hpre _ _ hB).1
   generalize pre[pre.findIdx (isBn q)] = d at hB hBn hgd
   unfold isBn at hBn
   split at hBn
   ·rename_i op t x y e
    refine ⟨d.dst,op,t,x,y,?_⟩
    rw [hB]
    cases d
    simp only at e hgd
    rw [e,hgd]
   ·simp at hBn
  dsts:=fun i j oi oj t hi hj h1 h2=>by
   have:=z60 ((hat i oi hi).2 t h1) j oj hj h2
   exact (by simpa using this : j = i).symm
  rd:=fun i d hd t ht j oj hj hdj=>by
   have:=z60 ((hpre i d hd).2.2 t ht) j oj hj hdj
   simp only [Bool.and_eq_true,decide_eq_true_eq] at this
   exact ⟨this.1,z9h this.2⟩
  rdE:=fun t ht j oj hj hdj=>by
   have : (decide (j < pre.length) && bndB ops.toList pre.length j) = true:=by
    rcases ht with rfl | rfl
    ·exact z60 h5 j oj hj hdj
    ·exact z60 h6 j oj hj hdj
   simp only [Bool.and_eq_true,decide_eq_true_eq] at this
   exact ⟨this.1,z9h this.2⟩
  rdV:=fun j oj hj hdj=>by simpa using z60 h7 j oj hj hdj
  eE:=fun i hi n1 n2=>by
   have:=List.all_eq_true.1 h8 i (List.mem_range.2 hi)
   simp only [Bool.or_eq_true,beq_iff_eq] at this
   exact z9h ((this.resolve_left fun h=>h.elim n1 n2))
  eX:=z9h h9
  eS:=fun i hi=>z9h (List.all_eq_true.1 h10 i (List.mem_range.2 hi))
  back:=fun i o ho=>(hat i o ho).1 }⟩

theorem zde : ∀ {ds p t : List DOpr},eraseOps ds = p ++ t -> ∃ x y,ds = x ++ y /\ eraseOps x = p /\ eraseOps y = t
 | ds,[],t,h=>⟨[],ds,rfl,rfl,h⟩
 | [],a :: p,t,h=>by simp [eraseOps] at h
 | d :: ds,a :: p,t,h=>by
  simp only [eraseOps,List.cons_append,List.cons.injEq] at h
  obtain ⟨x,y,rfl,h2,h3⟩:=zde h.2
  exact ⟨d :: x,y,rfl,by simp only [eraseOps]; rw [h.1,h2],h3⟩
theorem zif {q : AsgQ} {y : List DOpr} (h : eraseOps y = asgTail q) : y = asgTail q:=by
 have one : ∀ (d : DOpr) (dst : Option Nat) (op : DOp),(⟨d.dst,eraseOp d.op,d.gd⟩ : DOpr) = ⟨dst,op,none⟩ -> (eraseOp op = op) -> (∀ o,eraseOp o = op -> o = op) -> d = ⟨dst,op,none⟩:=by
  intro d dst op h1 h2 h3
  cases d
  simp only [DOpr.mk.injEq] at h1 ⊢
  exact ⟨h1.1,h3 _ h1.2.1,h1.2.2⟩
 have mv : ∀ (x : Opd) (o : DOp),eraseOp o = .move x -> o = .move x:=by intro x o h; cases o <;> simp [eraseOp] at h <;> simp [h]
 have pk : ∀ (x y z : Opd) (o : DOp),eraseOp o = .pick x y z -> o = .pick x y z:=by intro x y z o h; cases o <;> simp [eraseOp] at h <;> simp [h]
 have ms : ∀ (t : Nat) (x y z : Opd) (o : DOp),eraseOp o = .mapset t x y z -> o = .mapset t x y z:=by intro t x y z o h; cases o <;> simp [eraseOp] at h <;> simp [h]
 unfold asgTail at h ⊢
 match y,h with
 | [],h=>simp [eraseOps] at h
 | [_],h=>simp [eraseOps] at h
 | [_,_],h=>simp [eraseOps] at h
 | [_,_,_],h=>simp [eraseOps] at h
 | [_,_,_,_],h=>simp [eraseOps] at h
 | [a,b,c,d,e],h=>
  simp only [eraseOps,List.cons.injEq,and_true] at h
  obtain ⟨h1,h2,h3,h4,h5⟩:=h
  rw [one a _ _ h1 rfl (mv _),one b _ _ h2 rfl (pk _ _ _),one c _ _ h3 rfl (pk _ _ _),one d _ _ h4 rfl (mv _),one e _ _ h5 rfl (ms _ _ _ _)]
 | _ :: _ :: _ :: _ :: _ :: _ :: _,h=>simp [eraseOps] at h

def asgC (ops : List Oper) (ds : List DOpr) : Bool:=
 match asgSplit ops with
 | some (_,oE,oX,oS)=>(match ds.getLast? with
  | some l=>(match l.op with
   | .mapset t' _ _ _=>(match asgQof t' oE oX oS with
    | some q=>asgB q ops (ds.take (ops.length - 3))
    | none=>false)
   | _=>false)
  | none=>false)
 | none=>false


def drawC : Bool -> Code -> DC -> Bool
 | b,.seq x y,.seq x' y'=>drawC b x x' && drawC b y y'
 | b,.cond _ x y,.cond _ x' y'=>drawC b x x' && drawC b y y'
 | b,.block _ x,.block _ x'=>drawC b x x'
 | b,.loop x,.loop x'=>drawC b x x'
 | b,.rangeFunc _ _ x y,.rfunc _ _ x' y'=>!b && (drawC true x x' && drawC true y y')
 | _,.region _ ops true,.region true ap ds=>drawB ops.toList ds ap
 | _,.region _ ops true,.region false _ ds=>asgC ops.toList ds
 | _,_,_=>true

theorem z1p {T F : Phi} {all : List Oper} : ∀ {os : List Oper} {ds : List DOpr},stripOps T F all os = some (eraseOps ds) -> OpsL T F all os ds
 | [],[],_=>trivial
 | [],d :: ds,h=>by simp [stripOps,eraseOps] at h
 | o :: os,ds,h=>by
  simp only [stripOps] at h
  split at h
  ·rename_i op gd r h1 h2 h3
   cases ds with
   | nil=>simp [eraseOps] at h
   | cons d ds=>
    simp only [eraseOps,Option.some.injEq,List.cons.injEq,DOpr.mk.injEq] at h
    obtain ⟨⟨e1,e2,e3⟩,e4⟩:=h
    refine ⟨⟨e1.symm,opLink (by rw [h1,e2]),by rw [h2,e3]⟩,z1p (by rw [h3,e4])⟩
  ·simp at h

theorem zu7 {T F : Phi} : ∀ {c : Code} {b : Bool} {dc : DC},stripC T F c = some (eraseC dc) -> drawC b c dc = true -> CLk T F b c dc:=by
 intro c
 induction c with
 | skip=>
  intro b dc h _
  simp only [stripC,Option.some.injEq] at h
  cases dc <;> simp [eraseC] at h
  exact .skip
 | region id ops dr=>
  intro b dc h hd
  simp only [stripC,Option.some.injEq] at h
  have deadK : ∀ dc : DC,deadC = eraseC dc -> CLk T F b (.region id ops dr) dc:=fun dc h=>by
   cases dc <;> simp [eraseC] at h
   rename_i c x y
   obtain ⟨rfl,h2,h3⟩:=h
   cases x <;> simp [eraseC] at h2
   cases y <;> simp [eraseC] at h3
   exact .dead
  split at h
  case h_2=>
   split at h
   ·rename_i hdr
    subst hdr
    split at h
    ·rename_i ds0 h1
     have h2:=h
     cases dc <;> simp [eraseC] at h2
     rename_i dr' ap ds
     obtain ⟨rfl,h2⟩:=h2
     unfold asgStrip at h1
     split at h1
     ·rename_i po oE oX oS hsp
      split at h1
      ·rename_i p t' hp ht
       split at h1
       ·rename_i q hq
        simp only [Option.some.injEq] at h1
        subst h1
        obtain ⟨x,y,rfl,h3,h4⟩:=zde h2.symm
        have h5:=zif h4
        subst h5
        have hpx:=z1p (by rw [hp,h3])
        have hlen : x.length = ops.size - 3:=by
         have e0:=congrArg List.length (z44 hsp)
         have:=hpx.len
         simp at e0; omega
        simp only [drawC,asgC,hsp] at hd
        have hlast : (x ++ asgTail q).getLast? = some ⟨none,.mapset q.t' (.t q.mt) (.t q.kt) (.t q.vt),none⟩:=by simp [asgTail]
        obtain ⟨q1,q2,q3,q4,qE,_⟩:=z9l hq
        rw [hlast] at hd
        simp only [q4,hq] at hd
        rw [show (x ++ asgTail q).take (ops.toList.length - 3) = x from by rw [Array.length_toList,<- hlen,List.take_left]] at hd
        have hty : T q.t = some q.t':=by
         unfold asgT at ht
         rw [qE.1] at ht
         rw [q4]; exact ht
        obtain ⟨iL,iB,A⟩:=zsr hsp hq hty hpx hd
        exact .asg A rfl
       ·simp at h1
      ·simp at h1
     ·simp at h1
    ·exact deadK _ h
   ·exact deadK _ h
  rename_i ds0 h1
  have h2:=h
  cases dc <;> simp [eraseC] at h2
  rename_i dr' ap ds
  obtain ⟨rfl,rfl⟩:=h2
  have:=z1p h1
  cases dr with
  | false=>exact .region this
  | true=>exact .draw this (zoo (by simpa [drawC] using hd))
 | seq x y ihx ihy=>
  intro b dc h hd
  simp only [stripC] at h
  obtain ⟨x',y',h1,h2,h3⟩:=z2l h
  cases dc <;> simp [eraseC] at h3
  obtain ⟨rfl,rfl⟩:=h3
  simp only [drawC,Bool.and_eq_true] at hd
  exact .seq (ihx h1 hd.1) (ihy h2 hd.2)
 | cond k x y ihx ihy=>
  intro b dc h hd
  simp only [stripC] at h
  obtain ⟨k',x',y',h0,h1,h2,h3⟩:=z3i h
  cases dc <;> simp [eraseC] at h3
  obtain ⟨rfl,rfl,rfl⟩:=h3
  simp only [drawC,Bool.and_eq_true] at hd
  exact .cond h0 (ihx h1 hd.1) (ihy h2 hd.2)
 | block id x ihx=>
  intro b dc h hd
  simp only [stripC] at h
  obtain ⟨x',h1,h3⟩:=z30 h
  cases dc <;> simp [eraseC] at h3
  obtain ⟨rfl,rfl⟩:=h3
  exact .block (ihx h1 (by simpa [drawC] using hd))
 | loop x ihx=>
  intro b dc h hd
  simp only [stripC] at h
  obtain ⟨x',h1,h3⟩:=z30 h
  cases dc <;> simp [eraseC] at h3
  subst h3
  exact .loop (ihx h1 (by simpa [drawC] using hd))
 | rangeFunc f ps asg body iha ihb=>
  intro b dc h hd
  simp only [stripC] at h
  obtain ⟨f',x',y',h0,h1,h2,h3⟩:=z3i h
  cases dc <;> simp [eraseC] at h3
  obtain ⟨rfl,rfl,rfl,rfl⟩:=h3
  simp only [drawC,Bool.and_eq_true,Bool.not_eq_true'] at hd
  obtain ⟨rfl,hd1,hd2⟩:=hd
  exact .rfunc h0 (iha h1 hd1) (ihb h2 hd2)
 | exit id=>
  intro b dc h _
  simp only [stripC,Option.some.injEq] at h
  cases dc <;> simp [eraseC] at h
  subst h; exact .exit
 | ret=>
  intro b dc h _
  simp only [stripC,Option.some.injEq] at h
  cases dc <;> simp [eraseC] at h
  exact .ret
 | _=>intro b dc h _; simp [stripC] at h


def rvB (T : Phi) : List Go.ResultVar -> List RV -> Bool
 | [],[]=>true
 | .tmp t :: r,.tmp t' :: r'=>t == t' && rvB T r r'
 | .cell a t :: r,.cell a' t' :: r'=>a == a' && (T t == some t') && rvB T r r'
 | _,_=>false

theorem zjt {T : Phi} : ∀ {rs : List Go.ResultVar} {rs' : List RV},rvB T rs rs' = true -> RvL T rs rs'
 | [],[],_=>trivial
 | .tmp t :: r,.tmp t' :: r',h=>by
  simp only [rvB,Bool.and_eq_true,beq_iff_eq] at h
  exact ⟨h.1,zjt h.2⟩
 | .cell a t :: r,.cell a' t' :: r',h=>by
  simp only [rvB,Bool.and_eq_true,beq_iff_eq] at h
  exact ⟨h.1.1,h.1.2,zjt h.2⟩
 | .tmp _ :: _,.cell _ _ :: _,h=>by simp [rvB] at h
 | .cell _ _ :: _,.tmp _ :: _,h=>by simp [rvB] at h
 | .tmp _ :: _,[],h=>by simp [rvB] at h
 | .cell _ _ :: _,[],h=>by simp [rvB] at h
 | [],.tmp _ :: _,h=>by simp [rvB] at h
 | [],.cell _ _ :: _,h=>by simp [rvB] at h

def fnB (T : Phi) (fn : Go.Func) (G : DFn) : Bool:=
 (match fn.body with
 | some c=>drawC false c G.body
 | none=>false) && fn.ntmps == G.ntmps && rvB T fn.results.toList G.results && !(fn.name == "runtime.NumGoroutine")

theorem zh {P : Program} {T F : Phi} {f : Nat} {fn : Go.Func} {G : DFn} (h : P.funcs[f]? = some fn) (h1 : (match fn.body with | some c=>stripC T F c | none=>none) = some (eraseC G.body)) (h2 : fnB T fn G = true) : FnL P T F f G:=by
 simp only [fnB,Bool.and_eq_true,beq_iff_eq] at h2
 obtain ⟨⟨⟨h3,h4⟩,h5⟩,h6⟩:=h2
 cases hb : fn.body with
 | none=>rw [hb] at h3; simp at h3
 | some c=>
  rw [hb] at h1 h3
  exact ⟨fn,c,h,hb,h4,zjt h5,zu7 h1 h3⟩


def zeroB : List Value -> List D -> Bool
 | [],[]=>true
 | v :: vs,d :: ds=>(match ofClosed v,d with
  | some (.bool a),.bool b=>a == b
  | some (.int k a),.int k' b=>decide (k = k') && a == b
  | some (.str a),.str b=>a == b
  | some .nilp,.nilp=>true
  | some .nilfn,.nilfn=>true
  | some (.map none),.map none=>true
  | some (.imm .exact []),.imm .exact []=>true
  | _,_=>false) && zeroB vs ds
 | _,_=>false

theorem zfd : ∀ {vs : List Value} {ds : List D},zeroB vs ds = true -> ofClosedL vs = some ds
 | [],[],_=>rfl
 | [],_ :: _,h=>by simp [zeroB] at h
 | _ :: _,[],h=>by simp [zeroB] at h
 | v :: vs,d :: ds,h=>by
  simp only [zeroB,Bool.and_eq_true] at h
  obtain ⟨h1,h2⟩:=h
  have e2:=zfd h2
  simp only [ofClosedL,e2]
  generalize ofClosed v = o at h1 ⊢
  split at h1
  ·simp at h1; rw [h1]
  ·simp at h1; rw [h1.1,h1.2]
  ·simp at h1; rw [h1]
  ·rfl
  ·rfl
  ·rfl
  ·rfl
  ·simp at h1

def tokB (P : Program) (E : Env) (τ : Phi) (t c : Nat) : Bool:=
 (τ t == some c) &&
 (match P.info? t with
 | some i=>i.size == (E.ty c).size && i.bytes == (E.ty c).bytes && (match i.zero with
  | some z=>zeroB z.cells.toList (E.ty c).zero && isAggV z == (E.ty c).ag
  | none=>false)
 | none=>false) &&
 (!(E.ty c).eqc || eqB P t (E.ty c).zero) &&
 (match (E.ty c).k,P.underlying t with
 | .bool,some .bool=>true
 | .int k,some (.int k')=>decide (k = k')
 | .str,some .string=>true
 | .slice e,some (.slice e')=>τ e' == some e
 | .struct fs,some (.struct fs')=>fs'.size == fs.length && (fs'.toList.zip fs).all fun p=>p.1.offset == p.2.1 && τ p.1.type == some p.2.2
 | .arr n e,some (.array n' e')=>n == n' && τ e' == some e
 | .map k e,some (.map k' e')=>τ k' == some k && τ e' == some e
 | .ptr _,some (.pointer _)=>true
 | .func,some (.func _ _ _)=>true
 | _,_=>false)

theorem ztj {P : Program} {E : Env} {τ : Phi} {t c : Nat} (h : tokB P E τ t c = true) : TOk P E τ t c:=by
 simp only [tokB,Bool.and_eq_true] at h
 obtain ⟨⟨⟨h1,h2⟩,h3⟩,h4⟩:=h
 refine ⟨by simpa using h1,?_,fun he=>?_,?_⟩
 ·split at h2
  ·rename_i i hi
   simp only [Bool.and_eq_true,beq_iff_eq] at h2
   obtain ⟨⟨h5,h6⟩,h7⟩:=h2
   refine ⟨i,hi,h5,h6,fun _ _=>?_⟩
   split at h7
   ·rename_i z hz
    simp only [Bool.and_eq_true,beq_iff_eq] at h7
    exact ⟨z,hz,zfd h7.1,h7.2⟩
   ·simp at h7
  ·simp at h2
 ·rw [he] at h3
  exact zu4 (by simpa using h3)
 ·generalize hk : (E.ty c).k = kk at h4 ⊢
  generalize hu : P.underlying t = u at h4 ⊢
  split at h4
  ·rfl
  ·rename_i k k'; simp at h4; rw [h4]
  ·rfl
  ·rename_i e e'; exact ⟨e',rfl,by simpa using h4⟩
  ·rename_i fs fs'
   simp only [Bool.and_eq_true,beq_iff_eq] at h4
   refine ⟨fs',rfl,h4.1,fun i f p hf hp=>?_⟩
   have : (fs'.toList.zip fs)[i]? = some (f,p):=by
    rw [List.getElem?_zip_eq_some]; exact ⟨by simpa using hf,hp⟩
   have:=List.all_eq_true.1 h4.2 _ (List.mem_of_getElem? this)
   simpa using this
  ·rename_i n e n' e'
   simp only [Bool.and_eq_true,beq_iff_eq] at h4
   exact ⟨e',by rw [h4.1],h4.2⟩
  ·rename_i k e k' e'
   simp only [Bool.and_eq_true,beq_iff_eq] at h4
   exact ⟨k',e',rfl,h4⟩
  ·exact ⟨_,rfl⟩
  ·exact ⟨_,_,_,rfl⟩
  ·simp at h4


def look : List (Nat × Nat) -> Phi
 | [],_=>none
 | p :: l,n=>if n = p.1 then some p.2 else look l n

theorem z61 : ∀ {l : List (Nat × Nat)} {n c : Nat},look l n = some c -> (n,c) ∈ l
 | [],n,c,h=>by simp [look] at h
 | p :: l,n,c,h=>by
  simp only [look] at h
  split at h
  ·rename_i e; simp at h; subst h; subst e; simp
  ·exact List.mem_cons_of_mem _ (z61 h)

theorem zr2 {P : Program} {E : Env} {tl : List (Nat × Nat)} (h : (tl.all fun p=>tokB P E (look tl) p.1 p.2) = true) : TAll P E (look tl):=fun t c hc=>
 ztj (List.all_eq_true.1 h (t,c) (z61 hc))

def fnOkB (P : Program) (f : Nat) : Bool:=
 match P.funcs[f]? with
 | some fn=>!fn.body.isNone && !(fn.name == "runtime.NumGoroutine")
 | none=>false

theorem zg5 {P : Program} {fl : List (Nat × Nat)} (h : (fl.all fun p=>fnOkB P p.1) = true) : FnsOk P (look fl):=fun f f' hf=>by
 have:=List.all_eq_true.1 h (f,f') (z61 hf)
 simp only [fnOkB] at this
 split at this
 ·rename_i fn hfn
  simp only [Bool.and_eq_true,Bool.not_eq_true'] at this
  exact ⟨fn,hfn,this.1,this.2⟩
 ·simp at this

end Dv

namespace Dv

section
variable {E : Env} {n : Nat} {st st' : St} {ex : Ex}

theorem zdg {c : DC} (h : dC E n c st = some (ex,st')) : ∃ m,n = m + 1:=by
 cases n with
 | zero=>simp [dC] at h
 | succ m=>exact ⟨m,rfl⟩

theorem zq5 {a b : DC} (h : dC E (n + 1) (.seq a b) st = some (ex,st')) : (∃ st1,dC E n a st = some (.normal,st1) /\ dC E n b st1 = some (ex,st')) \/ (ex ≠ .normal /\ dC E n a st = some (ex,st')):=by
 simp only [dC] at h
 split at h
 ·rename_i st1 h1; exact .inl ⟨st1,h1,h⟩
 ·rename_i hne
  refine .inr ⟨fun e=>?_,h⟩
  subst e; exact hne _ h

theorem z6e {ap : List (Nat × Nat)} {ops : List DOpr} (h : dC E (n + 1) (.region false ap ops) st = some (ex,st')) : ex = .normal /\ stepOps E (runP E (dC E n)) (runS E (dC E n)) (runY (dC E n)) ops st = some st':=by
 simp only [dC,Bool.false_eq_true,if_false,Option.map_eq_some_iff,Prod.mk.injEq] at h
 obtain ⟨x,h1,h2,h3⟩:=h
 subst h3
 exact ⟨h2.symm,h1⟩

theorem zu6 (h : dC E (n + 1) .ret st = some (ex,st')) : ex = .ret /\ st' = st:=by
 simp [dC] at h; exact ⟨h.1.symm,h.2.symm⟩

end
end Dv

namespace Dv
open Go (Value Program World Act Oper Operand Code Ending Exit)

def cl0 : List DOpr:=[⟨some 2,.assign (.c (.imm .exact [])),none⟩]
def cl1 (c : Nat) : List DOpr:=[⟨some 3,.move (.t 0),none⟩,⟨some 4,.bin .eql c (.t 3) (.c (.imm .exact [])),none⟩]
def cl3 (c : Nat) : List DOpr:=[⟨some 5,.bslice false c 0 [],none⟩,⟨some 6,.move (.t 0),none⟩,⟨some 7,.append 1 c c (.t 5) (.t 6),none⟩,⟨some 2,.assign (.t 7),none⟩]

def cloneFn (c : Nat) : DFn:=⟨8,[.tmp 2],.seq (.region false [] cl0) (.seq (.region false [] (cl3 c)) .ret)⟩

def cloneParts : Code -> Option (Nat × Array Oper × Nat × Array Oper × Nat × Array Oper × Nat × Array Oper)
 | .seq (.region i0 o0 false) (.seq (.seq (.region i1 o1 false) (.cond (.tmp 4) (.seq (.region i2 o2 false) .ret) .skip)) (.seq (.region i3 o3 false) .ret))=>some (i0,o0,i1,o1,i2,o2,i3,o3)
 | _=>none

theorem zbx {c : Code} {p : Nat × Array Oper × Nat × Array Oper × Nat × Array Oper × Nat × Array Oper} (h : cloneParts c = some p) :
  c = .seq (.region p.1 p.2.1 false) (.seq (.seq (.region p.2.2.1 p.2.2.2.1 false) (.cond (.tmp 4) (.seq (.region p.2.2.2.2.1 p.2.2.2.2.2.1 false) .ret) .skip)) (.seq (.region p.2.2.2.2.2.2.1 p.2.2.2.2.2.2.2 false) .ret)):=by
 unfold cloneParts at h
 split at h
 ·simp at h; subst h; rfl
 ·simp at h

def stripP4 (T F : Phi) (c : Code) : Option (List DOpr × List DOpr × List DOpr × List DOpr):=
 match cloneParts c with
 | some p=>(match stripOps T F p.2.1.toList p.2.1.toList,stripOps T F p.2.2.2.1.toList p.2.2.2.1.toList,stripOps T F p.2.2.2.2.2.1.toList p.2.2.2.2.2.1.toList,stripOps T F p.2.2.2.2.2.2.2.toList p.2.2.2.2.2.2.2.toList with
  | some a,some b,some c,some d=>some (a,b,c,d)
  | _,_,_,_=>none)
 | none=>none

theorem zc7 {F : Phi} {x : Operand} (h : stripOpd F x = some (.c (.imm .exact []))) : x = .const (.slice none 0 0):=by
 unfold stripOpd at h
 split at h
 ·simp at h
 ·simp only [Option.map_eq_some_iff] at h
  obtain ⟨ds,_,h⟩:=h; cases h
 ·rename_i v _
  simp only [Option.map_eq_some_iff] at h
  obtain ⟨d,h1,h2⟩:=h
  simp at h2; subst h2
  unfold ofClosed at h1
  split at h1 <;> simp at h1
  rfl
 ·simp at h
 ·simp at h

theorem zgo {F : Phi} {x : Operand} {n : Nat} (h : stripOpd F x = some (.t n)) : x = .tmp n:=by
 unfold stripOpd at h
 split at h
 ·simp at h; rw [h]
 ·simp at h
 ·simp at h
 ·simp at h
 ·simp at h

section
variable {P : Program} {E : Env} {F : Phi} {T : Phi} {B M : Nat} {ρ : Rho} {H : HS} {os : List Obj} {w : World} {a : Act} {sl : List D}

theorem z87 {sz : Nat} {ag : Bool} {v : Value} {d : D} {l : List D} (h : Rep F ρ H w.heap v d) (hl : listOf os sz ag d = some l) : ∃ ad n cap,v = .slice ad n cap /\ (ad = none -> l = []):=by
 unfold listOf at hl
 split at hl
 ·split at hl
  ·simp at hl; subst hl
   cases h with
   | imm _ _ ad cap b off su vs hu hcap hex htok ha hH hr=>
    refine ⟨ad,_,cap,rfl,fun e=>?_⟩
    apply Classical.byContradiction
    intro hne
    rw [ha hne] at e; cases e
  ·simp at hl
 ·rename_i id2 off2 len2 sz2 ag2 gr2
  split at hl
  ·split at hl
   ·cases h with
    | sl _ _ _ _ _ _ b c cap ad hid hlc ha hc=>
     refine ⟨ad,len2,cap,rfl,fun e=>?_⟩
     have : len2 = 0:=by
      apply Classical.byContradiction
      intro hne
      rw [ha hne] at e; cases e
     subst this
     simp [chunk] at hl
     exact hl
   ·simp at hl
  ·simp at hl
 ·simp at hl

theorem zsj {callP : Nat -> List D -> Option D} {callS callY : Nat -> List D -> List Obj -> Option (D × List Obj)} {c : Nat} {st st' : St} (h8 : 8 <= st.sl.length) (h : stepOps E callP callS callY (cl3 c) st = some st') :
  ∃ e ef new,(E.ty c).k = .slice e /\ listOf st.hp (E.ty e).size (E.ty e).ag (getO st.sl (.t 0)) = some new /\ appendM E st.hp st.hp.length c c (.imm .exact []) (getO st.sl (.t 0)) = some ef /\ (new = [] -> ef = ⟨.imm .exact [],none,none⟩) /\ st'.sl.getD 2 .undef = ef.d /\ st'.hp = applyEf st.hp st.hp.length ef /\
   ∀ sl2 : List D,sl2.length = st.sl.length -> getO sl2 (.t 0) = getO st.sl (.t 0) -> ∃ st2,stepOps E callP callS callY (cl3 c) ⟨sl2,st.hp⟩ = some st2 /\ st2.sl.getD 2 .undef = ef.d /\ st2.hp = applyEf st.hp st.hp.length ef:=by
 have pa : ∀ (sl : List D) (ef : Ef),pureOp E callP st.hp.length (getO sl) st.hp (.bslice false c 0 []) = some ef -> ef = ⟨.imm .exact [],none,none⟩:=by
  intro sl ef h
  simp only [pureOp] at h
  split at h
  ·split at h
   ·split at h
    ·simp [fillE] at h; exact h.symm
    ·simp at h
   ·simp at h
  ·simp at h
 have pa2 : ∀ (sl sl2 : List D),pureOp E callP st.hp.length (getO sl) st.hp (.bslice false c 0 []) = pureOp E callP st.hp.length (getO sl2) st.hp (.bslice false c 0 []):=fun sl sl2=>rfl
 have step_a : ∀ (sl : List D) (st1 : St),step1 E callP callS callY st.hp.length ⟨some 5,.bslice false c 0 [],none⟩ ⟨sl,st.hp⟩ = some st1 -> st1 = ⟨sl.set 5 (.imm .exact []),st.hp⟩:=by
  intro sl st1 h
  simp only [step1,wantedD,if_true,stepOp,DOp.fin] at h
  cases hp : pureOp E callP st.hp.length (getO sl) st.hp (.bslice false c 0 []) with
  | none=>rw [hp] at h; simp at h
  | some ef=>
   rw [hp,pa sl ef hp] at h
   simp [applyEf,putO] at h; exact h.symm
 have step_a2 : ∀ (sl sl2 : List D) (st1 : St),step1 E callP callS callY st.hp.length ⟨some 5,.bslice false c 0 [],none⟩ ⟨sl,st.hp⟩ = some st1 -> step1 E callP callS callY st.hp.length ⟨some 5,.bslice false c 0 [],none⟩ ⟨sl2,st.hp⟩ = some ⟨sl2.set 5 (.imm .exact []),st.hp⟩:=by
  intro sl sl2 st1 h
  simp only [step1,wantedD,if_true,stepOp,DOp.fin] at h ⊢
  cases hp : pureOp E callP st.hp.length (getO sl) st.hp (.bslice false c 0 []) with
  | none=>rw [hp] at h; simp at h
  | some ef=>
   rw [pa2 sl2 sl,hp,pa sl ef hp]
   simp [applyEf,putO]
 simp only [cl3,z8,Option.bind_eq_some_iff] at h
 obtain ⟨st1,h1,st2,h2,st3,h3,st4,h4,h5⟩:=h
 simp only [stepOps,Option.some.injEq] at h5; subst h5
 have e1:=step_a st.sl st1 h1
 subst e1
 simp only [step1,wantedD,if_true,stepOp,DOp.fin,pureOp,Option.map_some,applyEf,putO,Option.some.injEq] at h2
 subst h2
 have get5 : ∀ (sl : List D),8 <= sl.length -> ∀ x y,getO (((sl.set 5 x).set 6 y)) (.t 5) = x /\ getO (((sl.set 5 x).set 6 y)) (.t 6) = y /\ getO (sl.set 5 x) (.t 0) = getO sl (.t 0):=by
  intro sl hl x y
  simp only [getO,List.getD_eq_getElem?_getD]
  refine ⟨?_,?_,?_⟩
  ·rw [List.getElem?_set_ne (by omega),List.getElem?_set_self (by omega)]; rfl
  ·rw [List.getElem?_set_self (by simp; omega)]; rfl
  ·rw [List.getElem?_set_ne (by omega)]
 obtain ⟨g1,g2,g3⟩:=get5 st.sl h8 (.imm .exact []) (getO (st.sl.set 5 (.imm .exact [])) (.t 0))
 simp only [step1,wantedD,if_true,stepOp,DOp.fin,pureOp] at h3
 rw [g1,g2,g3] at h3
 cases hap : appendM E st.hp st.hp.length c c (.imm .exact []) (getO st.sl (.t 0)) with
 | none=>rw [hap] at h3; simp at h3
 | some ef=>
  rw [hap] at h3
  simp only [Option.map_some,Option.some.injEq] at h3
  subst h3
  simp only [step1,wantedD,if_true,stepOp,DOp.fin,pureOp,Option.map_some,applyEf,Option.some.injEq,putO] at h4
  subst h4
  have last : ∀ (sl : List D),8 <= sl.length -> ∀ x,((sl.set 7 x).set 2 (getO (sl.set 7 x) (.t 7))).getD 2 .undef = x:=by
   intro sl hl x
   simp only [getO,List.getD_eq_getElem?_getD]
   rw [List.getElem?_set_self (by simp; omega),List.getElem?_set_self (by omega)]; rfl
  have hap2:=hap
  unfold appendM at hap2
  split at hap2
  case h_2=>simp at hap2
  rename_i e e2 els hk hk2 hx
  simp at hx; subst hx
  split at hap2
  case h_2=>simp at hap2
  rename_i new hnew
  refine ⟨e,ef,new,hk,hnew,rfl,fun hn=>?_,last _ (by simpa using h8) _,rfl,fun sl2 hl2 h0=>?_⟩
  ·subst hn
   simp at hap2; exact hap2.symm
  ·obtain ⟨k1,k2,k3⟩:=get5 sl2 (by omega) (.imm .exact []) (getO (sl2.set 5 (.imm .exact [])) (.t 0))
   refine ⟨⟨((((sl2.set 5 (.imm .exact [])).set 6 (getO (sl2.set 5 (.imm .exact [])) (.t 0))).set 7 ef.d).set 2 (getO (((sl2.set 5 (.imm .exact [])).set 6 (getO (sl2.set 5 (.imm .exact [])) (.t 0))).set 7 ef.d) (.t 7))),applyEf st.hp st.hp.length ef⟩,?_,last _ (by simp; omega) _,rfl⟩
   simp only [cl3,z8,step_a2 _ sl2 _ h1,Option.bind_some]
   have b2 : step1 E callP callS callY st.hp.length ⟨some 6,.move (.t 0),none⟩ ⟨sl2.set 5 (.imm .exact []),st.hp⟩ = some ⟨(sl2.set 5 (.imm .exact [])).set 6 (getO (sl2.set 5 (.imm .exact [])) (.t 0)),st.hp⟩:=rfl
   rw [b2]
   simp only [Option.bind_some]
   have b3 : step1 E callP callS callY st.hp.length ⟨some 7,.append 1 c c (.t 5) (.t 6),none⟩ ⟨(sl2.set 5 (.imm .exact [])).set 6 (getO (sl2.set 5 (.imm .exact [])) (.t 0)),st.hp⟩ = some ⟨((sl2.set 5 (.imm .exact [])).set 6 (getO (sl2.set 5 (.imm .exact [])) (.t 0))).set 7 ef.d,applyEf st.hp st.hp.length ef⟩:=by
    simp only [step1,wantedD,if_true,stepOp,DOp.fin,pureOp]
    rw [k1,k2,k3,h0,hap]
    rfl
   rw [z8,b3]
   rfl

theorem zim (TA : TAll P E T) (FO : FnsOk P F) {f f' c : Nat} {fn : Go.Func} {code : Code} (hG : E.fn f' = some (cloneFn c)) (hfn : P.funcs[f]? = some fn) (hb : fn.body = some code) (hnt : fn.ntmps = 8) (hres : fn.results.toList = [.tmp 2])
  (h4 : stripP4 T F code = some (eraseOps cl0,eraseOps (cl1 c),eraseOps cl0,eraseOps (cl3 c))) (n : Nat) (hmp : E.mp f' = false:=by rfl) : StatAt P (CLk T F true) F (runS E (dC E n) f') f:=by
 unfold stripP4 at h4
 split at h4
 case h_2=>simp at h4
 rename_i p hp
 obtain ⟨i0,o0,i1,o1,i2,o2,i3,o3⟩:=p
 have hcode:=zbx hp
 simp only at h4 hcode
 split at h4
 case h_2=>simp at h4
 rename_i s0 s1 s2 s3
 simp only [Option.some.injEq,Prod.mk.injEq] at h4
 obtain ⟨rfl,rfl,rfl,rfl⟩:=h4
 have k0:=z1p s0
 have k1:=z1p s1
 have k2:=z1p s2
 have k3:=z1p s3
 subst hcode
 intro r B ρ H os os' w vals ds d h S hr
 have h0 : Go.CallsIn (Fw none) 0 P f vals w (StatR (CLk T F true) F B ρ H os w d os'):=by
  refine Go.callsIn_of_wp_marks hfn hb trivial ?_
  -- the run of the short form
  simp only [runS,hG,hmp,finishQ,finishF] at h
  have hP : ∀ f f',F f = some f' -> PureAt P F ((fun _ _=>none : Nat -> List D -> Option D) f') f:=fun f f' _ r H w vals ds d h=>by cases h
  have hS : ∀ f f',F f = some f' -> StatAt P (CLk T F true) F (fun ds os=>noMark ((fun _ _ _=>none : Nat -> List D -> List Obj -> Option (D × List Obj)) f' ds os)) f:=fun f f' _ r B ρ H os os' w vals ds d h=>by cases h
  have hY : YieldAt P (CLk T F true) F (fun _ _ _=>none):=fun r B ρ H os os' w vals ds d l b c h=>by cases h
  have hrun : ∃ st1 st2,stepOps E (fun _ _=>none) (fun _ _ _=>none) (fun _ _ _=>none) cl0 (startF (cloneFn c) ds os) = some st1 /\ stepOps E (fun _ _=>none) (fun _ _ _=>none) (fun _ _ _=>none) (cl3 c) st1 = some st2 /\ (resD E st2 [.tmp 2]).map (fun l=>(oneRes l,st2.hp)) = some (d,os'):=by
   have key : ∀ (n : Nat) (st : St) (ex : Ex) (st2 : St),dC E n (cloneFn c).body st = some (ex,st2) -> ∃ st1,stepOps E (fun _ _=>none) (fun _ _ _=>none) (fun _ _ _=>none) cl0 st = some st1 /\ stepOps E (fun _ _=>none) (fun _ _ _=>none) (fun _ _ _=>none) (cl3 c) st1 = some st2 /\ ex = .ret:=by
    intro n st ex st2 hx
    obtain ⟨n,rfl⟩:=zdg hx
    rcases zq5 hx with ⟨st1,h1,h2⟩ | ⟨hne,h1⟩
    ·obtain ⟨n,rfl⟩:=zdg h1
     have h1:=(z6e h1).2
     rcases zq5 h2 with ⟨st3,h3,h4⟩ | ⟨hne,h3⟩
     ·obtain ⟨n,rfl⟩:=zdg h3
      have h3:=(z6e h3).2
      obtain ⟨rfl,rfl⟩:=zu6 h4
      exact ⟨st1,h1,h3,rfl⟩
     ·obtain ⟨n,rfl⟩:=zdg h3
      exact absurd (z6e h3).1 hne
    ·obtain ⟨n,rfl⟩:=zdg h1
     exact absurd (z6e h1).1 hne
   split at h
   ·rename_i st2 hx
    obtain ⟨st1,h1,h2,_⟩:=key n _ _ st2 hx
    exact ⟨st1,st2,h1,h2,h⟩
   ·rename_i st2 hx
    obtain ⟨st1,h1,h2,h3⟩:=key n _ _ st2 hx
    cases h3
   ·simp at h
  obtain ⟨st1,st2,hr0,hr3,hres'⟩:=hrun
  have sz0 : o0.size = cl0.length:=by simpa using k0.len
  have sz1 : o1.size = (cl1 c).length:=by simpa using k1.len
  have sz2 : o2.size = cl0.length:=by simpa using k2.len
  have sz3 : o3.size = (cl3 c).length:=by simpa using k3.len
  have hst1 : st1 = ⟨(startF (cloneFn c) ds os).sl.set 2 (.imm .exact []),os⟩:=by
   have : some (⟨(startF (cloneFn c) ds os).sl.set 2 (.imm .exact []),os⟩ : St) = some st1:=hr0
   simpa using this.symm
  have h8 : 8 <= st1.sl.length:=by rw [hst1]; simp [startF,cloneFn]; omega
  have hhp : st1.hp = os:=by rw [hst1]
  obtain ⟨e,ef,new,hk,hnew,hap,hnil,hres2,hhp2,hagain⟩:=zsj h8 hr3
  have hd : d = ef.d /\ os' = applyEf os os.length ef:=by
   simp only [resD,Option.map_some,oneRes,Option.some.injEq,Prod.mk.injEq] at hres'
   rw [hres2,hhp2,hhp] at hres'
   exact ⟨hres'.1.symm,hres'.2.symm⟩
  have slots : RepL F ρ H w.heap (vals ++ Array.replicate (fn.ntmps - vals.size) Go.undef).toList (startF (cloneFn c) ds os).sl:=by
   simp only [startF,Array.toList_append,Array.toList_replicate]
   have : vals.size = ds.length:=by simpa using hr.1
   rw [this,hnt]
   exact hr.append ⟨by simp [cloneFn],fun j v d hv hd=>by
    rw [List.getElem?_replicate] at hv hd
    split at hv
    ·rename_i hj
     rw [if_pos (show j < (cloneFn c).ntmps - ds.length from hj)] at hd
     simp at hv hd; subst hv; subst hd; exact .u0
    ·simp at hv⟩
  -- the way out
  have out : ∀ (a' : Act) (w' : World) (ρ' : Rho) (H' : HS) (os1 : List Obj),PostT (CLk T F true) F B (fun i=>i < os.length) ρ H w ρ' H' w' os1 -> os1 = os' -> os.length <= os1.length -> Rep F ρ' H' w'.heap (a'.tmps.getD 2 Go.undef) d -> a'.defers = [] ->
    Go.LeavesInM (Fw none) 0 P fn a'.tmps (StatR (CLk T F true) F B ρ H os w d os') a'.defers .returning w':=by
   intro a' w' ρ' H' os1 p1 e hlen hv hdf
   subst e
   rw [hdf]
   refine z3z [] w' (fun x hx=>by cases hx) .nil (fun w2 he=>?_)
   simp only [List.foldl_nil] at he
   refine ⟨a'.tmps.getD 2 Go.undef,?_,hlen,ρ',H',⟨by rw [he.1]; exact p1.ext,by rw [he.1]; exact p1.sr,by rw [he.1]; exact p1.size,fun b hb=>by rw [he.1]; exact p1.frB b hb,fun b ds h=>by rw [he.1]; exact p1.frD b ds h,p1.hnew,p1.vac,by rw [he.1]; exact p1.fz,p1.still.trans he.2,fun b hb ho=>by rw [he.1]; exact p1.frame b hb ho,p1.rb,p1.hn⟩,by rw [he.1]; exact hv⟩
   have e2 : Go.results fn a'.tmps = (do
     let vs <- fn.results.mapM (resF a'.tmps)
     pure (if h : vs.size = 1 then vs[0] else .tuple vs)):=rfl
   rw [e2,Array.mapM_eq_mapM_toList,hres]
   simp [resF]
  -- the first region
  refine Go.wpIn_seq (Go.wpIn_region ?_)
  rw [List.range_eq_range',sz0]
  refine z5v TA FO hP hS hY cl0 0 (by simpa using k0) hr0 S slots (fun a1 w1 ρ1 H1 p1 hs1 hlen1 hd1=>?_)
  -- the question whether it is nil
  refine Go.wpIn_seq (Go.wpIn_seq (Go.wpIn_region ?_))
  obtain ⟨q1,q2,hq⟩ : ∃ q1 q2,o1.toList = [q1,q2]:=by
   match hq : o1.toList with
   | []=>rw [<- Array.length_toList,hq] at sz1; simp [cl1] at sz1
   | [_]=>rw [<- Array.length_toList,hq] at sz1; simp [cl1] at sz1
   | [q1,q2]=>exact ⟨q1,q2,rfl⟩
   | _ :: _ :: _ :: _=>rw [<- Array.length_toList,hq] at sz1; simp [cl1] at sz1
  have hl1:=k1
  rw [hq] at hl1
  obtain ⟨l1,l2,_⟩:=hl1
  have g1 : o1[0]? = some q1:=by
   have:=congrArg (fun l : List Oper=>l[0]?) hq; simpa using this
  have g2 : o1[1]? = some q2:=by
   have:=congrArg (fun l : List Oper=>l[1]?) hq; simpa using this
  rw [List.range_eq_range',sz1]
  show Go.wpOpsIn (Fw none) 0 P o1 _ [0,1] a1 w1
  rw [Go.wpOpsIn_cons]
  refine z5x TA FO hP hS hY g1 (by rw [hq]; exact l1) (st:=st1) (st':=⟨putO st1.sl (some 3) (getO st1.sl (.t 0)),st1.hp⟩) (id:=st1.hp.length) rfl p1.sr p1.sr.free (K:=fun i=>i < os.length) (fun i hi=>⟨Nat.lt_of_lt_of_le hi hlen1,Nat.ne_of_lt (Nat.lt_of_lt_of_le hi hlen1)⟩) hs1 (fun a2 w2 ρ2 H2 p2 hs2 hlen2 hd2=>?_)
  have p12:=p1.trans p2
  rw [Go.wpOpsIn_cons]
  unfold Go.wpOpIn
  simp only [g2]
  rw [z80 hs2 (by rw [hq]; exact l2.gd)]
  simp only [wantedD,if_true]
  have hop:=l2.op
  have hdst:=l2.dst
  generalize ho2 : q2.op = oo at hop
  cases hop with
  | bin ht hx hy=>
   rename_i t u x y
   have ey:=zc7 hy
   have ex:=zgo hx
   subst ey ex
   -- the datum of the list
   have get3 : getO (putO st1.sl (some 3) (getO st1.sl (.t 0))) (.t 3) = getO st1.sl (.t 0):=by
    simp only [getO,putO,List.getD_eq_getElem?_getD]
    rw [List.getElem?_set_self (by omega)]; rfl
   have hv3:=z2e (t:=3) hs2
   rw [get3] at hv3
   obtain ⟨ad,len,cap,hval,hnone⟩:=z87 hv3 hnew
   have Tt:=TA _ _ ht
   obtain ⟨e',hu,_⟩:=Tt.slice hk
   have hexec : (Go.execOp a2.eval q2).run P w2 = .ok (.value (.bool ad.isNone)) w2:=by
    unfold Go.execOp
    rw [ho2]
    simp only [hval,show a2.eval (.const (.slice none 0 0)) = .slice none 0 0 from rfl]
    have hg:=z1j (P:=P) (w:=w2) .eql t (.tmp 3) (.const (.slice none 0 0)) (.slice ad len cap) (.slice none 0 0) ⟨fun _=>by simp,by simp⟩
    have he:=Go.run_equalIn_slice_nil w2 9999 t e' ad len cap hu
    simp [hg,Go.binOp,Go.Op.equal,Go.Op.maxDepth,he]
   refine ⟨fun _ _=>trivial,?_⟩
   rw [Go.Oper.semAt_eq _ _ _ (by rw [ho2]; intro c e; cases e),hexec]
   rw [Go.Oper.uponIn_value,<- hdst]
   simp only [Go.wpOpsIn,Go.Exit.then]
   have hs3:=z3u (dst:=some 4) hs2 (.bool ad.isNone)
   have h4v : (a2.put (some 4) (.bool ad.isNone)).eval (.tmp 4) = .bool ad.isNone:=by
    have:=z2e (t:=4) hs3
    rw [show getO (putO (putO st1.sl (some 3) (getO st1.sl (.t 0))) (some 4) (.bool ad.isNone)) (.t 4) = .bool ad.isNone from by
     simp only [getO,putO,List.getD_eq_getElem?_getD]
     rw [List.getElem?_set_self (by simp; omega)]; rfl] at this
    exact this.boolv
   obtain ⟨sl3,hsl3⟩ : ∃ sl3,sl3 = putO (putO st1.sl (some 3) (getO st1.sl (.t 0))) (some 4) (.bool ad.isNone):=⟨_,rfl⟩
   rw [<- hsl3] at hs3
   have hsl3l : sl3.length = st1.sl.length:=by rw [hsl3]; simp [putO]
   have hdf3 : (a2.put (some 4) (.bool ad.isNone)).defers = []:=by rw [z18,hd2,hd1]
   generalize a2.put (some 4) (.bool ad.isNone) = a3 at hs3 h4v hdf3 ⊢
   have two : ∀ (l : List D),8 <= l.length -> ∀ (x : D),(l.set 2 x).getD 2 .undef = x:=fun l hl x=>by
    rw [List.getD_eq_getElem?_getD,List.getElem?_set_self (by omega)]; rfl
   cases had : ad with
   | none=>
    rw [had] at h4v
    have hn0:=hnone had
    have hef:=hnil hn0
    refine Go.wpIn_cond_true h4v (Go.wpIn_seq (Go.wpIn_region ?_))
    rw [List.range_eq_range',sz2]
    refine z5v TA FO hP hS hY cl0 0 (by simpa using k2) (st:=⟨sl3,st1.hp⟩) (st':=⟨sl3.set 2 (.imm .exact []),st1.hp⟩) rfl p12.sr hs3 (fun a4 w4 ρ4 H4 p4 hs4 hlen4 hd4=>?_)
    refine Go.wpIn_ret ?_
    have hv:=z7n (t:=2) hs4
    rw [two sl3 (by omega)] at hv
    refine out a4 w4 ρ4 H4 os (by have:=p12.trans (p4.weaken fun i hi=>by rw [hhp]; exact hi); rwa [hhp] at this) ?_ (Nat.le_refl _) ?_ (hd4.trans hdf3)
    ·rw [hd.2,hef]; rfl
    ·rw [hd.1,hef]; exact hv
   | some adr=>
    rw [had] at h4v
    refine Go.wpIn_cond_false h4v (Go.wpIn_skip ?_)
    refine Go.wpIn_seq (Go.wpIn_region ?_)
    rw [List.range_eq_range',sz3]
    obtain ⟨st5,hr5,e5,e6⟩:=hagain sl3 hsl3l (by
     rw [hsl3]; simp only [getO,putO,List.getD_eq_getElem?_getD]
     rw [List.getElem?_set_ne (by omega),List.getElem?_set_ne (by omega)])
    refine z5v TA FO hP hS hY (cl3 c) 0 (by simpa using k3) hr5 p12.sr hs3 (fun a4 w4 ρ4 H4 p4 hs4 hlen4 hd4=>?_)
    refine Go.wpIn_ret ?_
    have hv:=z7n (t:=2) hs4
    rw [e5] at hv
    refine out a4 w4 ρ4 H4 st5.hp (p12.trans (p4.weaken fun i hi=>by simp only [hhp]; exact hi)) ?_ ?_ ?_ (hd4.trans hdf3)
    ·rw [hd.2,e6,hhp]
    ·have:=hlen4; simp only [hhp] at this; exact this
    ·rw [hd.1]; exact hv
 exact h0

end

def Good (P : Program) (E : Env) (T F : Phi) (pt : Nat × Nat) (p : Nat × Nat) : Prop:=∀ G,E.fn p.2 = some G -> (E.mp p.2 = false /\ (FnL P T F p.1 G \/ Hatch P E T F pt p.1 p.2)) \/ (E.mp p.2 = true /\ FnM P T F pt p.1 G)

section
variable {P : Program} {E : Env} {T F : Phi} {pt : Nat × Nat}
theorem zb {f f' : Nat} {G : DFn} (h : FnL P T F f G) (e : E.fn f' = some G) (hm : E.mp f' = false:=by rfl) : Good P E T F pt (f,f'):=fun G' h'=>by
 simp only at h'
 rw [e] at h'; simp at h'; subst h'; exact .inl ⟨hm,.inl h⟩

theorem zi5 {f f' : Nat} (h : ∀ n,StatAt P (CLk T F true) F (runS E (dC E n) f') f) (hm : E.mp f' = false:=by rfl) : Good P E T F pt (f,f'):=fun _ _=>.inl ⟨hm,.inr fun n _ _=>h n⟩

theorem zaj {f f' : Nat} (h : Hatch P E T F pt f f') (hm : E.mp f' = false:=by rfl) : Good P E T F pt (f,f'):=fun _ _=>.inl ⟨hm,.inr h⟩

theorem allc {p : Nat × Nat} {l : List (Nat × Nat)} (h : Good P E T F pt p) (h' : ∀ q,q ∈ l -> Good P E T F pt q) : ∀ q,q ∈ p :: l -> Good P E T F pt q:=fun q hq=>by
 rcases List.mem_cons.1 hq with e | e
 ·rw [e]; exact h
 ·exact h' q e

theorem alln : ∀ q,q ∈ ([] : List (Nat × Nat)) -> Good P E T F pt q:=fun _ h=>by cases h
end

theorem zpp {P : Program} {E : Env} {T : Phi} {fl : List (Nat × Nat)} {pt : Nat × Nat} (h1 : TAll P E T) (h2 : P.follows .mixedOrders = true) (h3 : FnsOk P (look fl)) (h4 : ∀ q,q ∈ fl -> Good P E T (look fl) pt q) : Tie P E T (look fl):=
 ⟨h1,h2,h3,pt,fun f f' G hf hG=>h4 (f,f') (z61 hf) G hG⟩

end Dv

namespace Dv
open Go (Value Program World Act Oper Operand Code Ending Exit FrameMode)


def nowr (S : List Nat) : DC -> Bool
 | .region _ _ ops=>ops.all fun o=>(match o.dst with
  | some n=>!S.contains n
  | none=>true)
 | .seq a b=>nowr S a && nowr S b
 | .cond _ a b=>nowr S a && nowr S b
 | .ifp _ a b=>nowr S a && nowr S b
 | .block _ a=>nowr S a
 | .loop a=>nowr S a
 | .rfunc _ _ _ _=>false
 | _=>true

section
variable {P : Program} {E : Env} {CL : CLink} {F : Phi} {T : Phi} {B M : Nat} {D0 : List Go.Deferred} {K : Nat -> Prop} {ρ : Rho} {H : HS} {os : List Obj} {w : World} {a : Act} {sl : List D} {pt : Nat × Nat}

theorem za3 {sl : List D} {o : Option Nat} {d : D} {x : Nat} (h : o ≠ some x) : (putO sl o d).getD x .undef = sl.getD x .undef:=by
 cases o with
 | none=>rfl
 | some n=>
  simp only [putO,List.getD_eq_getElem?_getD]
  rw [List.getElem?_set_ne (fun e=>h (by rw [e]))]

theorem za0 {callP : Nat -> List D -> Option D} {callS callY : Nat -> List D -> List Obj -> Option (D × List Obj)} {id : Nat} {o : DOpr} {st st' : St} {x : Nat} (h : step1 E callP callS callY id o st = some st') (hx : o.dst ≠ some x) : st'.sl.getD x .undef = st.sl.getD x .undef:=by
 unfold step1 at h
 split at h
 ·split at h
  ·simp only [Option.some.injEq] at h; subst h; exact za3 hx
  ·simp at h
 ·simp only [Option.some.injEq] at h; subst h; exact za3 hx

theorem z6z {callP : Nat -> List D -> Option D} {callS callY : Nat -> List D -> List Obj -> Option (D × List Obj)} {x : Nat} : ∀ {l : List DOpr} {st st' : St},stepOps E callP callS callY l st = some st' -> (∀ o,o ∈ l -> o.dst ≠ some x) -> st'.sl.getD x .undef = st.sl.getD x .undef
 | [],st,st',h,_=>by simp only [stepOps,Option.some.injEq] at h; rw [h]
 | o :: l,st,st',h,hx=>by
  rw [z8] at h
  simp only [Option.bind_eq_some_iff] at h
  obtain ⟨s1,h1,h2⟩:=h
  rw [z6z h2 (fun o ho=>hx o (by simp [ho])),za0 h1 (hx o (by simp))]

theorem z5n {callP : Nat -> List D -> Option D} {callS callY : Nat -> List D -> List Obj -> Option (D × List Obj)} {x : Nat} : ∀ {l : List DOpr} {id : Nat} {st st' : St},stepOpsD E callP callS callY id l st = some st' -> (∀ o,o ∈ l -> o.dst ≠ some x) -> st'.sl.getD x .undef = st.sl.getD x .undef
 | [],id,st,st',h,_=>by simp only [stepOpsD,Option.some.injEq] at h; rw [h]
 | o :: l,id,st,st',h,hx=>by
  rw [z3r] at h
  simp only [Option.bind_eq_some_iff] at h
  obtain ⟨s1,h1,h2⟩:=h
  rw [z5n h2 (fun o ho=>hx o (by simp [ho])),za0 h1 (hx o (by simp))]

theorem dC_nowr {S : List Nat} {x : Nat} (hxS : x ∈ S) : ∀ {n : Nat} {c : DC} {st st' : St} {ex : Ex},nowr S c = true -> dC E n c st = some (ex,st') -> st'.sl.getD x .undef = st.sl.getD x .undef:=by
 intro n
 induction n with
 | zero=>intro c st st' ex _ h; simp [dC] at h
 | succ n ih=>
  intro c st st' ex hw h
  cases c with
  | skip=>simp [dC] at h; rw [h.2]
  | ret=>simp [dC] at h; rw [h.2]
  | exit id=>simp [dC] at h; rw [h.2]
  | seq c d=>
   simp only [nowr,Bool.and_eq_true] at hw
   simp only [dC] at h
   split at h
   ·rename_i st1 h1; rw [ih hw.2 h,ih hw.1 h1]
   ·exact ih hw.1 h
  | cond c a b=>
   simp only [nowr,Bool.and_eq_true] at hw
   simp only [dC] at h
   split at h
   ·exact ih hw.1 h
   ·exact ih hw.2 h
   ·simp at h
  | ifp c a b=>
   simp only [nowr,Bool.and_eq_true] at hw
   simp only [dC] at h
   split at h
   ·exact ih hw.1 h
   ·exact ih hw.2 h
  | block id a=>
   simp only [nowr] at hw
   simp only [dC] at h
   split at h
   ·rename_i id' st1 h1
    simp only [Option.some.injEq,Prod.mk.injEq] at h
    rw [<- h.2]; exact ih hw h1
   ·exact ih hw h
  | loop a=>
   have hw':=hw
   simp only [nowr] at hw'
   simp only [dC] at h
   split at h
   ·rename_i st1 h1; rw [ih hw h,ih hw' h1]
   ·exact ih hw' h
  | region dr ap ops=>
   simp only [nowr,List.all_eq_true] at hw
   have hw' : ∀ o,o ∈ ops -> o.dst ≠ some x:=fun o ho e=>by
    have:=hw o ho
    rw [e] at this
    simp [hxS] at this
   simp only [dC,Option.map_eq_some_iff,Prod.mk.injEq] at h
   obtain ⟨s1,h1,_,rfl⟩:=h
   split at h1
   ·unfold checkAp at h1
    split at h1
    ·rename_i s2 h2
     split at h1
     ·simp only [Option.some.injEq] at h1; subst h1
      have:=z5n h2 hw'
      exact this
     ·simp at h1
    ·simp at h1
   ·exact z6z h1 hw'
  | rfunc f ps asg body=>simp [nowr] at hw

theorem z9c {n : Nat} {x y : DC} {st st' : St} {ex : Ex} (hx : ∀ m st1 e,dC E m x st = some (e,st1) -> e = .normal) (h : dC E n (.seq x y) st = some (ex,st')) : ∃ m st1,n = m + 1 /\ dC E m x st = some (.normal,st1) /\ dC E m y st1 = some (ex,st'):=by
 cases n with
 | zero=>simp [dC] at h
 | succ m=>
  simp only [dC] at h
  split at h
  ·rename_i st1 h1; exact ⟨m,st1,rfl,h1,h⟩
  ·rename_i hne
   have:=hx m st' ex h
   subst this
   exact absurd h (hne _)

theorem zo {m : Nat} {ap : List (Nat × Nat)} {ops : List DOpr} {st st1 : St} {e : Ex} (h : dC E m (.region false ap ops) st = some (e,st1)) : e = .normal /\ ∃ j,m = j + 1 /\ stepOps E (runP E (dC E j)) (runS E (dC E j)) (runY (dC E j)) ops st = some st1:=by
 cases m with
 | zero=>simp [dC] at h
 | succ j=>
  simp only [dC,Bool.false_eq_true,if_false,Option.map_eq_some_iff,Prod.mk.injEq] at h
  obtain ⟨s1,h1,h2,rfl⟩:=h
  exact ⟨h2.symm,j,rfl,h1⟩


end
end Dv

namespace Dv
open Go (Value Program World Act Oper Operand Code Ending Exit)

def growFn (c i : Nat) : DFn:=⟨2,[.tmp 0],
 .seq (.region false [] [⟨some 2,.mark false (.c (.int .i64 0)),none⟩])
  (.ifp (.t 2) (.cond (.c .undef) .skip .skip)
   (.seq (.region false [] [⟨some 0,.append 1 c c (.t 0) (.c (.imm .exact [])),none⟩,⟨some 0,.len c (.t 0),none⟩,⟨some 0,.bin .eql i (.t 0) (.c (.int .i64 0)),none⟩,⟨none,.bin .lss i (.t 1) (.c (.int .i64 0)),none⟩,⟨none,.mkslice false c (.t 1) (.t 1),none⟩])
    (.cond (.t 0) (.seq (.region false [] [⟨some 0,.append 0 c c (.c (.imm .exact [])) (.c (.imm .exact [])),none⟩]) .ret) (.cond (.c .undef) .skip .skip))))⟩

theorem z99 {E : Env} {m : Nat} {st : St} {r : Ex × St} (h : dC E m deadC st = some r) : False:=by
 cases m with
 | zero=>simp [dC] at h
 | succ m=>simp [dC,getO] at h

section
variable {P : Program} {E : Env} {CL : CLink} {F : Phi} {T : Phi} {B : Nat} {ρ : Rho} {H : HS} {os : List Obj} {w : World} {pt : Nat × Nat}

structure GrowOk (P : Program) (f bytes size : Nat) : Prop where
 room : ∀ (base : Option Go.Addr) (w : World),Go.Calls P f #[.slice base 0 0,.int .i64 0] w fun e w'=>e = .returned (.slice base 0 0) /\ w' = w
 grow : ∀ (base : Option Go.Addr) (n : Nat) (w : World),0 < n -> n * bytes <= 140737488355328 -> n <= 4611686018427387904 ->
  Go.Calls P f #[.slice base 0 0,.int .i64 n] w fun e w'=>∃ (G el : Nat) (arr : Array Value),arr.size = G * size /\ e = .returned (.slice (some ⟨w.heap.size,0,none⟩) 0 G) /\ w'.heap = w.heap.push (.cells arr el (0,0)) /\ Still w w'

theorem znv {c i n : Nat} {ds : List D} {d : D} {os os' : List Obj} (h : finishF E (growFn c i) (dC E n (growFn c i).body (startF (growFn c i) ds os)) = some (d,os')) :
  ∃ (e m : Nat),(E.ty c).k = .slice e /\ m * ((E.ty e).bytes + 1) <= maxBytes /\ ds = [.imm .exact [],.int .i64 m] /\ d = .imm (.tok os.length) [] /\ os' = addO os os.length (.tok 0 (E.ty e).size):=by
 cases hrun : dC E n (growFn c i).body (startF (growFn c i) ds os) with
 | none=>rw [hrun] at h; simp [finishF] at h
 | some x=>
 obtain ⟨ex,st'⟩:=x
 rw [hrun] at h
 obtain ⟨m1,st1,rfl,h1,h2⟩:=z9c (fun m s e h=>(zo h).1) hrun
 obtain ⟨_,m2,rfl,g1⟩:=zo h1
 have hst1 : st1 = ⟨(startF (growFn c i) ds os).sl.set 2 (.tup [.undef,.int .i64 0]),os⟩:=by
  have : some (⟨(startF (growFn c i) ds os).sl.set 2 (.tup [.undef,.int .i64 0]),os⟩ : St) = some st1:=g1
  simpa using this.symm
 subst hst1
 simp only [dC] at h2
 have h2d : ds.length <= 2:=by
  rcases Nat.lt_or_ge 2 ds.length with hl | hl
  ·exfalso
   have hm : isMark (getO ((startF (growFn c i) ds os).sl.set 2 (.tup [.undef,.int .i64 0])) (.t 2)) = true:=by
    simp only [getO,List.getD_eq_getElem?_getD]
    rw [List.getElem?_set_self (by simp [startF]; omega)]; rfl
   rw [if_pos hm] at h2
   exact z99 h2
  ·exact hl
 have hset : (startF (growFn c i) ds os).sl.set 2 (.tup [.undef,.int .i64 0]) = (startF (growFn c i) ds os).sl:=by
  refine List.set_eq_of_length_le ?_
  simp [startF,growFn]; omega
 rw [hset] at h2
 have hm : isMark (getO (startF (growFn c i) ds os).sl (.t 2)) = false:=by
  simp only [getO,List.getD_eq_getElem?_getD]
  rw [List.getElem?_eq_none (by simp [startF,growFn]; omega)]; rfl
 rw [if_neg (by rw [hm]; simp)] at h2
 obtain ⟨m3,st3,hm3,h3,h4⟩:=z9c (fun m s e h=>(zo h).1) h2
 obtain ⟨_,m4,rfl,g3⟩:=zo h3
 obtain ⟨x0,x1,hsl,hds⟩ : ∃ x0 x1,(startF (growFn c i) ds os).sl = [x0,x1] /\ (x1 ≠ .undef -> ds = [x0,x1]):=by
  match ds,h2d with
  | [],_=>exact ⟨.undef,.undef,rfl,fun h=>absurd rfl h⟩
  | [x],_=>exact ⟨x,.undef,rfl,fun h=>absurd rfl h⟩
  | [x,y],_=>exact ⟨x,y,rfl,fun _=>rfl⟩
  | _ :: _ :: _ :: _,h=>simp at h
 rw [hsl] at g3
 simp only [z8,Option.bind_eq_some_iff] at g3
 obtain ⟨s1,q1,s2,q2,s3,q3,s4,q4,s5,q5,q6⟩:=g3
 simp only [stepOps,Option.some.injEq] at q6
 subst q6
 simp only [step1,wantedD,if_true] at q1 q2 q3 q4 q5
 split at q1
 case h_2=>simp at q1
 rename_i d1 hp1 e1
 simp only [Option.some.injEq] at q1
 subst q1
 split at q2
 case h_2=>simp at q2
 rename_i d2 hp2 e2
 simp only [Option.some.injEq] at q2
 subst q2
 split at q3
 case h_2=>simp at q3
 rename_i d3 hp3 e3
 simp only [Option.some.injEq] at q3
 subst q3
 split at q4
 case h_2=>simp at q4
 rename_i d4 hp4 e4
 simp only [Option.some.injEq] at q4
 subst q4
 split at q5
 case h_2=>simp at q5
 rename_i d5 hp5 e5
 simp only [Option.some.injEq] at q5
 subst q5
 simp only [putO,List.set_cons_zero] at e2 e3 e4 e5 h4
 simp only [stepOp,DOp.fin,finOp,pureOp,getO,List.getD_cons_zero,List.getD_cons_succ] at e1 e2 e3 e4 e5
 have hx1 : ∃ m0 : Int,x1 = .int .i64 m0 /\ hp4 = hp3:=by
  cases x1 <;> simp [binD] at e4
  rename_i k n
  by_cases hkk : k = .i64
  ·subst hkk
   simp [intBin,applyEf] at e4
   exact ⟨n,rfl,e4.2.symm⟩
  ·simp [hkk] at e4
 obtain ⟨m0,rfl,rfl⟩:=hx1
 have hds:=hds (by simp)
 cases hk : (E.ty c).k with
 | slice e=>
  simp only [hk] at e5
  cases hz : zeroE E e with
  | none=>simp [hz] at e5
  | some z=>
  simp only [hz] at e5
  split at e5
  case isFalse=>simp at e5
  rename_i hc
  obtain ⟨hc1,_,hc3⟩:=hc
  simp only [Bool.false_eq_true,if_false,Option.map_some,applyEf,Option.some.injEq,Prod.mk.injEq] at e5
  obtain ⟨_,rfl⟩:=e5
  have hx0 : ∃ els,x0 = .imm .exact els /\ d1 = .imm .exact els /\ hp1 = os:=by
   clear hds hsl
   cases x0 with
   | imm sp els=>
    cases sp with
    | exact=>simp [appendM,hk,listOf,applyEf] at e1; exact ⟨els,rfl,e1.1.symm,e1.2.symm⟩
    | _=>simp [appendM,hk] at e1
   | _=>simp [appendM,hk] at e1
  obtain ⟨els,rfl,rfl,rfl⟩:=hx0
  simp only [lenD,hk,Option.map_some,applyEf,Option.some.injEq,Prod.mk.injEq] at e2
  obtain ⟨rfl,rfl⟩:=e2
  simp only [binD,if_true,intBin,Option.map_some,applyEf,Option.some.injEq,Prod.mk.injEq] at e3
  obtain ⟨rfl,rfl⟩:=e3
  have hm3' : m2 = m4 + 1 + 1:=hm3
  simp only [dC,getO,List.getD_cons_zero] at h4
  cases els with
  | cons y els=>
   exfalso
   have : ((((y :: els).length : Nat) : Int) == 0) = false:=by simp; omega
   rw [this] at h4
   exact z99 h4
  | nil=>
   simp only [List.length_nil,Int.natCast_zero,beq_self_eq_true] at h4
   obtain ⟨m5,st6,hm5,h5,h6⟩:=z9c (fun m s e h=>(zo h).1) h4
   obtain ⟨_,m6,rfl,g5⟩:=zo h5
   have h6 : Ex.ret = ex /\ st6 = st':=by simpa [dC] using h6
   obtain ⟨rfl,rfl⟩:=h6
   rw [z8] at g5
   simp only [Option.bind_eq_some_iff,stepOps,Option.some.injEq] at g5
   obtain ⟨s1,q1,rfl⟩:=g5
   simp only [step1,wantedD,if_true] at q1
   split at q1
   case h_2=>simp at q1
   rename_i d7 hp7 e7
   simp only [Option.some.injEq] at q1
   subst q1
   simp only [stepOp,DOp.fin,pureOp,getO,appendI,hk,listOf,List.all_nil,if_true,appendB] at e7
   split at e7
   case isFalse=>simp at e7
   simp only [Option.map_some,List.append_nil,List.length_nil,Nat.add_zero,Nat.zero_mul,applyEf,Option.some.injEq,Prod.mk.injEq] at e7
   obtain ⟨rfl,rfl⟩:=e7
   simp only [finishF,growFn,resD,Option.map_some,putO,List.set_cons_zero,List.getD_cons_zero,oneRes,Option.some.injEq,Prod.mk.injEq] at h
   obtain ⟨rfl,rfl⟩:=h
   refine ⟨e,m0.toNat,rfl,?_,?_,rfl,rfl⟩
   ·have : ((m0.toNat : Nat) : Int) = m0:=Int.toNat_of_nonneg hc1
    rw [<- this] at hc3
    exact_mod_cast hc3
   ·rw [hds,Int.toNat_of_nonneg hc1]
 | _=>simp [hk] at e5

theorem zi4 {f f' c i e : Nat} {G : DFn} (hG : E.fn f' = some G) (he : G = growFn c i) (hmp : E.mp f' = false) (hk : (E.ty c).k = .slice e) (C : GrowOk P f (E.ty e).bytes (E.ty e).size) : Hatch P E T F pt f f':=by
 intro n KC K r B ρ H os os' w vals ds d h S hr
 subst he
 simp only [runS,hG,hmp,finishQ] at h
 obtain ⟨e',m,hk',hm,rfl,rfl,rfl⟩:=znv h
 rw [hk] at hk'
 simp only [TK.slice.injEq] at hk'
 subst hk'
 have hmain : Go.CallsIn Go.Fence.wide 0 P f vals w (StatR (CLk T F true) F B ρ H os w (.imm (.tok os.length) []) (addO os os.length (.tok 0 (E.ty e).size))):=by
  obtain ⟨v0,v1,hvals⟩ : ∃ v0 v1,vals = #[v0,v1]:=by
   have:=hr.1
   match hl : vals.toList with
   | [x,y]=>exact ⟨x,y,by cases vals; simp at hl; rw [hl]⟩
   | []=>rw [hl] at this; simp at this
   | [_]=>rw [hl] at this; simp at this
   | _ :: _ :: _ :: _=>rw [hl] at this; simp at this
  subst hvals
  have h0:=hr.2 0 v0 (.imm .exact []) rfl rfl
  have h1:=hr.2 1 v1 (.int .i64 m) rfl rfl
  obtain ⟨a,cap,rfl,_,hex,_⟩:=z4g h0
  have hcap : cap = 0:=hex rfl
  subst hcap
  have hv1 : v1 = .int .i64 m:=by cases h1; rfl
  subst hv1
  have f:=S.free
  have hlen : os.length <= (addO os os.length (.tok 0 (E.ty e).size)).length:=by unfold addO; split <;> simp
  have live : LiveIn os (addO os os.length (.tok 0 (E.ty e).size)) (fun i=>i < os.length):=zr f (fun i hi=>Nat.ne_of_lt hi) ⟨.undef,some (.tok 0 (E.ty e).size),none⟩
  rcases Nat.eq_zero_or_pos m with hm0 | hpos
  ·subst hm0
   refine (Go.callsIn_wide.2 (C.room a w)).mono ?_
   rintro en w' ⟨rfl,rfl⟩
   refine ⟨hlen,upd ρ os.length .virt,H,(z8g S f 0 (E.ty e).size).toT S live (Still.refl _),?_⟩
   refine z4u rfl (S.dead_rho f h0 .virt) (fun h=>by cases h) (fun k hk'=>?_)
   simp at hk'; subst hk'
   exact .inr ⟨by simp [upd],rfl⟩
  ·have hb : m * (E.ty e).bytes <= 140737488355328 /\ m <= 4611686018427387904:=by
    rw [Nat.mul_add,Nat.mul_one] at hm
    unfold maxBytes at hm
    constructor <;> omega
   refine (Go.callsIn_wide.2 (C.grow a m w hpos hb.1 hb.2)).mono ?_
   rintro en w' ⟨G,el,arr,hsz,rfl,hheap,hst⟩
   obtain ⟨ρ',H',hp,hrep⟩:=zfk (w1:=w) rfl S f (arr:=arr) (el:=el) (cap:=G) (su:=(E.ty e).size) (els:=[]) (by simpa [flat] using RepL.nil) hsz (by simp) (Nat.zero_le _)
   simp only [List.length_nil,Nat.zero_mul] at hp hrep
   rw [<- hheap] at hp hrep
   exact ⟨hlen,ρ',H',hp.toT S live hst,hrep⟩
 exact hmain

end
end Dv

namespace Dv
open Go (Value Program World Act Oper Operand Code Ending Exit DataW MemPlace)

inductive DTc (E : Env) : Nat -> List D -> Prop
 | bool {c b} (h : (E.ty c).k = .bool) : DTc E c [.bool b]
 | int {c k n} (h : (E.ty c).k = .int k) (hw : (Go.Lit.int k n).wf = true) : DTc E c [.int k n]
 | str {c s} (h : (E.ty c).k = .str) : DTc E c [.str s]
 | slice {c e els} (h : (E.ty c).k = .slice e) (hl : els.length <= Go.maxLen) (he : ∀ x,x ∈ els -> DTc E e x.cellsL) (ho : ∀ x,x ∈ els -> ofCells (E.ty e).ag x.cellsL = some x) : DTc E c [.imm .none els]
 | struct {c fs ds} (h : (E.ty c).k = .struct fs) (hl : ds.length = (E.ty c).size) (hf : ∀ (i : Nat) p,fs[i]? = some p -> DTc E p.2 ((ds.drop p.1).take (E.ty p.2).size)) : DTc E c ds
 | arr {c n e ds} (h : (E.ty c).k = .arr n e) (hl : ds.length = (E.ty c).size) (hf : ∀ i,i < n -> DTc E e ((ds.drop (i * (E.ty e).size)).take (E.ty e).size)) : DTc E c ds

def tileB (E : Env) : Nat -> List (Nat × Nat) -> Option Nat
 | cur,[]=>some cur
 | cur,(off,u) :: fs=>if off = cur then tileB E (cur + (E.ty u).size) fs else none

def inB (E : Env) : Nat -> Nat -> Bool
 | 0,_=>false
 | n + 1,c=>match (E.ty c).k with
  | .bool=>(E.ty c).size == 1
  | .int _=>(E.ty c).size == 1
  | .str=>(E.ty c).size == 1
  | .slice e=>(E.ty c).size == 1 && !((E.ty e).size == 0) && inB E n e
  | .struct fs=>(tileB E 0 fs == some (E.ty c).size) && fs.all fun p=>inB E n p.2
  | .arr k e=>(k * (E.ty e).size == (E.ty c).size) && inB E n e
  | _=>false

theorem zlo {R : Nat -> D -> Prop} : ∀ (n : Nat),(∀ i,i < n -> ∃ x,R i x) -> ∃ l : List D,l.length = n /\ ∀ (i : Nat) x,l[i]? = some x -> R i x
 | 0,_=>⟨[],rfl,fun i x h=>by simp at h⟩
 | n + 1,h=>by
  obtain ⟨l,h1,h2⟩:=zlo n fun i hi=>h i (by omega)
  obtain ⟨x,hx⟩:=h n (by omega)
  refine ⟨l ++ [x],by simp [h1],fun i y hy=>?_⟩
  by_cases e : i < l.length
  ·rw [List.getElem?_append_left e] at hy; exact h2 i y hy
  ·rw [List.getElem?_append_right (by omega)] at hy
   have : i - l.length = 0:=by
    have:=(List.getElem?_eq_some_iff.1 hy).1; simp at this; omega
   rw [this] at hy; simp at hy; subst hy
   rw [show i = n from by omega]; exact hx

theorem zll {sz : Nat} (hsz : 0 < sz) : ∀ {els : List D} {j : Nat} {d : D},(∀ x,x ∈ els -> x.cellsL.length = sz) -> (flat els)[j]? = some d -> ∃ x,els[j / sz]? = some x /\ x.cellsL[j % sz]? = some d
 | [],j,d,_,h=>by simp [flat] at h
 | x :: els,j,d,hu,h=>by
  have hx:=hu x (by simp)
  rw [z15] at h
  by_cases hj : j < sz
  ·rw [List.getElem?_append_left (by omega)] at h
   exact ⟨x,by rw [Nat.div_eq_of_lt hj]; rfl,by rw [Nat.mod_eq_of_lt hj]; exact h⟩
  ·rw [List.getElem?_append_right (by omega),hx] at h
   obtain ⟨y,h1,h2⟩:=zll hsz (fun z hz=>hu z (by simp [hz])) h
   have e1 : j / sz = (j - sz) / sz + 1:=by rw [Nat.div_eq_sub_div hsz (by omega)]
   have e2 : j % sz = (j - sz) % sz:=by rw [Nat.mod_eq_sub_mod (by omega)]
   exact ⟨y,by rw [e1]; simpa using h1,by rw [e2]; exact h2⟩


abbrev HAll (W : World) : HS:=fun b _=>b < W.heap.size

section
variable {P : Program} {E : Env} {F : Phi} {T : Phi} {W : World} {Hh : Type} {enc : Nat × Value -> Hh} {spare : Nat -> Bool} {held : Bool}

theorem DTc.len {c : Nat} {ds : List D} (h : DTc E c ds) (m : Nat) (hi : inB E m c = true) : ds.length = (E.ty c).size /\ (∀ d,d ∈ ds -> d.atom = true \/ (E.ty c).ag = true) /\ ((E.ty c).ag = false -> ds.length = 1):=by
 cases m with
 | zero=>simp [inB] at hi
 | succ m=>
  cases h with
  | bool h=>simp [inB,h] at hi; exact ⟨by simp [hi],fun d hd=>by simp at hd; subst hd; exact .inl rfl,fun _=>rfl⟩
  | int h hw=>simp [inB,h] at hi; exact ⟨by simp [hi],fun d hd=>by simp at hd; subst hd; exact .inl rfl,fun _=>rfl⟩
  | str h=>simp [inB,h] at hi; exact ⟨by simp [hi],fun d hd=>by simp at hd; subst hd; exact .inl rfl,fun _=>rfl⟩
  | slice h hl he ho=>simp [inB,h] at hi; exact ⟨by simp [hi],fun d hd=>by simp at hd; subst hd; exact .inl rfl,fun _=>rfl⟩
  | struct h hl hf=>exact ⟨hl,fun d hd=>.inr (by simp [TI.ag,h]),fun hag=>by simp [TI.ag,h] at hag⟩
  | arr h hl hf=>exact ⟨hl,fun d hd=>.inr (by simp [TI.ag,h]),fun hag=>by simp [TI.ag,h] at hag⟩

theorem z9x {m : Nat} (atoms : ∀ {c : Nat} {ds : List D},DTc E c ds -> inB E m c = true -> ∀ d,d ∈ ds -> d.atom = true) : ∀ {fs : List (Nat × Nat)} {cur tot : Nat} {ds : List D},tileB E cur fs = some tot -> (fs.all fun p=>inB E m p.2) = true -> cur + ds.length = tot -> 
  (∀ (i : Nat) p,fs[i]? = some p -> cur <= p.1 /\ DTc E p.2 ((ds.drop (p.1 - cur)).take (E.ty p.2).size)) -> ∀ d,d ∈ ds -> d.atom = true
 | [],cur,tot,ds,h,_,hl,_=>by
  simp [tileB] at h
  have : ds = []:=List.length_eq_zero_iff.1 (by omega)
  subst this; intro d hd; cases hd
 | (off,u) :: fs,cur,tot,ds,h,ha,hl,hf=>by
  simp only [tileB] at h
  split at h
  ·rename_i e
   subst e
   simp only [List.all_cons,Bool.and_eq_true] at ha
   have h0 : DTc E u (ds.take (E.ty u).size):=by
    have:=(hf 0 (off,u) rfl).2
    simpa using this
   have l0:=(h0.len m ha.1).1
   have hle : (E.ty u).size <= ds.length:=by rw [List.length_take] at l0; omega
   have ih:=z9x atoms (ds:=ds.drop (E.ty u).size) h ha.2 (by simp; omega) (fun i p hp=>by
    obtain ⟨g1,g2⟩:=hf (i + 1) p (by simpa using hp)
    have g3 : off + (E.ty u).size <= p.1:=by
     -- offsets go up
     have : ∀ {fs : List (Nat × Nat)} {cur tot : Nat},tileB E cur fs = some tot -> ∀ (i : Nat) p,fs[i]? = some p -> cur <= p.1:=by
      intro fs
      induction fs with
      | nil=>intro cur tot _ i p hp; simp at hp
      | cons q fs ih=>
       intro cur tot h i p hp
       simp only [tileB] at h
       split at h
       ·rename_i e
        cases i with
        | zero=>simp at hp; subst hp; omega
        | succ i=>have:=ih h i p (by simpa using hp); omega
       ·simp at h
     exact this h i p hp
    refine ⟨g3,?_⟩
    rw [List.drop_drop,show (E.ty u).size + (p.1 - (off + (E.ty u).size)) = p.1 - off from by omega]
    exact g2)
   intro d hd
   rw [<- List.take_append_drop (E.ty u).size ds] at hd
   rcases List.mem_append.1 hd with h1 | h1
   ·exact atoms h0 ha.1 d h1
   ·exact ih d h1
  ·simp at h

theorem DTc.atoms : ∀ (m : Nat) {c : Nat} {ds : List D},DTc E c ds -> inB E m c = true -> ∀ d,d ∈ ds -> d.atom = true
 | 0,c,ds,_,hi=>by simp [inB] at hi
 | m + 1,c,ds,h,hi=>by
  cases h with
  | bool h=>intro d hd; simp at hd; subst hd; rfl
  | int h hw=>intro d hd; simp at hd; subst hd; rfl
  | str h=>intro d hd; simp at hd; subst hd; rfl
  | slice h hl he ho=>intro d hd; simp at hd; subst hd; rfl
  | struct h hl hf=>
   simp only [inB,h,Bool.and_eq_true,beq_iff_eq] at hi
   exact z9x (fun h' hi'=>DTc.atoms m h' hi') hi.1 hi.2 (by omega) (fun i p hp=>⟨by omega,by simpa using hf i p hp⟩)
  | arr h hl hf=>
   rename_i k e
   simp only [inB,h,Bool.and_eq_true,beq_iff_eq] at hi
   intro d hd
   obtain ⟨j,hj,hjd⟩:=List.mem_iff_getElem.1 hd
   have hsz : 0 < (E.ty e).size:=by
    rcases Nat.eq_zero_or_pos (E.ty e).size with h0 | h0
    ·rw [h0] at hi; omega
    ·exact h0
   have hq : j / (E.ty e).size < k:=Nat.div_lt_of_lt_mul (by rw [Nat.mul_comm]; omega)
   refine DTc.atoms m (hf _ hq) hi.2 d (List.mem_iff_getElem?.2 ⟨j % (E.ty e).size,?_⟩)
   rw [List.getElem?_take,if_pos (Nat.mod_lt _ hsz),List.getElem?_drop,Nat.div_add_mod' j,List.getElem?_eq_getElem hj,hjd]

end
end Dv

namespace Dv
open Go (Value Program World Act Oper Operand Code Ending Exit DataW MemPlace)

section
variable {P : Program} {E : Env} {F : Phi} {T : Phi} {W : World} {Hh : Type} {enc : Nat × Value -> Hh} {spare : Nat -> Bool} {held : Bool}

theorem z4s {α β : Type} {f : α -> Option β} : ∀ {l : List α} {r : List β},l.mapM f = some r -> r.length = l.length /\ ∀ (i : Nat) x,l[i]? = some x -> ∃ y,f x = some y /\ r[i]? = some y
 | [],r,h=>by simp at h; subst h; exact ⟨rfl,fun i x h=>by simp at h⟩
 | x :: l,r,h=>by
  rw [List.mapM_cons] at h
  simp only [bind,Option.bind_eq_some_iff,pure,Option.some.injEq] at h
  obtain ⟨y,h1,r',h2,rfl⟩:=h
  obtain ⟨i1,i2⟩:=z4s h2
  refine ⟨by simp [i1],fun i z hz=>?_⟩
  cases i with
  | zero=>simp at hz; subst hz; exact ⟨y,h1,rfl⟩
  | succ i=>simpa using i2 i z (by simpa using hz)

theorem zas {a : Go.Addr} {n : Nat} {cs : List Value} (h : W.cells? 0 a n = some cs) : cs.length = n /\ ∀ j,j < n -> (a.add j).spot = none /\ cellOf W.heap a.block (a.off + j) = cs[j]? /\ a.block < W.heap.size:=by
 unfold World.cells? at h
 rw [if_pos (Nat.zero_le _)] at h
 obtain ⟨h1,h2⟩:=z4s h
 refine ⟨by simpa using h1,fun j hj=>?_⟩
 obtain ⟨v,h3,h4⟩:=h2 j j (by simp [hj])
 have hs : (a.add j).spot = none:=by
  unfold World.cell? at h3
  split at h3
  ·split at h3
   ·simp at h3
   ·rename_i hn; simpa using hn
  ·simp at h3
 have hb : (a.add j).block = a.block:=by unfold Go.Addr.add; split <;> rfl
 have ho : (a.add j).off = a.off + j:=by
  unfold Go.Addr.add; split
  ·rename_i e; subst e; rfl
  ·rfl
 have h5 : a.add j = ⟨a.block,a.off + j,none⟩:=by
  cases hx : a.add j with
  | mk b o s=>rw [hx] at hs hb ho; simp at hs hb ho; rw [hs,hb,ho]
 rw [h5,cell?_eq] at h3
 exact ⟨hs,by rw [h3,h4],z6g h3⟩

theorem z4z {H : HS} {hp : Heap} {cs : List Value} {k : Nat} {d1 d2 : List D} (h1 : RepL F ρ0 H hp (cs.take k) d1) (h2 : RepL F ρ0 H hp (cs.drop k) d2) : RepL F ρ0 H hp cs (d1 ++ d2):=by
 have:=h1.append h2
 rwa [List.take_append_drop] at this

theorem TOk.cells {t c : Nat} (h : TOk P E T t c) : P.cellsOf t = (E.ty c).size:=by
 obtain ⟨i,hi,h1,_⟩:=h.info
 simp [Program.cellsOf,hi,h1]

theorem z7m (TA : TAll P E T) : ∀ (fuel m : Nat) {t c : Nat} {cs : List Value} {x : DataW Hh} {ps : List MemPlace},DataW.trod enc P W 0 spare held fuel t cs = some (x,ps) -> T t = some c -> inB E m c = true ->
  ∃ ds,RepL F ρ0 (HAll W) W.heap cs ds /\ DTc E c ds
 | 0,m,t,c,cs,x,ps,h,_,_=>by simp [DataW.trod] at h
 | fuel + 1,0,t,c,cs,x,ps,h,_,hi=>by simp [inB] at hi
 | fuel + 1,m + 1,t,c,cs,x,ps,h,ht,hi=>by
  have Tt:=TA _ _ ht
  have hu:=Tt.und
  unfold DataW.trod at h
  cases hk : (E.ty c).k with
  | bool=>
   rw [hk] at hu; simp only at hu
   simp only [hu] at h
   split at h <;> simp_all
   exact ⟨_,.cons (.bool _) .nil,.bool hk⟩
  | int k=>
   rw [hk] at hu; simp only at hu
   simp only [hu] at h
   split at h
   all_goals first | (simp at h; done) | skip
   all_goals (try (simp_all; done))
   rename_i q q' n heq
   simp at heq; subst heq
   split at h
   ·rename_i hc
    obtain ⟨rfl,hw⟩:=hc
    exact ⟨_,.cons (.int _ _) .nil,.int hk hw⟩
   ·simp at h
  | str=>
   rw [hk] at hu; simp only at hu
   simp only [hu] at h
   split at h <;> simp_all
   exact ⟨_,.cons (.str _) .nil,.str hk⟩
  | slice e=>
   rw [hk] at hu; simp only at hu
   obtain ⟨e',hu,he'⟩:=hu
   have Te:=TA _ _ he'
   simp only [inB,hk,Bool.and_eq_true,beq_iff_eq,Bool.not_eq_true',beq_eq_false_iff_ne] at hi
   obtain ⟨⟨hs1,hsz⟩,hie⟩:=hi
   have hce:=Te.cells
   simp only [hu] at h
   split at h
   all_goals first | (simp at h; done) | skip
   all_goals (try (simp_all; done))
   ·-- nil
    exact ⟨[.imm .none []],.cons (.imm .none [] none 0 0 0 0 (fun _=>Go.undef) (fun x hx=>by cases hx) (by simp) (fun h=>by cases h) (fun k hk=>by cases hk) (fun h=>absurd rfl h) (fun j hj=>by simp [flat] at hj) (fun j d hd=>by simp [flat] at hd)) .nil,.slice hk (by simp) (fun x hx=>by cases hx) (fun x hx=>by cases hx)⟩
   ·rename_i e2 a len cap heq
    simp at heq; subst heq
    rw [hce] at h
    split at h
    ·rename_i hc
     obtain ⟨_,hlc,hcm⟩:=hc
     simp only [Option.bind_eq_some_iff] at h
     obtain ⟨elems,h1,_⟩:=h
     obtain ⟨l1,l2⟩:=z4s h1
     have each : ∀ i,i < len -> ∃ x : D,ofCells (E.ty e).ag x.cellsL = some x /\ DTc E e x.cellsL /\ x.cellsL.length = (E.ty e).size /\ x.storable = true /\ ∃ csi,W.cells? 0 (a.add (i * (E.ty e).size)) (E.ty e).size = some csi /\ RepL F ρ0 (HAll W) W.heap csi x.cellsL:=by
      intro i hi2
      obtain ⟨y,h3,_⟩:=l2 i i (by simp [hi2])
      simp only [Option.bind_eq_some_iff] at h3
      obtain ⟨csi,h4,h5⟩:=h3
      obtain ⟨y1,y2⟩:=y
      obtain ⟨ds,h6,h7⟩:=z7m TA fuel m h5 he' hie
      obtain ⟨g1,g2,g3⟩:=h7.len m hie
      have g4:=h7.atoms m hie
      cases hag : (E.ty e).ag with
      | true=>exact ⟨.agg ds,rfl,h7,g1,by simpa [D.storable] using g4,csi,h4,h6⟩
      | false=>
       have:=g3 hag
       obtain ⟨d,rfl⟩ : ∃ d,ds = [d]:=by
        cases ds with
        | nil=>simp at this
        | cons d r=>cases r with
         | nil=>exact ⟨d,rfl⟩
         | cons _ _=>simp at this
       have hat:=g4 d (by simp)
       have hcl : d.cellsL = [d]:=by cases d <;> first | rfl | simp [D.atom] at hat
       refine ⟨d,by rw [hcl]; rfl,by rw [hcl]; exact h7,by rw [hcl]; exact g1,?_,csi,h4,by rw [hcl]; exact h6⟩
       cases d <;> first | exact hat | simp [D.atom] at hat
     obtain ⟨els,hlen,hels⟩:=zlo len each
     have hun : ∀ x,x ∈ els -> x.cellsL.length = (E.ty e).size /\ x.storable = true:=fun x hx=>by
      obtain ⟨i,hi3⟩:=List.getElem?_of_mem hx
      exact ⟨(hels i x hi3).2.2.1,(hels i x hi3).2.2.2.1⟩
     have hpos : 0 < (E.ty e).size:=Nat.pos_of_ne_zero hsz
     have hspot : ∀ i,i < len -> a = ⟨a.block,a.off,none⟩:=fun i hi3=>by
      obtain ⟨x0,hx0⟩ : ∃ x0,els[0]? = some x0:=⟨_,List.getElem?_eq_getElem (by omega)⟩
      obtain ⟨_,_,_,_,cs0,hc0,_⟩:=hels 0 x0 hx0
      have:=((zas hc0).2 0 hpos).1
      rw [Nat.zero_mul] at this
      have e0 : (a.add 0).add 0 = a:=by simp [Go.Addr.add]
      rw [e0] at this
      cases a with | mk b o s=>simp at this; rw [this]
     have main : ∀ (j : Nat) d,(flat els)[j]? = some d -> a.block < W.heap.size /\ ∃ v,cellOf W.heap a.block (a.off + j) = some v /\ Rep F ρ0 (HAll W) W.heap v d:=by
      intro j d hd
      obtain ⟨x,hx1,hx2⟩:=zll hpos (fun z hz=>(hun z hz).1) hd
      obtain ⟨_,_,hxl,_,csi,hci,hri⟩:=hels _ x hx1
      have hr:=Nat.mod_lt j hpos
      obtain ⟨c1,c2⟩:=zas hci
      obtain ⟨_,c3,c4⟩:=c2 _ hr
      obtain ⟨v,hv,hrv⟩:=hri.get hx2
      have hb : (a.add (j / (E.ty e).size * (E.ty e).size)).block = a.block:=by unfold Go.Addr.add; split <;> rfl
      have hof : (a.add (j / (E.ty e).size * (E.ty e).size)).off = a.off + j / (E.ty e).size * (E.ty e).size:=by
       unfold Go.Addr.add; split
       ·rename_i e; rw [e]; rfl
       ·rfl
      rw [hb,hof,Nat.add_assoc,Nat.div_add_mod' j,hv] at c3
      rw [hb] at c4
      exact ⟨c4,v,c3,hrv⟩
     refine ⟨[.imm .none els],.cons ?_ .nil,.slice hk (by rw [hlen]; omega) (fun x hx=>?_) (fun x hx=>?_)⟩
     ·have hr:=Rep.imm (φ:=F) (ρ:=ρ0) (H:=HAll W) (hp:=W.heap) .none els (some a) cap a.block a.off (E.ty e).size (fun j=>(cellOf W.heap a.block (a.off + j)).getD Go.undef) hun (by omega) (fun h=>by cases h) (fun k hk=>by cases hk)
       (fun hne=>by
        have : 0 < els.length:=List.length_pos_iff.2 hne
        rw [<- hspot 0 (by omega)])
       (fun j hj=>by
        obtain ⟨d,hd⟩ : ∃ d,(flat els)[j]? = some d:=⟨_,List.getElem?_eq_getElem hj⟩
        obtain ⟨c1,v,c2,c3⟩:=main j d hd
        exact ⟨c1,by rw [c2]; rfl⟩)
       (fun j d hd=>by
        obtain ⟨c1,v,c2,c3⟩:=main j d hd
        rw [c2]; exact c3)
      rwa [hlen] at hr
     ·obtain ⟨i,hi3⟩:=List.getElem?_of_mem hx
      exact (hels i x hi3).2.1
     ·obtain ⟨i,hi3⟩:=List.getElem?_of_mem hx
      exact (hels i x hi3).1
    ·simp at h
  | struct fs=>
   rw [hk] at hu; simp only at hu
   obtain ⟨fs',hu,hfl,hff⟩:=hu
   simp only [inB,hk,Bool.and_eq_true,beq_iff_eq] at hi
   simp only [hu] at h
   split at h
   ·rename_i hlen
    simp only [Option.map_eq_some_iff] at h
    obtain ⟨xs,h1,_⟩:=h
    obtain ⟨l1,l2⟩:=z4s h1
    rw [Tt.cells] at hlen
    have go : ∀ (fl : List (Nat × Nat)) (cur k : Nat),fs.drop k = fl -> tileB E cur fl = some (E.ty c).size -> cur <= (E.ty c).size ->
      ∃ ds,RepL F ρ0 (HAll W) W.heap (cs.drop cur) ds /\ ∀ (i : Nat) p,fl[i]? = some p -> cur <= p.1 /\ DTc E p.2 ((ds.drop (p.1 - cur)).take (E.ty p.2).size):=by
     intro fl
     induction fl with
     | nil=>
      intro cur k _ ht2 hcur
      simp [tileB] at ht2
      refine ⟨[],?_,fun i p hp=>by simp at hp⟩
      rw [List.drop_eq_nil_of_le (by omega)]; exact .nil
     | cons q fl ih=>
      intro cur k hd ht2 hcur
      obtain ⟨off,u⟩:=q
      simp only [tileB] at ht2
      split at ht2
      ·rename_i e0
       subst e0
       have hq : fs[k]? = some (off,u):=by
        have:=congrArg (fun l : List (Nat × Nat)=>l[0]?) hd; simpa using this
       have hklt:=(List.getElem?_eq_some_iff.1 hq).1
       obtain ⟨f,hf⟩ : ∃ f,fs'[k]? = some f:=⟨_,Array.getElem?_eq_getElem (by omega)⟩
       obtain ⟨o1,o2⟩:=hff k f (off,u) hf hq
       obtain ⟨y,h3,_⟩:=l2 k f (by simpa using hf)
       obtain ⟨y1,y2⟩:=y
       have hin : inB E m u = true:=List.all_eq_true.1 hi.2 (off,u) (List.mem_of_getElem? hq)
       obtain ⟨d1,h6,h7⟩:=z7m TA fuel m h3 o2 hin
       have Tf:=TA _ _ o2
       rw [Tf.cells,o1] at h6
       simp only at h6
       have g1 : d1.length = (E.ty u).size:=(h7.len m hin).1
       have hle : off + (E.ty u).size <= (E.ty c).size:=by
        have hup : ∀ {fs : List (Nat × Nat)} {cur tot : Nat},tileB E cur fs = some tot -> cur <= tot:=by
         intro fs
         induction fs with
         | nil=>intro cur tot h; simp [tileB] at h; omega
         | cons q fs ih=>
          intro cur tot h
          simp only [tileB] at h
          split at h
          ·have:=ih h; omega
          ·simp at h
        exact hup ht2
       obtain ⟨d2,i1,i2⟩:=ih (off + (E.ty u).size) (k + 1) (by
        have:=congrArg (fun l : List (Nat × Nat)=>l.drop 1) hd
        simpa [List.drop_drop,Nat.add_comm] using this) ht2 hle
       refine ⟨d1 ++ d2,z4z (k:=(E.ty u).size) h6 (by rw [List.drop_drop]; exact i1),fun i p hp=>?_⟩
       cases i with
       | zero=>
        simp at hp; subst hp
        refine ⟨Nat.le_refl _,?_⟩
        simp only [Nat.sub_self,List.drop_zero]
        rw [List.take_append_of_le_length (by omega),List.take_of_length_le (by omega)]
        exact h7
       | succ i=>
        obtain ⟨j1,j2⟩:=i2 i p (by simpa using hp)
        refine ⟨by omega,?_⟩
        rw [List.drop_append,List.drop_eq_nil_of_le (by omega),List.nil_append,g1,show p.1 - off - (E.ty u).size = p.1 - (off + (E.ty u).size) from by omega]
        exact j2
      ·simp at ht2
    obtain ⟨ds,r1,r2⟩:=go fs 0 0 rfl hi.1 (Nat.zero_le _)
    rw [List.drop_zero] at r1
    refine ⟨ds,r1,.struct hk (by rw [<- hlen]; exact r1.1.symm) (fun i p hp=>by simpa using (r2 i p hp).2)⟩
   ·simp at h
  | arr n e=>
   rw [hk] at hu; simp only at hu
   obtain ⟨e',hu,he'⟩:=hu
   have Te:=TA _ _ he'
   simp only [inB,hk,Bool.and_eq_true,beq_iff_eq] at hi
   have hce:=Te.cells
   simp only [hu] at h
   split at h
   ·rename_i hlen
    simp only [Option.map_eq_some_iff] at h
    obtain ⟨xs,h1,_⟩:=h
    obtain ⟨l1,l2⟩:=z4s h1
    rw [Tt.cells] at hlen
    have go : ∀ (r k : Nat),k + r = n -> ∃ ds,RepL F ρ0 (HAll W) W.heap (cs.drop (k * (E.ty e).size)) ds /\ ∀ i,i < r -> DTc E e ((ds.drop (i * (E.ty e).size)).take (E.ty e).size):=by
     intro r
     induction r with
     | zero=>
      intro k hk2
      refine ⟨[],?_,fun i hi2=>by omega⟩
      rw [List.drop_eq_nil_of_le (by rw [hlen,<- hi.1,show k = n from by omega]; exact Nat.le_refl _)]; exact .nil
     | succ r ih=>
      intro k hk2
      obtain ⟨y,h3,_⟩:=l2 k k (List.getElem?_range (by omega))
      obtain ⟨y1,y2⟩:=y
      rw [hce] at h3
      obtain ⟨d1,h6,h7⟩:=z7m TA fuel m h3 he' hi.2
      have g1 : d1.length = (E.ty e).size:=(h7.len m hi.2).1
      obtain ⟨d2,i1,i2⟩:=ih (k + 1) (by omega)
      refine ⟨d1 ++ d2,z4z (k:=(E.ty e).size) h6 (by rw [List.drop_drop]; rw [Nat.add_mul,Nat.one_mul] at i1; exact i1),fun i hi2=>?_⟩
      cases i with
      | zero=>
       rw [Nat.zero_mul,List.drop_zero,List.take_append_of_le_length (by omega),List.take_of_length_le (by omega)]
       exact h7
      | succ i=>
       have:=i2 i (by omega)
       rw [Nat.add_mul,Nat.one_mul,List.drop_append,List.drop_eq_nil_of_le (by omega),List.nil_append,g1,Nat.add_sub_cancel]
       exact this
    obtain ⟨ds,r1,r2⟩:=go n 0 (by omega)
    rw [Nat.zero_mul,List.drop_zero] at r1
    exact ⟨ds,r1,.arr hk (by rw [<- hlen]; exact r1.1.symm) r2⟩
   ·simp at h
  | map k e=>simp [inB,hk] at hi
  | ptr e=>simp [inB,hk] at hi
  | func=>simp [inB,hk] at hi
  | other=>simp [inB,hk] at hi

end
end Dv

namespace Dv
open Go (Value Program World Act Oper Operand Code Ending Exit DataW MemPlace)

def Typed (E : Env) (c : Nat) (x : D) : Prop:=DTc E c x.cellsL /\ ofCells (E.ty c).ag x.cellsL = some x

section
variable {P : Program} {E : Env} {F : Phi} {T : Phi} {W : World} {Hh : Type} {enc : Nat × Value -> Hh}

theorem zss (TA : TAll P E T) {m t c base : Nat} {v : Value} {d : DataW Hh} {ps : List MemPlace} (ht : T t = some c) (hin : inB E m c = true) (hok : Value.okWide P W .any base t v) (h : DataW.Trod enc P W 0 (fun _=>true) true t v d ps) :
  ∃ x : D,Rep F ρ0 (HAll W) W.heap v x /\ Typed E c x:=by
 obtain ⟨fuel,h⟩:=h
 obtain ⟨ds,h1,h2⟩:=z7m (F:=F) TA fuel m h ht hin
 have hu:=(TA _ _ ht).und
 obtain ⟨_,_,g3⟩:=h2.len m hin
 have g4:=h2.atoms m hin
 have single : (E.ty c).ag = false -> (∀ cs,v ≠ .agg cs) -> (∀ cs,v ≠ .tuple cs) -> ∃ x : D,Rep F ρ0 (HAll W) W.heap v x /\ Typed E c x:=by
  intro hag n1 n2
  have hv : v.cells.toList = [v]:=by
   cases v <;> first | rfl | exact absurd rfl (n1 _) | exact absurd rfl (n2 _)
  rw [hv] at h1
  have:=g3 hag
  obtain ⟨x,rfl⟩ : ∃ x,ds = [x]:=by
   cases ds with
   | nil=>simp at this
   | cons d r=>cases r with
    | nil=>exact ⟨d,rfl⟩
    | cons _ _=>simp at this
  have hat:=g4 x (by simp)
  have hcl : x.cellsL = [x]:=by cases x <;> first | rfl | simp [D.atom] at hat
  exact ⟨x,h1.of_cons.1,by rw [hcl]; exact h2,by rw [hcl,hag]; rfl⟩
 cases h2 with
 | bool hk=>
  rw [hk] at hu; simp only at hu
  refine single (by simp [TI.ag,hk]) (fun cs e=>?_) (fun cs e=>?_) <;> subst e <;> simp [Value.okWide,hu,Go.Cell.okWide,Go.Cell.ok] at hok
 | int hk hw=>
  rw [hk] at hu; simp only at hu
  refine single (by simp [TI.ag,hk]) (fun cs e=>?_) (fun cs e=>?_) <;> subst e <;> simp [Value.okWide,hu,Go.Cell.okWide,Go.Cell.ok] at hok
 | str hk=>
  rw [hk] at hu; simp only at hu
  refine single (by simp [TI.ag,hk]) (fun cs e=>?_) (fun cs e=>?_) <;> subst e <;> simp [Value.okWide,hu,Go.Cell.okWide,Go.Cell.ok] at hok
 | slice hk hl he ho=>
  rw [hk] at hu; simp only at hu
  obtain ⟨e',hu,_⟩:=hu
  refine single (by simp [TI.ag,hk]) (fun cs e=>?_) (fun cs e=>?_) <;> subst e <;> simp [Value.okWide,hu,Go.Cell.okWide,Go.Cell.ok] at hok
 | struct hk hl hf=>
  rename_i fs
  rw [hk] at hu; simp only at hu
  obtain ⟨fs',hu,_⟩:=hu
  have h3 : DTc E c ds:=.struct hk hl hf
  obtain ⟨cs,rfl,_⟩ : ∃ cs,v = .agg cs /\ cs.size = P.cellsOf t:=by
   simp only [Value.okWide,hu] at hok
   obtain ⟨cs,e1,e2,_⟩:=hok
   exact ⟨cs,e1,e2⟩
  refine ⟨.agg ds,?_,h3,by simp [D.cellsL,ofCells,TI.ag,hk]⟩
  have:=h1.agg
  simpa [Value.cells] using this
 | arr hk hl hf=>
  rename_i k e
  rw [hk] at hu; simp only at hu
  obtain ⟨e',hu,_⟩:=hu
  have h3 : DTc E c ds:=.arr hk hl hf
  obtain ⟨cs,rfl,_⟩ : ∃ cs,v = .agg cs /\ cs.size = P.cellsOf t:=by
   simp only [Value.okWide,hu] at hok
   obtain ⟨cs,e1,e2,_⟩:=hok
   exact ⟨cs,e1,e2⟩
  refine ⟨.agg ds,?_,h3,by simp [D.cellsL,ofCells,TI.ag,hk]⟩
  have:=h1.agg
  simpa [Value.cells] using this

def TypedL (E : Env) : List Nat -> List D -> Prop
 | [],[]=>True
 | c :: cs,x :: xs=>Typed E c x /\ TypedL E cs xs
 | _,_=>False

def tysB (E : Env) (T : Phi) : List Nat -> List Nat -> Bool
 | [],[]=>true
 | t :: ts,c :: cs=>(T t == some c) && inB E 20 c && tysB E T ts cs
 | _,_=>false

theorem zgj (TA : TAll P E T) {base : Nat} : ∀ {ts cs : List Nat} {vs : List Value} {ds : List (DataW Hh)} {ps : List MemPlace},tysB E T ts cs = true -> (∀ (j : Nat) t v,ts[j]? = some t -> vs[j]? = some v -> Value.okWide P W .any base t v) ->
  DataW.TrodAll enc P W 0 (fun _=>true) true ts vs ds ps -> ∃ xs,RepL F ρ0 (HAll W) W.heap vs xs /\ TypedL E cs xs
 | [],[],[],[],ps,_,_,_=>⟨[],.nil,trivial⟩
 | t :: ts,c :: cs,v :: vs,d :: ds,ps,hb,hok,h=>by
  simp only [tysB,Bool.and_eq_true,beq_iff_eq] at hb
  obtain ⟨p,q,h1,h2,_⟩:=h
  obtain ⟨x,r1,r2⟩:=zss (F:=F) TA hb.1.1 hb.1.2 (hok 0 t v rfl rfl) h1
  obtain ⟨xs,r3,r4⟩:=zgj TA hb.2 (fun j t' v' h3 h4=>hok (j + 1) t' v' (by simpa using h3) (by simpa using h4)) h2
  exact ⟨x :: xs,.cons r1 r3,r2,r4⟩
 | [],_ :: _,_,_,_,hb,_,_=>by simp [tysB] at hb
 | _ :: _,[],_,_,_,hb,_,_=>by simp [tysB] at hb
 | [],[],_ :: _,_,_,_,_,h=>h.elim
 | [],[],[],_ :: _,_,_,_,h=>h.elim
 | _ :: _,_ :: _,[],_,_,_,_,h=>h.elim
 | _ :: _,_ :: _,_ :: _,[],_,_,_,h=>h.elim

theorem zdk (hl : Go.laidOutB P = true) {W' : World} {sp : Nat -> Bool} : ∀ {ts : List Nat} {vs : List Value} {ds : List (DataW Hh)} {ps : List MemPlace},(ts.all fun t=>P.readableRec t && decide (t < P.types.size)) = true ->
  DataW.TrodAll enc P W 0 (fun _=>true) true ts vs ds ps -> (∀ p,p ∈ ps -> W.sameAt W' p) -> (∀ p,p ∈ ps -> sp p.block = true) -> DataW.TrodAll enc P W' 0 sp true ts vs ds ps
 | [],[],[],ps,_,h,_,_=>h
 | t :: ts,v :: vs,d :: ds,ps,hb,h,hs,hsp=>by
  simp only [List.all_cons,Bool.and_eq_true,decide_eq_true_eq] at hb
  obtain ⟨p,q,h1,h2,rfl⟩:=h
  exact ⟨p,q,Go.WideElems.Trod_stays hl hb.1.1 hb.1.2 h1 (fun x hx=>hs x (List.mem_append_left _ hx)) (fun x hx=>hsp x (List.mem_append_left _ hx)),
   zdk hl hb.2 h2 (fun x hx=>hs x (List.mem_append_right _ hx)) (fun x hx=>hsp x (List.mem_append_right _ hx)),rfl⟩
 | [],[],_ :: _,_,_,h,_,_=>h.elim
 | [],_ :: _,_,_,_,h,_,_=>h.elim
 | _ :: _,[],_,_,_,h,_,_=>h.elim
 | _ :: _,_ :: _,[],_,_,h,_,_=>h.elim

theorem znf {f : Go.Func} {s : Go.ChangeSpec} {apart fresh handsOn again : Bool} {W' : World} {args : Array Value} {v : Value} {ds gs : List (DataW Hh)} {before pa pv : List MemPlace}
  (hW : DataW.Whole enc P f.params.toList s.vars apart W args.toList ds gs before)
  (hres : ∀ (b : Nat) (sp : Nat -> Bool) (hd : Bool),DataW.TrodAll enc P W' b sp hd f.resultTypes.toList (v.resultList f.resultTypes.size) (s.fn Hh (ds ++ gs)).results [])
  (hargs : ∀ sp : Nat -> Bool,(∀ p ∈ before,sp p.block = true) -> DataW.TrodAll enc P W' 0 sp true f.params.toList args.toList (s.fn Hh (ds ++ gs)).args pa)
  (hvars : ∀ sp : Nat -> Bool,(∀ p ∈ before,sp p.block = true) -> DataW.TrodVars enc P W' sp s.vars (s.fn Hh (ds ++ gs)).vars pv)
  (hps : before = pa ++ pv) (hk : W.keptBut W' (· ∈ before)) (hfz : ∀ a : Go.Addr,a.block < W.heap.size -> W'.frozen? a = W.frozen? a)
  (hok : ∀ (j : Nat) (t : Go.TypeId) (r : Value),f.resultTypes[j]? = some t -> (v.resultList f.resultTypes.size)[j]? = some r -> Value.okWide P W' .any 0 t r) :
  s.post enc P f apart fresh handsOn again W args v W':=by
 have hlt : ∀ p,p ∈ before -> p.block < W.heap.size:=fun p hp=>hW.lt p hp
 have hin : ∀ p,p ∈ before -> p ∈ pa \/ p ∈ pv:=fun p hp=>by rw [hps] at hp; exact List.mem_append.1 hp
 have hin' : ∀ p,p ∈ ([] ++ pa) ++ pv -> p ∈ before:=fun p hp=>by rw [hps]; simpa using hp
 have hd : ∀ p,p ∈ before -> (fun b=>decide (b < W.heap.size)) p.block = true:=fun p hp=>by simpa using hlt p hp
 refine ⟨ds,gs,before,[],pa,pv,hW,hres _ _ _,hargs _ hd,hvars _ hd,Go.World.keptBut_mono (fun p hp=>⟨hp,.inr (hin p hp)⟩) hk,fun _=>?_⟩
 obtain ⟨_,_,_,_,_,hz,hn⟩:=hW
 refine ⟨hok,_,_,([] ++ pa) ++ pv,⟨[] ++ pa,pv,Go.ChangeShapes.trodAll_append (hargs _ fun _ _=>rfl) (hres _ _ _),hvars _ fun _ _=>rfl,rfl,fun b off hp=>?_,fun ha=>?_⟩,fun p hp _=>hin' p hp⟩
 ·have h1:=hin' _ hp
  rw [hfz ⟨b,off,none⟩ (hlt _ h1)]
  exact hz b off h1
 ·have h1:=hn ha
  rw [hps] at h1
  simpa using h1

theorem law_postB {B : List D -> Prop} (t : Tie P E T F) (hl : Go.laidOutB P = true) {f f' : Nat} {fn : Go.Func} {cs : List Nat} {tb : Nat} (hf : F f = some f') (hty : tysB E T fn.params.toList cs = true) (hrd : (fn.params.toList.all fun t=>P.readableRec t && decide (t < P.types.size)) = true)
  (hres : fn.resultTypes = #[tb]) (hb : P.underlying tb = some .bool) {s : Go.ChangeSpec} (hsv : s.vars = []) (hs : ∀ ds : List (DataW Hh),ds.length = cs.length -> s.fn Hh ds = { results:=[.lit (.bool true)],args:=ds })
  (law : ∀ xs,TypedL E cs xs -> B xs -> ∃ n,runP E (dC E n) f' xs = some (.bool true)) {apart fresh handsOn again : Bool} {base : Nat} {args : Array Value} {ds gs : List (DataW Hh)} {before : List MemPlace}
  (hval : ∀ (j : Nat) t v,fn.params[j]? = some t -> args[j]? = some v -> Value.okWide P W .any base t v)
  (hW : DataW.Whole enc P fn.params.toList s.vars apart W args.toList ds gs before) (hgl : ∀ g cs,glTab.lookup g = some cs -> ∀ (j : Nat) k n,cs[j]? = some (k,n) -> cellOf W.heap g j = some (.int k n)) (hB : ∀ xs,RepL F ρ0 (HAll W) W.heap args.toList xs -> B xs) :
  Go.Calls P f args W fun e W'=>∃ v,e = .returned v /\ s.post enc P fn apart fresh handsOn again W args v W':=by
 have hW':=hW
 obtain ⟨p,q,hA,hV,rfl,hfz,hnd⟩:=hW
 rw [hsv] at hV
 have hg : gs = [] /\ q = []:=by
  cases gs with
  | nil=>exact ⟨rfl,hV⟩
  | cons _ _=>exact hV.elim
 obtain ⟨rfl,rfl⟩:=hg
 obtain ⟨xs,r1,r2⟩:=zgj (F:=F) t.types (base:=base) hty (fun j t' v' h3 h4=>hval j t' v' (by simpa using h3) (by simpa using h4)) hA
 obtain ⟨n,hrun⟩:=law xs r2 (hB xs r1)
 have hcall:=za5 t n hf none (HAll W) W args xs (.bool true) hrun ⟨fun b o h=>h,fun g cs hg j k n hj=>⟨z6g (hgl g cs hg j k n hj),hgl g cs hg j k n hj⟩⟩ r1
 have hdl : ds.length = cs.length:=by
  have h1 : ∀ {ts cs : List Nat},tysB E T ts cs = true -> ts.length = cs.length:=by
   intro ts
   induction ts with
   | nil=>intro cs h; cases cs <;> simp [tysB] at h ⊢
   | cons t ts ih=>
    intro cs h
    cases cs with
    | nil=>simp [tysB] at h
    | cons c cs=>simp only [tysB,Bool.and_eq_true] at h; simp [ih h.2]
  have h2 : ∀ {ts : List Nat} {vs : List Value} {ds : List (DataW Hh)} {ps : List MemPlace},DataW.TrodAll enc P W 0 (fun _=>true) true ts vs ds ps -> ds.length = ts.length:=by
   intro ts
   induction ts with
   | nil=>
    intro vs ds ps h
    cases vs with
    | nil=>cases ds with
     | nil=>rfl
     | cons _ _=>exact h.elim
    | cons _ _=>exact h.elim
   | cons t ts ih=>
    intro vs ds ps h
    cases vs with
    | nil=>exact h.elim
    | cons v vs=>cases ds with
     | nil=>exact h.elim
     | cons d ds=>
      obtain ⟨_,_,_,h2,_⟩:=h
      simp [ih h2]
  rw [h2 hA,h1 hty]
 refine (Go.callsIn_wide (n:=0)).1 (hcall.mono fun e W' he=>?_)
 cases e with
 | panicked c=>exact he.elim
 | outgrown=>exact he.elim
 | returned v=>
  obtain ⟨H',g,⟨hfz',hst⟩,hv⟩:=he
  obtain rfl:=hv.boolv
  have hbelow : Go.RowKit.Below W.heap.size W W':=⟨hst.os,hst.tape,hst.out,g.size,g.old⟩
  have hlt : ∀ x,x ∈ p -> x.block < W.heap.size:=fun x hx=>hW'.lt x (by simpa using hx)
  have hsf : s.fn Hh (ds ++ []) = { results:=[.lit (.bool true)],args:=ds }:=by rw [List.append_nil]; exact hs ds hdl
  refine ⟨_,rfl,znf (pa:=p) (pv:=[]) hW' (fun b sp hd=>?_) (fun sp hsp=>?_) (fun sp _=>?_) rfl (hbelow.frame _) (fun a hab=>?_) (Go.RowKit.ok_one hres rfl ?_)⟩
  ·rw [hsf,hres]
   refine ⟨[],[],⟨1,?_⟩,rfl,rfl⟩
   simp [Value.resultList,Value.cells,DataW.trod,hb]
  ·rw [hsf]
   exact zdk hl hrd hA (fun x hx=>hbelow.same (hlt x hx)) (fun x hx=>hsp x (by simpa using hx))
  ·rw [hsf,hsv]; rfl
  ·unfold World.frozen?; rw [g.old _ hab]
  ·simp [Value.okWide,hb,Go.Cell.okWide,Go.Cell.ok]

theorem first_len {t e : Nat} {ts : List Nat} {vs : List Value} {ds : List (DataW Hh)} {ps : List MemPlace} {xs r : List D} {sp : Nat -> Bool} {spr : Spare} {els : List D} (hu : P.underlying t = some (.slice e)) (h : DataW.TrodAll enc P W 0 sp true (t :: ts) vs ds ps) (hr : RepL F ρ0 (HAll W) W.heap vs xs) (hx : xs = .imm spr els :: r) :
  els.length = 0 \/ ∃ elems spare ds',ds = .slice elems spare :: ds' /\ elems.length = els.length:=by
 subst hx
 match vs,ds,h with
 | v :: vs,d :: ds,⟨p,q,⟨fuel,h1⟩,_,_⟩=>
  have hv:=hr.of_cons.1
  cases hv with
  | imm _ _ a cap b off su vs' hu' hcap hex htok ha hH hr'=>
   cases fuel with
   | zero=>simp [DataW.trod] at h1
   | succ fuel=>
    cases a with
    | none=>
     left
     by_cases he : els = []
     ·rw [he]; rfl
     ·have:=ha he; cases this
    | some a=>
     right
     simp only [DataW.trod,hu,Value.cells] at h1
     split at h1
     ·simp only [Option.bind_eq_some_iff,Option.map_eq_some_iff,Prod.mk.injEq] at h1
      obtain ⟨elems,h2,rest,_,h3,_⟩:=h1
      refine ⟨_,_,ds,by rw [<- h3],?_⟩
      obtain ⟨l1,_⟩:=z4s h2
      rw [List.length_map,l1,List.length_range]
     ·simp at h1

end
end Dv

namespace Dv

section
variable {E : Env} {P P' : Nat -> List D -> Option D} {S S' : Nat -> List D -> List Obj -> Option (D × List Obj)} {Y Y' : Nat -> List D -> List Obj -> Option (D × List Obj)}

theorem ze7 (hP : ∀ f as d,P f as = some d -> P' f as = some d) {id : Nat} {g : Opd -> D} {hp : List Obj} {op : DOp} {e : Ef} (h : pureOp E P id g hp op = some e) : pureOp E P' id g hp op = some e:=by
 cases op with
 | call md f as=>
  cases md with
  | zero=>
   simp only [pureOp] at h ⊢
   split at h
   ·rename_i k caps hg
    split at h
    ·rename_i vs hv
     simp only [Option.map_eq_some_iff] at h
     obtain ⟨d,h1,rfl⟩:=h
     simp only [hg,hv,hP _ _ _ h1,Option.map_some]
    ·simp at h
   ·simp at h
  | succ n=>exact h
 | _=>exact h

theorem zku (hS : ∀ f as hp r,S f as hp = some r -> S' f as hp = some r) {k : Nat} {x : D} {rest : List D} {hp : List Obj} {r : D × Nat × Obj} (h : islD S k x rest hp = some r) : islD S' k x rest hp = some r:=by
 unfold islD at h ⊢
 split at h
 case h_2=>simp at h
 split at h
 case h_2=>simp at h
 rename_i cs ho
 split at h
 case h_2=>simp at h
 rename_i vs cs1 e1 e2
 split at h
 case isFalse=>simp at h
 rename_i hat
 rw [if_pos hat]
 split at h
 case h_2=>simp at h
 rename_i d hp2 hr
 obtain ⟨h1,h2⟩:=zf hr
 rw [hS _ _ _ _ h1,zq h2]
 exact h

theorem zia (hP : ∀ f as d,P f as = some d -> P' f as = some d) (hS : ∀ f as hp r,S f as hp = some r -> S' f as hp = some r) (hY : ∀ f as hp r,Y f as hp = some r -> Y' f as hp = some r)
  {g : Opd -> D} {hp : List Obj} {op : DOp} {r : D × List Obj} (h : finOp E P S Y g hp op = some r) : finOp E P' S' Y' g hp op = some r:=by
 cases op with
 | mkcall f as=>
  simp only [finOp] at h ⊢
  split at h
  ·rename_i k caps hg
   split at h
   ·unfold makD at h ⊢
    simp only [Option.map_eq_some_iff] at h ⊢
    obtain ⟨r1,h1,h2⟩:=h
    obtain ⟨h3,h4⟩:=zf h1
    exact ⟨r1,by rw [hS _ _ _ _ h3]; exact zq h4,h2⟩
   ·simp at h
  ·simp at h
 | call md f as=>
  match md with
  | 0=>
   simp only [finOp] at h ⊢
   cases hg : g f with
   | fn k caps=>
    rw [hg] at h
    obtain ⟨h1,h2⟩:=zf h
    simp only [hS _ _ _ _ h1]; exact zq h2
   | bfn k r=>
    rw [hg] at h
    obtain ⟨h1,h2⟩:=zf h
    simp only [hS _ _ _ _ h1]; exact zq h2
   | yld l=>rw [hg] at h; exact hY _ _ _ _ h
   | _=>rw [hg] at h; simp at h
  | 1=>
   simp only [finOp] at h ⊢
   split at h
   ·rename_i k caps hg
    split at h
    ·rename_i vs hv
     simp only [Option.map_eq_some_iff] at h
     obtain ⟨d,h1,rfl⟩:=h
     simp only [hg,hv,hP _ _ _ h1,Option.map_some]
    ·simp at h
   ·simp at h
  | 3=>
   simp only [finOp] at h ⊢
   split at h
   ·rename_i k caps hg
    split at h
    ·rename_i vs hv
     split at h
     ·rename_i d hd
      simp only [hg,hv,hP _ _ _ hd]; exact h
     ·simp at h
    ·simp at h
   ·simp at h
  | 2=>
   simp only [finOp] at h ⊢
   cases hg : g f with
   | fn k caps=>
    rw [hg] at h
    obtain ⟨h1,h2⟩:=zf h
    simp only [hS _ _ _ _ h1]; exact zq h2
   | bfn k r=>
    rw [hg] at h
    obtain ⟨h1,h2⟩:=zf h
    simp only [hS _ _ _ _ h1]; exact zq h2
   | yld l=>rw [hg] at h; exact hY _ _ _ _ h
   | _=>rw [hg] at h; simp at h
  | 5=>
   simp only [finOp] at h ⊢
   split at h
   ·rename_i k caps hg
    split at h
    ·rename_i hmp
     rw [if_pos hmp]
     split at h
     ·rename_i vs hv
      cases hc : S k vs [] with
      | none=>rw [hc] at h; simp [markR] at h
      | some x=>rw [hS _ _ _ _ hc]; rw [hc] at h; exact h
     ·simp at h
    ·simp at h
   ·simp at h
  | 6=>
   simp only [finOp] at h ⊢
   cases hg : g f with
   | fn k caps=>
    rw [hg] at h
    simp only at h ⊢
    split at h
    ·rename_i hmp; rw [if_pos hmp]; exact hS _ _ _ _ h
    ·simp at h
   | _=>rw [hg] at h; simp at h
  | 4=>
   cases as with
   | nil=>
    simp only [finOp] at h ⊢
    split at h
    ·rename_i k caps hg
     split at h
     ·unfold makD at h ⊢
      simp only [Option.map_eq_some_iff] at h ⊢
      obtain ⟨r1,h1,h2⟩:=h
      obtain ⟨h3,h4⟩:=zf h1
      exact ⟨r1,by rw [hS _ _ _ _ h3]; exact zq h4,h2⟩
     ·simp at h
    ·simp at h
   | cons x as=>
    simp only [finOp] at h ⊢
    cases hg : g f with
    | fn k caps=>
     rw [hg] at h
     simp only [Option.map_eq_some_iff] at h ⊢
     obtain ⟨r1,h1,h2⟩:=h
     exact ⟨r1,zku hS h1,h2⟩
    | _=>rw [hg] at h; simp at h
  | n + 7=>
   simp only [finOp] at h ⊢
   cases hg : g f with
   | fn k caps=>
    rw [hg] at h
    obtain ⟨h1,h2⟩:=zf h
    simp only [hS _ _ _ _ h1]; exact zq h2
   | bfn k r=>
    rw [hg] at h
    obtain ⟨h1,h2⟩:=zf h
    simp only [hS _ _ _ _ h1]; exact zq h2
   | yld l=>rw [hg] at h; exact hY _ _ _ _ h
   | _=>rw [hg] at h; simp at h
 | _=>exact h

theorem z59 (hP : ∀ f as d,P f as = some d -> P' f as = some d) (hS : ∀ f as hp r,S f as hp = some r -> S' f as hp = some r) (hY : ∀ f as hp r,Y f as hp = some r -> Y' f as hp = some r)
  {id : Nat} {g : Opd -> D} {hp : List Obj} {op : DOp} {r : D × List Obj} (h : stepOp E P S Y id g hp op = some r) : stepOp E P' S' Y' id g hp op = some r:=by
 unfold stepOp at h ⊢
 generalize op.fin = b at h ⊢
 cases b with
 | true=>exact zia hP hS hY h
 | false=>
  simp only [Option.map_eq_some_iff] at h ⊢
  obtain ⟨e,h1,h2⟩:=h
  exact ⟨e,ze7 hP h1,h2⟩

theorem z2h (hP : ∀ f as d,P f as = some d -> P' f as = some d) (hS : ∀ f as hp r,S f as hp = some r -> S' f as hp = some r) (hY : ∀ f as hp r,Y f as hp = some r -> Y' f as hp = some r) :
  ∀ {ops : List DOpr} {st st' : St},stepOps E P S Y ops st = some st' -> stepOps E P' S' Y' ops st = some st'
 | [],st,st',h=>h
 | o :: os,st,st',h=>by
  simp only [stepOps] at h ⊢
  split
  ·rename_i hw
   rw [if_pos hw] at h
   split at h
   ·rename_i d hp hst
    rw [z59 hP hS hY hst]
    exact z2h hP hS hY h
   ·simp at h
  ·rename_i hw
   rw [if_neg hw] at h
   exact z2h hP hS hY h

theorem z1x (hP : ∀ f as d,P f as = some d -> P' f as = some d) (hS : ∀ f as hp r,S f as hp = some r -> S' f as hp = some r) (hY : ∀ f as hp r,Y f as hp = some r -> Y' f as hp = some r) :
  ∀ {ops : List DOpr} {id : Nat} {st st' : St},stepOpsD E P S Y id ops st = some st' -> stepOpsD E P' S' Y' id ops st = some st'
 | [],id,st,st',h=>h
 | o :: os,id,st,st',h=>by
  simp only [stepOpsD] at h ⊢
  split
  ·rename_i hw
   rw [if_pos hw] at h
   split at h
   ·rename_i d hp hst
    rw [z59 hP hS hY hst]
    exact z1x hP hS hY h
   ·simp at h
  ·rename_i hw
   rw [if_neg hw] at h
   exact z1x hP hS hY h

end

section
variable {E : Env} {rec rec' : DC -> St -> Option (Ex × St)}

theorem zdc {b : Bool} {F : DFn} {x x' : Option (Ex × St)} (h : ∀ r,x = some r -> x' = some r) {r : D × List Obj} (hr : finishQ b E F x = some r) : finishQ b E F x' = some r:=by
 cases x with
 | none=>cases b <;> simp [finishQ,finishF,finishM] at hr
 | some y=>rw [h y rfl]; exact hr

theorem z2x (h : ∀ c st r,rec c st = some r -> rec' c st = some r) {f : Nat} {args : List D} {hp : List Obj} {r : D × List Obj} (hr : runS E rec f args hp = some r) : runS E rec' f args hp = some r:=by
 unfold runS at hr ⊢
 split at hr
 ·rename_i F hF
  exact zdc (fun r=>h _ _ r) hr
 ·simp at hr

theorem z5s (h : ∀ c st r,rec c st = some r -> rec' c st = some r) {f : Nat} {args : List D} {r : D} (hr : runP E rec f args = some r) : runP E rec' f args = some r:=by
 unfold runP at hr ⊢
 split at hr
 ·rename_i d hp h1
  rw [z2x h h1]; exact hr
 ·simp at hr

theorem z5r (h : ∀ c st r,rec c st = some r -> rec' c st = some r) {l : Nat} {args : List D} {hp : List Obj} {r : D × List Obj} (hr : runY rec l args hp = some r) : runY rec' l args hp = some r:=by
 unfold runY at hr ⊢
 split at hr
 ·rename_i slots ps asg body hl
  split at hr
  ·rename_i hlen
   rw [if_pos hlen]
   split at hr
   ·rename_i st1 h1
    rw [h _ _ _ h1]
    split at hr
    ·rename_i s1 p1 a1 b1 h2
     simp only [h2]
     split at hr
     ·rename_i ex st2 h3
      rw [h _ _ _ h3]
      exact hr
     ·simp at hr
    ·simp at hr
   ·simp at hr
  ·simp at hr
 ·simp at hr

end

theorem zsg {E : Env} : ∀ (n : Nat) {c : DC} {st : St} {r : Ex × St},dC E n c st = some r -> dC E (n + 1) c st = some r:=by
 intro n
 induction n with
 | zero=>intro c st r h; simp [dC] at h
 | succ n ih=>
  intro c st r h
  have ih' : ∀ c st r,dC E n c st = some r -> dC E (n + 1) c st = some r:=fun c st r h=>ih h
  cases c with
  | skip=>simpa [dC] using h
  | ret=>simpa [dC] using h
  | exit id=>simpa [dC] using h
  | seq a b=>
   rw [dC] at h ⊢
   cases ha : dC E n a st with
   | none=>rw [ha] at h; simp at h
   | some x=>
    rw [ih ha]
    rw [ha] at h
    obtain ⟨ex,st1⟩:=x
    cases ex with
    | normal=>exact ih h
    | exit id=>exact h
    | ret=>exact h
  | cond c a b=>
   rw [dC] at h ⊢
   split at h
   ·exact ih h
   ·exact ih h
   ·simp at h
  | ifp x a b=>
   rw [dC] at h ⊢
   split at h
   ·rename_i hc; rw [if_pos hc]; exact ih h
   ·rename_i hc; rw [if_neg hc]; exact ih h
  | block id a=>
   rw [dC] at h ⊢
   cases ha : dC E n a st with
   | none=>rw [ha] at h; simp at h
   | some x=>rw [ih ha]; rw [ha] at h; exact h
  | loop a=>
   rw [dC] at h ⊢
   cases ha : dC E n a st with
   | none=>rw [ha] at h; simp at h
   | some x=>
    rw [ih ha]
    rw [ha] at h
    obtain ⟨ex,st1⟩:=x
    cases ex with
    | normal=>exact ih h
    | exit id=>exact h
    | ret=>exact h
  | region dr ap ops=>
   rw [dC] at h ⊢
   simp only [Option.map_eq_some_iff] at h ⊢
   obtain ⟨st',h1,h2⟩:=h
   refine ⟨st',?_,h2⟩
   have hP : ∀ f as d,runP E (dC E n) f as = some d -> runP E (dC E (n + 1)) f as = some d:=fun f as d h=>z5s ih' h
   have hS : ∀ f as hp r,runS E (dC E n) f as hp = some r -> runS E (dC E (n + 1)) f as hp = some r:=fun f as hp r h=>z2x ih' h
   have hY : ∀ f as hp r,runY (dC E n) f as hp = some r -> runY (dC E (n + 1)) f as hp = some r:=fun f as hp r h=>z5r ih' h
   cases dr with
   | true=>
    simp only [if_true] at h1 ⊢
    unfold checkAp at h1 ⊢
    split at h1
    ·rename_i st1 h3
     rw [z1x hP hS hY h3]
     exact h1
    ·simp at h1
   | false=>
    simp only [Bool.false_eq_true,if_false] at h1 ⊢
    exact z2h hP hS hY h1
  | rfunc f ps asg body=>
   rw [dC] at h ⊢
   split at h
   ·rename_i k caps hg
    split at h
    ·rename_i d hp' h1
     rw [z2x ih' h1]
     exact h
    ·simp at h
   ·simp at h

theorem z9d {E : Env} {n m : Nat} (hle : n <= m) {c : DC} {st : St} {r : Ex × St} (h : dC E n c st = some r) : dC E m c st = some r:=by
 induction hle with
 | refl=>exact h
 | step _ ih=>exact zsg _ ih

end Dv

namespace Dv

open Classical in
noncomputable def dL (E : Env) (c : DC) (st : St) : Option (Ex × St):=
 if h : ∃ r n,dC E n c st = some r then some (choose h) else none

section
variable {E : Env}

theorem z1v {c : DC} {st : St} {r : Ex × St} : dL E c st = some r ↔ ∃ n,dC E n c st = some r:=by
 unfold dL
 constructor
 ·intro h
  split at h
  ·rename_i hx
   simp at h
   have:=Classical.choose_spec hx
   rw [h] at this; exact this
  ·simp at h
 ·rintro ⟨n,hn⟩
  have hx : ∃ r n,dC E n c st = some r:=⟨r,n,hn⟩
  rw [dif_pos hx]
  obtain ⟨m,hm⟩:=Classical.choose_spec hx
  have h1:=z9d (Nat.le_max_left n m) hn
  have h2:=z9d (Nat.le_max_right n m) hm
  rw [h1] at h2; simp at h2; rw [<- h2]

theorem zdf {c : DC} {st : St} {x : Option (Ex × St)} (h1 : ∀ r,x = some r -> ∃ n,dC E n c st = some r) (h2 : ∀ n r,dC E n c st = some r -> x = some r) : dL E c st = x:=by
 cases hx : x with
 | some r=>exact z1v.2 (h1 r hx)
 | none=>
  cases hd : dL E c st with
  | none=>rfl
  | some r=>
   obtain ⟨n,hn⟩:=z1v.1 hd
   rw [h2 n r hn] at hx; cases hx

theorem z48 {n : Nat} : ∀ c st r,dC E n c st = some r -> dL E c st = some r:=fun _ _ _ h=>z1v.2 ⟨n,h⟩

theorem z2y {f : Nat} {args : List D} {hp : List Obj} {r : D × List Obj} (h : runS E (dL E) f args hp = some r) : ∃ n,runS E (dC E n) f args hp = some r:=by
 unfold runS at h ⊢
 split at h
 ·rename_i F hF
  cases hd : dL E F.body (startF F args hp) with
  | none=>rw [hd] at h; cases hb : E.mp f <;> simp [finishQ,finishF,finishM,hb] at h
  | some x=>
   obtain ⟨n,hn⟩:=z1v.1 hd
   refine ⟨n,?_⟩
   simp only [hF,hn]; rw [hd] at h; exact h
 ·simp at h

theorem z8b {f : Nat} {args : List D} {r : D} (h : runP E (dL E) f args = some r) : ∃ n,runP E (dC E n) f args = some r:=by
 unfold runP at h
 split at h
 ·rename_i d hp h1
  obtain ⟨n,hn⟩:=z2y h1
  exact ⟨n,by unfold runP; rw [hn]; exact h⟩
 ·simp at h

theorem zju {l : Nat} {args : List D} {hp : List Obj} {r : D × List Obj} (h : runY (dL E) l args hp = some r) : ∃ n,runY (dC E n) l args hp = some r:=by
 unfold runY at h
 split at h
 ·rename_i slots ps asg body hl
  split at h
  ·rename_i hlen
   split at h
   ·rename_i st1 h1
    split at h
    ·rename_i s1 p1 a1 b1 h2
     split at h
     ·rename_i ex st2 h3
      obtain ⟨n,hn⟩:=z1v.1 h1
      obtain ⟨m,hm⟩:=z1v.1 h3
      refine ⟨max n m,?_⟩
      unfold runY
      simp only [hl,hlen,if_true,z9d (Nat.le_max_left n m) hn,h2,z9d (Nat.le_max_right n m) hm]
      exact h
     ·simp at h
    ·simp at h
   ·simp at h
  ·simp at h
 ·simp at h

theorem ze2 {n m : Nat} (hle : n <= m) {f : Nat} {args : List D} {hp : List Obj} {r : D × List Obj} (h : runS E (dC E n) f args hp = some r) : runS E (dC E m) f args hp = some r:=z2x (fun _ _ _ h=>z9d hle h) h
theorem ze3 {n m : Nat} (hle : n <= m) {f : Nat} {args : List D} {r : D} (h : runP E (dC E n) f args = some r) : runP E (dC E m) f args = some r:=z5s (fun _ _ _ h=>z9d hle h) h
theorem ze1 {n m : Nat} (hle : n <= m) {l : Nat} {args : List D} {hp : List Obj} {r : D × List Obj} (h : runY (dC E n) l args hp = some r) : runY (dC E m) l args hp = some r:=z5r (fun _ _ _ h=>z9d hle h) h

theorem zns {S : Nat -> List D -> List Obj -> Option (D × List Obj)} {k : Nat} {x : D} {rest : List D} {hp : List Obj} {r : D × Nat × Obj} (h : islD S k x rest hp = some r) :
  ∃ vs os d,S k vs os = some d /\ ∀ S' : Nat -> List D -> List Obj -> Option (D × List Obj),S' k vs os = some d -> islD S' k x rest hp = some r:=by
 unfold islD at h
 split at h
 case h_2=>simp at h
 split at h
 case h_2=>simp at h
 rename_i cs ho
 split at h
 case h_2=>simp at h
 rename_i vs cs1 e1 e2
 split at h
 case isFalse=>simp at h
 rename_i hat
 split at h
 case h_2=>simp at h
 rename_i d hp2 hr
 obtain ⟨h1,h2⟩:=zf hr
 refine ⟨_,_,_,h1,fun S' h'=>?_⟩
 unfold islD
 simp only [ho,e1,e2,if_pos hat]
 rw [h',zq h2]
 exact h

theorem zcd {id : Nat} {g : Opd -> D} {hp : List Obj} {op : DOp} {r : D × List Obj} (h : stepOp E (runP E (dL E)) (runS E (dL E)) (runY (dL E)) id g hp op = some r) : ∃ n,stepOp E (runP E (dC E n)) (runS E (dC E n)) (runY (dC E n)) id g hp op = some r:=by
 by_cases hc : ∃ md f as,op = .call md f as
 ·obtain ⟨md,f,as,rfl⟩:=hc
  match md with
  | 0=>
   simp only [stepOp,DOp.fin,pureOp,Option.map_eq_some_iff] at h
   obtain ⟨e,h1,h2⟩:=h
   split at h1
   ·rename_i k caps hg
    split at h1
    ·rename_i vs hv
     simp only [Option.map_eq_some_iff] at h1
     obtain ⟨d,h3,h4⟩:=h1
     obtain ⟨n,hn⟩:=z8b h3
     refine ⟨n,?_⟩
     simp only [stepOp,DOp.fin,pureOp,hg,hv,hn,Option.map_some]
     subst h4
     exact congrArg some h2
    ·simp at h1
   ·simp at h1
  | 1=>
   simp only [stepOp,DOp.fin,finOp] at h
   split at h
   ·rename_i k caps hg
    split at h
    ·rename_i vs hv
     simp only [Option.map_eq_some_iff] at h
     obtain ⟨d,h3,h4⟩:=h
     obtain ⟨n,hn⟩:=z8b h3
     refine ⟨n,?_⟩
     simp only [stepOp,DOp.fin,finOp,hg,hv,hn,Option.map_some]
     rw [h4]
    ·simp at h
   ·simp at h
  | 3=>
   simp only [stepOp,DOp.fin,finOp] at h
   split at h
   ·rename_i k caps hg
    split at h
    ·rename_i vs hv
     split at h
     ·rename_i d h3
      obtain ⟨n,hn⟩:=z8b h3
      exact ⟨n,by simp only [stepOp,DOp.fin,finOp,hg,hv,hn]; exact h⟩
     ·simp at h
    ·simp at h
   ·simp at h
  | 2=>
   simp only [stepOp,DOp.fin,finOp] at h
   cases hg : g f with
   | fn k caps=>
    rw [hg] at h
    obtain ⟨h1,h2⟩:=zf h
    obtain ⟨n,hn⟩:=z2y h1
    exact ⟨n,by simp only [stepOp,DOp.fin,finOp,hg,hn]; exact zq h2⟩
   | bfn k r=>
    rw [hg] at h
    obtain ⟨h1,h2⟩:=zf h
    obtain ⟨n,hn⟩:=z2y h1
    exact ⟨n,by simp only [stepOp,DOp.fin,finOp,hg,hn]; exact zq h2⟩
   | yld l=>
    rw [hg] at h
    obtain ⟨n,hn⟩:=zju h
    exact ⟨n,by simp only [stepOp,DOp.fin,finOp,hg]; exact hn⟩
   | _=>rw [hg] at h; simp at h
  | 4=>
   cases as with
   | nil=>
    simp only [stepOp,DOp.fin,finOp] at h
    split at h
    ·rename_i k caps hg
     split at h
     ·rename_i vs hv
      unfold makD at h
      simp only [Option.map_eq_some_iff] at h
      obtain ⟨r1,h1,h2⟩:=h
      obtain ⟨h3,h4⟩:=zf h1
      obtain ⟨n,hn⟩:=z2y h3
      refine ⟨n,?_⟩
      simp only [stepOp,DOp.fin,finOp,hg,hv,makD]
      rw [hn,zq h4,<- h2]; rfl
     ·simp at h
    ·simp at h
   | cons x as=>
    simp only [stepOp,DOp.fin,finOp] at h
    cases hg : g f with
    | fn k caps=>
     rw [hg] at h
     simp only [Option.map_eq_some_iff] at h
     obtain ⟨r1,h1,h2⟩:=h
     obtain ⟨vs,os,d,h3,h4⟩:=zns h1
     obtain ⟨n,hn⟩:=z2y h3
     refine ⟨n,?_⟩
     simp only [stepOp,DOp.fin,finOp,hg]
     rw [h4 _ hn,<- h2]; rfl
    | _=>rw [hg] at h; simp at h
  | 5=>
   simp only [stepOp,DOp.fin,finOp] at h
   split at h
   ·rename_i k caps hg
    split at h
    ·rename_i hmp
     split at h
     ·rename_i vs hv
      cases hc : runS E (dL E) k vs [] with
      | none=>rw [hc] at h; simp [markR] at h
      | some x=>
       obtain ⟨n,hn⟩:=z2y hc
       rw [hc] at h
       exact ⟨n,by simp only [stepOp,DOp.fin,finOp,hg,hv,hn,if_pos hmp]; exact h⟩
     ·simp at h
    ·simp at h
   ·simp at h
  | 6=>
   simp only [stepOp,DOp.fin,finOp] at h
   cases hg : g f with
   | fn k caps=>
    rw [hg] at h
    simp only at h
    split at h
    ·rename_i hmp
     obtain ⟨n,hn⟩:=z2y h
     exact ⟨n,by simp only [stepOp,DOp.fin,finOp,hg,if_pos hmp]; exact hn⟩
    ·simp at h
   | _=>rw [hg] at h; simp at h
  | k + 7=>
   simp only [stepOp,DOp.fin,finOp] at h
   cases hg : g f with
   | fn k caps=>
    rw [hg] at h
    obtain ⟨h1,h2⟩:=zf h
    obtain ⟨n,hn⟩:=z2y h1
    exact ⟨n,by simp only [stepOp,DOp.fin,finOp,hg,hn]; exact zq h2⟩
   | bfn k r=>
    rw [hg] at h
    obtain ⟨h1,h2⟩:=zf h
    obtain ⟨n,hn⟩:=z2y h1
    exact ⟨n,by simp only [stepOp,DOp.fin,finOp,hg,hn]; exact zq h2⟩
   | yld l=>
    rw [hg] at h
    obtain ⟨n,hn⟩:=zju h
    exact ⟨n,by simp only [stepOp,DOp.fin,finOp,hg]; exact hn⟩
   | _=>rw [hg] at h; simp at h
 by_cases hc2 : ∃ f as,op = .mkcall f as
 ·obtain ⟨f,as,rfl⟩:=hc2
  simp only [stepOp,DOp.fin,finOp] at h
  split at h
  ·rename_i k caps hg
   split at h
   ·rename_i vs hv
    unfold makD at h
    simp only [Option.map_eq_some_iff] at h
    obtain ⟨r1,h1,h2⟩:=h
    obtain ⟨h3,h4⟩:=zf h1
    obtain ⟨n,hn⟩:=z2y h3
    refine ⟨n,?_⟩
    simp only [stepOp,DOp.fin,finOp,hg,hv,makD]
    rw [hn,zq h4,<- h2]; rfl
   ·simp at h
  ·simp at h
 ·refine ⟨0,?_⟩
  cases op with
  | call md f as=>exact absurd ⟨md,f,as,rfl⟩ hc
  | mkcall f as=>exact absurd ⟨f,as,rfl⟩ hc2
  | _=>exact h

theorem zcc {n m : Nat} (hle : n <= m) {id : Nat} {g : Opd -> D} {hp : List Obj} {op : DOp} {r : D × List Obj} (h : stepOp E (runP E (dC E n)) (runS E (dC E n)) (runY (dC E n)) id g hp op = some r) : stepOp E (runP E (dC E m)) (runS E (dC E m)) (runY (dC E m)) id g hp op = some r:=
 z59 (fun _ _ _ h=>ze3 hle h) (fun _ _ _ _ h=>ze2 hle h) (fun _ _ _ _ h=>ze1 hle h) h

theorem z6j : ∀ {ops : List DOpr} {st st' : St},stepOps E (runP E (dL E)) (runS E (dL E)) (runY (dL E)) ops st = some st' -> ∃ n,stepOps E (runP E (dC E n)) (runS E (dC E n)) (runY (dC E n)) ops st = some st'
 | [],st,st',h=>⟨0,h⟩
 | o :: os,st,st',h=>by
  simp only [stepOps] at h
  split at h
  ·rename_i hw
   split at h
   ·rename_i d hp h1
    obtain ⟨n,hn⟩:=zcd h1
    obtain ⟨m,hm⟩:=z6j h
    refine ⟨max n m,?_⟩
    simp only [stepOps,if_pos hw,zcc (Nat.le_max_left n m) hn]
    exact z2h (fun _ _ _ h=>ze3 (Nat.le_max_right n m) h) (fun _ _ _ _ h=>ze2 (Nat.le_max_right n m) h) (fun _ _ _ _ h=>ze1 (Nat.le_max_right n m) h) hm
   ·simp at h
  ·rename_i hw
   obtain ⟨m,hm⟩:=z6j h
   exact ⟨m,by simp only [stepOps,if_neg hw]; exact hm⟩

theorem z58 : ∀ {ops : List DOpr} {id : Nat} {st st' : St},stepOpsD E (runP E (dL E)) (runS E (dL E)) (runY (dL E)) id ops st = some st' -> ∃ n,stepOpsD E (runP E (dC E n)) (runS E (dC E n)) (runY (dC E n)) id ops st = some st'
 | [],id,st,st',h=>⟨0,h⟩
 | o :: os,id,st,st',h=>by
  simp only [stepOpsD] at h
  split at h
  ·rename_i hw
   split at h
   ·rename_i d hp h1
    obtain ⟨n,hn⟩:=zcd h1
    obtain ⟨m,hm⟩:=z58 h
    refine ⟨max n m,?_⟩
    simp only [stepOpsD,if_pos hw,zcc (Nat.le_max_left n m) hn]
    exact z1x (fun _ _ _ h=>ze3 (Nat.le_max_right n m) h) (fun _ _ _ _ h=>ze2 (Nat.le_max_right n m) h) (fun _ _ _ _ h=>ze1 (Nat.le_max_right n m) h) hm
   ·simp at h
  ·rename_i hw
   obtain ⟨m,hm⟩:=z58 h
   exact ⟨m,by simp only [stepOpsD,if_neg hw]; exact hm⟩


theorem z9a {st : St} : dL E .skip st = some (.normal,st):=z1v.2 ⟨1,rfl⟩
theorem z7h {st : St} : dL E .ret st = some (.ret,st):=z1v.2 ⟨1,rfl⟩
theorem zlx {id : Nat} {st : St} : dL E (.exit id) st = some (.exit id,st):=z1v.2 ⟨1,rfl⟩

theorem z9b {a b : DC} {st : St} : dL E (.seq a b) st = (match dL E a st with
  | some (.normal,st')=>dL E b st'
  | r=>r):=by
 refine zdf (fun r h=>?_) (fun n r h=>?_)
 ·split at h
  ·rename_i st' ha
   obtain ⟨n,hn⟩:=z1v.1 ha
   obtain ⟨m,hm⟩:=z1v.1 h
   refine ⟨max n m + 1,?_⟩
   simp only [dC,z9d (Nat.le_max_left n m) hn]
   exact z9d (Nat.le_max_right n m) hm
  ·rename_i hne
   obtain ⟨n,hn⟩:=z1v.1 h
   refine ⟨n + 1,?_⟩
   simp only [dC,hn]
   obtain ⟨ex,st1⟩:=r
   cases ex with
   | normal=>exact absurd h (hne st1)
   | exit id=>rfl
   | ret=>rfl
 ·cases n with
  | zero=>simp [dC] at h
  | succ n=>
   simp only [dC] at h
   split at h
   ·rename_i st' ha
    rw [z48 _ _ _ ha]; exact z48 _ _ _ h
   ·rename_i hne
    rw [z48 _ _ _ h]
    obtain ⟨ex,st1⟩:=r
    cases ex with
    | normal=>exact absurd h (hne st1)
    | exit id=>rfl
    | ret=>rfl

theorem z5f {c : Opd} {a b : DC} {st : St} : dL E (.cond c a b) st = (match getO st.sl c with
  | .bool true=>dL E a st
  | .bool false=>dL E b st
  | _=>none):=by
 refine zdf (fun r h=>?_) (fun n r h=>?_)
 ·split at h
  ·rename_i hg
   obtain ⟨n,hn⟩:=z1v.1 h
   exact ⟨n + 1,by simp only [dC,hg]; exact hn⟩
  ·rename_i hg
   obtain ⟨n,hn⟩:=z1v.1 h
   exact ⟨n + 1,by simp only [dC,hg]; exact hn⟩
  ·simp at h
 ·cases n with
  | zero=>simp [dC] at h
  | succ n=>
   simp only [dC] at h
   split at h
   ·rename_i hg; simp only [hg]; exact z48 _ _ _ h
   ·rename_i hg; simp only [hg]; exact z48 _ _ _ h
   ·simp at h

theorem zgf {x : Opd} {a b : DC} {st : St} : dL E (.ifp x a b) st = if isMark (getO st.sl x) = true then dL E a st else dL E b st:=by
 refine zdf (fun r h=>?_) (fun n r h=>?_)
 ·split at h
  ·rename_i hc
   obtain ⟨n,hn⟩:=z1v.1 h
   exact ⟨n + 1,by simp only [dC,if_pos hc]; exact hn⟩
  ·rename_i hc
   obtain ⟨n,hn⟩:=z1v.1 h
   exact ⟨n + 1,by simp only [dC,if_neg hc]; exact hn⟩
 ·cases n with
  | zero=>simp [dC] at h
  | succ n=>
   simp only [dC] at h
   split at h
   ·rename_i hc; rw [if_pos hc]; exact z48 _ _ _ h
   ·rename_i hc; rw [if_neg hc]; exact z48 _ _ _ h

theorem z7u {id : Nat} {a : DC} {st : St} : dL E (.block id a) st = (match dL E a st with
  | some (.exit id',st')=>some (if id' = id then .normal else .exit id',st')
  | r=>r):=by
 refine zdf (fun r h=>?_) (fun n r h=>?_)
 ·cases ha : dL E a st with
  | none=>rw [ha] at h; simp at h
  | some x=>
   obtain ⟨n,hn⟩:=z1v.1 ha
   exact ⟨n + 1,by simp only [dC,hn]; rw [ha] at h; exact h⟩
 ·cases n with
  | zero=>simp [dC] at h
  | succ n=>
   simp only [dC] at h
   cases ha : dC E n a st with
   | none=>rw [ha] at h; simp at h
   | some x=>rw [z48 _ _ _ ha]; rw [ha] at h; exact h

theorem zf1 {a : DC} {st : St} : dL E (.loop a) st = (match dL E a st with
  | some (.normal,st')=>dL E (.loop a) st'
  | r=>r):=by
 refine zdf (fun r h=>?_) (fun n r h=>?_)
 ·split at h
  ·rename_i st' ha
   obtain ⟨n,hn⟩:=z1v.1 ha
   obtain ⟨m,hm⟩:=z1v.1 h
   refine ⟨max n m + 1,?_⟩
   simp only [dC,z9d (Nat.le_max_left n m) hn]
   exact z9d (Nat.le_max_right n m) hm
  ·rename_i hne
   obtain ⟨n,hn⟩:=z1v.1 h
   refine ⟨n + 1,?_⟩
   simp only [dC,hn]
   obtain ⟨ex,st1⟩:=r
   cases ex with
   | normal=>exact absurd h (hne st1)
   | exit id=>rfl
   | ret=>rfl
 ·cases n with
  | zero=>simp [dC] at h
  | succ n=>
   simp only [dC] at h
   split at h
   ·rename_i st' ha
    rw [z48 _ _ _ ha]; exact z48 _ _ _ h
   ·rename_i hne
    rw [z48 _ _ _ h]
    obtain ⟨ex,st1⟩:=r
    cases ex with
    | normal=>exact absurd h (hne st1)
    | exit id=>rfl
    | ret=>rfl

theorem z6d {ap : List (Nat × Nat)} {ops : List DOpr} {st : St} : dL E (.region false ap ops) st = (stepOps E (runP E (dL E)) (runS E (dL E)) (runY (dL E)) ops st).map fun st'=>(.normal,st'):=by
 refine zdf (fun r h=>?_) (fun n r h=>?_)
 ·simp only [Option.map_eq_some_iff] at h
  obtain ⟨st',h1,h2⟩:=h
  obtain ⟨n,hn⟩:=z6j h1
  exact ⟨n + 1,by simp only [dC,Bool.false_eq_true,if_false,hn,Option.map_some,h2]⟩
 ·cases n with
  | zero=>simp [dC] at h
  | succ n=>
   simp only [dC,Bool.false_eq_true,if_false,Option.map_eq_some_iff] at h ⊢
   obtain ⟨st',h1,h2⟩:=h
   exact ⟨st',z2h (fun _ _ _ h=>z5s z48 h) (fun _ _ _ _ h=>z2x z48 h) (fun _ _ _ _ h=>z5r z48 h) h1,h2⟩

theorem zly {ap : List (Nat × Nat)} {ops : List DOpr} {st : St} : dL E (.region true ap ops) st = (checkAp ops ap (stepOpsD E (runP E (dL E)) (runS E (dL E)) (runY (dL E)) st.hp.length ops ⟨st.sl,st.hp ++ List.replicate ops.length .dead⟩)).map fun st'=>(.normal,st'):=by
 have key : ∀ {x y : Option St} {r : St},(∀ s,x = some s -> y = some s) -> checkAp ops ap x = some r -> checkAp ops ap y = some r:=by
  intro x y r hxy h
  unfold checkAp at h
  split at h
  ·rename_i s; rw [hxy s rfl]; exact h
  ·simp at h
 refine zdf (fun r h=>?_) (fun n r h=>?_)
 ·simp only [Option.map_eq_some_iff] at h
  obtain ⟨st',h1,h2⟩:=h
  have : ∃ n,checkAp ops ap (stepOpsD E (runP E (dC E n)) (runS E (dC E n)) (runY (dC E n)) st.hp.length ops ⟨st.sl,st.hp ++ List.replicate ops.length .dead⟩) = some st':=by
   cases hx : stepOpsD E (runP E (dL E)) (runS E (dL E)) (runY (dL E)) st.hp.length ops ⟨st.sl,st.hp ++ List.replicate ops.length .dead⟩ with
   | none=>rw [hx] at h1; simp [checkAp] at h1
   | some s=>
    obtain ⟨n,hn⟩:=z58 hx
    exact ⟨n,by rw [hn]; rw [hx] at h1; exact h1⟩
  obtain ⟨n,hn⟩:=this
  exact ⟨n + 1,by simp only [dC,if_true,hn,Option.map_some,h2]⟩
 ·cases n with
  | zero=>simp [dC] at h
  | succ n=>
   simp only [dC,if_true,Option.map_eq_some_iff] at h ⊢
   obtain ⟨st',h1,h2⟩:=h
   exact ⟨st',key (fun s hs=>z1x (fun _ _ _ h=>z5s z48 h) (fun _ _ _ _ h=>z2x z48 h) (fun _ _ _ _ h=>z5r z48 h) hs) h1,h2⟩

theorem zge {f : Opd} {ps : List Nat} {asg body : DC} {st : St} : dL E (.rfunc f ps asg body) st = (match guardF E (getO st.sl f) with
  | .fn k caps=>(match runS E (dL E) k (.yld st.hp.length :: caps) (st.hp ++ [.loop false st.sl ps asg body none]) with
   | some (_,hp')=>(match hp'[st.hp.length]? with
    | some (.loop false _ _ _ _ none)=>some (.normal,⟨st.sl,hp'.set st.hp.length .dead⟩)
    | some (.loop false _ _ _ _ (some ex))=>some (ex,⟨st.sl,hp'.set st.hp.length .dead⟩)
    | _=>none)
   | none=>none)
  | _=>none):=by
 refine zdf (fun r h=>?_) (fun n r h=>?_)
 ·split at h
  ·rename_i k caps hg
   split at h
   ·rename_i d hp' h1
    obtain ⟨n,hn⟩:=z2y h1
    exact ⟨n + 1,by simp only [dC,hg,hn]; exact h⟩
   ·simp at h
  ·simp at h
 ·cases n with
  | zero=>simp [dC] at h
  | succ n=>
   simp only [dC] at h
   split at h
   ·rename_i k caps hg
    split at h
    ·rename_i d hp' h1
     simp only [hg,z2x z48 h1]
     exact h
    ·simp at h
   ·simp at h

end
end Dv
