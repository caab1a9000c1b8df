/- Texts that a proof of this claim uses, joined: Lw.W55, Lw.W56, Lw.W57. -/
import Derived.Test.YtffnaiofjjgcgaaWn
set_option linter.all false
/- The choice of a variable that costs least: what is meant, and the reference's walk. -/
namespace Dv
attribute [local simp] wT_skip wK wT_ret wT_exit wR wRp wT_seq wC wT_block rTS_nil rTS_asg rTS_eff rTS_effk ob_some obP_some iteD_b condP_b xv_v xv_c xv_ite xv_bin_tt xv_bin_tc xv_bin_ct xv_bin_cc xv_un_t xv_conv_t xv_load xv_len xv_faddr xv_field xv_iaddr_tt xv_iaddr_tc xv_index_tt xv_index_tc xv_lookup_tt xv_max_tt xv_max_tc xv_max_ct xv_min_tt xv_min_tc xv_min_ct xv_slice_lo_t xv_slice_lo_c xv_slice_hi_t xv_slice_all xv_call xv_bslice bsliceV xv_build buildV xv_mkfn zeroE fillE buildD fillD List.replicate xvs_nil xvs_cons callV_fn frz_bool frz_int frz_imm frz_agg frz_tup frz_fn frz_iptr frzL_nil frzL_one frzL_dI frzL_cell frzL_use frzL_ints frzL_choice frzL_var depth dCell dUse dInts dChoice dVar dProb tStart addO Ret flat_dI flat_rep chunk_dI
 binD_add binD_sub binD_mul binD_eql binD_neq binD_lss binD_leq binD_gtr binD_geq binD_quo binD_rem binD_beql binD_bneq binD_aeql binD_aneq unD_not unD_neg lenD_imm lenD_sl lenD_str readO_cells readO_frozen loadD_loc loadD_iptr iaddrD_imm iaddrD_sl iaddrD_loc faddrD_loc faddrD_iptr fieldD_agg indexD_agg indexD_str cellsL_bool stor_bool atom_bool cellsL_int stor_int atom_int cellsL_str stor_str atom_str cellsL_imm stor_imm atom_imm cellsL_sl stor_sl atom_sl cellsL_loc stor_loc atom_loc cellsL_iptr stor_iptr atom_iptr cellsL_map stor_map atom_map cellsL_fn stor_fn atom_fn cellsL_agg stor_agg cellsL_nilfn stor_nilfn atom_nilfn cellsL_nilp stor_nilp atom_nilp takeC_z takeC_s ofCells_ag ofCells_one ag_bool ag_int ag_str ag_slice ag_struct ag_arr ag_map ag_ptr ag_func gOf_t gOf_c gOf_f kv_cons putE_some putE_none oneRes_one oneRes_two oneRes_three getAll_nil getAll_v getAll_c maxiD_two miniD_two extV_tup xv_ext stepOp_box stepOp_alloc stepOp_store writeO_cells storeD_loc setCells_nil setCells_cons stepOp_mkmap stepOp_mapset stepOp_call1 stepOp_call2 stepOp_app2 stepOp_app1 stepOp_bslice stepOp_mkslice mapO_map lookupD_some lookupD_ok mapsetD_some keyOk_agg kindsL_nil kindsL_bool kindsL_int eqL_nil eqL_cons atomEq_bool atomEq_int frz_sl tokO_tok app0_step app0_exact app0_tok frz_loc oneRes_nil listOf_imm
 ty_0 ty_1 ty_2 ty_3 ty_4 ty_5 ty_6 ty_7 ty_8 ty_9 ty_10 ty_11 ty_12 ty_13 ty_14 ty_15 ty_16 ty_17 ty_18 ty_19 ty_20 ty_21 ty_22 ty_23 ty_24 ty_25 ty_26 ty_27
attribute [local congr] wT_congr ob_congr obP_congr iteD_congr condP_congr

/-- does a choice count? -/
def cntB (b : List Int) (g : Int) (i k : Nat) (c : Choice) : Bool := decide (c.delay ≤ g) && (decide (b.length ≤ i) || decide (b.getD i 0 = (k : Int)))

/-- the choices that count, with their numbers -/
def candL (b : List Int) (g : Int) (i : Nat) : Nat → List Choice → List (Nat × Choice)
  | _, [] => []
  | k, c :: cs => (if cntB b g i k c then [(k, c)] else []) ++ candL b g i (k + 1) cs

def stepK (f : Choice → Int) (s : Option ((Nat × Choice) × Int)) (x : Nat × Choice) : Option ((Nat × Choice) × Int) := match s with
  | none => some (x, f x.2)
  | some (y, n) => if f x.2 < n then some (x, f x.2) else some (y, n)

/-- the first one that costs least -/
def bestK (f : Choice → Int) (l : List (Nat × Choice)) : Option ((Nat × Choice) × Int) := l.foldl (stepK f) none

def costOf (p : Prob) (m : List (List Int)) (v : Var) (q : Int) (c : Choice) : Int := q * c.cost * v.leaves.length + prC p m v.leaves c.uses

theorem costOf_bd {p : Prob} {m : List (List Int)} {v : Var} (M : OkM p m) (hv : OkVar p v) (hl8 : v.leaves.length ≤ 8) (hu : ∀ c, c ∈ v.choices → c.uses.length ≤ 12) {q : Int} (hq : q = 0 ∨ q = 1) {c : Choice} (hc : c ∈ v.choices) :
    0 ≤ costOf p m v q c ∧ costOf p m v q c ≤ 60000000 ∧ 0 ≤ q * c.cost * v.leaves.length ∧ q * c.cost * v.leaves.length ≤ 8388608 := by
  have okc := hv.choices c hc
  have h1 := prC_bd M hl8 (us := c.uses) fun u hu => (okc.uses u hu).places |> fun h => by unfold wi at h; omega
  have h2 := hu c hc
  have h3 := okc.cost
  unfold wi at h3
  have h4 := mul_bd h3.1 h3.2 (n := (v.leaves.length : Int)) (by omega) (by omega)
  unfold costOf
  rcases hq with rfl | rfl
  · simp only [Int.zero_mul]; omega
  · simp only [Int.one_mul]; omega

def atOf (s : Option ((Nat × Choice) × Int)) : Int := match s with
  | none => -1
  | some (y, _) => y.1
def leastOf (s : Option ((Nat × Choice) × Int)) : Int := match s with
  | none => 0
  | some (_, n) => n

set_option maxHeartbeats 4000000 in
theorem r119 (p : Prob) (b : List Int) (g : Int) (S : Small p) (hb : b.length ≤ 20) {i k : Nat} (hi : i < p.vars.length) (hk : k < p.vars[i].choices.length) :
    runP E (dL E) 119 [dProb p, dInts b, dI g, dI i, dI k] = some (.bool (cntB b g i k p.vars[i].choices[k])) := by
  refine runP_T c119 (by simp) ?_
  have s3 := S.vars
  unfold cntB
  by_cases h1 : i < b.length
  · have h2 : ¬ b.length ≤ i := by omega
    have e : b.getD i 0 = b[i] := by rw [List.getD_eq_getElem?_getD, List.getElem?_eq_getElem h1, Option.getD_some]
    rw [e]
    by_cases h3 : b[i] = (k : Int)
    · simp [t119, n119, h1, h2, h3, hi, hk]
    · simp [t119, n119, h1, h2, h3]
  · have h2 : b.length ≤ i := by omega
    simp [t119, n119, h1, h2, hi, hk]

set_option maxHeartbeats 16000000 in
theorem r99 (p : Prob) (b : List Int) (g : Int) (m : List (List Int)) (S : Small p) (hb : b.length ≤ 20) (ok : OkP p) (M : OkM p m) {i : Nat} (hi : i < p.vars.length) {q : Int} (hq : q = 0 ∨ q = 1) :
    runP E (dL E) 99 [dProb p, dInts b, dI g, .imm .none (m.map dInts), dI i, dI q] =
      some (.tup [dI (atOf (bestK (costOf p m p.vars[i] q) (candL b g i 0 p.vars[i].choices))), dI (leastOf (bestK (costOf p m p.vars[i] q) (candL b g i 0 p.vars[i].choices)))]) := by
  refine runP_T c99 (by simp) ?_
  have okv := ok.vars _ (List.getElem_mem hi)
  have l1 := S.leaves _ (List.getElem_mem hi)
  have l2 := S.choices _ (List.getElem_mem hi)
  have l3 := S.uses _ (List.getElem_mem hi)
  have hcb := fun c hc => costOf_bd M okv l1 l3 hq (c := c) hc
  have h119 := fun k (hk : k < p.vars[i].choices.length) => r119 p b g S hb hi hk
  have h120 := fun k (hk : k < p.vars[i].choices.length) => r120 p m p.vars[i] p.vars[i].choices[k] S M okv l1 (okv.choices _ (List.getElem_mem hk)) (l3 _ (List.getElem_mem hk))
  obtain ⟨B, hB⟩ : ∃ B, B = bestK (costOf p m p.vars[i] q) (candL b g i 0 p.vars[i].choices) := ⟨_, rfl⟩
  rw [← hB]
  unfold bestK at hB
  obtain ⟨v, hv⟩ : ∃ v, v = p.vars[i] := ⟨_, rfl⟩
  simp only [← hv] at hB okv l1 l2 l3 hcb h119 h120
  simp only [dProb, dInts, dVar, dChoice] at h119 h120
  simp [t99, n99, hi]
  simp only [← hv]
  refine wT_up v.choices.length (fun k env hp => ∃ (x13 x14 x15 x16 x17 : D) (s : Option ((Nat × Choice) × Int)) (h : List Obj), env = [dProb p, dInts b, dI g, .imm .none (m.map dInts), dI i, dI q, .loc 0 0, dI 0, dI 0, .loc 1 0, dI (atOf s), dI (leastOf s), dI k, x13, x14, x15, x16, x17] ∧
    hp = .cells (dProb p).cellsL :: .cells (dVar v).cellsL :: h ∧ (candL b g i k (v.choices.drop k)).foldl (stepK (costOf p m v q)) s = B ∧ (s = none → True)) 0 (by omega) ⟨_, _, _, _, _, none, _, rfl, rfl, by simpa using hB.symm, fun _ => trivial⟩ ?_
  rintro k env hp hk ⟨x13, x14, x15, x16, x17, s, h, rfl, rfl, hs, -⟩
  by_cases hlt : k < v.choices.length
  rotate_left
  · have : k = v.choices.length := by omega
    subst this
    rw [List.drop_length] at hs
    simp only [candL, List.foldl_nil] at hs
    subst hs
    simp
  rw [drop_cons hlt] at hs
  simp only [candL] at hs
  have g1 := h119 k hlt
  have g2 := h120 k hlt
  obtain ⟨c1, c2, c3, c4⟩ := hcb _ (List.getElem_mem hlt)
  by_cases hc : cntB b g i k v.choices[k] = true
  rotate_left
  · have hc' : cntB b g i k v.choices[k] = false := by simpa using hc
    rw [if_neg hc] at hs
    simp only [List.nil_append] at hs
    rw [hc'] at g1
    simp [hlt, g1, wrap_up hlt (by omega)]
    exact ⟨_, _, _, _, _, s, ⟨rfl, rfl, rfl, rfl, rfl, rfl, rfl⟩, hs⟩
  rw [if_pos hc] at hs
  rw [hc] at g1
  simp only [List.cons_append, List.nil_append, List.foldl_cons] at hs
  obtain ⟨P, hP⟩ : ∃ P, P = prC p m v.leaves v.choices[k].uses := ⟨_, rfl⟩
  have hco : costOf p m v q v.choices[k] = q * v.choices[k].cost * v.leaves.length + P := by unfold costOf; rw [hP]
  rw [← hP] at g2
  rw [hco] at c1 c2
  have okc := okv.choices _ (List.getElem_mem hlt)
  have hcost := okc.cost
  unfold wi at hcost
  have hqc : 0 ≤ q * v.choices[k].cost ∧ q * v.choices[k].cost ≤ 1048576 := by
    rcases hq with rfl | rfl
    · simp only [Int.zero_mul]; omega
    · simp only [Int.one_mul]; omega
  have w1 := wrap_i64 (n := q * v.choices[k].cost) ⟨by omega, by omega⟩
  have w2 := wrap_i64 (n := q * v.choices[k].cost * v.leaves.length) ⟨by omega, by omega⟩
  have w3 := wrap_i64 (n := q * v.choices[k].cost * v.leaves.length + P) ⟨by omega, by omega⟩
  obtain ⟨N, hN⟩ : ∃ N, N = q * v.choices[k].cost * v.leaves.length + P := ⟨_, rfl⟩
  rw [← hN] at w3 hco c1 c2
  cases s with
  | none =>
    simp only [stepK, hco] at hs
    simp [hlt, g1, g2, w1, w2, ← hN, w3, atOf, wrap_up hlt (by omega)]
    exact ⟨_, _, _, _, _, some ((k, v.choices[k]), N), ⟨rfl, rfl, rfl, rfl, rfl, rfl, rfl⟩, hs⟩
  | some y =>
    obtain ⟨y, n'⟩ := y
    simp only [stepK, hco] at hs
    have hy : ¬ (y.1 : Int) < 0 := by omega
    by_cases hlt3 : N < n'
    · rw [if_pos hlt3] at hs
      simp [hlt, g1, g2, w1, w2, ← hN, w3, atOf, leastOf, hy, hlt3, wrap_up hlt (by omega)]
      exact ⟨_, _, _, _, _, some ((k, v.choices[k]), N), ⟨rfl, rfl, rfl, rfl, rfl, rfl, rfl⟩, hs⟩
    · rw [if_neg hlt3] at hs
      simp [hlt, g1, g2, w1, w2, ← hN, w3, atOf, leastOf, hy, hlt3, wrap_up hlt (by omega)]
      exact ⟨_, _, _, _, _, some (y, n'), ⟨rfl, rfl, rfl, rfl, rfl, rfl, rfl⟩, hs⟩

end Dv

/- The sums of the duals: what is meant, and the reference's walks. -/
namespace Dv
attribute [local simp] wT_skip wK wT_ret wT_exit wR wRp wT_seq wC wT_block rTS_nil rTS_asg rTS_eff rTS_effk ob_some obP_some iteD_b condP_b xv_v xv_c xv_ite xv_bin_tt xv_bin_tc xv_bin_ct xv_bin_cc xv_un_t xv_conv_t xv_load xv_len xv_faddr xv_field xv_iaddr_tt xv_iaddr_tc xv_index_tt xv_index_tc xv_lookup_tt xv_max_tt xv_max_tc xv_max_ct xv_min_tt xv_min_tc xv_min_ct xv_slice_lo_t xv_slice_lo_c xv_slice_hi_t xv_slice_all xv_call xv_bslice bsliceV xv_build buildV xv_mkfn zeroE fillE buildD fillD List.replicate xvs_nil xvs_cons callV_fn frz_bool frz_int frz_imm frz_agg frz_tup frz_fn frz_iptr frzL_nil frzL_one frzL_dI frzL_cell frzL_use frzL_ints frzL_choice frzL_var depth dCell dUse dInts dChoice dVar dProb tStart addO Ret flat_dI flat_rep chunk_dI
 binD_add binD_sub binD_mul binD_eql binD_neq binD_lss binD_leq binD_gtr binD_geq binD_quo binD_rem binD_beql binD_bneq binD_aeql binD_aneq unD_not unD_neg lenD_imm lenD_sl lenD_str readO_cells readO_frozen loadD_loc loadD_iptr iaddrD_imm iaddrD_sl iaddrD_loc faddrD_loc faddrD_iptr fieldD_agg indexD_agg indexD_str cellsL_bool stor_bool atom_bool cellsL_int stor_int atom_int cellsL_str stor_str atom_str cellsL_imm stor_imm atom_imm cellsL_sl stor_sl atom_sl cellsL_loc stor_loc atom_loc cellsL_iptr stor_iptr atom_iptr cellsL_map stor_map atom_map cellsL_fn stor_fn atom_fn cellsL_agg stor_agg cellsL_nilfn stor_nilfn atom_nilfn cellsL_nilp stor_nilp atom_nilp takeC_z takeC_s ofCells_ag ofCells_one ag_bool ag_int ag_str ag_slice ag_struct ag_arr ag_map ag_ptr ag_func gOf_t gOf_c gOf_f kv_cons putE_some putE_none oneRes_one oneRes_two oneRes_three getAll_nil getAll_v getAll_c maxiD_two miniD_two extV_tup xv_ext stepOp_box stepOp_alloc stepOp_store writeO_cells storeD_loc setCells_nil setCells_cons stepOp_mkmap stepOp_mapset stepOp_call1 stepOp_call2 stepOp_app2 stepOp_app1 stepOp_bslice stepOp_mkslice mapO_map lookupD_some lookupD_ok mapsetD_some keyOk_agg kindsL_nil kindsL_bool kindsL_int eqL_nil eqL_cons atomEq_bool atomEq_int frz_sl tokO_tok app0_step app0_exact app0_tok frz_loc oneRes_nil listOf_imm
 ty_0 ty_1 ty_2 ty_3 ty_4 ty_5 ty_6 ty_7 ty_8 ty_9 ty_10 ty_11 ty_12 ty_13 ty_14 ty_15 ty_16 ty_17 ty_18 ty_19 ty_20 ty_21 ty_22 ty_23 ty_24 ty_25 ty_26 ty_27
attribute [local congr] wT_congr ob_congr obP_congr iteD_congr condP_congr

def dotR : List Int → List Int → Int
  | x :: xs, y :: ys => x * y + dotR xs ys
  | _, _ => 0
def dotL : List (List Int) → List (List Int) → Int
  | a :: as, b :: bs => dotR a b + dotL as bs
  | _, _ => 0

def sumV (p : Prob) (b : List Int) (g : Int) (m : List (List Int)) (q : Int) : Nat → List Var → Option Int
  | _, [] => some 0
  | i, v :: vs => match bestK (costOf p m v q) (candL b g i 0 v.choices) with
    | none => none
    | some (_, n) => (sumV p b g m q (i + 1) vs).map (n + ·)

/-- the least costs of all variables, minus the price of the capacities -/
def sumD (p : Prob) (b : List Int) (g : Int) (m : List (List Int)) (q : Int) : Option Int := (sumV p b g m q 0 p.vars).map (-(dotL m p.capacity) + ·)

theorem mulC {a n : Int} (h1 : 0 ≤ a ∧ a ≤ 65536) (h2 : 0 ≤ n ∧ n ≤ 4096) : 0 ≤ a * n ∧ a * n ≤ 268435456 :=
  ⟨Int.mul_nonneg h1.1 h2.1, by have := Int.mul_le_mul h1.2 h2.2 h2.1 (by omega); omega⟩
theorem dotR_bd : ∀ {a b : List Int}, (∀ x, x ∈ a → 0 ≤ x ∧ x ≤ 65536) → (∀ x, x ∈ b → 0 ≤ x ∧ x ≤ 4096) → 0 ≤ dotR a b ∧ dotR a b ≤ 268435456 * a.length
  | [], _, _, _ => by simp [dotR]
  | _ :: _, [], _, _ => by simp only [dotR]; omega
  | x :: a, y :: b, h1, h2 => by
    have h3 := dotR_bd (a := a) (b := b) (fun z hz => h1 z (by simp [hz])) (fun z hz => h2 z (by simp [hz]))
    have h4 := mulC (h1 x (by simp)) (h2 y (by simp))
    simp only [dotR, List.length_cons]; omega
theorem dotL_bd : ∀ {a b : List (List Int)}, (∀ l, l ∈ a → l.length ≤ 12 ∧ ∀ x, x ∈ l → 0 ≤ x ∧ x ≤ 65536) → (∀ l, l ∈ b → ∀ x, x ∈ l → 0 ≤ x ∧ x ≤ 4096) → 0 ≤ dotL a b ∧ dotL a b ≤ 3221225472 * a.length
  | [], _, _, _ => by simp [dotL]
  | _ :: _, [], _, _ => by simp only [dotL]; omega
  | x :: a, y :: b, h1, h2 => by
    have h3 := dotL_bd (a := a) (b := b) (fun z hz => h1 z (by simp [hz])) (fun z hz => h2 z (by simp [hz]))
    have h5 := h1 x (by simp)
    have h4 := dotR_bd (a := x) (b := y) h5.2 (h2 y (by simp))
    simp only [dotL, List.length_cons]; omega

theorem foldK_mem {f : Choice → Int} : ∀ {l : List (Nat × Choice)} {s : Option ((Nat × Choice) × Int)} {x : Nat × Choice} {n : Int}, (∀ y k, s = some (y, k) → k = f y.2) → l.foldl (stepK f) s = some (x, n) → n = f x.2 ∧ (x ∈ l ∨ s = some (x, n))
  | [], s, x, n, hs, h => by
    simp only [List.foldl_nil] at h
    exact ⟨hs _ _ h, .inr h⟩
  | z :: l, s, x, n, hs, h => by
    rw [List.foldl_cons] at h
    have hs2 : ∀ y k, stepK f s z = some (y, k) → k = f y.2 := by
      intro y k hy
      cases s with
      | none => simp only [stepK, Option.some.injEq, Prod.mk.injEq] at hy; obtain ⟨rfl, rfl⟩ := hy; rfl
      | some t =>
        obtain ⟨t, tn⟩ := t
        simp only [stepK] at hy
        split at hy
        · simp only [Option.some.injEq, Prod.mk.injEq] at hy; obtain ⟨rfl, rfl⟩ := hy; rfl
        · simp only [Option.some.injEq, Prod.mk.injEq] at hy; obtain ⟨rfl, rfl⟩ := hy; exact hs _ _ rfl
    obtain ⟨h1, h2⟩ := foldK_mem (l := l) hs2 h
    refine ⟨h1, ?_⟩
    rcases h2 with h2 | h2
    · exact .inl (by simp [h2])
    · cases s with
      | none => simp only [stepK, Option.some.injEq, Prod.mk.injEq] at h2; exact .inl (by rw [h2.1]; simp)
      | some t =>
        obtain ⟨t, tn⟩ := t
        simp only [stepK] at h2
        split at h2
        · simp only [Option.some.injEq, Prod.mk.injEq] at h2; exact .inl (by rw [h2.1]; simp)
        · exact .inr h2
theorem cand_mem {b : List Int} {g : Int} {i : Nat} : ∀ {cs : List Choice} {k : Nat} {x : Nat × Choice}, x ∈ candL b g i k cs → x.2 ∈ cs ∧ k ≤ x.1 ∧ cs[x.1 - k]? = some x.2 ∧ cntB b g i x.1 x.2 = true
  | [], _, _, h => by simp [candL] at h
  | c :: cs, k, x, h => by
    simp only [candL, List.mem_append] at h
    rcases h with h | h
    · by_cases hc : cntB b g i k c = true
      · rw [if_pos hc] at h
        simp only [List.mem_singleton] at h
        subst h
        exact ⟨by simp, Nat.le_refl _, by simp, hc⟩
      · rw [if_neg hc] at h; cases h
    · obtain ⟨h1, h2, h3, h4⟩ := cand_mem h
      refine ⟨by simp [h1], by omega, ?_, h4⟩
      have e : x.1 - k = (x.1 - (k + 1)) + 1 := by omega
      rw [e, List.getElem?_cons_succ]; exact h3
theorem bestK_mem {f : Choice → Int} {b : List Int} {g : Int} {i : Nat} {cs : List Choice} {x : Nat × Choice} {n : Int} (h : bestK f (candL b g i 0 cs) = some (x, n)) : n = f x.2 ∧ x.2 ∈ cs ∧ cs[x.1]? = some x.2 ∧ cntB b g i x.1 x.2 = true := by
  obtain ⟨h1, h2⟩ := foldK_mem (fun y k h => by cases h) h
  rcases h2 with h2 | h2
  · obtain ⟨a1, a2, a3, a4⟩ := cand_mem h2
    exact ⟨h1, a1, by simpa using a3, a4⟩
  · cases h2

def resS : Option Int → D
  | none => .tup [dI 0, .bool false]
  | some n => .tup [dI n, .bool true]

set_option maxHeartbeats 16000000 in
theorem r92 (p : Prob) (b : List Int) (g : Int) (m : List (List Int)) (S : Small p) (hb : b.length ≤ 20) (ok : OkP p) (M : OkM p m) {q : Int} (hq : q = 0 ∨ q = 1) :
    runP E (dL E) 92 [dProb p, dInts b, dI g, .imm .none (m.map dInts), dI q] = some (resS (sumD p b g m q)) := by
  refine runP_T c92 (by simp) ?_
  have s1 := S.cells
  have s2 := S.cap
  have s3 := S.vars
  have m1 := M.len
  have hrows : ∀ l, l ∈ m → l.length ≤ 12 ∧ ∀ x, x ∈ l → 0 ≤ x ∧ x ≤ 65536 := fun l hl => by
    obtain ⟨a1, a2⟩ := M.rows l hl
    exact ⟨by omega, a2⟩
  have hcaps : ∀ l, l ∈ p.capacity → ∀ x, x ∈ l → 0 ≤ x ∧ x ≤ 4096 := fun l hl x hx => (ok.cap l hl).2 x hx |> fun h => by unfold wi at h; omega
  have hdot := dotL_bd hrows hcaps
  unfold sumD
  obtain ⟨T, hT⟩ : ∃ T, T = dotL m p.capacity := ⟨_, rfl⟩
  rw [← hT] at hdot ⊢
  obtain ⟨R, hR⟩ : ∃ R, R = (sumV p b g m q 0 p.vars).map (-T + ·) := ⟨_, rfl⟩
  rw [← hR]
  simp [t92, n92]
  refine wT_up m.length (fun i env hp => ∃ (x10 x11 x12 x13 x14 x15 x16 x17 x18 : D) (n : Int) (h : List Obj), env = [dProb p, dInts b, dI g, .imm .none (m.map dInts), dI q, .loc 0 0, dI 0, .bool false, dI n, dI i, x10, x11, x12, x13, x14, x15, x16, x17, x18] ∧
    hp = .cells (dProb p).cellsL :: h ∧ -T ≤ n ∧ n ≤ 0 ∧ n - dotL (m.drop i) (p.capacity.drop i) = -T) 0 (by omega) ⟨_, _, _, _, _, _, _, _, _, 0, _, rfl, rfl, by omega, by omega, by simp [hT]⟩ ?_
  rintro i env hp hi ⟨x10, x11, x12, x13, x14, x15, x16, x17, x18, n, h, rfl, rfl, hn0, hn1, hn⟩
  by_cases hlt : i < m.length
  · have hic : i < p.capacity.length := by omega
    rw [drop_cons hlt, drop_cons hic] at hn
    simp only [dotL] at hn
    have hrest := dotL_bd (a := m.drop (i + 1)) (b := p.capacity.drop (i + 1)) (fun l hl => hrows l (List.mem_of_mem_drop hl)) (fun l hl => hcaps l (List.mem_of_mem_drop hl))
    obtain ⟨W, hW⟩ : ∃ W, W = dotL (m.drop (i + 1)) (p.capacity.drop (i + 1)) := ⟨_, rfl⟩
    rw [← hW] at hn hrest
    have hrm := (M.rows _ (List.getElem_mem hlt)).1
    have hrc := (ok.cap _ (List.getElem_mem hic)).1
    simp [hlt]
    refine wT_up m[i].length (fun k env hp => ∃ (x11 x12 x13 x14 x15 x16 x17 x18 : D) (n : Int) (h : List Obj), env = [dProb p, dInts b, dI g, .imm .none (m.map dInts), dI q, .loc 0 0, dI 0, .bool false, dI n, dI i, dI k, x11, x12, x13, x14, x15, x16, x17, x18] ∧
      hp = .cells (dProb p).cellsL :: h ∧ -T ≤ n ∧ n ≤ 0 ∧ n - (dotR (m[i].drop k) (p.capacity[i].drop k) + W) = -T) 0 (by omega) ⟨_, _, _, _, _, _, _, _, n, _, rfl, rfl, hn0, hn1, by simpa using hn⟩ ?_
    rintro k env hp hk ⟨x11, x12, x13, x14, x15, x16, x17, x18, n, h, rfl, rfl, hn0, hn1, hn⟩
    by_cases hlt2 : k < m[i].length
    · have hkc : k < p.capacity[i].length := by omega
      rw [drop_cons hlt2, drop_cons hkc] at hn
      simp only [dotR] at hn
      have hr2 := dotR_bd (a := m[i].drop (k + 1)) (b := p.capacity[i].drop (k + 1)) (fun x hx => (hrows _ (List.getElem_mem hlt)).2 x (List.mem_of_mem_drop hx)) (fun x hx => hcaps _ (List.getElem_mem hic) x (List.mem_of_mem_drop hx))
      have hmc := mulC ((hrows _ (List.getElem_mem hlt)).2 _ (List.getElem_mem hlt2)) (hcaps _ (List.getElem_mem hic) _ (List.getElem_mem hkc))
      obtain ⟨X, hX⟩ : ∃ X, X = m[i][k] * p.capacity[i][k] := ⟨_, rfl⟩
      rw [← hX] at hn hmc
      have w1 := wrap_i64 (n := X) ⟨by omega, by omega⟩
      have w2 := wrap_i64 (n := n - X) ⟨by omega, by omega⟩
      simp [hlt, hlt2, hic, hkc, ← hX, w1, w2, wrap_up hlt2 (by omega)]
      exact ⟨_, _, _, _, _, _, _, _, _, ⟨rfl, rfl, rfl, rfl, rfl, rfl, rfl, rfl, rfl⟩, by omega, by omega, by omega⟩
    · have : k = m[i].length := by omega
      subst this
      have e : p.capacity[i].drop m[i].length = [] := by rw [hrm, ← hrc, List.drop_length]
      rw [List.drop_length] at hn
      simp only [dotR, Int.zero_add] at hn
      simp [hlt, wrap_up hlt (by omega)]
      exact ⟨_, _, _, _, _, _, _, _, _, _, ⟨rfl, rfl, rfl, rfl, rfl, rfl, rfl, rfl, rfl, rfl⟩, hn0, hn1, by rw [← hW]; exact hn⟩
  have hi2 : i = m.length := by omega
  subst hi2
  rw [List.drop_length] at hn
  simp only [dotL] at hn
  have hnT : n = -T := by omega
  subst hnT
  simp
  refine wT_up p.vars.length (fun i env hp => ∃ (x9 x10 x12 x13 x14 x15 x16 x17 x18 : D) (n : Int) (h : List Obj), env = [dProb p, dInts b, dI g, .imm .none (m.map dInts), dI q, .loc 0 0, dI 0, .bool false, dI n, x9, x10, dI i, x12, x13, x14, x15, x16, x17, x18] ∧
    hp = .cells (dProb p).cellsL :: h ∧ -20000000000 ≤ n ∧ n ≤ 60000000 * i ∧ (sumV p b g m q i (p.vars.drop i)).map (n + ·) = R) 0 (by omega) ⟨_, _, _, _, _, _, _, _, _, -T, _, rfl, rfl, by omega, by omega, by simpa using hR.symm⟩ ?_
  rintro i env hp hi ⟨x9, x10, x12, x13, x14, x15, x16, x17, x18, n, h, rfl, rfl, hn0, hn1, hnR⟩
  by_cases hlt : i < p.vars.length
  rotate_left
  · have : i = p.vars.length := by omega
    subst this
    rw [List.drop_length] at hnR
    simp only [sumV, Option.map_some, Int.add_zero] at hnR
    subst hnR
    simp [resS]
  rw [drop_cons hlt] at hnR
  simp only [sumV] at hnR
  have h99 := r99 p b g m S hb ok M hlt hq
  cases hbest : bestK (costOf p m p.vars[i] q) (candL b g i 0 p.vars[i].choices) with
  | none =>
    rw [hbest] at hnR h99
    simp only [Option.map_none] at hnR
    subst hnR
    simp only [dProb, dInts, atOf, leastOf] at h99
    simp [hlt, h99, resS]
  | some y =>
    obtain ⟨y, N⟩ := y
    rw [hbest] at hnR h99
    simp only [Option.map_map] at hnR
    obtain ⟨e1, e2, e3, e4⟩ := bestK_mem hbest
    have okv := ok.vars _ (List.getElem_mem hlt)
    have hcb := costOf_bd M okv (S.leaves _ (List.getElem_mem hlt)) (S.uses _ (List.getElem_mem hlt)) hq e2
    rw [← e1] at hcb
    have hy : ¬ (y.1 : Int) < 0 := by omega
    have w1 := wrap_i64 (n := n + N) ⟨by omega, by omega⟩
    simp only [dProb, dInts, atOf, leastOf] at h99
    simp [hlt, h99, hy, w1, wrap_up hlt (by omega)]
    refine ⟨_, _, _, _, _, _, _, _, _, n + N, ⟨rfl, rfl, rfl, rfl, rfl, rfl, rfl, rfl, rfl, rfl⟩, by omega, by omega, ?_⟩
    rw [← hnR]
    congr 1
    funext z
    simp only [Function.comp]
    omega

end Dv

/- Walks: Bound and Proves of the duals, by the reference. -/
namespace Dv
attribute [local simp] wT_skip wK wT_ret wT_exit wR wRp wT_seq wC wT_block rTS_nil rTS_asg rTS_eff rTS_effk ob_some obP_some iteD_b condP_b xv_v xv_c xv_ite xv_bin_tt xv_bin_tc xv_bin_ct xv_bin_cc xv_un_t xv_conv_t xv_load xv_len xv_faddr xv_field xv_iaddr_tt xv_iaddr_tc xv_index_tt xv_index_tc xv_lookup_tt xv_max_tt xv_max_tc xv_max_ct xv_min_tt xv_min_tc xv_min_ct xv_slice_lo_t xv_slice_lo_c xv_slice_hi_t xv_slice_all xv_call xv_bslice bsliceV xv_build buildV xv_mkfn zeroE fillE buildD fillD List.replicate xvs_nil xvs_cons callV_fn frz_bool frz_int frz_imm frz_agg frz_tup frz_fn frz_iptr frzL_nil frzL_one frzL_dI frzL_cell frzL_use frzL_ints frzL_choice frzL_var depth dCell dUse dInts dChoice dVar dProb tStart addO Ret flat_dI flat_rep chunk_dI
 binD_add binD_sub binD_mul binD_eql binD_neq binD_lss binD_leq binD_gtr binD_geq binD_quo binD_rem binD_beql binD_bneq binD_aeql binD_aneq unD_not unD_neg lenD_imm lenD_sl lenD_str readO_cells readO_frozen loadD_loc loadD_iptr iaddrD_imm iaddrD_sl iaddrD_loc faddrD_loc faddrD_iptr fieldD_agg indexD_agg indexD_str cellsL_bool stor_bool atom_bool cellsL_int stor_int atom_int cellsL_str stor_str atom_str cellsL_imm stor_imm atom_imm cellsL_sl stor_sl atom_sl cellsL_loc stor_loc atom_loc cellsL_iptr stor_iptr atom_iptr cellsL_map stor_map atom_map cellsL_fn stor_fn atom_fn cellsL_agg stor_agg cellsL_nilfn stor_nilfn atom_nilfn cellsL_nilp stor_nilp atom_nilp takeC_z takeC_s ofCells_ag ofCells_one ag_bool ag_int ag_str ag_slice ag_struct ag_arr ag_map ag_ptr ag_func gOf_t gOf_c gOf_f kv_cons putE_some putE_none oneRes_one oneRes_two oneRes_three getAll_nil getAll_v getAll_c maxiD_two miniD_two extV_tup xv_ext stepOp_box stepOp_alloc stepOp_store writeO_cells storeD_loc setCells_nil setCells_cons stepOp_mkmap stepOp_mapset stepOp_call1 stepOp_call2 stepOp_app2 stepOp_app1 stepOp_bslice stepOp_mkslice mapO_map lookupD_some lookupD_ok mapsetD_some keyOk_agg kindsL_nil kindsL_bool kindsL_int eqL_nil eqL_cons atomEq_bool atomEq_int frz_sl tokO_tok app0_step app0_exact app0_tok frz_loc oneRes_nil listOf_imm
 ty_0 ty_1 ty_2 ty_3 ty_4 ty_5 ty_6 ty_7 ty_8 ty_9 ty_10 ty_11 ty_12 ty_13 ty_14 ty_15 ty_16 ty_17 ty_18 ty_19 ty_20 ty_21 ty_22 ty_23 ty_24 ty_25 ty_26 ty_27
attribute [local congr] wT_congr ob_congr obP_congr iteD_congr condP_congr

open Classical in
noncomputable def resDB (p : Prob) (b : List Int) (g : Int) (m : List (List Int)) : D := if dk p b m = 0 then (match sumD p b g m 1 with
  | none => .tup [dI 0, .bool false, dI 0]
  | some n => .tup [dI n, .bool true, dI 0]) else .tup [dI 0, .bool false, dI (dk p b m)]
def provD : Option Int → Bool
  | none => true
  | some n => decide (0 < n)
open Classical in
noncomputable def resDP (p : Prob) (b : List Int) (g : Int) (m : List (List Int)) : D := if dk p b m = 0 then .tup [.bool (provD (sumD p b g m 0)), dI 0] else .tup [.bool false, dI (dk p b m)]

theorem dk_ok {p : Prob} {b : List Int} {m : List (List Int)} (h : dk p b m = 0) : OkP p ∧ OkM p m ∧ OkB p b := by
  unfold dk at h
  by_cases h0 : OkP p
  · rw [if_pos h0] at h
    by_cases h1 : OkM p m ∧ OkB p b
    · exact ⟨h0, h1⟩
    · rw [if_neg h1] at h; simp at h
  · rw [if_neg h0] at h; simp at h

set_option maxHeartbeats 4000000 in
theorem r38 (p : Prob) (b : List Int) (g : Int) (m : List (List Int)) (S : Small p) (hb : b.length ≤ 20) (SM : SmallM m) : runP E (dL E) 38 [dProb p, dInts b, dI g, .imm .none (m.map dInts)] = some (resDB p b g m) := by
  refine runP_T c38 (by simp) ?_
  have h91 := r91 p b m S hb SM
  simp only [dProb, dInts] at h91
  simp [t38, n38, h91]
  by_cases h0 : dk p b m = 0
  rotate_left
  · simp [h0, resDB]
  obtain ⟨ok, M, okb⟩ := dk_ok h0
  have h92 := r92 p b g m S hb ok M (q := 1) (.inr rfl)
  simp only [dProb, dInts] at h92
  have hr : resDB p b g m = (match sumD p b g m 1 with
    | none => .tup [dI 0, .bool false, dI 0]
    | some n => .tup [dI n, .bool true, dI 0]) := by unfold resDB; rw [if_pos h0]
  rw [hr]
  cases hs : sumD p b g m 1 with
  | none =>
    rw [hs] at h92
    simp only [resS] at h92
    simp [h0, h92]
  | some n =>
    rw [hs] at h92
    simp only [resS] at h92
    simp [h0, h92]

set_option maxHeartbeats 4000000 in
theorem r40 (p : Prob) (b : List Int) (g : Int) (m : List (List Int)) (S : Small p) (hb : b.length ≤ 20) (SM : SmallM m) : runP E (dL E) 40 [dProb p, dInts b, dI g, .imm .none (m.map dInts)] = some (resDP p b g m) := by
  refine runP_T c40 (by simp) ?_
  have h91 := r91 p b m S hb SM
  simp only [dProb, dInts] at h91
  simp [t40, n40, h91]
  by_cases h0 : dk p b m = 0
  rotate_left
  · simp [h0, resDP]
  obtain ⟨ok, M, okb⟩ := dk_ok h0
  have h92 := r92 p b g m S hb ok M (q := 0) (.inl rfl)
  simp only [dProb, dInts] at h92
  have hr : resDP p b g m = .tup [.bool (provD (sumD p b g m 0)), dI 0] := by unfold resDP; rw [if_pos h0]
  rw [hr]
  cases hs : sumD p b g m 0 with
  | none =>
    rw [hs] at h92
    simp only [resS] at h92
    simp [h0, h92, provD]
  | some n =>
    rw [hs] at h92
    simp only [resS] at h92
    simp [h0, h92, provD]

end Dv
