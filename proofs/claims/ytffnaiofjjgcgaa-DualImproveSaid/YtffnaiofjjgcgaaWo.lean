/- Texts that a proof of this claim uses, joined: Lw.W55, Lw.W56, Lw.W57. -/
import Derived.Test.YtffnaiofjjgcgaaWn
set_option linter.all false
/- The choice of a variable that costs least: what is meant, and the reference's walk. -/
namespace Dv
attribute [local simp] wT_skip wK wT_ret wT_exit wR wRp wT_seq wC wT_block rTS_nil rTS_asg rTS_eff rTS_effk ob_some obP_some iteD_b condP_b xv_v xv_c xv_ite xv_bin_tt xv_bin_tc xv_bin_ct xv_bin_cc xv_un_t xv_conv_t xv_load xv_len xv_faddr xv_field xv_iaddr_tt xv_iaddr_tc xv_index_tt xv_index_tc xv_lookup_tt xv_max_tt xv_max_tc xv_max_ct xv_min_tt xv_min_tc xv_min_ct xv_slice_lo_t xv_slice_lo_c xv_slice_hi_t xv_slice_all xv_call xv_bslice bsliceV xv_build buildV xv_mkfn zeroE fillE buildD fillD List.replicate xvs_nil xvs_cons callV_fn frz_bool frz_int frz_imm frz_agg frz_tup frz_fn frz_iptr frzL_nil frzL_one frzL_dI frzL_cell frzL_use frzL_ints frzL_choice frzL_var depth dCell dUse dInts dChoice dVar dProb tStart addO Ret flat_dI flat_rep chunk_dI
 binD_add binD_sub binD_mul binD_eql binD_neq binD_lss binD_leq binD_gtr binD_geq binD_quo binD_rem binD_beql binD_bneq binD_aeql binD_aneq unD_not unD_neg lenD_imm lenD_sl lenD_str readO_cells readO_frozen loadD_loc loadD_iptr iaddrD_imm iaddrD_sl iaddrD_loc faddrD_loc faddrD_iptr fieldD_agg indexD_agg indexD_str cellsL_bool stor_bool atom_bool cellsL_int stor_int atom_int cellsL_str stor_str atom_str cellsL_imm stor_imm atom_imm cellsL_sl stor_sl atom_sl cellsL_loc stor_loc atom_loc cellsL_iptr stor_iptr atom_iptr cellsL_map stor_map atom_map cellsL_fn stor_fn atom_fn cellsL_agg stor_agg cellsL_nilfn stor_nilfn atom_nilfn cellsL_nilp stor_nilp atom_nilp takeC_z takeC_s ofCells_ag ofCells_one ag_bool ag_int ag_str ag_slice ag_struct ag_arr ag_map ag_ptr ag_func gOf_t gOf_c gOf_f kv_cons putE_some putE_none oneRes_one oneRes_two oneRes_three getAll_nil getAll_v getAll_c maxiD_two miniD_two extV_tup xv_ext stepOp_box stepOp_alloc stepOp_store writeO_cells storeD_loc setCells_nil setCells_cons stepOp_mkmap stepOp_mapset stepOp_call1 stepOp_call2 stepOp_app2 stepOp_app1 stepOp_bslice stepOp_mkslice mapO_map lookupD_some lookupD_ok mapsetD_some keyOk_agg kindsL_nil kindsL_bool kindsL_int eqL_nil eqL_cons atomEq_bool atomEq_int frz_sl tokO_tok app0_step app0_exact app0_tok frz_loc oneRes_nil listOf_imm
 ty_0 ty_1 ty_2 ty_3 ty_4 ty_5 ty_6 ty_7 ty_8 ty_9 ty_10 ty_11 ty_12 ty_13 ty_14 ty_15 ty_16 ty_17 ty_18 ty_19 ty_20 ty_21 ty_22 ty_23 ty_24 ty_25 ty_26 ty_27
attribute [local congr] wT_congr ob_congr obP_congr iteD_congr condP_congr

/-- does a choice count? -/
def cntB (b : List Int) (g : Int) (i k : Nat) (c : Choice) : Bool := decide (c.delay ≤ g) && (decide (b.length ≤ i) || decide (b.getD i 0 = (k : Int)))

/-- the choices that count, with their numbers -/
def candL (b : List Int) (g : Int) (i : Nat) : Nat → List Choice → List (Nat × Choice)
  | _, [] => []
  | k, c :: cs => (if cntB b g i k c then [(k, c)] else []) ++ candL b g i (k + 1) cs

def stepK (f : Choice → Int) (s : Option ((Nat × Choice) × Int)) (x : Nat × Choice) : Option ((Nat × Choice) × Int) := match s with
  | none => some (x, f x.2)
  | some (y, n) => if f x.2 < n then some (x, f x.2) else some (y, n)

/-- the first one that costs least -/
def bestK (f : Choice → Int) (l : List (Nat × Choice)) : Option ((Nat × Choice) × Int) := l.foldl (stepK f) none

def costOf (p : Prob) (m : List (List Int)) (v : Var) (q : Int) (c : Choice) : Int := q * c.cost * v.leaves.length + prC p m v.leaves c.uses

theorem costOf_bd {p : Prob} {m : List (List Int)} {v : Var} (M : OkM p m) (hv : OkVar p v) (hl8 : v.leaves.length ≤ 8) (hu : ∀ c, c ∈ v.choices → c.uses.length ≤ 12) {q : Int} (hq : q = 0 ∨ q = 1) {c : Choice} (hc : c ∈ v.choices) :
    0 ≤ costOf p m v q c ∧ costOf p m v q c ≤ 60000000 ∧ 0 ≤ q * c.cost * v.leaves.length ∧ q * c.cost * v.leaves.length ≤ 8388608 := by
  have okc := hv.choices c hc
  have h1 := prC_bd M hl8 (us := c.uses) fun u hu => (okc.uses u hu).places |> fun h => by unfold wi at h; omega
  have h2 := hu c hc
  have h3 := okc.cost
  unfold wi at h3
  have h4 := mul_bd h3.1 h3.2 (n := (v.leaves.length : Int)) (by omega) (by omega)
  unfold costOf
  rcases hq with rfl | rfl
  · simp only [Int.zero_mul]; omega
  · simp only [Int.one_mul]; omega

def atOf (s : Option ((Nat × Choice) × Int)) : Int := match s with
  | none => -1
  | some (y, _) => y.1
def leastOf (s : Option ((Nat × Choice) × Int)) : Int := match s with
  | none => 0
  | some (_, n) => n

set_option maxHeartbeats 4000000 in
theorem r119 (p : Prob) (b : List Int) (g : Int) (S : Small p) (hb : b.length ≤ 20) {i k : Nat} (hi : i < p.vars.length) (hk : k < p.vars[i].choices.length) :
    runP E (dL E) 119 [dProb p, dInts b, dI g, dI i, dI k] = some (.bool (cntB b g i k p.vars[i].choices[k])) := by
  refine runP_T c119 (by simp) ?_
  have s3 := S.vars
  unfold cntB
  by_cases h1 : i < b.length
  · have h2 : ¬ b.length ≤ i := by omega
    have e : b.getD i 0 = b[i] := by rw [List.getD_eq_getElem?_getD, List.getElem?_eq_getElem h1, Option.getD_some]
    rw [e]
    by_cases h3 : b[i] = (k : Int)
    · simp [t119, n119, h1, h2, h3, hi, hk]
    · simp [t119, n119, h1, h2, h3]
  · have h2 : b.length ≤ i := by omega
    simp [t119, n119, h1, h2, hi, hk]

set_option maxHeartbeats 16000000 in
theorem r99 (p : Prob) (b : List Int) (g : Int) (m : List (List Int)) (S : Small p) (hb : b.length ≤ 20) (ok : OkP p) (M : OkM p m) {i : Nat} (hi : i < p.vars.length) {q : Int} (hq : q = 0 ∨ q = 1) :
    runP E (dL E) 99 [dProb p, dInts b, dI g, .imm .none (m.map dInts), dI i, dI q] =
      some (.tup [dI (atOf (bestK (costOf p m p.vars[i] q) (candL b g i 0 p.vars[i].choices))), dI (leastOf (bestK (costOf p m p.vars[i] q) (candL b g i 0 p.vars[i].choices)))]) := by
  refine runP_T c99 (by simp) ?_
  have okv := ok.vars _ (List.getElem_mem hi)
  have l1 := S.leaves _ (List.getElem_mem hi)
  have l2 := S.choices _ (List.getElem_mem hi)
  have l3 := S.uses _ (List.getElem_mem hi)
  have hcb := fun c hc => costOf_bd M okv l1 l3 hq (c := c) hc
  have h119 := fun k (hk : k < p.vars[i].choices.length) => r119 p b g S hb hi hk
  have h120 := fun k (hk : k < p.vars[i].choices.length) => r120 p m p.vars[i] p.vars[i].choices[k] S M okv l1 (okv.choices _ (List.getElem_mem hk)) (l3 _ (List.getElem_mem hk))
  obtain ⟨B, hB⟩ : ∃ B, B = bestK (costOf p m p.vars[i] q) (candL b g i 0 p.vars[i].choices) := ⟨_, rfl⟩
  rw [← hB]
  unfold bestK at hB
  obtain ⟨v, hv⟩ : ∃ v, v = p.vars[i] := ⟨_, rfl⟩
  simp only [← hv] at hB okv l1 l2 l3 hcb h119 h120
  simp only [dProb, dInts, dVar, dChoice] at h119 h120
  simp [t99, n99, hi]
  simp only [← hv]
  refine wT_up v.choices.length (fun k env hp => ∃ (x13 x14 x15 x16 x17 : D) (s : Option ((Nat × Choice) × Int)) (h : List Obj), env = [dProb p, dInts b, dI g, .imm .none (m.map dInts), dI i, dI q, .loc 0 0, dI 0, dI 0, .loc 1 0, dI (atOf s), dI (leastOf s), dI k, x13, x14, x15, x16, x17] ∧
    hp = .cells (dProb p).cellsL :: .cells (dVar v).cellsL :: h ∧ (candL b g i k (v.choices.drop k)).foldl (stepK (costOf p m v q)) s = B ∧ (s = none → True)) 0 (by omega) ⟨_, _, _, _, _, none, _, rfl, rfl, by simpa using hB.symm, fun _ => trivial⟩ ?_
  rintro k env hp hk ⟨x13, x14, x15, x16, x17, s, h, rfl, rfl, hs, -⟩
  by_cases hlt : k < v.choices.length
  rotate_left
  · have : k = v.choices.length := by omega
    subst this
    rw [List.drop_length] at hs
    simp only [candL, List.foldl_nil] at hs
    subst hs
    simp
  rw [drop_cons hlt] at hs
  simp only [candL] at hs
  have g1 := h119 k hlt
  have g2 := h120 k hlt
  obtain ⟨c1, c2, c3, c4⟩ := hcb _ (List.getElem_mem hlt)
  by_cases hc : cntB b g i k v.choices[k] = true
  rotate_left
  · have hc' : cntB b g i k v.choices[k] = false := by simpa using hc
    rw [if_neg hc] at hs
    simp only [List.nil_append] at hs
    rw [hc'] at g1
    simp [hlt, g1, wrap_up hlt (by omega)]
    exact ⟨_, _, _, _, _, s, ⟨rfl, rfl, rfl, rfl, rfl, rfl, rfl⟩, hs⟩
  rw [if_pos hc] at hs
  rw [hc] at g1
  simp only [List.cons_append, List.nil_append, List.foldl_cons] at hs
  obtain ⟨P, hP⟩ : ∃ P, P = prC p m v.leaves v.choices[k].uses := ⟨_, rfl⟩
  have hco : costOf p m v q v.choices[k] = q * v.choices[k].cost * v.leaves.length + P := by unfold costOf; rw [hP]
  rw [← hP] at g2
  rw [hco] at c1 c2
  have okc := okv.choices _ (List.getElem_mem hlt)
  have hcost := okc.cost
  unfold wi at hcost
  have hqc : 0 ≤ q * v.choices[k].cost ∧ q * v.choices[k].cost ≤ 1048576 := by
    rcases hq with rfl | rfl
    · simp only [Int.zero_mul]; omega
    · simp only [Int.one_mul]; omega
  have w1 := wrap_i64 (n := q * v.choices[k].cost) ⟨by omega, by omega⟩
  have w2 := wrap_i64 (n := q * v.choices[k].cost * v.leaves.length) ⟨by omega, by omega⟩
  have w3 := wrap_i64 (n := q * v.choices[k].cost * v.leaves.length + P) ⟨by omega, by omega⟩
  obtain ⟨N, hN⟩ : ∃ N, N = q * v.choices[k].cost * v.leaves.length + P := ⟨_, rfl⟩
  rw [← hN] at w3 hco c1 c2
  cases s with
  | none =>
    simp only [stepK, hco] at hs
    simp [hlt, g1, g2, w1, w2, ← hN, w3, atOf, wrap_up hlt (by omega)]
    exact ⟨_, _, _, _, _, some ((k, v.choices[k]), N), ⟨rfl, rfl, rfl, rfl, rfl, rfl, rfl⟩, hs⟩
  | some y =>
    obtain ⟨y, n'⟩ := y
    simp only [stepK, hco] at hs
    have hy : ¬ (y.1 : Int) < 0 := by omega
    by_cases hlt3 : N < n'
    · rw [if_pos hlt3] at hs
      simp [hlt, g1, g2, w1, w2, ← hN, w3, atOf, leastOf, hy, hlt3, wrap_up hlt (by omega)]
      exact ⟨_, _, _, _, _, some ((k, v.choices[k]), N), ⟨rfl, rfl, rfl, rfl, rfl, rfl, rfl⟩, hs⟩
    · rw [if_neg hlt3] at hs
      simp [hlt, g1, g2, w1, w2, ← hN, w3, atOf, leastOf, hy, hlt3, wrap_up hlt (by omega)]
      exact ⟨_, _, _, _, _, some (y, n'), ⟨rfl, rfl, rfl, rfl, rfl, rfl, rfl⟩, hs⟩

end Dv

/- The sums of the duals: what is meant, and the reference's walks. -/
namespace Dv
attribute [local simp] wT_skip wK wT_ret wT_exit wR wRp wT_seq wC wT_block rTS_nil rTS_asg rTS_eff rTS_effk ob_some obP_some iteD_b condP_b xv_v xv_c xv_ite xv_bin_tt xv_bin_tc xv_bin_ct xv_bin_cc xv_un_t xv_conv_t xv_load xv_len xv_faddr xv_field xv_iaddr_tt xv_iaddr_tc xv_index_tt xv_index_tc xv_lookup_tt xv_max_tt xv_max_tc xv_max_ct xv_min_tt xv_min_tc xv_min_ct xv_slice_lo_t xv_slice_lo_c xv_slice_hi_t xv_slice_all xv_call xv_bslice bsliceV xv_build buildV xv_mkfn zeroE fillE buildD fillD List.replicate xvs_nil xvs_cons callV_fn frz_bool frz_int frz_imm frz_agg frz_tup frz_fn frz_iptr frzL_nil frzL_one frzL_dI frzL_cell frzL_use frzL_ints frzL_choice frzL_var depth dCell dUse dInts dChoice dVar dProb tStart addO Ret flat_dI flat_rep chunk_dI
 binD_add binD_sub binD_mul binD_eql binD_neq binD_lss binD_leq binD_gtr binD_geq binD_quo binD_rem binD_beql binD_bneq binD_aeql binD_aneq unD_not unD_neg lenD_imm lenD_sl lenD_str readO_cells readO_frozen loadD_loc loadD_iptr iaddrD_imm iaddrD_sl iaddrD_loc faddrD_loc faddrD_iptr fieldD_agg indexD_agg indexD_str cellsL_bool stor_bool atom_bool cellsL_int stor_int atom_int cellsL_str stor_str atom_str cellsL_imm stor_imm atom_imm cellsL_sl stor_sl atom_sl cellsL_loc stor_loc atom_loc cellsL_iptr stor_iptr atom_iptr cellsL_map stor_map atom_map cellsL_fn stor_fn atom_fn cellsL_agg stor_agg cellsL_nilfn stor_nilfn atom_nilfn cellsL_nilp stor_nilp atom_nilp takeC_z takeC_s ofCells_ag ofCells_one ag_bool ag_int ag_str ag_slice ag_struct ag_arr ag_map ag_ptr ag_func gOf_t gOf_c gOf_f kv_cons putE_some putE_none oneRes_one oneRes_two oneRes_three getAll_nil getAll_v getAll_c maxiD_two miniD_two extV_tup xv_ext stepOp_box stepOp_alloc stepOp_store writeO_cells storeD_loc setCells_nil setCells_cons stepOp_mkmap stepOp_mapset stepOp_call1 stepOp_call2 stepOp_app2 stepOp_app1 stepOp_bslice stepOp_mkslice mapO_map lookupD_some lookupD_ok mapsetD_some keyOk_agg kindsL_nil kindsL_bool kindsL_int eqL_nil eqL_cons atomEq_bool atomEq_int frz_sl tokO_tok app0_step app0_exact app0_tok frz_loc oneRes_nil listOf_imm
 ty_0 ty_1 ty_2 ty_3 ty_4 ty_5 ty_6 ty_7 ty_8 ty_9 ty_10 ty_11 ty_12 ty_13 ty_14 ty_15 ty_16 ty_17 ty_18 ty_19 ty_20 ty_21 ty_22 ty_23 ty_24 ty_25 ty_26 ty_27
attribute [local congr] wT_congr ob_congr obP_congr iteD_congr condP_congr

def dotR : List Int → List Int → Int
  | x :: xs, y :: ys => x * y + dotR xs ys
  | _, _ => 0
def dotL : List (List Int) → List (List Int) → Int
  | a :: as, b :: bs => dotR a b + dotL as bs
  | _, _ => 0

def sumV (p : Prob) (b : List Int) (g : Int) (m : List (List Int)) (q : Int) : Nat → List Var → Option Int
  | _, [] => some 0
  | i, v :: vs => match bestK (costOf p m v q) (candL b g i 0 v.choices) with
    | none => none
    | some (_, n) => (sumV p b g m q (i + 1) vs).map (n + ·)

/-- the least costs of all variables, minus the price of the capacities -/
def sumD (p : Prob) (b : List Int) (g : Int) (m : List (List Int)) (q : Int) : Option Int := (sumV p b g m q 0 p.vars).map (-(dotL m p.capacity) + ·)

theorem foldK_mem {f : Choice → Int} : ∀ {l : List (Nat × Choice)} {s : Option ((Nat × Choice) × Int)} {x : Nat × Choice} {n : Int}, (∀ y k, s = some (y, k) → k = f y.2) → l.foldl (stepK f) s = some (x, n) → n = f x.2 ∧ (x ∈ l ∨ s = some (x, n))
  | [], s, x, n, hs, h => by
    simp only [List.foldl_nil] at h
    exact ⟨hs _ _ h, .inr h⟩
  | z :: l, s, x, n, hs, h => by
    rw [List.foldl_cons] at h
    have hs2 : ∀ y k, stepK f s z = some (y, k) → k = f y.2 := by
      intro y k hy
      cases s with
      | none => simp only [stepK, Option.some.injEq, Prod.mk.injEq] at hy; obtain ⟨rfl, rfl⟩ := hy; rfl
      | some t =>
        obtain ⟨t, tn⟩ := t
        simp only [stepK] at hy
        split at hy
        · simp only [Option.some.injEq, Prod.mk.injEq] at hy; obtain ⟨rfl, rfl⟩ := hy; rfl
        · simp only [Option.some.injEq, Prod.mk.injEq] at hy; obtain ⟨rfl, rfl⟩ := hy; exact hs _ _ rfl
    obtain ⟨h1, h2⟩ := foldK_mem (l := l) hs2 h
    refine ⟨h1, ?_⟩
    rcases h2 with h2 | h2
    · exact .inl (by simp [h2])
    · cases s with
      | none => simp only [stepK, Option.some.injEq, Prod.mk.injEq] at h2; exact .inl (by rw [h2.1]; simp)
      | some t =>
        obtain ⟨t, tn⟩ := t
        simp only [stepK] at h2
        split at h2
        · simp only [Option.some.injEq, Prod.mk.injEq] at h2; exact .inl (by rw [h2.1]; simp)
        · exact .inr h2
theorem cand_mem {b : List Int} {g : Int} {i : Nat} : ∀ {cs : List Choice} {k : Nat} {x : Nat × Choice}, x ∈ candL b g i k cs → x.2 ∈ cs ∧ k ≤ x.1 ∧ cs[x.1 - k]? = some x.2 ∧ cntB b g i x.1 x.2 = true
  | [], _, _, h => by simp [candL] at h
  | c :: cs, k, x, h => by
    simp only [candL, List.mem_append] at h
    rcases h with h | h
    · by_cases hc : cntB b g i k c = true
      · rw [if_pos hc] at h
        simp only [List.mem_singleton] at h
        subst h
        exact ⟨by simp, Nat.le_refl _, by simp, hc⟩
      · rw [if_neg hc] at h; cases h
    · obtain ⟨h1, h2, h3, h4⟩ := cand_mem h
      refine ⟨by simp [h1], by omega, ?_, h4⟩
      have e : x.1 - k = (x.1 - (k + 1)) + 1 := by omega
      rw [e, List.getElem?_cons_succ]; exact h3
theorem bestK_mem {f : Choice → Int} {b : List Int} {g : Int} {i : Nat} {cs : List Choice} {x : Nat × Choice} {n : Int} (h : bestK f (candL b g i 0 cs) = some (x, n)) : n = f x.2 ∧ x.2 ∈ cs ∧ cs[x.1]? = some x.2 ∧ cntB b g i x.1 x.2 = true := by
  obtain ⟨h1, h2⟩ := foldK_mem (fun y k h => by cases h) h
  rcases h2 with h2 | h2
  · obtain ⟨a1, a2, a3, a4⟩ := cand_mem h2
    exact ⟨h1, a1, by simpa using a3, a4⟩
  · cases h2

end Dv

/- Walks: Bound and Proves of the duals, by the reference. -/
namespace Dv
attribute [local simp] wT_skip wK wT_ret wT_exit wR wRp wT_seq wC wT_block rTS_nil rTS_asg rTS_eff rTS_effk ob_some obP_some iteD_b condP_b xv_v xv_c xv_ite xv_bin_tt xv_bin_tc xv_bin_ct xv_bin_cc xv_un_t xv_conv_t xv_load xv_len xv_faddr xv_field xv_iaddr_tt xv_iaddr_tc xv_index_tt xv_index_tc xv_lookup_tt xv_max_tt xv_max_tc xv_max_ct xv_min_tt xv_min_tc xv_min_ct xv_slice_lo_t xv_slice_lo_c xv_slice_hi_t xv_slice_all xv_call xv_bslice bsliceV xv_build buildV xv_mkfn zeroE fillE buildD fillD List.replicate xvs_nil xvs_cons callV_fn frz_bool frz_int frz_imm frz_agg frz_tup frz_fn frz_iptr frzL_nil frzL_one frzL_dI frzL_cell frzL_use frzL_ints frzL_choice frzL_var depth dCell dUse dInts dChoice dVar dProb tStart addO Ret flat_dI flat_rep chunk_dI
 binD_add binD_sub binD_mul binD_eql binD_neq binD_lss binD_leq binD_gtr binD_geq binD_quo binD_rem binD_beql binD_bneq binD_aeql binD_aneq unD_not unD_neg lenD_imm lenD_sl lenD_str readO_cells readO_frozen loadD_loc loadD_iptr iaddrD_imm iaddrD_sl iaddrD_loc faddrD_loc faddrD_iptr fieldD_agg indexD_agg indexD_str cellsL_bool stor_bool atom_bool cellsL_int stor_int atom_int cellsL_str stor_str atom_str cellsL_imm stor_imm atom_imm cellsL_sl stor_sl atom_sl cellsL_loc stor_loc atom_loc cellsL_iptr stor_iptr atom_iptr cellsL_map stor_map atom_map cellsL_fn stor_fn atom_fn cellsL_agg stor_agg cellsL_nilfn stor_nilfn atom_nilfn cellsL_nilp stor_nilp atom_nilp takeC_z takeC_s ofCells_ag ofCells_one ag_bool ag_int ag_str ag_slice ag_struct ag_arr ag_map ag_ptr ag_func gOf_t gOf_c gOf_f kv_cons putE_some putE_none oneRes_one oneRes_two oneRes_three getAll_nil getAll_v getAll_c maxiD_two miniD_two extV_tup xv_ext stepOp_box stepOp_alloc stepOp_store writeO_cells storeD_loc setCells_nil setCells_cons stepOp_mkmap stepOp_mapset stepOp_call1 stepOp_call2 stepOp_app2 stepOp_app1 stepOp_bslice stepOp_mkslice mapO_map lookupD_some lookupD_ok mapsetD_some keyOk_agg kindsL_nil kindsL_bool kindsL_int eqL_nil eqL_cons atomEq_bool atomEq_int frz_sl tokO_tok app0_step app0_exact app0_tok frz_loc oneRes_nil listOf_imm
 ty_0 ty_1 ty_2 ty_3 ty_4 ty_5 ty_6 ty_7 ty_8 ty_9 ty_10 ty_11 ty_12 ty_13 ty_14 ty_15 ty_16 ty_17 ty_18 ty_19 ty_20 ty_21 ty_22 ty_23 ty_24 ty_25 ty_26 ty_27
attribute [local congr] wT_congr ob_congr obP_congr iteD_congr condP_congr

theorem dk_ok {p : Prob} {b : List Int} {m : List (List Int)} (h : dk p b m = 0) : OkP p ∧ OkM p m ∧ OkB p b := by
  unfold dk at h
  by_cases h0 : OkP p
  · rw [if_pos h0] at h
    by_cases h1 : OkM p m ∧ OkB p b
    · exact ⟨h0, h1⟩
    · rw [if_neg h1] at h; simp at h
  · rw [if_neg h0] at h; simp at h

end Dv
