/- Texts that a proof of this claim uses, joined: Lw.W68. -/
import Derived.Test.YtffnaiofjjgcgaaWq
import Derived.Test.YtffnaiofjjgcgaaSd
import Derived.Test.YtffnaiofjjgcgaaWc
import Derived.Test.YtffnaiofjjgcgaaWf
set_option linter.all false
/- The law DualFree. -/
namespace Dv
attribute [local simp] wT_skip wK wT_ret wT_exit wR wRp wT_seq wC wT_block rTS_nil rTS_asg rTS_eff rTS_effk ob_some obP_some iteD_b condP_b xv_v xv_c xv_ite xv_bin_tt xv_bin_tc xv_bin_ct xv_bin_cc xv_un_t xv_conv_t xv_load xv_len xv_faddr xv_field xv_iaddr_tt xv_iaddr_tc xv_index_tt xv_index_tc xv_lookup_tt xv_max_tt xv_max_tc xv_max_ct xv_min_tt xv_min_tc xv_min_ct xv_slice_lo_t xv_slice_lo_c xv_slice_hi_t xv_slice_all xv_call xv_bslice bsliceV xv_build buildV xv_mkfn zeroE fillE buildD fillD List.replicate xvs_nil xvs_cons callV_fn frz_bool frz_int frz_imm frz_agg frz_tup frz_fn frz_iptr frzL_nil frzL_one frzL_dI frzL_cell frzL_use frzL_ints frzL_choice frzL_var depth dCell dUse dInts dChoice dVar dProb tStart addO Ret flat_dI flat_rep chunk_dI
 binD_add binD_sub binD_mul binD_eql binD_neq binD_lss binD_leq binD_gtr binD_geq binD_quo binD_rem binD_beql binD_bneq binD_aeql binD_aneq unD_not unD_neg lenD_imm lenD_sl lenD_str readO_cells readO_frozen loadD_loc loadD_iptr iaddrD_imm iaddrD_sl iaddrD_loc faddrD_loc faddrD_iptr fieldD_agg indexD_agg indexD_str cellsL_bool stor_bool atom_bool cellsL_int stor_int atom_int cellsL_str stor_str atom_str cellsL_imm stor_imm atom_imm cellsL_sl stor_sl atom_sl cellsL_loc stor_loc atom_loc cellsL_iptr stor_iptr atom_iptr cellsL_map stor_map atom_map cellsL_fn stor_fn atom_fn cellsL_agg stor_agg cellsL_nilfn stor_nilfn atom_nilfn cellsL_nilp stor_nilp atom_nilp takeC_z takeC_s ofCells_ag ofCells_one ag_bool ag_int ag_str ag_slice ag_struct ag_arr ag_map ag_ptr ag_func gOf_t gOf_c gOf_f kv_cons putE_some putE_none oneRes_one oneRes_two oneRes_three getAll_nil getAll_v getAll_c maxiD_two miniD_two extV_tup xv_ext stepOp_box stepOp_alloc stepOp_store writeO_cells storeD_loc setCells_nil setCells_cons stepOp_mkmap stepOp_mapset stepOp_call1 stepOp_call2 stepOp_app2 stepOp_app1 stepOp_bslice stepOp_mkslice mapO_map lookupD_some lookupD_ok mapsetD_some keyOk_agg kindsL_nil kindsL_bool kindsL_int eqL_nil eqL_cons atomEq_bool atomEq_int frz_sl tokO_tok app0_step app0_exact app0_tok frz_loc oneRes_nil listOf_imm
 ty_0 ty_1 ty_2 ty_3 ty_4 ty_5 ty_6 ty_7 ty_8 ty_9 ty_10 ty_11 ty_12 ty_13 ty_14 ty_15 ty_16 ty_17 ty_18 ty_19 ty_20 ty_21 ty_22 ty_23 ty_24 ty_25 ty_26 ty_27
attribute [local congr] wT_congr ob_congr obP_congr iteD_congr condP_congr

/-- no prices -/
def zeroM (p : Prob) : List (List Int) := List.replicate p.capacity.length (List.replicate p.cells.length 0)

theorem zeroM_small {p : Prob} (S : Small p) : SmallM (zeroM p) :=
  ⟨by have := S.cap; simp [zeroM]; omega, fun l hl => by
    have := S.cells
    unfold zeroM at hl
    rw [(List.mem_replicate.1 hl).2]
    simp; omega⟩

theorem getD_rep {n k : Nat} : (List.replicate n (0 : Int)).getD k 0 = 0 := by
  rw [List.getD_eq_getElem?_getD, List.getElem?_replicate]
  split <;> rfl
theorem mu_zero {p : Prob} {leaf : Int} {k : Nat} : mu (zeroM p) leaf k = 0 := by
  unfold mu zeroM
  rw [List.getD_eq_getElem?_getD (l := List.replicate _ _), List.getElem?_replicate]
  split
  · simp only [Option.getD_some]; exact getD_rep
  · simp
theorem prL_zero {p : Prob} {k : Nat} {pl : Int} : ∀ {l : List Int}, prL (zeroM p) k pl l = 0
  | [] => rfl
  | a :: l => by simp only [prL, mu_zero, prL_zero]; omega
theorem prC_zero {p : Prob} {l : List Int} : ∀ {us : List Use}, prC p (zeroM p) l us = 0
  | [] => rfl
  | u :: us => by simp only [prC, prL_zero, prC_zero]; omega
theorem cost_zero {p : Prob} {v : Var} {q : Int} : costOf p (zeroM p) v q = fun c => q * c.cost * v.leaves.length := by
  funext c
  unfold costOf
  rw [prC_zero]; omega
theorem dotR_zero : ∀ {n : Nat} {b : List Int}, dotR (List.replicate n 0) b = 0
  | 0, _ => by simp [dotR]
  | n + 1, [] => by simp [List.replicate_succ, dotR]
  | n + 1, y :: b => by simp only [List.replicate_succ, dotR, dotR_zero]; omega
theorem dotL_zero {k : Nat} : ∀ {n : Nat} {b : List (List Int)}, dotL (List.replicate n (List.replicate k 0)) b = 0
  | 0, _ => by simp [dotL]
  | n + 1, [] => by simp [List.replicate_succ, dotL]
  | n + 1, y :: b => by simp only [List.replicate_succ, dotL, dotR_zero, dotL_zero]; omega

/-- what a choice costs a variable -/
def costV (v : Var) (c : Choice) : Int := c.cost * v.leaves.length
/-- the sum of the least costs, and whether each variable has a choice -/
def totF (b : List Int) (g : Int) : Nat → List Var → Int × Bool
  | _, [] => (0, true)
  | i, v :: vs => (leastOf (bestK (costV v) (candL b g i 0 v.choices)) + (totF b g (i + 1) vs).1, (bestK (costV v) (candL b g i 0 v.choices)).isSome && (totF b g (i + 1) vs).2)

theorem sumV_free {p : Prob} {b : List Int} {g : Int} : ∀ {vs : List Var} {i : Nat}, sumV p b g (zeroM p) 1 i vs = bif (totF b g i vs).2 then some (totF b g i vs).1 else none
  | [], _ => by simp [sumV, totF]
  | v :: vs, i => by
    have e : costOf p (zeroM p) v 1 = costV v := by rw [cost_zero]; funext c; unfold costV; rw [Int.one_mul]
    simp only [sumV, totF, e]
    rw [sumV_free (vs := vs)]
    obtain ⟨r, hr⟩ : ∃ r, r = bestK (costV v) (candL b g i 0 v.choices) := ⟨_, rfl⟩
    rw [← hr]
    cases r with
    | none => simp
    | some y =>
      obtain ⟨y, n⟩ := y
      simp only [leastOf, Option.isSome_some, Bool.true_and]
      cases (totF b g (i + 1) vs).2 <;> simp
theorem sumV_none0 {p : Prob} {b : List Int} {g : Int} : ∀ {vs : List Var} {i : Nat}, sumV p b g (zeroM p) 0 i vs = none ∨ sumV p b g (zeroM p) 0 i vs = some 0
  | [], _ => .inr rfl
  | v :: vs, i => by
    simp only [sumV]
    cases h : bestK (costOf p (zeroM p) v 0) (candL b g i 0 v.choices) with
    | none => exact .inl rfl
    | some y =>
      obtain ⟨y, n⟩ := y
      have h1 := (bestK_mem h).1
      rw [cost_zero] at h1
      have h2 : n = 0 := by rw [h1]; simp
      rcases sumV_none0 (p := p) (b := b) (g := g) (vs := vs) (i := i + 1) with h3 | h3
      · exact .inl (by rw [h3]; rfl)
      · exact .inr (by rw [h3, h2]; rfl)

theorem xv_mkslice {E : Env} {cP : Nat → List D → Option D} {env : List D} {hp : List Obj} {t a c : Nat} {ks : Xs} : xv E cP env hp (.n (.mkslice false t (.t a) (.t c)) ks) = ob (xvs E cP env hp ks) fun vs => mksliceV E t (kv a vs) (kv c vs) := by
  rw [xv_op]
  congr 1
  funext vs
  have e1 : gOf vs (.t a) = kv a vs := rfl
  have e2 : gOf vs (.t c) = kv c vs := rfl
  rw [← e1, ← e2]
  unfold opV mksliceV
  simp only [pureOp]
  generalize gOf vs (.t a) = x
  generalize gOf vs (.t c) = y
  cases (E.ty t).k <;> try rfl
  cases x <;> try rfl
  cases y <;> try rfl
  rename_i e k1 n1 k2 n2
  simp only []
  cases zeroE E e with
  | none => rfl
  | some z =>
    by_cases h : 0 ≤ n1 ∧ n1 = n2 ∧ n2 * (((E.ty e).bytes : Int) + 1) ≤ maxBytes
    · obtain ⟨h1, rfl, h3⟩ := h
      simp [h1, h3]
    · simp [h]

theorem frz_zero {hp : List Obj} {n i k : Nat} : frzL (frz hp (n + 2)) (List.replicate i (.imm .exact (List.replicate k (dI 0)))) = some ((List.replicate i (List.replicate k 0)).map dInts) := by
  induction i with
  | zero => rfl
  | succ i ih =>
    rw [List.replicate_succ, frzL_one, frz_imm, ih]
    have : List.replicate k (dI 0) = (List.replicate k 0).map dI := by simp
    rw [this, frzL_dI]
    rfl

set_option maxHeartbeats 16000000 in
theorem law48 (h1 : runP E (dL E) 35 [] = some (.bool true)) (p : Prob) (b : List Int) (g : Int) : runP E (dL E) 48 [dProb p, dInts b, dI g] = some (.bool true) := by
  refine runP_T c48 (by simp) ?_
  have h2 := r2 p
  simp only [dProb] at h2
  simp [t48, n48, h1, h2]
  cases hf : fewB p with
  | false => simp
  | true =>
  have S := few_small hf
  simp
  by_cases hb : (20 : Int) < b.length
  · have hb2 : ¬ (b.length : Int) ≤ 20 := by omega
    simp [hb, hb2]
  have hb' : b.length ≤ 20 := by omega
  have hb2 : (b.length : Int) ≤ 20 := by omega
  have h15 := r15 p S
  simp only [dProb] at h15
  simp [hb, hb2, h15]
  by_cases hc : ck p = 0
  rotate_left
  · simp [hc]
  have ok : OkP p := by
    unfold ck at hc
    by_cases h : OkP p
    · exact h
    · simp [h] at hc
  have s1 := S.cells
  have s2 := S.cap
  have s3 := S.vars
  simp [hc]
  refine wT_up p.capacity.length (fun i env hp => ∃ (x6 x7 x8 x9 x10 x11 x12 x13 x14 x15 x16 x17 x18 x19 x20 x23 x24 x25 x26 x27 x28 x29 x30 x31 x32 x33 x34 x35 x36 x37 x38 x39 : D) (sp : Spare) (h : List Obj), env = [dProb p, dInts b, dI g, .loc 0 0, .bool false, .imm sp (List.replicate i (.imm .exact (List.replicate p.cells.length (dI 0)))), x6, x7, x8, x9, x10, x11, x12, x13, x14, x15, x16, x17, x18, x19, x20, dI p.capacity.length, dI i, x23, x24, x25, x26, x27, x28, x29, x30, x31, x32, x33, x34, x35, x36, x37, x38, x39] ∧
    hp = .cells (dProb p).cellsL :: h ∧ (i = 0 ∧ sp = .exact ∨ ∃ k, sp = .tok (k + 1) ∧ h[k]? = some (.tok i 1))) 0 (by omega) ⟨_, _, _, _, _, _, _, _, _, _, _, _, _, _, _, _, _, _, _, _, _, _, _, _, _, _, _, _, _, _, _, _, _, _, rfl, rfl, .inl ⟨rfl, rfl⟩⟩ ?_
  rintro i env hp hi ⟨x6, x7, x8, x9, x10, x11, x12, x13, x14, x15, x16, x17, x18, x19, x20, x23, x24, x25, x26, x27, x28, x29, x30, x31, x32, x33, x34, x35, x36, x37, x38, x39, sp, h, rfl, rfl, hsp⟩
  by_cases hlt : i < p.capacity.length
  · have hm : (p.cells.length : Int) * 9 ≤ maxBytes := by unfold maxBytes; omega
    have hap : appOk E 6 (List.replicate i (.imm .exact (List.replicate p.cells.length (D.int Go.IntKind.i64 0)))) [.imm .exact (List.replicate p.cells.length (D.int Go.IntKind.i64 0))] := by
      refine ⟨?_, ?_, ?_, ?_⟩ <;> simp [maxBytes, fitsE]
      omega
    rcases hsp with ⟨rfl, rfl⟩ | ⟨k, rfl, hk⟩
    · simp only [List.replicate_zero] at hap
      simp [hlt, hm, app0_step, app0_exact, mksliceV, xv_mkslice, hap, show Go.IntKind.i64.wrap 1 = 1 from by decide]
      exact ⟨_, _, _, _, _, _, _, _, _, _, _, _, _, _, _, _, _, _, _, _, _, _, _, _, _, _, _, _, _, _, _, _, _, ⟨rfl, rfl, rfl, rfl, rfl, rfl, rfl, rfl, rfl, rfl, rfl, rfl, rfl, rfl, rfl, rfl, rfl, rfl, rfl, rfl, rfl, rfl, rfl, rfl, rfl, rfl, rfl, rfl, rfl, rfl, rfl, rfl, rfl⟩, h.length, rfl, by simp⟩
    · simp [hlt, hm, app0_step, app0_tok, hk, mksliceV, xv_mkslice, hap, wrap_up hlt (by omega)]
      exact ⟨_, _, _, _, _, _, _, _, _, _, _, _, _, _, _, _, _, _, _, _, _, _, _, _, _, _, _, _, _, _, _, _, _, ⟨⟨rfl, (List.replicate_succ' (n := i)).symm.trans List.replicate_succ⟩, rfl, rfl, rfl, rfl, rfl, rfl, rfl, rfl, rfl, rfl, rfl, rfl, rfl, rfl, rfl, rfl, rfl, rfl, rfl, rfl, rfl, rfl, rfl, rfl, rfl, rfl, rfl, rfl, rfl, rfl, rfl, rfl⟩, h.length, rfl, by simp⟩
  have : i = p.capacity.length := by omega
  subst this
  have hfz := frz_zero (hp := []) (n := 9) (i := p.capacity.length) (k := p.cells.length)
  have h37 := r37 p b g (zeroM p) S hb' (zeroM_small S)
  have h39 := r39 p b g (zeroM p) S hb' (zeroM_small S)
  unfold resDB at h37
  unfold resDP at h39
  have hzm : (List.replicate p.capacity.length (List.replicate p.cells.length (0 : Int))).map dInts = (zeroM p).map dInts := rfl
  rw [hzm] at hfz
  have hdk : dk p b (zeroM p) = 0 ∨ dk p b (zeroM p) = 290 := by
    unfold dk
    by_cases h : OkM p (zeroM p) ∧ OkB p b <;> simp [ok, h]
  rcases hdk with h0 | h0
  rotate_left
  · rw [if_neg (by omega), h0] at h37 h39
    simp only [dProb, dInts] at h37 h39
    simp [hlt, hfz, h37, h39]
  rw [if_pos h0] at h37 h39
  obtain ⟨T, hT⟩ : ∃ T, T = totF b g 0 p.vars := ⟨_, rfl⟩
  have hs1 : sumD p b g (zeroM p) 1 = bif T.2 then some T.1 else none := by
    unfold sumD
    rw [sumV_free, ← hT, show dotL (zeroM p) p.capacity = 0 from dotL_zero]
    cases T.2 <;> simp
  have hs0 : provD (sumD p b g (zeroM p) 0) = !T.2 := by
    cases h : T.2 with
    | false =>
      rw [h] at hs1
      rw [sumD_nil (q' := 0) hs1]; rfl
    | true =>
      rcases sumV_none0 (p := p) (b := b) (g := g) (vs := p.vars) (i := 0) with h3 | h3
      · have h4 : sumD p b g (zeroM p) 0 = none := by unfold sumD; rw [h3]; rfl
        rw [sumD_nil (q' := 1) h4, h] at hs1
        cases hs1
      · unfold sumD
        rw [h3, show dotL (zeroM p) p.capacity = 0 from dotL_zero]; rfl
  rw [hs1] at h37
  rw [hs0] at h39
  obtain ⟨tS, tA⟩ := T
  obtain ⟨n0, hn1, hn2, h37⟩ : ∃ n0, (tA = true → n0 = tS) ∧ (tA = false → n0 = 0) ∧ runP E (dL E) 37 [dProb p, dInts b, dI g, .imm .none ((zeroM p).map dInts)] = some (.tup [dI n0, .bool tA, dI 0]) := by
    cases tA with
    | false => exact ⟨0, by simp, by simp, h37⟩
    | true => exact ⟨tS, by simp, by simp, h37⟩
  simp only at h39
  simp only [dProb, dInts] at h37 h39
  simp [hlt, hfz, h37, h39]
  refine wT_up p.vars.length (fun i env hp => ∃ (x5 x13 x14 x15 x16 x17 x18 x19 x20 x21 x22 x23 x24 x25 x26 x27 x28 x32 x33 x34 x35 x36 x37 x38 x39 : D) (n : Int) (a : Bool) (h : List Obj), env = [dProb p, dInts b, dI g, .loc 0 0, .bool false, x5, dI n0, .bool tA, dI 0, .bool (!tA), dI 0, dI n, .bool a, x13, x14, x15, x16, x17, x18, x19, x20, x21, x22, x23, x24, x25, x26, x27, x28, .imm .none (p.vars.map dVar), dI p.vars.length, dI i, x32, x33, x34, x35, x36, x37, x38, x39] ∧
    hp = .cells (dProb p).cellsL :: h ∧ n + (totF b g i (p.vars.drop i)).1 = tS ∧ (a && (totF b g i (p.vars.drop i)).2) = tA ∧ 0 ≤ n ∧ n ≤ 10000000 * i) 0 (by omega) ⟨_, _, _, _, _, _, _, _, _, _, _, _, _, _, _, _, _, _, _, _, _, _, _, _, _, 0, true, _, rfl, rfl, by simp [← hT], by simp [← hT], by omega, by omega⟩ ?_
  rintro i env hp hi ⟨x5, x13, x14, x15, x16, x17, x18, x19, x20, x21, x22, x23, x24, x25, x26, x27, x28, x32, x33, x34, x35, x36, x37, x38, x39, n, a, h, rfl, rfl, hn, ha, hn0, hn9⟩
  by_cases hlt2 : i < p.vars.length
  rotate_left
  · have : i = p.vars.length := by omega
    subst this
    rw [List.drop_length] at hn ha
    simp only [totF, Bool.and_true, Int.add_zero] at hn ha
    subst hn ha
    cases a with
    | true => simp [hn1]
    | false => simp [hn2]
  rw [drop_cons hlt2] at hn ha
  simp only [totF] at hn ha
  obtain ⟨v, hv⟩ : ∃ v, v = p.vars[i] := ⟨_, rfl⟩
  have okv := ok.vars _ (List.getElem_mem hlt2)
  have l1 := S.leaves _ (List.getElem_mem hlt2)
  have l2 := S.choices _ (List.getElem_mem hlt2)
  obtain ⟨R, hR⟩ : ∃ R, R = bestK (costV v) (candL b g i 0 v.choices) := ⟨_, rfl⟩
  rw [← hv] at hn ha okv l1 l2
  rw [← hR] at hn ha
  unfold bestK at hR
  simp [hlt2, ← hv]
  refine wT_up v.choices.length (fun k env hp => ∃ (x5 x17 x18 x19 x20 x21 x22 x23 x24 x25 x26 x27 x28 x32 x33 x37 x38 x39 : D) (s : Option ((Nat × Choice) × Int)) (h2 : List Obj), env = [dProb p, dInts b, dI g, .loc 0 0, .bool false, x5, dI n0, .bool tA, dI 0, .bool (!tA), dI 0, dI n, .bool a, dI i, .loc (h.length + 1) 0, dI (leastOf s), .bool s.isSome, x17, x18, x19, x20, x21, x22, x23, x24, x25, x26, x27, x28, .imm .none (p.vars.map dVar), dI p.vars.length, dI i, x32, x33, .imm .none (v.choices.map dChoice), dI v.choices.length, dI k, x37, x38, x39] ∧
    hp = .cells (dProb p).cellsL :: h2 ∧ At h2 h.length (.cells (dVar v).cellsL) ∧ (candL b g i k (v.choices.drop k)).foldl (stepK (costV v)) s = R ∧ 0 ≤ leastOf s ∧ leastOf s ≤ 10000000) 0 (by omega) ⟨_, _, _, _, _, _, _, _, _, _, _, _, _, _, _, _, _, _, none, _, rfl, rfl, by simp [At], by simpa using hR.symm, by simp [leastOf], by simp [leastOf]⟩ ?_
  rintro k env hp hk ⟨x5, x17, x18, x19, x20, x21, x22, x23, x24, x25, x26, x27, x28, x32, x33, x37, x38, x39, s, h2, rfl, rfl, a1, hs, hl0, hl1⟩
  by_cases hlt3 : k < v.choices.length
  rotate_left
  · have : k = v.choices.length := by omega
    subst this
    rw [List.drop_length] at hs
    simp only [candL, List.foldl_nil] at hs
    subst hs
    have w1 := wrap_i64 (n := n + leastOf s) ⟨by omega, by omega⟩
    simp [hlt2, w1, wrap_up hlt2 (by omega)]
    rw [← Bool.and_assoc] at ha
    have w3 := wrap_up hlt2 (by omega)
    obtain ⟨e, he⟩ : ∃ e : Bool, e = (a && s.isSome) := ⟨_, rfl⟩
    have hif : (if a = true then some (D.bool s.isSome) else some (D.bool false)) = some (D.bool e) := by rw [he]; cases a <;> simp
    rw [← he] at ha
    cases e with
    | false =>
      simp only [Bool.false_and] at ha
      simp [hif, w3]
      exact ⟨_, _, _, _, _, _, _, _, _, _, _, _, _, _, _, _, _, _, _, _, _, _, _, _, _, n + leastOf s, ⟨rfl, rfl, rfl, rfl, rfl, rfl, rfl, rfl, rfl, rfl, rfl, rfl, rfl, rfl, rfl, rfl, rfl, rfl, rfl, rfl, rfl, rfl, rfl, rfl, rfl, rfl⟩, by omega, ha.symm, by omega, by omega⟩
    | true =>
      simp only [Bool.true_and] at ha
      simp [hif, w3]
      exact ⟨_, _, _, _, _, _, _, _, _, _, _, _, _, _, _, _, _, _, _, _, _, _, _, _, _, n + leastOf s, ⟨rfl, rfl, rfl, rfl, rfl, rfl, rfl, rfl, rfl, rfl, rfl, rfl, rfl, rfl, rfl, rfl, rfl, rfl, rfl, rfl, rfl, rfl, rfl, rfl, rfl, rfl⟩, by omega, ha, by omega, by omega⟩
  rw [drop_cons hlt3] at hs
  simp only [candL] at hs
  have okc := okv.choices _ (List.getElem_mem hlt3)
  have hcost := okc.cost
  unfold wi at hcost
  have hm := mul_bd hcost.1 hcost.2 (n := (v.leaves.length : Int)) (by omega) (by omega)
  obtain ⟨N, hN⟩ : ∃ N, N = v.choices[k].cost * v.leaves.length := ⟨_, rfl⟩
  have hcv : costV v v.choices[k] = N := by rw [hN]; rfl
  rw [← hN] at hm
  have w2 := wrap_i64 (n := N) ⟨by omega, by omega⟩
  have hcnt : cntB b g i k v.choices[k] = (decide (v.choices[k].delay ≤ g) && (decide (b.length ≤ i) || decide (b.getD i 0 = (k : Int)))) := rfl
  by_cases c1 : v.choices[k].delay ≤ g
  rotate_left
  · rw [if_neg (by rw [hcnt]; simp [c1])] at hs
    simp only [List.nil_append] at hs
    simp [hlt3, c1, get_mid, set_mid, wrap_up hlt3 (by omega), ↓a1.appE]
    exact ⟨_, _, _, _, _, _, _, _, _, _, _, _, _, _, _, _, _, _, s, ⟨rfl, rfl, rfl, rfl, rfl, rfl, rfl, rfl, rfl, rfl, rfl, rfl, rfl, rfl, rfl, rfl, rfl, rfl, rfl, rfl⟩, a1.app, hs, hl0, hl1⟩
  by_cases c2 : b.length ≤ i
  · rw [if_pos (by rw [hcnt]; simp [c1, c2])] at hs
    simp only [List.cons_append, List.nil_append, List.foldl_cons] at hs
    cases s with
    | none =>
      simp only [stepK, hcv] at hs
      simp [hlt3, c1, c2, get_mid, set_mid, wrap_up hlt3 (by omega), ↓a1.appE, ← hN, w2]
      exact ⟨_, _, _, _, _, _, _, _, _, _, _, _, _, _, _, _, _, _, some ((k, v.choices[k]), N), ⟨rfl, rfl, rfl, rfl, rfl, rfl, rfl, rfl, rfl, rfl, rfl, rfl, rfl, rfl, rfl, rfl, rfl, rfl, rfl, rfl⟩, a1.app, hs, by simp only [leastOf]; omega, by simp only [leastOf]; omega⟩
    | some y =>
      obtain ⟨y, n'⟩ := y
      simp only [stepK, hcv] at hs
      have hl : leastOf (some (y, n')) = n' := rfl
      rw [hl] at hl0 hl1
      by_cases c5 : N < n'
      · rw [if_pos c5] at hs
        simp [hlt3, c1, c2, c5, hl, get_mid, set_mid, wrap_up hlt3 (by omega), ↓a1.appE, ← hN, w2]
        exact ⟨_, _, _, _, _, _, _, _, _, _, _, _, _, _, _, _, _, _, some ((k, v.choices[k]), N), ⟨rfl, rfl, rfl, rfl, rfl, rfl, rfl, rfl, rfl, rfl, rfl, rfl, rfl, rfl, rfl, rfl, rfl, rfl, rfl, rfl⟩, a1.app, hs, by simp only [leastOf]; omega, by simp only [leastOf]; omega⟩
      · rw [if_neg c5] at hs
        simp [hlt3, c1, c2, c5, hl, get_mid, set_mid, wrap_up hlt3 (by omega), ↓a1.appE, ← hN, w2]
        exact ⟨_, _, _, _, _, _, _, _, _, _, _, _, _, _, _, _, _, _, some (y, n'), ⟨rfl, rfl, rfl, rfl, rfl, rfl, rfl, rfl, rfl, rfl, rfl, rfl, rfl, rfl, rfl, rfl, rfl, rfl, rfl, rfl⟩, a1.app, hs, by simp only [leastOf]; omega, by simp only [leastOf]; omega⟩
  have c3 : i < b.length := by omega
  have e : b.getD i 0 = b[i] := by rw [List.getD_eq_getElem?_getD, List.getElem?_eq_getElem c3, Option.getD_some]
  by_cases c4 : b[i] = (k : Int)
  · rw [if_pos (by rw [hcnt]; rw [e]; simp [c1, c4])] at hs
    simp only [List.cons_append, List.nil_append, List.foldl_cons] at hs
    cases s with
    | none =>
      simp only [stepK, hcv] at hs
      simp [hlt3, c1, c2, c3, c4, get_mid, set_mid, wrap_up hlt3 (by omega), ↓a1.appE, ← hN, w2]
      exact ⟨_, _, _, _, _, _, _, _, _, _, _, _, _, _, _, _, _, _, some ((k, v.choices[k]), N), ⟨rfl, rfl, rfl, rfl, rfl, rfl, rfl, rfl, rfl, rfl, rfl, rfl, rfl, rfl, rfl, rfl, rfl, rfl, rfl, rfl⟩, a1.app, hs, by simp only [leastOf]; omega, by simp only [leastOf]; omega⟩
    | some y =>
      obtain ⟨y, n'⟩ := y
      simp only [stepK, hcv] at hs
      have hl : leastOf (some (y, n')) = n' := rfl
      rw [hl] at hl0 hl1
      by_cases c5 : N < n'
      · rw [if_pos c5] at hs
        simp [hlt3, c1, c2, c3, c4, c5, hl, get_mid, set_mid, wrap_up hlt3 (by omega), ↓a1.appE, ← hN, w2]
        exact ⟨_, _, _, _, _, _, _, _, _, _, _, _, _, _, _, _, _, _, some ((k, v.choices[k]), N), ⟨rfl, rfl, rfl, rfl, rfl, rfl, rfl, rfl, rfl, rfl, rfl, rfl, rfl, rfl, rfl, rfl, rfl, rfl, rfl, rfl⟩, a1.app, hs, by simp only [leastOf]; omega, by simp only [leastOf]; omega⟩
      · rw [if_neg c5] at hs
        simp [hlt3, c1, c2, c3, c4, c5, hl, get_mid, set_mid, wrap_up hlt3 (by omega), ↓a1.appE, ← hN, w2]
        exact ⟨_, _, _, _, _, _, _, _, _, _, _, _, _, _, _, _, _, _, some (y, n'), ⟨rfl, rfl, rfl, rfl, rfl, rfl, rfl, rfl, rfl, rfl, rfl, rfl, rfl, rfl, rfl, rfl, rfl, rfl, rfl, rfl⟩, a1.app, hs, by simp only [leastOf]; omega, by simp only [leastOf]; omega⟩
  · rw [if_neg (by rw [hcnt]; rw [e]; simp [c2, c4])] at hs
    simp only [List.nil_append] at hs
    simp [hlt3, c1, c2, c3, c4, get_mid, set_mid, wrap_up hlt3 (by omega), ↓a1.appE]
    exact ⟨_, _, _, _, _, _, _, _, _, _, _, _, _, _, _, _, _, _, s, ⟨rfl, rfl, rfl, rfl, rfl, rfl, rfl, rfl, rfl, rfl, rfl, rfl, rfl, rfl, rfl, rfl, rfl, rfl, rfl, rfl⟩, a1.app, hs, hl0, hl1⟩

theorem dualFree : ∀ xs, TypedL E [0, 1, 2] xs → ∃ n, runP E (dC E n) 48 xs = some (.bool true) := by
  intro xs h
  match xs, h with
  | [x, y, z], ⟨h1, h2, h3, _⟩ =>
    obtain ⟨p, rfl, _⟩ := ty_prob h1
    obtain ⟨l, rfl, _⟩ := ty_nums h2 rfl
    obtain ⟨n, rfl, _⟩ := ty_num h3 rfl
    exact runP_ex (law48 sane35' p l n)
  | [], h => exact h.elim
  | [_], h => exact h.2.elim
  | [_, _], h => exact h.2.2.elim
  | _ :: _ :: _ :: _ :: _, h => exact h.2.2.2.elim

end Dv
