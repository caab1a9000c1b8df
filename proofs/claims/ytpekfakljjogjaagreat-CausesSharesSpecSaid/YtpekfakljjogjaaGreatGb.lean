/- Texts that a proof of this claim uses, joined: Lw.W92, Lw.W93, Lw.W94, Lw.W83, Lw.W84, Lw.W110, Lw.W132, Lw.W50, Lw.W51, Lw.W52, Lw.W53, Lw.W54, Lw.W55, Lw.W56, Lw.W57, Lw.W47, Lw.W65, Lw.W66, Lw.W69, Lw.W58, Lw.W59, Lw.W60, Lw.W71, Lw.W61, Lw.W73, Lw.W46, Lw.W48, Lw.W111, Lw.W95, Lw.W96, Lw.W112, Lw.W97, Lw.W98, Lw.W113, Lw.W29, Lw.W99, Lw.W100, Lw.W114. -/
import Derived.Test.YtpekfakljjogjaaGreatGa
import Derived.Test.YtpekfakljjogjaaGreatWb
set_option linter.all false
namespace Dv
attribute [local simp] wT_skip wK wT_ret wT_exit wR wRp wT_seq wC wT_block rTS_nil rTS_asg rTS_eff rTS_effk rTS_effg gdV_b binD_and binD_or binD_xor stepOp_call3 closed_bool closed_int closed_tup flatB_bool flatB_int frzX_tup frzX_exact frz1_exact frz1_none frz1_int ob_some obP_some iteD_b condP_b xv_v xv_c xv_ite xv_bin_tt xv_bin_tc xv_bin_ct xv_bin_cc xv_un_t xv_conv_t xv_load xv_len xv_faddr xv_field xv_iaddr_tt xv_iaddr_tc xv_index_tt xv_index_tc xv_lookup_tt xv_max_tt xv_max_tc xv_max_ct xv_min_tt xv_min_tc xv_min_ct xv_slice_lo_t xv_slice_lo_c xv_slice_hi_t xv_slice_all xv_call xv_bslice bsliceV xv_build buildV xv_mkfn zeroE fillE buildD fillD List.replicate xvs_nil xvs_cons callV_fn frz_bool frz_int frz_imm frz_agg frz_tup frz_fn frz_iptr frzL_nil frzL_one frzL_dI frzL_cell frzL_use frzL_ints frzL_choice frzL_var depth dCell dUse dInts dChoice dVar dProb tStart addO Ret flat_dI flat_rep chunk_dI
 binD_add binD_sub binD_mul binD_eql binD_neq binD_lss binD_leq binD_gtr binD_geq binD_quo binD_rem binD_beql binD_bneq binD_aeql binD_aneq unD_not unD_neg lenD_imm lenD_sl lenD_str readO_cells readO_frozen loadD_loc loadD_iptr iaddrD_imm iaddrD_sl iaddrD_loc faddrD_loc faddrD_iptr fieldD_agg indexD_agg indexD_str cellsL_bool stor_bool atom_bool cellsL_int stor_int atom_int cellsL_str stor_str atom_str cellsL_imm stor_imm atom_imm cellsL_sl stor_sl atom_sl cellsL_loc stor_loc atom_loc cellsL_iptr stor_iptr atom_iptr cellsL_map stor_map atom_map cellsL_fn stor_fn atom_fn cellsL_agg stor_agg cellsL_nilfn stor_nilfn atom_nilfn cellsL_nilp stor_nilp atom_nilp takeC_z takeC_s ofCells_ag ofCells_one ag_bool ag_int ag_str ag_slice ag_struct ag_arr ag_map ag_ptr ag_func gOf_t gOf_c gOf_f kv_cons putE_some putE_none oneRes_one oneRes_two oneRes_three getAll_nil getAll_v getAll_c maxiD_two miniD_two extV_tup xv_ext stepOp_box stepOp_alloc stepOp_store writeO_cells storeD_loc setCells_nil setCells_cons stepOp_mkmap stepOp_mapset stepOp_call1 stepOp_call2 stepOp_app2 stepOp_app1 stepOp_bslice stepOp_mkslice mapO_map lookupD_some lookupD_ok mapsetD_some keyOk_agg kindsL_nil kindsL_bool kindsL_int eqL_nil eqL_cons atomEq_bool atomEq_int frz_sl tokO_tok app0_step app0_exact app0_tok frz_loc oneRes_nil listOf_imm
  ty_0 ty_1 ty_2 ty_3 ty_4 ty_6 ty_7 ty_9 ty_10 ty_11 ty_14 ty_15 ty_16 ty_17 ty_18 ty_19 ty_20 ty_21 ty_22 ty_26 ty_28 ty_29 ty_31 ty_32 ty_33 ty_35 ty_36 ty_37 ty_38 ty_39 ty_40
attribute [local congr] wT_congr ob_congr obP_congr iteD_congr condP_congr gdV_congr


open Classical in
/-- what Check answers -/
noncomputable def sk (p : Prob) (s : Srch) : Int := if OkP p then (if OkS p s then 0 else 300) else 270
structure SmS (p : Prob) (s : Srch) : Prop where
  most : wO p s.opn + s.leaves.length ≤ 1000000000
theorem wO_ge {p : Prob} : ∀ {l : List (List Int)}, l.length ≤ wO p l
  | [] => by simp [wO]
  | b :: l => by
    have h1 := wB_pos (p := p) (b := b)
    have h2 := wO_ge (p := p) (l := l)
    simp only [wO, List.length_cons]; omega
theorem SmS.opn {p : Prob} {s : Srch} (h : SmS p s) : s.opn.length ≤ 1000000000 := by
  have := h.most; have := wO_ge (p := p) (l := s.opn); omega
theorem SmS.lvs {p : Prob} {s : Srch} (h : SmS p s) : s.leaves.length ≤ 1000000000 := by
  have := h.most; omega

theorem okS_iff {p : Prob} {s : Srch} (ok : OkP p) : OkS p s ↔ ((∀ b, b ∈ s.opn → OkB p b) ∧ (∀ l, l ∈ s.leaves → okLeaf p l)) ∧ ((s.value.length = 0 ∧ s.best.length = 0) ∨ (Whole p s.best ∧ boundL p s.best = s.value)) := by
  constructor
  · rintro ⟨a, b, c⟩
    refine ⟨⟨a, b⟩, ?_⟩
    rcases c with ⟨c, d⟩ | ⟨c, d⟩
    · exact .inl ⟨by rw [c]; rfl, by rw [d]; rfl⟩
    · exact .inr ⟨c, d.symm⟩
  · rintro ⟨⟨a, b⟩, c⟩
    refine ⟨a, b, ?_⟩
    rcases c with ⟨c, d⟩ | ⟨c, d⟩
    · exact .inl ⟨List.eq_nil_of_length_eq_zero c, List.eq_nil_of_length_eq_zero d⟩
    · exact .inr ⟨c, d.symm⟩

open Classical in
theorem any_not {A : Type} {P : A → Prop} {l : List A} : l.any (fun x => !decide (P x)) = !decide (∀ x, x ∈ l → P x) := by
  rw [Bool.eq_iff_iff]
  simp

open Classical in
set_option maxHeartbeats 4000000 in
theorem r142 (p : Prob) (s : Srch) (S : Small p) (M : SmS p s) : runP E (dL E) 142 [dProb p, dSrch s] = some (dI (sk p s)) := by
  refine runP_T c142 (by simp) ?_
  have h15 := r15 p S
  simp only [dProb] at h15
  by_cases h0 : OkP p
  rotate_left
  · have e : ck p = 270 := by simp [ck, h0]
    simp [t142, n142, h15, e, sk, h0]
  have e : ck p = 0 := by simp [ck, h0]
  have h159 := r159 s.opn 158 [.iptr (dProb p).cellsL] (fun b => !decide (OkB p b)) (by simp) (by simp) (fun b => r158 p b S) M.opn
  have h161 := r161 s.leaves 160 [.iptr [.fn 157 [.iptr (dProb p).cellsL]]] (fun l => !decide (okLeaf p l)) (by simp) (by simp) (fun l => r160 p l S) M.lvs
  have h22 := q22 p s.best S
  rw [any_not] at h159 h161
  simp only [dProb, dInts, cellsL_agg] at h159 h161 h22
  obtain ⟨A, hA⟩ : ∃ A, A = ∀ x, x ∈ s.opn → OkB p x := ⟨_, rfl⟩
  obtain ⟨B, hB⟩ : ∃ B, B = ∀ x, x ∈ s.leaves → okLeaf p x := ⟨_, rfl⟩
  have hsk : sk p s = if (A ∧ B) ∧ ((s.value.length = 0 ∧ s.best.length = 0) ∨ (Whole p s.best ∧ boundL p s.best = s.value)) then 0 else 300 := by
    simp only [sk, h0, if_true, okS_iff h0, hA, hB]
  rw [hsk]
  simp only [← hA] at h159
  simp only [← hB] at h161
  simp only [List.length_eq_zero_iff]
  by_cases kA : A
  rotate_left
  · simp [t142, n142, h15, e, h159, kA, rTS_effh, gdD_b, frzL_leaf]
  by_cases kB : B
  rotate_left
  · simp [t142, n142, h15, e, h159, h161, kA, kB, rTS_effh, gdD_b, frzL_leaf]
  have tail : ¬ (s.value = [] ∧ s.best = []) → (if Whole p s.best then (if boundL p s.best = s.value then (0 : Int) else 300) else 300) = if (A ∧ B) ∧ ((s.value = [] ∧ s.best = []) ∨ (Whole p s.best ∧ boundL p s.best = s.value)) then 0 else 300 := fun h => by
    by_cases w : Whole p s.best <;> by_cases q : boundL p s.best = s.value <;> simp [kA, kB, h, w, q]
  by_cases kv : s.value = [] ∧ s.best = []
  · simp [t142, n142, h15, e, h159, h161, kA, kB, rTS_effh, gdD_b, frzL_leaf, kv.1, kv.2]
  rw [← tail kv]
  have h162 := r162 (boundL p s.best) s.value (by simp [boundL])
  simp only [dInts] at h162
  have k1 : (if s.value = [] then (decide (s.best = []) : Bool) else false) = false := by
    by_cases a : s.value = []
    · have b : ¬ s.best = [] := fun b => kv ⟨a, b⟩
      simp [a, b]
    · simp [a]
  obtain ⟨V, hV⟩ : ∃ V, V = boundL p s.best := ⟨_, rfl⟩
  rw [← hV] at h162 ⊢
  have hVn : V ≠ [] := by rw [hV]; simp [boundL]
  by_cases w : Whole p s.best
  · simp only [resV, if_pos w, ← hV] at h22
    by_cases q : V = s.value
    · rw [q] at h22 h162 hVn
      simp [t142, n142, h15, e, h159, h161, kA, kB, rTS_effh, gdD_b, frzL_leaf, h22, h162, w, q, hVn]
    · by_cases a : s.value = []
      · have b : ¬ s.best = [] := fun b => kv ⟨a, b⟩
        have b2 : ((s.best.length : Int) == 0) = false := by
          have : ¬ s.best.length = 0 := fun h => b (List.eq_nil_of_length_eq_zero h)
          simpa using this
        simp only [a, List.map_nil] at h162
        simp [t142, n142, h15, e, h159, h161, kA, kB, rTS_effh, gdD_b, frzL_leaf, h22, h162, w, hVn, a, b2]
      · simp [t142, n142, h15, e, h159, h161, kA, kB, rTS_effh, gdD_b, frzL_leaf, h22, h162, w, q, a]
  · simp only [resV, if_neg w] at h22
    by_cases a : s.value = []
    · have b : ¬ s.best = [] := fun b => kv ⟨a, b⟩
      have b2 : ((s.best.length : Int) == 0) = false := by
        have : ¬ s.best.length = 0 := fun h => b (List.eq_nil_of_length_eq_zero h)
        simpa using this
      simp [t142, n142, h15, e, h159, h161, kA, kB, rTS_effh, gdD_b, frzL_leaf, h22, w, a, b2]
    · simp [t142, n142, h15, e, h159, h161, kA, kB, rTS_effh, gdD_b, frzL_leaf, h22, w, a]

open Classical in
theorem r170 (p : Prob) (l : Leaf) (S : Small p) : runP E (dL E) 170 [dProb p, dLeaf l] = some (.bool (decide (okLeaf p l))) := by
  refine runP_T c170 (by simp) ?_
  have h78 := q78 p l.branch S
  simp only [dProb, dInts] at h78
  obtain ⟨B, hB⟩ : ∃ B, B = OkB p l.branch := ⟨_, rfl⟩
  simp only [okLeaf_dec, ← hB]
  simp only [← hB] at h78
  by_cases k6 : l.mult = []
  · by_cases k1 : l.kind = 1
    · by_cases k3 : (l.branch.length : Int) = p.vars.length
      · have k4 : l.branch.length = p.vars.length := by omega
        by_cases k5 : B <;> simp [t170, n170, h78, k1, k3, k4, k5, k6]
      · have k4 : ¬ l.branch.length = p.vars.length := by omega
        by_cases k5 : B <;> simp [t170, n170, h78, k1, k3, k4, k5, k6]
    · by_cases k5 : B
      · by_cases k2 : l.kind = 2
        · simp [t170, n170, h78, k2, k5, k6]
        · simp [t170, n170, h78, k1, k2, k5, k6]
      · simp [t170, n170, h78, k5, k6]
  · have k7 : ¬ l.mult.length = 0 := fun h => k6 (List.eq_nil_of_length_eq_zero h)
    have k8 : 0 < l.mult.length := by omega
    by_cases k5 : B <;> simp [t170, n170, h78, k5, k6, k7, k8]

theorem r145 (a b : List Int) (ha : a.length ≤ 1000000) : runP E (dL E) 145 [dInts a, dInts b] = some (.bool (decide (a = b))) := by
  refine runP_T c145 (by simp) ?_
  by_cases h : (a.length : Int) = b.length
  · have h' : a.length = b.length := by omega
    have h111 := r111 a b ha h'
    simp only [dInts] at h111
    have e : (cmpL a b == 0) = decide (a = b) := by
      rw [Bool.eq_iff_iff]
      simp [cmpL_zero h']
    simp [t145, n145, h, h111, e]
  · have e : ¬ a = b := fun e => h (by rw [e])
    simp [t145, n145, h, e]

open Classical in
theorem r171 (p : Prob) (s : Srch) (S : Small p) : runP E (dL E) 171 [dProb p, dSrch s] = some (.bool (decide (if s.value.length = 0 then s.best.length = 0 else Whole p s.best ∧ boundL p s.best = s.value))) := by
  refine runP_T c171 (by simp) ?_
  have h23 := q23 p s.best S
  have h145 := r145 (boundL p s.best) s.value (by simp [boundL])
  simp only [dProb, dInts] at h23 h145
  by_cases a : s.value = []
  · by_cases b : s.best = []
    · simp [t171, n171, a, b]
    · have b1 : ¬ s.best.length = 0 := fun h => b (List.eq_nil_of_length_eq_zero h)
      simp [t171, n171, a, b]
  have a1 : ¬ s.value.length = 0 := fun h => a (List.eq_nil_of_length_eq_zero h)
  obtain ⟨V, hV⟩ : ∃ V, V = boundL p s.best := ⟨_, rfl⟩
  rw [← hV] at h145 ⊢
  by_cases w : Whole p s.best
  · simp only [resV, if_pos w, ← hV] at h23
    simp [t171, n171, h23, h145, a, a1, w]
  · simp only [resV, if_neg w] at h23
    simp [t171, n171, h23, a, a1, w]

structure Cert where
  best : List Int
  value : List Int
  leaves : List Leaf
abbrev dCert (c : Cert) : D := .agg [dInts c.best, dInts c.value, .imm .none (c.leaves.map dLeaf)]
def cert0 : Cert := ⟨[], [], []⟩
def certS (s : Srch) : Cert := ⟨s.best, s.value, s.leaves⟩

noncomputable def resCert (p : Prob) (s : Srch) : D :=
  if sk p s = 0 then (if s.opn.length = 0 ∧ s.value.length ≠ 0 then .tup [dCert (certS s), dI 0] else .tup [dCert cert0, dI 300]) else .tup [dCert cert0, dI (sk p s)]

theorem r133 (p : Prob) (s : Srch) (S : Small p) (M : SmS p s) : runP E (dL E) 133 [dProb p, dSrch s] = some (resCert p s) := by
  refine runP_T c133 (by simp) ?_
  have h142 := r142 p s S M
  have h140 := r140 s
  simp only [dProb, dSrch, dInts] at h142 h140
  by_cases h : sk p s = 0
  rotate_left
  · simp [t133, n133, h142, h, resCert, cert0, frzL_leaf]
  by_cases a : s.opn.length = 0
  rotate_left
  · simp only [a, decide_false] at h140
    simp [t133, n133, h142, h140, h, a, resCert, cert0, frzL_leaf]
  simp only [a, decide_true] at h140
  have a2 : s.opn = [] := List.eq_nil_of_length_eq_zero a
  simp only [a2, List.map_nil] at h142 h140
  by_cases b : s.value = []
  · simp only [b, List.map_nil] at h142 h140
    simp [t133, n133, h142, h140, h, a, a2, b, resCert, cert0, frzL_leaf]
  · have b2 : ¬ s.value.length = 0 := fun h => b (List.eq_nil_of_length_eq_zero h)
    simp [t133, n133, h142, h140, h, a, a2, b, b2, resCert, certS, frzL_leaf]

open Classical in
set_option maxHeartbeats 4000000 in
theorem r155 (p : Prob) (s : Srch) (S : Small p) (M : SmS p s) : runP E (dL E) 155 [dProb p, dSrch s] = some (dI (sk p s)) := by
  refine runP_T c155 (by simp) ?_
  have h19 := r19 p S
  simp only [dProb] at h19
  by_cases h0 : OkP p
  rotate_left
  · have e : ck p = 270 := by simp [ck, h0]
    simp [t155, n155, h19, e, sk, h0]
  have e : ck p = 0 := by simp [ck, h0]
  have m1 := M.opn
  have m2 := M.lvs
  obtain ⟨A, hA⟩ : ∃ A, A = ∀ x, x ∈ s.opn → OkB p x := ⟨_, rfl⟩
  obtain ⟨B, hB⟩ : ∃ B, B = ∀ x, x ∈ s.leaves → okLeaf p x := ⟨_, rfl⟩
  obtain ⟨C, hC⟩ : ∃ C : Prop, C = if s.value.length = 0 then s.best.length = 0 else Whole p s.best ∧ boundL p s.best = s.value := ⟨_, rfl⟩
  have h171 := r171 p s S
  simp only [← hC] at h171
  simp only [dProb, dSrch, dInts] at h171
  have hsk : sk p s = if (A ∧ B) ∧ C then 0 else 300 := by
    have hc : C ↔ ((s.value.length = 0 ∧ s.best.length = 0) ∨ (Whole p s.best ∧ boundL p s.best = s.value)) := by
      rw [hC]
      by_cases a : s.value.length = 0
      · rw [if_pos a]
        constructor
        · intro h; exact .inl ⟨a, h⟩
        · rintro (h | ⟨_, h⟩)
          · exact h.2
          · rw [← h] at a; simp [boundL] at a
      · rw [if_neg a]
        constructor
        · intro h; exact .inr h
        · rintro (h | h)
          · exact absurd h.1 a
          · exact h
    simp only [sk, h0, if_true, okS_iff h0, hA, hB, hc]
  obtain ⟨R, hR⟩ : ∃ R, R = sk p s := ⟨_, rfl⟩
  rw [← hR] at hsk ⊢
  have nA : ¬ A → R = 300 := fun h => by rw [hsk, if_neg (fun x => h x.1.1)]
  have nB : ¬ B → R = 300 := fun h => by rw [hsk, if_neg (fun x => h x.1.2)]
  have nC : ¬ C → R = 300 := fun h => by rw [hsk, if_neg (fun x => h x.2)]
  simp [t155, n155, h19, e]
  refine wT_all s.opn.length (fun i => ∀ h : i < s.opn.length, OkB p s.opn[i])
    (fun i env hp => ∃ (x5 x7 x8 x9 x10 x11 x12 x13 : D) , env = [dProb p, dSrch s, .loc 0 0, .loc 1 0, dI 0, x5, dI i, x7, x8, x9, x10, x11, x12, x13] ∧ At hp 0 (.cells (dProb p).cellsL) ∧ At hp 1 (.cells (dSrch s).cellsL))
    ⟨_, _, _, _, _, _, _, _, rfl, rfl, rfl⟩ ?_ ?_
  · rintro i env hp hi ⟨x5, x7, x8, x9, x10, x11, x12, x13, rfl, g0, g1⟩ hall
    have h78 := q78 p s.opn[i] S
    simp only [dProb, dInts] at h78
    by_cases k : OkB p s.opn[i]
    · have hPi : ∀ h : i < s.opn.length, OkB p s.opn[i] := fun _ => k
      simp [hi, g0.eq, g1.eq, ↓g0.appE, ↓g1.appE, h78, k, wrap_up hi (by omega)]
      exact ⟨g0.app, g1.app⟩
    · have hr := nA (by rw [hA]; exact fun h => k (h _ (List.getElem_mem hi)))
      simp [hi, g0.eq, g1.eq, ↓g0.appE, ↓g1.appE, h78, k, hr]
  rintro env hp ⟨x5, x7, x8, x9, x10, x11, x12, x13, rfl, g0, g1⟩ hall
  have kA : A := by
    rw [hA]; intro x hx
    obtain ⟨i, hi, rfl⟩ := List.getElem_of_mem hx
    exact hall i hi hi
  simp [g1.eq]
  refine wT_all s.leaves.length (fun i => ∀ h : i < s.leaves.length, okLeaf p s.leaves[i])
    (fun i env hp => ∃ (x5 x6 x8 x9 x10 x11 x12 x13 : D) , env = [dProb p, dSrch s, .loc 0 0, .loc 1 0, dI 0, x5, x6, dI i, x8, x9, x10, x11, x12, x13] ∧ At hp 0 (.cells (dProb p).cellsL) ∧ At hp 1 (.cells (dSrch s).cellsL))
    ⟨_, _, _, _, _, _, _, _, rfl, g0, g1⟩ ?_ ?_
  · clear g0 g1
    rintro i env hp hi ⟨x5, x6, x8, x9, x10, x11, x12, x13, rfl, g0, g1⟩ hall
    have h170 := r170 p s.leaves[i] S
    simp only [dProb, dLeaf, dInts] at h170
    by_cases k : okLeaf p s.leaves[i]
    · have hPi : ∀ h : i < s.leaves.length, okLeaf p s.leaves[i] := fun _ => k
      simp [hi, g0.eq, g1.eq, ↓g0.appE, ↓g1.appE, h170, k, wrap_up hi (by omega)]
      exact ⟨g0.app, g1.app⟩
    · have hr := nB (by rw [hB]; exact fun h => k (h _ (List.getElem_mem hi)))
      simp [hi, g0.eq, g1.eq, ↓g0.appE, ↓g1.appE, h170, k, hr]
  clear g0 g1
  rintro env hp ⟨x5, x6, x8, x9, x10, x11, x12, x13, rfl, g0, g1⟩ hall2
  have kB : B := by
    rw [hB]; intro x hx
    obtain ⟨i, hi, rfl⟩ := List.getElem_of_mem hx
    exact hall2 i hi hi
  by_cases kC : C
  · have hr : R = 0 := by rw [hsk, if_pos ⟨⟨kA, kB⟩, kC⟩]
    simp [g0.eq, g1.eq, h171, kC, hr, frzL_leaf]
  · simp [g0.eq, g1.eq, h171, kC, nC kC, frzL_leaf]

theorem r134 (p : Prob) (s : Srch) (S : Small p) (M : SmS p s) : runP E (dL E) 134 [dProb p, dSrch s] = some (resCert p s) := by
  refine runP_T c134 (by simp) ?_
  have h155 := r155 p s S M
  have h153 := r153 s
  simp only [dProb, dSrch, dInts] at h155 h153
  by_cases h : sk p s = 0
  rotate_left
  · simp [t134, n134, h155, h, resCert, cert0, frzL_leaf]
  by_cases a : s.opn.length = 0
  rotate_left
  · simp only [a, decide_false] at h153
    simp [t134, n134, h155, h153, h, a, resCert, cert0, frzL_leaf]
  simp only [a, decide_true] at h153
  have a2 : s.opn = [] := List.eq_nil_of_length_eq_zero a
  simp only [a2, List.map_nil] at h155 h153
  by_cases b : s.value = []
  · simp only [b, List.map_nil] at h155 h153
    simp [t134, n134, h155, h153, h, a, a2, b, resCert, cert0, frzL_leaf]
  · have b2 : ¬ s.value.length = 0 := fun h => b (List.eq_nil_of_length_eq_zero h)
    simp [t134, n134, h155, h153, h, a, a2, b, b2, resCert, certS, frzL_leaf]

def lightB (p : Prob) : Bool := fewB p && decide (manyP p 400 ≤ 300)
theorem r129 (p : Prob) : runP E (dL E) 129 [dProb p] = some (.bool (lightB p)) := by
  refine runP_T c129 (by simp) ?_
  have h2 := r2 p
  simp only [dProb] at h2
  cases hf : fewB p with
  | false => simp [t129, n129, h2, hf, lightB]
  | true =>
    have S := few_small hf
    have h61 := r61 p 400 (fun v hv => S.choices v hv) (by decide) S.vars
    simp only [dProb] at h61
    simp [t129, n129, h2, hf, h61, lightB]

end Dv

/- Causes, plain: the problem without some of them, the delays, the shares. -/
namespace Dv

structure Cause where
  index : Int
  less : List (List Int)

/-- valid causes -/
structure OkC (p : Prob) (c : List Cause) : Prop where
  len : c.length ≤ 8
  idx : ∀ a, a ∈ c → 0 ≤ a.index ∧ a.index ≤ 1048576
  rows : ∀ a, a ∈ c → a.less.length = p.capacity.length
  wid : ∀ a, a ∈ c → ∀ r, r ∈ a.less → r.length = p.cells.length ∧ ∀ n, n ∈ r → 0 ≤ n ∧ n ≤ 4096

/-- places and those that a cause took -/
def addR (x y : List Int) : List Int := List.zipWith (fun a n => mn (a + n) 4096) x y
def capW (c : List Cause) (i : Nat) (row : List Int) : List Int := (c.map fun a => a.less.getD i []).foldl addR row
/-- the problem with the first causes alone -/
def withP (p : Prob) (c : List Cause) (k : Nat) : Prob := { p with capacity := (List.range p.capacity.length).map fun i => capW (c.drop k) i (p.capacity.getD i []) }

theorem addR_get {x y : List Int} {n : Nat} (h1 : n < x.length) (h2 : n < y.length) : (addR x y).getD n 0 = mn (x.getD n 0 + y.getD n 0) 4096 := by
  unfold addR
  simp only [List.getD_eq_getElem?_getD, List.getElem?_zipWith, List.getElem?_eq_getElem h1, List.getElem?_eq_getElem h2, Option.getD_some]
theorem addR_len {x y : List Int} (h : x.length = y.length) : (addR x y).length = x.length := by simp [addR, h]
/-- a row of places -/
def okR (n : Nat) (x : List Int) : Prop := x.length = n ∧ ∀ a, a ∈ x → 0 ≤ a ∧ a ≤ 4096
theorem okR_get {n : Nat} {x : List Int} (h : okR n x) {k : Nat} (hk : k < n) : 0 ≤ x.getD k 0 ∧ x.getD k 0 ≤ 4096 := by
  have hk' : k < x.length := by rw [h.1]; exact hk
  rw [List.getD_eq_getElem?_getD, List.getElem?_eq_getElem hk', Option.getD_some]
  exact h.2 _ (List.getElem_mem hk')
theorem okR_add {n : Nat} {x y : List Int} (hx : okR n x) (hy : okR n y) : okR n (addR x y) := by
  refine ⟨by rw [addR_len (hx.1.trans hy.1.symm)]; exact hx.1, fun a ha => ?_⟩
  obtain ⟨k, hk, rfl⟩ := List.getElem_of_mem ha
  have hl := addR_len (hx.1.trans hy.1.symm)
  have h1 : k < x.length := by omega
  have h2 : k < y.length := by rw [hy.1, ← hx.1]; exact h1
  have h3 := addR_get h1 h2
  rw [List.getD_eq_getElem?_getD (l := addR x y), List.getElem?_eq_getElem hk, Option.getD_some] at h3
  rw [h3]
  have a1 := okR_get hx (k := k) (by rw [← hx.1]; exact h1)
  have a2 := okR_get hy (k := k) (by rw [← hx.1]; exact h1)
  unfold mn; split <;> omega
theorem okR_fold {n : Nat} : ∀ {l : List (List Int)} {x : List Int}, okR n x → (∀ y, y ∈ l → okR n y) → okR n (l.foldl addR x)
  | [], _, h, _ => h
  | y :: l, x, h, hl => by
    rw [List.foldl_cons]
    exact okR_fold (okR_add h (hl y (by simp))) fun z hz => hl z (by simp [hz])
section
variable {p : Prob} {c : List Cause} (ok : OkP p) (C : OkC p c)
include ok C
theorem rows_ok {i : Nat} (hi : i < p.capacity.length) : ∀ y, y ∈ c.map (fun a => a.less.getD i []) → okR p.cells.length y := by
  intro y hy
  obtain ⟨a, ha, rfl⟩ := List.mem_map.1 hy
  have hl := C.rows a ha
  rw [List.getD_eq_getElem?_getD, List.getElem?_eq_getElem (by omega), Option.getD_some]
  exact C.wid a ha _ (List.getElem_mem (by omega))
theorem cap_ok {i : Nat} (hi : i < p.capacity.length) : okR p.cells.length (p.capacity.getD i []) := by
  rw [List.getD_eq_getElem?_getD, List.getElem?_eq_getElem hi, Option.getD_some]
  have h := ok.cap _ (List.getElem_mem hi)
  exact ⟨h.1, fun a ha => by have := h.2 a ha; unfold wi at this; omega⟩
omit ok in
theorem dropC {k : Nat} : OkC p (c.drop k) := ⟨by have := C.len; simp; omega, fun a ha => C.idx a (List.mem_of_mem_drop ha), fun a ha => C.rows a (List.mem_of_mem_drop ha), fun a ha => C.wid a (List.mem_of_mem_drop ha)⟩
theorem capW_ok {i : Nat} (hi : i < p.capacity.length) : okR p.cells.length (capW c i (p.capacity.getD i [])) := okR_fold (cap_ok ok C hi) (rows_ok ok C hi)
theorem withP_ok {k : Nat} : OkP (withP p c k) := by
  refine ⟨by simp only [withP, List.length_map, List.length_range]; exact ok.some, ok.nonneg, ok.incr, fun l hl => ?_, fun v hv => ?_⟩
  · obtain ⟨i, hi, rfl⟩ := List.mem_map.1 hl
    have h := capW_ok ok (dropC C (k := k)) (List.mem_range.1 hi)
    exact ⟨h.1, fun n hn => by have := h.2 n hn; unfold wi; omega⟩
  · obtain ⟨h1, h2, h3, h4, h5, h6⟩ := ok.vars v hv
    exact ⟨h1, h2, h3, fun n hn => by simpa [withP] using h4 n hn, h5, fun c hc => by
      obtain ⟨a1, a2, a3, a4, a5⟩ := h6 c hc
      exact ⟨a1, a2, a3, fun u hu => ⟨(a4 u hu).known, (a4 u hu).places⟩, a5⟩⟩
theorem withP_small (S : Small p) {k : Nat} : Small (withP p c k) := by
  refine ⟨S.cells, by simp only [withP, List.length_map, List.length_range]; exact S.cap, fun l hl => ?_, S.vars, S.leaves, S.choices, S.uses⟩
  obtain ⟨i, hi, rfl⟩ := List.mem_map.1 hl
  have h := capW_ok ok (dropC C (k := k)) (List.mem_range.1 hi)
  have := S.cells
  rw [h.1]; omega
end
theorem withP_all {p : Prob} {c : List Cause} {k : Nat} (h : c.length ≤ k) : withP p c k = p := by
  unfold withP
  rw [List.drop_of_length_le h]
  have : (List.range p.capacity.length).map (fun i => capW [] i (p.capacity.getD i [])) = p.capacity := by
    refine List.ext_getElem (by simp) fun i h1 h2 => ?_
    simp [capW, List.getElem?_eq_getElem h2]
  rw [this]

/-! the delays and the shares -/

/-- the delays of the best solution -/
def dlyL (p : Prob) : List Int := (p.vars.zip (solveS p).best).map fun x => (x.1.choices.getD x.2.toNat ⟨0, 0, 0, []⟩).delay
theorem dlyL_len {p : Prob} (S : Small p) (ok : OkP p) : (dlyL p).length = p.vars.length := by
  have := (solve_best S ok).1.2.2
  simp [dlyL, this]

structure Share where
  cause : Int
  vr : Int
  minutes : Int
deriving DecidableEq

/-- what changes from one list of delays to the next one -/
def chg (cause : Int) : Nat → List Int → List Int → List Share
  | i, b :: bs, n :: ns => (if n ≠ b then [⟨cause, i, n - b⟩] else []) ++ chg cause (i + 1) bs ns
  | _, _, _ => []
/-- the shares of stages, the first of which has a number -/
def shr : Nat → List Int → List (List Int) → List Share
  | _, _, [] => []
  | k, before, now :: r => chg ((k : Int) - 1) 0 before now ++ shr (k + 1) now r
def stages (p : Prob) (c : List Cause) : List (List Int) := (List.range (c.length + 1)).map fun k => dlyL (withP p c k)
def sharesL (p : Prob) (c : List Cause) : List Share := shr 0 (List.replicate p.vars.length 0) (stages p c)

end Dv

/- Causes, plain: the order of the shares, the first causes, a cause that takes nothing. -/
namespace Dv

theorem shr_app : ∀ {l r : List (List Int)} {k : Nat} {b : List Int}, shr k b (l ++ r) = shr k b l ++ shr (k + l.length) (l.getLastD b) r
  | [], r, k, b => by simp [shr]
  | n :: l, r, k, b => by
    simp only [List.cons_append, shr, shr_app (l := l), List.getLastD_cons, List.length_cons, List.append_assoc]
    rw [show k + 1 + l.length = k + (l.length + 1) from by omega]
end Dv

namespace Dv
attribute [local simp] wT_skip wK wT_ret wT_exit wR wRp wT_seq wC wT_block rTS_nil rTS_asg rTS_eff rTS_effk rTS_effg gdV_b binD_and binD_or binD_xor stepOp_call3 closed_bool closed_int closed_tup flatB_bool flatB_int frzX_tup frzX_exact frz1_exact frz1_none frz1_int ob_some obP_some iteD_b condP_b xv_v xv_c xv_ite xv_bin_tt xv_bin_tc xv_bin_ct xv_bin_cc xv_un_t xv_conv_t xv_load xv_len xv_faddr xv_field xv_iaddr_tt xv_iaddr_tc xv_index_tt xv_index_tc xv_lookup_tt xv_max_tt xv_max_tc xv_max_ct xv_min_tt xv_min_tc xv_min_ct xv_slice_lo_t xv_slice_lo_c xv_slice_hi_t xv_slice_all xv_call xv_bslice bsliceV xv_build buildV xv_mkfn zeroE fillE buildD fillD List.replicate xvs_nil xvs_cons callV_fn frz_bool frz_int frz_imm frz_agg frz_tup frz_fn frz_iptr frzL_nil frzL_one frzL_dI frzL_cell frzL_use frzL_ints frzL_choice frzL_var depth dCell dUse dInts dChoice dVar dProb tStart addO Ret flat_dI flat_rep chunk_dI
 binD_add binD_sub binD_mul binD_eql binD_neq binD_lss binD_leq binD_gtr binD_geq binD_quo binD_rem binD_beql binD_bneq binD_aeql binD_aneq unD_not unD_neg lenD_imm lenD_sl lenD_str readO_cells readO_frozen loadD_loc loadD_iptr iaddrD_imm iaddrD_sl iaddrD_loc faddrD_loc faddrD_iptr fieldD_agg indexD_agg indexD_str cellsL_bool stor_bool atom_bool cellsL_int stor_int atom_int cellsL_str stor_str atom_str cellsL_imm stor_imm atom_imm cellsL_sl stor_sl atom_sl cellsL_loc stor_loc atom_loc cellsL_iptr stor_iptr atom_iptr cellsL_map stor_map atom_map cellsL_fn stor_fn atom_fn cellsL_agg stor_agg cellsL_nilfn stor_nilfn atom_nilfn cellsL_nilp stor_nilp atom_nilp takeC_z takeC_s ofCells_ag ofCells_one ag_bool ag_int ag_str ag_slice ag_struct ag_arr ag_map ag_ptr ag_func gOf_t gOf_c gOf_f kv_cons putE_some putE_none oneRes_one oneRes_two oneRes_three getAll_nil getAll_v getAll_c maxiD_two miniD_two extV_tup xv_ext stepOp_box stepOp_alloc stepOp_store writeO_cells storeD_loc setCells_nil setCells_cons stepOp_mkmap stepOp_mapset stepOp_call1 stepOp_call2 stepOp_app2 stepOp_app1 stepOp_bslice stepOp_mkslice mapO_map lookupD_some lookupD_ok mapsetD_some keyOk_agg kindsL_nil kindsL_bool kindsL_int eqL_nil eqL_cons atomEq_bool atomEq_int frz_sl tokO_tok app0_step app0_exact app0_tok frz_loc oneRes_nil listOf_imm
  ty_0 ty_1 ty_2 ty_3 ty_4 ty_6 ty_7 ty_9 ty_10 ty_11 ty_14 ty_15 ty_16 ty_17 ty_18 ty_19 ty_20 ty_21 ty_22 ty_26 ty_28 ty_29 ty_31 ty_32 ty_33 ty_35 ty_36 ty_37 ty_38 ty_39 ty_40
attribute [local congr] wT_congr ob_congr obP_congr iteD_congr condP_congr gdV_congr


abbrev dCause (c : Cause) : D := .agg [dI c.index, .imm .none (c.less.map dInts)]
abbrev dShare (s : Share) : D := .agg [dI s.cause, dI s.vr, dI s.minutes]

theorem frzL_cause {hp : List Obj} {n : Nat} {l : List Cause} : frzL (frz hp (n + 4)) (l.map dCause) = some (l.map dCause) := frzL_map fun x _ => by
  rw [frz_agg]
  simp only [frzL_one, frz_int, ob_some, frz_imm, frzL_ints, frzL_dI, Option.map_some, frzL_nil]
theorem frzL_share {hp : List Obj} {n : Nat} {l : List Share} : frzL (frz hp (n + 4)) (l.map dShare) = some (l.map dShare) := frzL_map fun x _ => by
  rw [frz_agg]
  simp only [frzL_one, frz_int, ob_some, frzL_nil, Option.map_some]

/-- few causes -/
structure SmC (c : List Cause) : Prop where
  len : c.length ≤ 100
  less : ∀ a, a ∈ c → a.less.length ≤ 1000
  rows : ∀ a, a ∈ c → ∀ r, r ∈ a.less → r.length ≤ 1000

def offC (n : Int) : Bool := decide (n < 0) || decide (4096 < n)
def wrongR (p : Prob) (l : List Int) : Bool := !decide (l.length = p.cells.length) || l.any offC
def wrongC (p : Prob) (a : Cause) : Bool := decide (a.index < 0) || decide (1048576 < a.index) || !decide (a.less.length = p.capacity.length) || a.less.any (wrongR p)

theorem r200 (n : Int) : runP E (dL E) 200 [dI n] = some (.bool (offC n)) := by
  refine runP_T c200 (by simp) ?_
  unfold offC
  by_cases h : n < 0 <;> simp [t200, n200, h]

theorem r199 (p : Prob) (l : List Int) (hl : l.length ≤ 1000) (hc : p.cells.length ≤ 1000) : runP E (dL E) 199 [dInts l, .iptr (dProb p).cellsL] = some (.bool (wrongR p l)) := by
  refine runP_T c199 (by simp) ?_
  have h71 := r71 l 200 offC r200 (by omega)
  simp only [dInts] at h71
  unfold wrongR
  by_cases h : l.length = p.cells.length
  · simp [t199, n199, h, h71]
  · have h' : ¬ (l.length : Int) = p.cells.length := by omega
    simp [t199, n199, h, h']

set_option maxHeartbeats 4000000 in
theorem g113 (p : Prob) (L : List (List Int)) (k : Nat) (f : List Int → Bool) (hf : ∀ l, l ∈ L → runP E (dL E) k [dInts l, .iptr (dProb p).cellsL] = some (.bool (f l))) (hL : L.length ≤ 1000000) :
    runP E (dL E) 113 [.imm .none (L.map dInts), .fn k [.iptr (dProb p).cellsL]] = some (dI (idxI f L 0)) := by
  refine runP_T c113 (by simp) ?_
  generalize hB : idxI f L 0 = B
  simp [t113, n113]
  refine wT_up L.length (fun i env hp => ∃ (x3 x6 x7 : D) , env = [.imm .none (L.map dInts), .fn k [.iptr (dProb p).cellsL], dI 0, x3, dI L.length, dI i, x6, x7] ∧ idxI f (L.drop i) i = B) 0 (by omega) ⟨_, _, _, rfl, by simpa using hB⟩ ?_
  rintro i env hp hi ⟨x3, x6, x7, rfl, hm⟩
  by_cases hlt : i < L.length
  · rw [drop_cons hlt] at hm
    have hk := hf L[i] (List.getElem_mem hlt)
    simp only [dInts] at hk
    simp at hk
    simp only [idxI] at hm
    by_cases h : f L[i] = true
    · rw [if_pos h] at hm
      clear hB
      subst hm
      simp [hlt, hk, h]
    · rw [if_neg h] at hm
      have h' : f L[i] = false := by simpa using h
      simp [hlt, hk, h', hm, wrap_up hlt (by omega)]
  · have : i = L.length := by omega
    subst this
    rw [List.drop_length] at hm
    simp only [idxI] at hm
    simp [hm]

theorem g94 (p : Prob) (L : List (List Int)) (k : Nat) (f : List Int → Bool) (hf : ∀ l, l ∈ L → runP E (dL E) k [dInts l, .iptr (dProb p).cellsL] = some (.bool (f l))) (hL : L.length ≤ 1000000) :
    runP E (dL E) 94 [.imm .none (L.map dInts), .fn k [.iptr (dProb p).cellsL]] = some (.bool (L.any f)) := by
  refine runP_T c94 (by simp) ?_
  have h := g113 p L k f hf hL
  simp at h
  simp [t94, n94, h, idxI_any]

theorem r193 (p : Prob) (a : Cause) (S : Small p) (h1 : a.less.length ≤ 1000) (h2 : ∀ r, r ∈ a.less → r.length ≤ 1000) : runP E (dL E) 193 [dCause a, .iptr (dProb p).cellsL] = some (.bool (wrongC p a)) := by
  refine runP_T c193 (by simp) ?_
  have s1 := S.cells
  have s2 := S.cap
  have h94 := g94 p a.less 199 (wrongR p) (fun l hl => r199 p l (h2 l hl) (by omega)) (by omega)
  simp only [dProb, dInts, cellsL_agg] at h94
  unfold wrongC
  by_cases q1 : a.index < 0
  · simp [t193, n193, q1]
  by_cases q2 : 1048576 < a.index
  · simp [t193, n193, q1, q2]
  by_cases q3 : a.less.length = p.capacity.length
  · simp [t193, n193, q1, q2, q3, h94, frzL_leaf, frzL_cause]
  · have q3' : ¬ (a.less.length : Int) = p.capacity.length := by omega
    simp [t193, n193, q1, q2, q3, q3']

set_option maxHeartbeats 4000000 in
theorem r201 (p : Prob) (c : List Cause) (S : Small p) (M : SmC c) : runP E (dL E) 201 [.imm .none (c.map dCause), .fn 193 [.iptr (dProb p).cellsL]] = some (dI (idxI (wrongC p) c 0)) := by
  refine runP_T c201 (by simp) ?_
  have m1 := M.len
  generalize hB : idxI (wrongC p) c 0 = B
  simp [t201, n201]
  refine wT_up c.length (fun i env hp => ∃ (x3 x6 x7 : D) , env = [.imm .none (c.map dCause), .fn 193 [.iptr (dProb p).cellsL], dI 0, x3, dI c.length, dI i, x6, x7] ∧ idxI (wrongC p) (c.drop i) i = B) 0 (by omega) ⟨_, _, _, rfl, by simpa using hB⟩ ?_
  rintro i env hp hi ⟨x3, x6, x7, rfl, hm⟩
  by_cases hlt : i < c.length
  · rw [drop_cons hlt] at hm
    have hk := r193 p c[i] S (M.less _ (List.getElem_mem hlt)) (M.rows _ (List.getElem_mem hlt))
    simp only [dCause, dProb, dInts, cellsL_agg] at hk
    simp only [idxI] at hm
    by_cases h : wrongC p c[i] = true
    · rw [if_pos h] at hm
      clear hB
      subst hm
      simp [hlt, hk, h, frzL_leaf, frzL_cause]
    · rw [if_neg h] at hm
      have h' : wrongC p c[i] = false := by simpa using h
      simp [hlt, hk, h', hm, wrap_up hlt (by omega), frzL_leaf, frzL_cause]
  · have : i = c.length := by omega
    subst this
    rw [List.drop_length] at hm
    simp only [idxI] at hm
    simp [hm]

theorem r194 (p : Prob) (c : List Cause) (S : Small p) (M : SmC c) : runP E (dL E) 194 [.imm .none (c.map dCause), .fn 193 [.iptr (dProb p).cellsL]] = some (.bool (c.any (wrongC p))) := by
  refine runP_T c194 (by simp) ?_
  have h := r201 p c S M
  simp only [dCause, dProb, dInts, cellsL_agg] at h
  simp [t194, n194, h, idxI_any, frzL_leaf, frzL_cause]

theorem wrongR_iff {p : Prob} {l : List Int} : wrongR p l = false ↔ l.length = p.cells.length ∧ ∀ n, n ∈ l → 0 ≤ n ∧ n ≤ 4096 := by
  unfold wrongR offC
  simp only [Bool.or_eq_false_iff, Bool.not_eq_false', decide_eq_true_eq, List.any_eq_false, Bool.or_eq_true, not_or]
  refine ⟨fun h => ⟨h.1, fun n hn => ?_⟩, fun h => ⟨h.1, fun n hn => ?_⟩⟩
  · have := h.2 n hn; omega
  · have := h.2 n hn; omega
theorem okC_iff {p : Prob} {c : List Cause} : OkC p c ↔ c.length ≤ 8 ∧ c.any (wrongC p) = false := by
  rw [List.any_eq_false]
  constructor
  · intro C
    refine ⟨C.len, fun a ha => ?_⟩
    have h1 := C.idx a ha
    have h2 := C.rows a ha
    have h3 := C.wid a ha
    have e : a.less.any (wrongR p) = false := by
      rw [List.any_eq_false]
      intro r hr
      rw [Bool.not_eq_true]
      exact wrongR_iff.2 (h3 r hr)
    have q1 : ¬ a.index < 0 := by omega
    have q2 : ¬ 1048576 < a.index := by omega
    simp [wrongC, e, h2, q1, q2]
  · rintro ⟨h0, h⟩
    have key : ∀ a, a ∈ c → (0 ≤ a.index ∧ a.index ≤ 1048576) ∧ a.less.length = p.capacity.length ∧ ∀ r, r ∈ a.less → wrongR p r = false := fun a ha => by
      have := h a ha
      unfold wrongC at this
      rw [Bool.not_eq_true] at this
      simp only [Bool.or_eq_false_iff, Bool.not_eq_false', decide_eq_true_eq, decide_eq_false_iff_not] at this
      obtain ⟨⟨⟨a1, a2⟩, a3⟩, a4⟩ := this
      rw [List.any_eq_false] at a4
      exact ⟨⟨by omega, by omega⟩, a3, fun r hr => by simpa using a4 r hr⟩
    exact ⟨h0, fun a ha => (key a ha).1, fun a ha => (key a ha).2.1, fun a ha r hr => wrongR_iff.1 ((key a ha).2.2 r hr)⟩

open Classical in
/-- the error of causes -/
noncomputable def ckC (p : Prob) (c : List Cause) : Int := if OkP p then (if OkC p c then 0 else 420) else 270

set_option maxHeartbeats 4000000 in
theorem r181 (p : Prob) (c : List Cause) (S : Small p) (M : SmC c) : runP E (dL E) 181 [dProb p, .imm .none (c.map dCause)] = some (dI (ckC p c)) := by
  refine runP_T c181 (by simp) ?_
  have h15 := r15 p S
  have m1 := M.len
  simp only [dProb] at h15
  by_cases h0 : OkP p
  rotate_left
  · have e : ck p = 270 := by simp [ck, h0]
    simp [t181, n181, h15, e, ckC, h0]
  have e : ck p = 0 := by simp [ck, h0]
  by_cases h8 : 8 < c.length
  · have hn : ¬ OkC p c := fun h => by have := h.len; omega
    have h8' : (8 : Int) < c.length := by omega
    simp [t181, n181, h15, e, ckC, h0, hn, h8', rTS_effh, gdD_b]
  have h8' : ¬ (8 : Int) < c.length := by omega
  have h194 := r194 p c S M
  simp only [dCause, dProb, dInts, cellsL_agg] at h194
  by_cases h2 : c.any (wrongC p) = true
  · have hn : ¬ OkC p c := fun h => by have := (okC_iff.1 h).2; rw [h2] at this; cases this
    rw [h2] at h194
    simp [t181, n181, h15, e, ckC, h0, hn, h8', rTS_effh, gdD_b, h194, frzL_leaf, frzL_cause]
  · have h2' : c.any (wrongC p) = false := by simpa using h2
    have hn : OkC p c := okC_iff.2 ⟨by omega, h2'⟩
    rw [h2'] at h194
    simp [t181, n181, h15, e, ckC, h0, hn, h8', rTS_effh, gdD_b, h194, frzL_leaf, frzL_cause]

theorem r210 (n a b : Int) : runP E (dL E) 210 [dI n, dI a, dI b] = some (.bool (decide (a ≤ n) && decide (n ≤ b))) := by
  refine runP_T c210 (by simp) ?_
  by_cases h : a ≤ n <;> simp [t210, n210, h]

set_option maxHeartbeats 8000000 in
theorem r208 (p : Prob) (a : Cause) (S : Small p) (h1 : a.less.length ≤ 1000) (h2 : ∀ r, r ∈ a.less → r.length ≤ 1000) : runP E (dL E) 208 [dProb p, dCause a] = some (.bool (!wrongC p a)) := by
  refine runP_T c208 (by simp) ?_
  have s1 := S.cells
  have s2 := S.cap
  generalize hB : (!wrongC p a) = B
  unfold wrongC at hB
  by_cases hi : 0 ≤ a.index ∧ a.index ≤ 1048576
  rotate_left
  · have hb : (decide (0 ≤ a.index) && decide (a.index ≤ 1048576)) = false := by
      simp only [Bool.and_eq_false_iff, decide_eq_false_iff_not]; omega
    have hB' : B = false := by
      rw [← hB]
      by_cases h : a.index < 0
      · simp [h]
      · have : 1048576 < a.index := by omega
        simp [this]
    simp [t208, n208, r210, hb, hB']
  have hb : (decide (0 ≤ a.index) && decide (a.index ≤ 1048576)) = true := by simp [hi.1, hi.2]
  have n1 : ¬ a.index < 0 := by omega
  have n2 : ¬ 1048576 < a.index := by omega
  by_cases hl : a.less.length = p.capacity.length
  rotate_left
  · have hl' : ¬ (a.less.length : Int) = p.capacity.length := by omega
    have hB' : B = false := by rw [← hB]; simp [hl]
    simp [t208, n208, r210, hi.1, hi.2, hl, hl', hB']
  have hl' : (a.less.length : Int) = p.capacity.length := by omega
  simp [n1, n2, hl] at hB
  simp [t208, n208, r210, hi.1, hi.2, hl, hl']
  have hBt : (∀ r, r ∈ a.less → wrongR p r = false) → B = true := fun h => by
    have : a.less.any (wrongR p) = false := by rw [List.any_eq_false]; intro r hr; rw [h r hr]; simp
    rw [this] at hB
    cases B with
    | true => rfl
    | false => cases hB
  have hBf : ∀ r, r ∈ a.less → wrongR p r = true → B = false := fun r hr h => by
    cases hBB : B with
    | false => rfl
    | true =>
      rw [hBB, Bool.not_true, List.any_eq_false] at hB
      exact absurd h (hB r hr)
  clear hB
  obtain ⟨P, hP⟩ : ∃ P : Nat → Prop, P = fun i => ∀ (h : i < a.less.length), wrongR p a.less[i] = false := ⟨_, rfl⟩
  refine wT_all a.less.length P
    (fun i env hp => ∃ (x6 x7 x8 x9 x10 x11 : D) , env = [dProb p, dCause a, .loc 0 0, .loc 1 0, .bool false, dI i, x6, x7, x8, x9, x10, x11] ∧ At hp 0 (.cells (dProb p).cellsL) ∧ At hp 1 (.cells (dCause a).cellsL))
    ⟨_, _, _, _, _, _, rfl, by simp [At], by simp [At]⟩ ?_ ?_
  · rintro i env hp hi ⟨x6, x7, x8, x9, x10, x11, rfl, g0, g1⟩ hall
    have hr := h2 _ (List.getElem_mem hi)
    by_cases k1 : a.less[i].length = p.cells.length
    · have k1' : (a.less[i].length : Int) = p.cells.length := by omega
      obtain ⟨r, hrd⟩ : ∃ r, r = a.less[i] := ⟨_, rfl⟩
      have hrm : r ∈ a.less := by rw [hrd]; exact List.getElem_mem hi
      have hgi : a.less[i]? = some r := by rw [List.getElem?_eq_getElem hi, hrd]
      rw [← hrd] at hr k1 k1'
      simp [hi, g0.eq, g1.eq, ↓g0.appE, ↓g1.appE, ← hrd, k1, k1']
      have hgi2 : a.less[i] = r := hrd.symm
      obtain ⟨P2, hP2⟩ : ∃ P2 : Nat → Prop, P2 = fun k => ∀ (h : k < r.length), offC r[k] = false := ⟨_, rfl⟩
      refine wT_all r.length P2
        (fun k env hq => ∃ (x7 x8 x9 x10 x11 : D) , env = [dProb p, dCause a, .loc 0 0, .loc 1 0, .bool false, dI i, dI k, x7, x8, x9, x10, x11] ∧ At hq 0 (.cells (dProb p).cellsL) ∧ At hq 1 (.cells (dCause a).cellsL))
        ⟨_, _, _, _, _, rfl, g0.app, g1.app⟩ ?_ ?_
      · rintro k env hq hk ⟨x7, x8, x9, x10, x11, rfl, q0, q1⟩ hall2
        by_cases w1 : 0 ≤ r[k] ∧ r[k] ≤ 4096
        · have hoff : offC r[k] = false := by
            have a1 : ¬ r[k] < 0 := by omega
            have a2 : ¬ 4096 < r[k] := by omega
            simp [offC, a1, a2]
          have hPk : P2 k := by rw [hP2]; exact fun _ => hoff
          simp [hi, hk, q0.eq, q1.eq, hgi2, r210, w1.1, w1.2, hPk, wrap_up hk (by omega)]
          exact ⟨q0, q1⟩
        · have hoff : offC r[k] = true := by
            unfold offC
            by_cases a1 : r[k] < 0
            · simp [a1]
            · have a2 : 4096 < r[k] := by omega
              simp [a2]
          have hb2 : (decide (0 ≤ r[k]) && decide (r[k] ≤ 4096)) = false := by
            simp only [Bool.and_eq_false_iff, decide_eq_false_iff_not]; omega
          have hB' := hBf r hrm (by
            unfold wrongR
            rw [Bool.or_eq_true, List.any_eq_true]
            exact .inr ⟨r[k], List.getElem_mem hk, hoff⟩)
          simp [hi, hk, q0.eq, q1.eq, hgi2, r210, hb2, hB']
      · rintro env hq ⟨x7, x8, x9, x10, x11, rfl, q0, q1⟩ hall2
        rw [hP2] at hall2
        have hPi : P i := by
          rw [hP]
          intro h
          have : a.less[i] = r := hgi2
          rw [this]
          unfold wrongR
          rw [Bool.or_eq_false_iff, List.any_eq_false]
          refine ⟨by simp [k1], fun x hx => ?_⟩
          obtain ⟨j, hj, rfl⟩ := List.getElem_of_mem hx
          rw [hall2 j hj hj]; simp
        simp [hi, q0.eq, q1.eq, hgi2, hPi, wrap_up hi (by omega)]
        exact ⟨q0, q1⟩
    · have k1' : ¬ (a.less[i].length : Int) = p.cells.length := by omega
      have hB' := hBf _ (List.getElem_mem hi) (by simp [wrongR, k1])
      simp [hi, g0.eq, g1.eq, ↓g0.appE, ↓g1.appE, k1, k1', hB']
  · rintro env hp ⟨x6, x7, x8, x9, x10, x11, rfl, g0, g1⟩ hall
    rw [hP] at hall
    have hB' := hBt fun r hr => by
      obtain ⟨j, hj, rfl⟩ := List.getElem_of_mem hr
      exact hall j hj hj
    simp [g1.eq, hB']

set_option maxHeartbeats 8000000 in
theorem r206 (p : Prob) (c : List Cause) (S : Small p) (M : SmC c) : runP E (dL E) 206 [dProb p, .imm .none (c.map dCause)] = some (dI (ckC p c)) := by
  refine runP_T c206 (by simp) ?_
  have h19 := r19 p S
  have m1 := M.len
  simp only [dProb] at h19
  by_cases h0 : OkP p
  rotate_left
  · have e : ck p = 270 := by simp [ck, h0]
    simp [t206, n206, h19, e, ckC, h0]
  have e : ck p = 0 := by simp [ck, h0]
  by_cases h8 : 8 < c.length
  · have hn : ¬ OkC p c := fun h => by have := h.len; omega
    have h8' : (8 : Int) < c.length := by omega
    simp [t206, n206, h19, e, ckC, h0, hn, h8']
  have h8' : ¬ (8 : Int) < c.length := by omega
  obtain ⟨B, hB⟩ : ∃ B, B = ckC p c := ⟨_, rfl⟩
  have hBf : ∀ a, a ∈ c → wrongC p a = true → B = 420 := fun a ha h => by
    have hn : ¬ OkC p c := fun hc => by
      have := (okC_iff.1 hc).2
      rw [List.any_eq_false] at this
      exact this a ha h
    rw [hB]; simp [ckC, h0, hn]
  have hBt : (∀ a, a ∈ c → wrongC p a = false) → B = 0 := fun h => by
    have hn : OkC p c := okC_iff.2 ⟨by omega, by
      rw [List.any_eq_false]
      intro a ha; rw [h a ha]; simp⟩
    rw [hB]; simp [ckC, h0, hn]
  rw [← hB]
  clear hB
  simp [t206, n206, h19, e, h8']
  obtain ⟨P, hP⟩ : ∃ P : Nat → Prop, P = fun i => ∀ (h : i < c.length), wrongC p c[i] = false := ⟨_, rfl⟩
  refine wT_all c.length P
    (fun i env hp => ∃ (x4 x6 x7 x8 x9 : D) , env = [dProb p, .imm .none (c.map dCause), .loc 0 0, dI 0, x4, dI i, x6, x7, x8, x9] ∧ At hp 0 (.cells (dProb p).cellsL))
    ⟨_, _, _, _, _, rfl, by simp [At]⟩ ?_ ?_
  · rintro i env hp hi ⟨x4, x6, x7, x8, x9, rfl, g0⟩ hall
    have hk := r208 p c[i] S (M.less _ (List.getElem_mem hi)) (M.rows _ (List.getElem_mem hi))
    simp only [dCause, dProb, dInts] at hk
    cases hw : wrongC p c[i] with
    | true =>
      have hB' := hBf _ (List.getElem_mem hi) hw
      simp [hi, g0.eq, ↓g0.appE, hk, hw, hB', frzL_ints]
    | false =>
      have hPi : P i := by rw [hP]; exact fun _ => hw
      simp [hi, g0.eq, ↓g0.appE, hk, hw, hPi, frzL_ints, wrap_up hi (by omega)]
      exact g0.app
  · rintro env hp ⟨x4, x6, x7, x8, x9, rfl, g0⟩ hall
    rw [hP] at hall
    have hB' := hBt fun r hr => by
      obtain ⟨j, hj, rfl⟩ := List.getElem_of_mem hr
      exact hall j hj hj
    simp [hB']

/-- valid multipliers -/
structure OkM (p : Prob) (m : List (List Int)) : Prop where
  len : m.length = p.capacity.length
  rows : ∀ l, l ∈ m → l.length = p.cells.length ∧ ∀ n, n ∈ l → 0 ≤ n ∧ n ≤ 65536

open Classical in
noncomputable def mk (p : Prob) (m : List (List Int)) : Int := if OkP p then (if OkM p m then 0 else 290) else 270

def mu (m : List (List Int)) (leaf : Int) (k : Nat) : Int := (m.getD leaf.toNat []).getD k 0

end Dv

/- Plain facts: the order of the variables does not matter, and without one of them nothing becomes greater. -/
namespace Dv

/-- the same problem with other variables -/
def other (p : Prob) (vs : List Var) : Prob := { p with vars := vs }

end Dv

/- Better multipliers: what is meant. -/
namespace Dv

/-! rows in the heap, each at a place of its own -/

/-- the head of a row -/
def hd (n id : Nat) : D := if n = 0 then .imm .exact [] else .sl id 0 n 1 false true
end Dv

namespace Dv
attribute [local simp] wT_skip wK wT_ret wT_exit wR wRp wT_seq wC wT_block rTS_nil rTS_asg rTS_eff rTS_effk rTS_effg gdV_b binD_and binD_or binD_xor stepOp_call3 closed_bool closed_int closed_tup flatB_bool flatB_int frzX_tup frzX_exact frz1_exact frz1_none frz1_int ob_some obP_some iteD_b condP_b xv_v xv_c xv_ite xv_bin_tt xv_bin_tc xv_bin_ct xv_bin_cc xv_un_t xv_conv_t xv_load xv_len xv_faddr xv_field xv_iaddr_tt xv_iaddr_tc xv_index_tt xv_index_tc xv_lookup_tt xv_max_tt xv_max_tc xv_max_ct xv_min_tt xv_min_tc xv_min_ct xv_slice_lo_t xv_slice_lo_c xv_slice_hi_t xv_slice_all xv_call xv_bslice bsliceV xv_build buildV xv_mkfn zeroE fillE buildD fillD List.replicate xvs_nil xvs_cons callV_fn frz_bool frz_int frz_imm frz_agg frz_tup frz_fn frz_iptr frzL_nil frzL_one frzL_dI frzL_cell frzL_use frzL_ints frzL_choice frzL_var depth dCell dUse dInts dChoice dVar dProb tStart addO Ret flat_dI flat_rep chunk_dI
 binD_add binD_sub binD_mul binD_eql binD_neq binD_lss binD_leq binD_gtr binD_geq binD_quo binD_rem binD_beql binD_bneq binD_aeql binD_aneq unD_not unD_neg lenD_imm lenD_sl lenD_str readO_cells readO_frozen loadD_loc loadD_iptr iaddrD_imm iaddrD_sl iaddrD_loc faddrD_loc faddrD_iptr fieldD_agg indexD_agg indexD_str cellsL_bool stor_bool atom_bool cellsL_int stor_int atom_int cellsL_str stor_str atom_str cellsL_imm stor_imm atom_imm cellsL_sl stor_sl atom_sl cellsL_loc stor_loc atom_loc cellsL_iptr stor_iptr atom_iptr cellsL_map stor_map atom_map cellsL_fn stor_fn atom_fn cellsL_agg stor_agg cellsL_nilfn stor_nilfn atom_nilfn cellsL_nilp stor_nilp atom_nilp takeC_z takeC_s ofCells_ag ofCells_one ag_bool ag_int ag_str ag_slice ag_struct ag_arr ag_map ag_ptr ag_func gOf_t gOf_c gOf_f kv_cons putE_some putE_none oneRes_one oneRes_two oneRes_three getAll_nil getAll_v getAll_c maxiD_two miniD_two extV_tup xv_ext stepOp_box stepOp_alloc stepOp_store writeO_cells storeD_loc setCells_nil setCells_cons stepOp_mkmap stepOp_mapset stepOp_call1 stepOp_call2 stepOp_app2 stepOp_app1 stepOp_bslice stepOp_mkslice mapO_map lookupD_some lookupD_ok mapsetD_some keyOk_agg kindsL_nil kindsL_bool kindsL_int eqL_nil eqL_cons atomEq_bool atomEq_int frz_sl tokO_tok app0_step app0_exact app0_tok frz_loc oneRes_nil listOf_imm
  ty_0 ty_1 ty_2 ty_3 ty_4 ty_6 ty_7 ty_9 ty_10 ty_11 ty_14 ty_15 ty_16 ty_17 ty_18 ty_19 ty_20 ty_21 ty_22 ty_26 ty_28 ty_29 ty_31 ty_32 ty_33 ty_35 ty_36 ty_37 ty_38 ty_39 ty_40
attribute [local congr] wT_congr ob_congr obP_congr iteD_congr condP_congr gdV_congr


theorem s96 (r : List Int) (h : r.length ≤ 1000) (hp : List Obj) : ∃ t, runS E (dL E) 96 [dInts r] hp = some (hd r.length hp.length, hp ++ t) ∧ (r.length ≠ 0 → t = [.cells (r.map dI)]) := by
  obtain ⟨d, hp', h1, h2, h3⟩ := runS_T c96 (args := [dInts r]) (hp := hp) (R := fun d hp' => d = hd r.length hp.length ∧ ∃ t, hp' = hp ++ t ∧ (r.length ≠ 0 → t = [.cells (r.map dI)])) (by simp) (by
    by_cases h0 : r.length = 0
    · have : r = [] := List.eq_nil_of_length_eq_zero h0
      subst this
      simp [t96, n96, hd, appendM]
      exact ⟨[], by simp [applyEf]⟩
    · have h4 : ¬ r = [] := fun e => h0 (by rw [e]; rfl)
      have a := fun hp id => app1_nums (hp := hp) (id := id) (cs := r) (by omega) (by omega)
      simp [t96, n96, hd, a, applyEf, h0, h4])
  subst h2
  obtain ⟨t, rfl, h4⟩ := h3
  exact ⟨t, h1, h4⟩

theorem frzL_app {f : D → Option D} : ∀ {a b : List D}, frzL f (a ++ b) = ob (frzL f a) fun x => ob (frzL f b) fun y => some (x ++ y)
  | [], b => by
    simp only [List.nil_append, frzL_nil, ob_some]
    cases frzL f b <;> rfl
  | x :: a, b => by
    simp only [List.cons_append, frzL_one, frzL_app (a := a) (b := b)]
    cases f x with
    | none => rfl
    | some x' =>
      simp only [ob_some]
      cases frzL f a with
      | none => rfl
      | some a' =>
        simp only [ob_some]
        cases frzL f b <;> rfl

theorem slice_lo {t e : Nat} (hk : (E.ty t).k = .slice e) {l : List D} (hf : headFits (E.ty e).size l = true) {n : Nat} (h : n ≤ l.length) : sliceD E t (.imm .none l) (some (.int .i64 (n : Int))) none none = some (.imm .none (l.drop n)) := by
  simp only [sliceD, hk, bnd, Int.toNat_natCast, Option.map_none, sliceSpare, hf]
  have h0 : (0 : Int) ≤ n := by omega
  simp only [h0, h, if_true, Nat.le_refl, and_self]
  rw [List.take_of_length_le (by simp)]

/-- a row while places are added -/
def mixA (x y : List Int) (k : Nat) : List Int := (addR x y).take k ++ x.drop k
theorem mixA_len {n : Nat} {x y : List Int} (hx : x.length = n) (hy : y.length = n) {k : Nat} : (mixA x y k).length = n := by
  have := addR_len (hx.trans hy.symm)
  simp [mixA, this, hx]; omega
theorem mixA_get {n : Nat} {x y : List Int} (hx : x.length = n) (hy : y.length = n) {k : Nat} (hk : k < x.length) : (mixA x y k)[k]? = some x[k] := by
  have := addR_len (hx.trans hy.symm)
  unfold mixA
  rw [List.getElem?_append_right (by simp; omega)]
  simp [this, Nat.min_eq_left (Nat.le_of_lt hk), hk]
theorem mixA_set {n : Nat} {x y : List Int} (hx : x.length = n) (hy : y.length = n) {k : Nat} (hk : k < x.length) (hk' : k < y.length) : (mixA x y k).set k (mn (x[k] + y[k]) 4096) = mixA x y (k + 1) := by
  have h0 := addR_len (hx.trans hy.symm)
  have hk2 : k < (addR x y).length := by omega
  have e : (addR x y)[k] = mn (x[k] + y[k]) 4096 := by simp [addR]
  unfold mixA
  rw [List.set_append_right _ _ (by simp; omega), List.take_succ_eq_append_getElem hk2, e]
  have : k - ((addR x y).take k).length = 0 := by simp; omega
  rw [this, List.drop_eq_getElem_cons hk, List.set_cons_zero, List.append_assoc]
  rfl
theorem mixA_zero {x y : List Int} : mixA x y 0 = x := by simp [mixA]
theorem mixA_all {n : Nat} {x y : List Int} (hx : x.length = n) (hy : y.length = n) : mixA x y n = addR x y := by
  have h0 := addR_len (hx.trans hy.symm)
  unfold mixA
  rw [List.take_of_length_le (by omega), List.drop_of_length_le (by omega), List.append_nil]

theorem slice_rest {x : List Int} {ys : List (List Int)} : sliceD E 9 (.imm .none (.imm .none (x.map dI) :: ys.map dInts)) (some (.int .i64 1)) none none = some (.imm .none (ys.map dInts)) := by
  have := slice_lo (t := 9) (e := 6) rfl (l := .imm .none (x.map dI) :: ys.map dInts) (by simp [headFits, E, tyTab, D.cellsL]) (n := 1) (by simp)
  simpa using this

theorem r202z (ys : List (List Int)) (hy : ∀ y, y ∈ ys → y = []) (hl : ys.length ≤ 1000) : runP E (dL E) 202 [.imm .none (([] :: ys).map dInts)] = some (dInts []) := by
  refine runP_T c202 (by simp) ?_
  obtain ⟨t, h96, _⟩ := s96 [] (by simp) []
  simp [hd] at h96
  have hs := slice_rest (x := []) (ys := ys)
  simp only [List.map_nil] at hs
  simp [t202, n202, h96, hs]
  refine wT_up ys.length (fun i env hp => ∃ (x3 x4 x5 x6 x10 x11 x12 x13 x14 : D) , env = [.imm .none (([] :: ys).map dInts), .imm .exact [], .imm .exact [], x3, x4, x5, x6, .imm .none (ys.map dInts), dI ys.length, dI i, x10, x11, x12, x13, x14]) 0 (by omega) ⟨_, _, _, _, _, _, _, _, _, rfl⟩ ?_
  rintro i env hp hi ⟨x3, x4, x5, x6, x10, x11, x12, x13, x14, rfl⟩
  by_cases hlt : i < ys.length
  · have h0 := hy _ (List.getElem_mem hlt)
    simp [hlt, h0]
    refine wT_up 0 (fun j env hp => ∃ (x3 x4 x5 x6 x10 x11 x14 : D) , env = [.imm .none (([] :: ys).map dInts), .imm .exact [], .imm .exact [], x3, x4, x5, x6, .imm .none (ys.map dInts), dI ys.length, dI i, x10, x11, dI (0 : Nat), dI j, x14]) 0 (by omega) ⟨_, _, _, _, _, _, _, rfl⟩ ?_
    rintro j env hp hj ⟨x3, x4, x5, x6, x10, x11, x14, rfl⟩
    have : j = 0 := by omega
    subst this
    simp [wrap_up hlt (by omega)]
  · simp [hlt]

set_option maxHeartbeats 8000000 in
theorem r202 (n : Nat) (x : List Int) (ys : List (List Int)) (hx : okR n x) (hy : ∀ y, y ∈ ys → okR n y) (hn : n ≤ 1000) (hl : ys.length ≤ 1000) :
    runP E (dL E) 202 [.imm .none ((x :: ys).map dInts)] = some (dInts (ys.foldl addR x)) := by
  by_cases h0 : n = 0
  · subst h0
    have e : x = [] := List.eq_nil_of_length_eq_zero hx.1
    have e2 : ys.foldl addR x = [] := List.eq_nil_of_length_eq_zero (okR_fold hx hy).1
    rw [e2, e]
    exact r202z ys (fun y h => List.eq_nil_of_length_eq_zero (hy y h).1) hl
  refine runP_T c202 (by simp) ?_
  have hxl := hx.1
  obtain ⟨t, h96, ht⟩ := s96 x (by omega) []
  have ht := ht (by omega)
  subst ht
  rw [hd, if_neg (by omega), hxl] at h96
  simp only [dInts] at h96
  simp at h96
  obtain ⟨R, hR⟩ : ∃ R : Nat → List Int, R = fun i => (ys.take i).foldl addR x := ⟨_, rfl⟩
  have hRk : ∀ i, okR n (R i) := fun i => by rw [hR]; exact okR_fold hx fun y h => hy y (List.mem_of_mem_take h)
  have hR1 : ∀ (i : Nat) (h : i < ys.length), R (i + 1) = addR (R i) ys[i] := fun i h => by
    rw [hR]; simp only []; rw [List.take_succ_eq_append_getElem h, List.foldl_append]; rfl
  have hRn : R ys.length = ys.foldl addR x := by rw [hR]; simp only []; rw [List.take_length]
  have hR0 : R 0 = x := by rw [hR]; simp
  rw [← hRn]
  simp [t202, n202, h96, slice_rest]
  refine wT_up ys.length (fun i env hp => ∃ (x3 x4 x5 x6 x10 x11 x12 x13 x14 : D) , env = [.imm .none ((x :: ys).map dInts), .imm .exact [], .sl 0 0 n 1 false true, x3, x4, x5, x6, .imm .none (ys.map dInts), dI ys.length, dI i, x10, x11, x12, x13, x14] ∧ At hp 0 (.cells ((R i).map dI))) 0 (by omega) ⟨_, _, _, _, _, _, _, _, _, rfl, by rw [hR0]; simp [At]⟩ ?_
  rintro i env hp hi ⟨x3, x4, x5, x6, x10, x11, x12, x13, x14, rfl, g0⟩
  by_cases hlt : i < ys.length
  · obtain ⟨y, hyd⟩ : ∃ y, y = ys[i] := ⟨_, rfl⟩
    have hyk : okR n y := by rw [hyd]; exact hy _ (List.getElem_mem hlt)
    have hyl := hyk.1
    have hRi := hRk i
    have e1 := hR1 i hlt
    rw [← hyd] at e1
    obtain ⟨r, hr⟩ : ∃ r, r = R i := ⟨_, rfl⟩
    rw [← hr] at g0 hRi e1
    have hrl := hRi.1
    simp [hlt, ← hyd]
    refine wT_up n (fun j env hp => ∃ (x3 x4 x5 x6 x10 x14 : D) , env = [.imm .none ((x :: ys).map dInts), .imm .exact [], .sl 0 0 n 1 false true, x3, x4, x5, x6, .imm .none (ys.map dInts), dI ys.length, dI i, x10, dInts y, dI n, dI j, x14] ∧ At hp 0 (.cells ((mixA r y j).map dI))) 0 (by omega) ⟨_, _, _, _, _, _, by rw [hyl]; rfl, by rw [mixA_zero]; exact g0⟩ ?_
    clear g0 hp
    rintro j env hp hj ⟨x3, x4, x5, x6, x10, x14, rfl, g0⟩
    have l0 := g0.lt
    by_cases hjl : j < n
    · have hjr : j < r.length := by omega
      have hjy : j < y.length := by omega
      have m1 := mixA_get hrl hyl hjr
      have m2 := mixA_set hrl hyl hjr hjy
      have m3 := mixA_len hrl hyl (k := j)
      have b1 := hRi.2 _ (List.getElem_mem hjr)
      have b2 := hyk.2 _ (List.getElem_mem hjy)
      have w1 := wrap_i64 (n := r[j] + y[j]) ⟨by omega, by omega⟩
      have m4 : (List.map dI (mixA r y j)).set j (.int .i64 (if 4096 < r[j] + y[j] then 4096 else r[j] + y[j])) = (mixA r y (j + 1)).map dI := by
        rw [← m2, List.map_set]; rfl
      have m5 : j + 1 ≤ (mixA r y j).length := by omega
      simp [hjl, hjy, g0.eq, m1, w1, m4, m5, wrap_up hjl (by omega)]
      exact At.self l0
    · have : j = n := by omega
      subst this
      rw [mixA_all hrl hyl, ← e1] at g0
      simp [hjl, wrap_up hlt (by omega)]
      exact g0
  · have : i = ys.length := by omega
    subst this
    have hch := chunk_dI (l := R ys.length)
    rw [(hRk _).1] at hch
    simp [hlt, g0.eq, frz_sl, hch]

theorem fitsA_ints {l : List (List Int)} : fitsE 1 (l.map dInts) = true := by
  unfold fitsE
  rw [List.all_eq_true]
  intro x hx
  obtain ⟨r, _, rfl⟩ := List.mem_map.1 hx
  rfl
theorem flat_nil : flat [] = [] := rfl
theorem slice_fullA {l : List (List Int)} {sp : Spare} : sliceD E 35 (.imm sp (l.map dInts)) none (some (dI l.length)) (some (dI l.length)) = some (.imm .exact (l.map dInts)) := by
  have hh : headFits 1 (l.map dInts) = true := by cases l <;> rfl
  have hq : (l.map dInts).take l.length = l.map dInts := List.take_of_length_le (by simp)
  simp [sliceD, bnd, sliceSpare, hh, hq]
theorem slice_fullL {l : List Leaf} {sp : Spare} : sliceD E 31 (.imm sp (l.map dLeaf)) none (some (dI l.length)) (some (dI l.length)) = some (.imm .exact (l.map dLeaf)) := by
  have hh : headFits 3 (l.map dLeaf) = true := by cases l <;> rfl
  have hq : (l.map dLeaf).take l.length = l.map dLeaf := List.take_of_length_le (by simp)
  simp [sliceD, bnd, sliceSpare, hh, hq]

theorem r175 (l : List (List Int)) : runP E (dL E) 175 [.imm .none (l.map dInts)] = some (.imm .exact (l.map dInts)) := by
  refine runP_X c175 (by simp) ?_
  simp [t175, n175, xv_slice3, slice_fullA]

theorem r166 (l : List Leaf) : runP E (dL E) 166 [.imm .none (l.map dLeaf)] = some (.imm .exact (l.map dLeaf)) := by
  refine runP_X c166 (by simp) ?_
  simp [t166, n166, xv_slice3, slice_fullL, frzL_leaf]

theorem r165 (l : List (List Int)) (hl : l.length ≤ 1000000000) : runP E (dL E) 165 [.imm .none (l.map dInts)] = some (.imm .none (l.map dInts)) := by
  refine runP_T c165 (by simp) ?_
  by_cases h0 : l = []
  · subst h0
    simp [t165, n165, appendM, applyEf]
  · have h1 : ¬ l.length = 0 := fun h => h0 (List.eq_nil_of_length_eq_zero h)
    have hb : ((l.map dInts).all fun d => d.storable && d.cellsL.length == 1) = true := fitsA_ints
    have hm : l.length * 25 ≤ maxBytes := by unfold maxBytes; omega
    have hc : chunk 1 false l.length (l.map dInts) = some (l.map dInts) := by
      have := chunk_one (l := l.map dInts)
      rwa [List.length_map] at this
    simp [t165, n165, appendM, applyEf, listOf, hb, h0, hm, fitsE, flat_nil, flat_ints, hc]

theorem r168 (m : List (List Int)) (b : List Int) (hm : m.length ≤ 1000000000) : runP E (dL E) 168 [.imm .none ((m ++ [b]).map dInts)] = some (.tup [dInts b, .imm .exact (m.map dInts)]) := by
  refine runP_X c168 (by simp) ?_
  have h175 := r175 m
  have w := wrap_i64 (n := (m.length : Int) + 1 - 1) ⟨by omega, by omega⟩
  have w2 : (m.length : Int) + 1 - 1 = m.length := by omega
  have hg : (List.map dInts m ++ [D.imm Spare.none (List.map dI b)])[m.length]? = some (D.imm Spare.none (List.map dI b)) := by
    rw [List.getElem?_append_right (by simp)]; simp
  have hh : headFits 1 (List.map dInts m ++ [D.imm Spare.none (List.map dI b)]) = true := by cases m <;> rfl
  have hs : sliceD E 35 (.imm .none (List.map dInts m ++ [D.imm Spare.none (List.map dI b)])) none (some (dI m.length)) none = some (.imm .none (List.map dInts m)) := by
    have ht : (List.map dInts m ++ [D.imm Spare.none (List.map dI b)]).take m.length = List.map dInts m := by
      rw [List.take_append_of_le_length (by simp), List.take_of_length_le (by simp)]
    simp [sliceD, bnd, sliceSpare, hh, ht]
  rw [w2] at w
  simp [t168, n168, w, w2, hg, hs, h175]

theorem r169 (l : List (List Int)) : runP E (dL E) 169 [.imm .none (l.map dInts)] = some (.fn 176 [.iptr [.imm .none (l.map dInts)]]) := by
  refine runP_T c169 (by simp) ?_
  simp [t169, n169]

/-- the branches, the last one first -/
theorem i176 (l : List (List Int)) (hl : l.length ≤ 1000000000) (k : Nat) (J : List (List Int) → List Obj → Prop) (Fin : List Obj → Prop)
    (hy : ∀ x rem hp, J (x :: rem) hp → ∃ t hp', runY (dL E) k [dInts x] hp = some (.bool t, hp') ∧ (t = true → J rem hp') ∧ (t = false → Fin hp')) {hp : List Obj}
    (h0 : J l.reverse hp) :
    ∃ d hp', runS E (dL E) 176 [.yld k, .iptr [.imm .none (l.map dInts)]] hp = some (d, hp') ∧ (J [] hp' ∨ Fin hp') := by
  refine runS_T c176 (R := fun _ hp' => J [] hp' ∨ Fin hp') (by simp) ?_
  have w := wrap_i64 (n := (l.length : Int) - 1) ⟨by omega, by omega⟩
  simp [t176, n176, w]
  refine wT_up l.length (fun i env hp => ∃ (x3 x4 x5 : D) , env = [.yld k, .iptr [.imm .none (l.map dInts)], dI ((l.length : Int) - 1 - i), x3, x4, x5] ∧ J ((l.take (l.length - i)).reverse) hp) 0 (by omega) ⟨.undef, .undef, .undef, by simp, by simpa using h0⟩ ?_
  rintro i env hp hi ⟨x3, x4, x5, rfl, hJ⟩
  by_cases hlt : i < l.length
  rotate_left
  · have : i = l.length := by omega
    subst this
    have e1 : (l.length : Int) - 1 - l.length = -1 := by omega
    simp only [Nat.sub_self, List.take_zero, List.reverse_nil] at hJ
    rw [e1]
    simp [hJ]
  obtain ⟨j, hj⟩ : ∃ j, l.length - i = j + 1 := ⟨l.length - i - 1, by omega⟩
  have hjl : j < l.length := by omega
  have ej : (l.length : Int) - 1 - i = j := by omega
  have e2 : (0 : Int) ≤ j := by omega
  have e3 := wrap_i64 (n := (j : Int) - 1) ⟨by omega, by omega⟩
  rw [hj, List.take_succ_eq_append_getElem hjl, List.reverse_append] at hJ
  simp only [List.reverse_singleton, List.singleton_append] at hJ
  obtain ⟨t, hp2, hy1, hy2, hy3⟩ := hy _ _ _ hJ
  simp only [dInts] at hy1
  have hn : l.length - (i + 1) = j := by omega
  have e4 : (l.length : Int) - 1 - (i + 1) = (j : Int) - 1 := by omega
  rw [ej]
  cases t with
  | true =>
    have hJ2 := hy2 rfl
    simp [hjl, hy1, hn, e3, e4, hlt, hJ2]
  | false =>
    have hF := hy3 rfl
    simp [hjl, hy1, hF]

/-- the room behind a list is its own, or there is none -/
def Room (C : Nat) (hp : List Obj) (sp : Spare) (n sz : Nat) : Prop := sp = .exact ∨ ∃ k, sp = .tok k ∧ C ≤ k ∧ At hp k (.tok (n * sz) sz)
/-- nothing changes but at one place and behind C -/
def Keep (i C : Nat) (hp hp' : List Obj) : Prop := ∀ J : List Obj → Prop, (∀ hp r, J hp → J (hp ++ r)) → (∀ hp j o, J hp → (j = i ∨ C ≤ j) → J (hp.set j o)) → J hp → J hp'
theorem Keep.at {i C : Nat} {hp hp' : List Obj} (h : Keep i C hp hp') {j : Nat} {o : Obj} (hj : j ≠ i) (hC : j < C) (g : At hp j o) : At hp' j o :=
  h (fun hp => At hp j o) (fun _ _ h => h.app) (fun _ k _ h hk => h.ne (by rcases hk with rfl | hk; exact fun e => hj e.symm; omega)) g
theorem Keep.refl {i C : Nat} {hp : List Obj} : Keep i C hp hp := fun _ _ _ h => h
theorem Keep.trans {i C : Nat} {hp hp' hp'' : List Obj} (h : Keep i C hp hp') (h' : Keep i C hp' hp'') : Keep i C hp hp'' := fun J h1 h2 h3 => h' J h1 h2 (h J h1 h2 h3)
theorem Keep.app {i C : Nat} {hp r : List Obj} : Keep i C hp (hp ++ r) := fun _ h1 _ h3 => h1 _ _ h3
theorem Keep.set {i C j : Nat} {o : Obj} {hp : List Obj} (hj : j = i ∨ C ≤ j) : Keep i C hp (hp.set j o) := fun _ _ h2 h3 => h2 _ _ _ h3 hj

abbrev nLeaf (l : Leaf) : D := .agg [dInts l.branch, dI l.kind, .imm .exact []]
def dLs (ls ns : List Leaf) : List D := ls.map dLeaf ++ ns.map nLeaf
theorem dLs_len {ls ns : List Leaf} : (dLs ls ns).length = ls.length + ns.length := by simp [dLs]
theorem dLs_snoc {ls ns : List Leaf} {b : List Int} {kd : Int} : dLs ls ns ++ [.agg [dInts b, dI kd, .imm .exact []]] = dLs ls (ns ++ [⟨b, kd, []⟩]) := by simp [dLs]
theorem fits_dLs {ls ns : List Leaf} : fitsE 3 (dLs ls ns) = true := by
  unfold fitsE
  rw [List.all_eq_true]
  intro x hx
  rcases List.mem_append.1 hx with hx | hx
  · obtain ⟨r, _, rfl⟩ := List.mem_map.1 hx; rfl
  · obtain ⟨r, _, rfl⟩ := List.mem_map.1 hx; rfl
theorem appOk_dLs {ls ns : List Leaf} {x : D} (h : ls.length + ns.length ≤ 1000000000) : appOk E 32 (dLs ls ns) [x] := by
  refine ⟨?_, ?_, ?_, fits_dLs⟩ <;> simp [maxBytes, dLs_len]
  omega
theorem frzL_snd {hp : List Obj} {n : Nat} : ∀ {l r l' r' : List D}, frzL (frz hp n) l = some l' → frzL (frz hp n) r = some r' → frzL (frz hp n) (l ++ r) = some (l' ++ r')
  | [], r, l', r', h, h' => by simp only [frzL_nil, Option.some.injEq] at h; subst h; exact h'
  | x :: l, r, l', r', h, h' => by
    rw [frzL_one] at h
    rw [List.cons_append, frzL_one]
    cases hx : frz hp n x with
    | none => rw [hx] at h; cases h
    | some y =>
      rw [hx, ob_some] at h
      rw [ob_some]
      cases hl : frzL (frz hp n) l with
      | none => rw [hl] at h; cases h
      | some z =>
        rw [hl, ob_some, Option.some.injEq] at h
        subst h
        rw [frzL_snd hl h', ob_some, List.cons_append]
theorem frzL_nLeaf {hp : List Obj} {n : Nat} : ∀ {l : List Leaf}, (∀ x, x ∈ l → x.mult = []) → frzL (frz hp (n + 4)) (l.map nLeaf) = some (l.map dLeaf)
  | [], _ => rfl
  | x :: l, h => by
    rw [List.map_cons, frzL_one, frz_agg]
    simp only [frzL_one, frz_int, ob_some, frz_imm, frzL_dI, Option.map_some, frzL_nil]
    rw [frzL_nLeaf fun y hy => h y (by simp [hy])]
    simp [h x (by simp)]
theorem frzL_dLs {hp : List Obj} {n : Nat} {ls ns : List Leaf} (h : ∀ x, x ∈ ns → x.mult = []) : frzL (frz hp (n + 4)) (dLs ls ns) = some ((ls ++ ns).map dLeaf) := by
  unfold dLs
  rw [frzL_snd frzL_leaf (frzL_nLeaf h), List.map_append]

theorem s167 {i C : Nat} {hp : List Obj} {o be v : D} {sp : Spare} (b : List Int) (kd : Int) (ls ns : List Leaf) (hn : ls.length + ns.length ≤ 1000000000)
    (g : At hp i (.cells [o, be, v, .imm sp (dLs ls ns)])) (R : Room C hp sp (ls.length + ns.length) 3) (hC : C ≤ hp.length) (hi : i < C) :
    ∃ d hp', runS E (dL E) 167 [dInts b, dI kd, .loc i 0] hp = some (d, hp') ∧ ∃ sp', At hp' i (.cells [o, be, v, .imm sp' (dLs ls (ns ++ [⟨b, kd, []⟩]))]) ∧ Room C hp' sp' (ls.length + ns.length + 1) 3 ∧ Keep i C hp hp' ∧ hp.length ≤ hp'.length := by
  refine runS_T c167 (args := [dInts b, dI kd, .loc i 0]) (hp := hp) (R := fun _ hp' => ∃ sp', At hp' i (.cells [o, be, v, .imm sp' (dLs ls (ns ++ [⟨b, kd, []⟩]))]) ∧ Room C hp' sp' (ls.length + ns.length + 1) 3 ∧ Keep i C hp hp' ∧ hp.length ≤ hp'.length) (by simp) ?_
  have ha := fun x => appOk_dLs (ls := ls) (ns := ns) (x := x) hn
  have hl := g.lt
  rcases R with rfl | ⟨k, rfl, hk, hk2⟩
  · simp [t167, n167, g.eq, app0_step, app0_exact, ha, ↓g.appE, dLs_snoc, dLs_len]
    refine ⟨_, At.self (by simp; omega), .inr ⟨hp.length, rfl, hC, At.ne (by simp [At]) (by omega)⟩, Keep.app.trans (Keep.set (.inl rfl))⟩
  · have g2 := g.ne (j := k) (x := .dead) (by omega)
    simp [t167, n167, g.eq, app0_step, app0_tok, ha, hk2.eq, dLs_snoc, dLs_len, ↓g2.appE]
    refine ⟨_, At.self (by simp; omega), .inr ⟨hp.length, rfl, hC, At.ne (by simp [At]) (by omega)⟩, ((Keep.set (.inr hk)).trans Keep.app).trans (Keep.set (.inl rfl))⟩

theorem addO_at {hp : List Obj} {id : Nat} {o : Obj} (h : id ≤ hp.length) : At (addO hp id o) id o ∧ hp.length ≤ (addO hp id o).length ∧ ∀ i q, At hp i q → i ≠ id → At (addO hp id o) i q := by
  unfold addO
  by_cases hl : id < hp.length
  · rw [if_pos hl]
    exact ⟨At.self hl, by simp, fun i q g hne => g.ne (Ne.symm hne)⟩
  · rw [if_neg hl]
    have : id = hp.length := by omega
    subst this
    exact ⟨by simp [At], by simp, fun i q g _ => g.app⟩

/-- a list of lists grows by one -/
theorem push9 {hp : List Obj} {sp : Spare} {els : List D} {x : D} {B id : Nat} (hok : appOk E 6 els [x]) (hx : (x.storable && x.cellsL.length == 1) = true) (R : Room B hp sp els.length 1) (hid : id ≤ hp.length) :
    ∃ hp', app0 E hp id 9 9 (.imm sp els) (.imm .exact [x]) = some (.imm (.tok id) (els ++ [x]), hp') ∧ At hp' id (.tok ((els.length + 1) * 1) 1) ∧ hp.length ≤ hp'.length ∧
      ∀ i o, At hp i o → (∀ k, sp = .tok k → i ≠ k) → i ≠ id → At hp' i o := by
  have k9 : (E.ty 9).k = .slice 6 := rfl
  have s6 : (E.ty 6).size = 1 := rfl
  rcases R with rfl | ⟨k, rfl, _, g⟩
  · obtain ⟨a1, a2, a3⟩ := addO_at (o := .tok ((els.length + 1) * 1) 1) hid
    refine ⟨_, ?_, a1, a2, fun i o g _ hne => a3 i o g hne⟩
    rw [app0_exact, k9]
    simp only [listOf_imm, s6, List.all_cons, List.all_nil, hx, Bool.and_true, if_true, ob_some, if_pos hok, List.length_cons, List.length_nil]
  · have hg := g.eq
    obtain ⟨a1, a2, a3⟩ := addO_at (hp := hp.set k .dead) (id := id) (o := .tok ((els.length + 1) * 1) 1) (by simpa using hid)
    refine ⟨_, ?_, a1, by simpa using a2, fun i o g hk hne => a3 i o (g.ne (Ne.symm (hk k rfl))) hne⟩
    rw [app0_tok, k9]
    simp only [listOf_imm, s6, List.all_cons, List.all_nil, hx, Bool.and_true, if_true, ob_some, if_pos hok, List.length_cons, List.length_nil, hg, tokO_tok, and_self]

theorem appOk_ints {l : List (List Int)} {x : D} (h : l.length ≤ 100000) : appOk E 6 (l.map dInts) [x] := by
  refine ⟨?_, ?_, ?_, ?_⟩
  · simp [maxBytes, E, tyTab]; omega
  · simp [E, tyTab]
  · rfl
  · simp [fitsE, E, tyTab, D.storable, D.atom, D.cellsL]

theorem slice_causes {c : List Cause} {k : Nat} (h : k ≤ c.length) : sliceD E 38 (.imm .none (c.map dCause)) (some (.int .i64 (k : Int))) none none = some (.imm .none ((c.drop k).map dCause)) := by
  have := slice_lo (t := 38) (e := 39) rfl (l := c.map dCause) (by cases c <;> simp [headFits, E, tyTab, D.cellsL]) (n := k) (by simpa using h)
  simpa [List.map_drop] using this

set_option maxHeartbeats 16000000 in
theorem r195 (p : Prob) (c : List Cause) (k : Nat) (S : Small p) (ok : OkP p) (C : OkC p c) (hk : k ≤ c.length) : runP E (dL E) 195 [dProb p, .imm .none (c.map dCause), dI k] = some (dProb (withP p c k)) := by
  refine runP_T c195 (by simp) ?_
  have s1 := S.cells
  have s2 := S.cap
  have c1 := C.len
  have hsl := slice_causes hk
  obtain ⟨W, hW⟩ : ∃ W : Nat → List Int, W = fun i => capW (c.drop k) i (p.capacity.getD i []) := ⟨_, rfl⟩
  have hWW : withP p c k = { p with capacity := (List.range p.capacity.length).map W } := by rw [hW]; rfl
  rw [hWW]
  obtain ⟨L, hL⟩ : ∃ L : Nat → List (List Int), L = fun i => (List.range i).map W := ⟨_, rfl⟩
  have hL0 : L 0 = [] := by rw [hL]; rfl
  have hL1 : ∀ i, L (i + 1) = L i ++ [W i] := fun i => by rw [hL]; simp [List.range_succ]
  have hLl : ∀ i, (L i).length = i := fun i => by rw [hL]; simp
  have hLn : (List.range p.capacity.length).map W = L p.capacity.length := by rw [hL]
  rw [hLn]
  simp [t195, n195]
  refine wT_up p.capacity.length (fun i env hp => ∃ (x6 x7 x8 x9 x10 x14 x15 x16 x17 x18 x19 x20 x21 : D) (sp : Spare), env = [dProb p, .imm .none (c.map dCause), dI k, .loc 0 0, .loc 1 0, .loc 2 0, x6, x7, x8, x9, x10, .imm .none (p.capacity.map dInts), dI p.capacity.length, dI i, x14, x15, x16, x17, x18, x19, x20, x21] ∧
    At hp 0 (.cells (dProb p).cellsL) ∧ At hp 1 (.cells [.imm .exact [], .imm .exact [], .imm .exact []]) ∧ At hp 2 (.cells [.imm .none (p.cells.map dCell), .imm sp ((L i).map dInts), .imm .none (p.vars.map dVar)]) ∧ Room 3 hp sp i 1) 0 (by omega)
    ⟨_, _, _, _, _, _, _, _, _, _, _, _, _, .exact, rfl, by simp [At], by simp [At], by rw [hL0]; simp [At], .inl rfl⟩ ?_
  rintro i env hp hi ⟨x6, x7, x8, x9, x10, x14, x15, x16, x17, x18, x19, x20, x21, sp, rfl, g0, g1, g2, R⟩
  have l2 := g2.lt
  by_cases hlt : i < p.capacity.length
  · obtain ⟨d, hd⟩ : ∃ d, d = c.drop k := ⟨_, rfl⟩
    have Cd : OkC p d := by rw [hd]; exact dropC C
    have hdl : d.length ≤ 8 := Cd.len
    rw [← hd] at hsl
    have hrowi : p.capacity.getD i [] = p.capacity[i] := by rw [List.getD_eq_getElem?_getD, List.getElem?_eq_getElem hlt, Option.getD_some]
    obtain ⟨rws, hrws⟩ : ∃ rws : List (List Int), rws = d.map fun a => a.less.getD i [] := ⟨_, rfl⟩
    have hrl : rws.length = d.length := by rw [hrws]; simp
    have h202 := r202 p.cells.length p.capacity[i] rws (by rw [← hrowi]; exact cap_ok ok C hlt) (by rw [hrws]; exact rows_ok ok Cd hlt) (by omega) (by omega)
    have hWi : rws.foldl addR p.capacity[i] = W i := by rw [hW]; simp only []; rw [hrowi, hrws, hd]; rfl
    rw [hWi] at h202
    obtain ⟨A, hA⟩ : ∃ A : Nat → List D, A = fun j => (p.capacity[i] :: rws.take j).map dInts := ⟨_, rfl⟩
    have hA0 : A 0 = [.imm .none (p.capacity[i].map dI)] := by rw [hA]; rfl
    have hA1 : ∀ (j : Nat) (h : j < rws.length), A j ++ [.imm .none (rws[j].map dI)] = A (j + 1) := fun j h => by
      rw [hA]; simp only []; rw [List.take_succ_eq_append_getElem h, ← List.cons_append, List.map_append]; rfl
    have hAl : ∀ j, j ≤ rws.length → (A j).length = j + 1 := fun j h => by rw [hA]; simp; omega
    have hAok : ∀ j x, j ≤ rws.length → appOk E 6 (A j) [x] := fun j x h => by rw [hA]; exact appOk_ints (by simp; omega)
    have hAn : A rws.length = (p.capacity[i] :: rws).map dInts := by rw [hA]; simp only []; rw [List.take_length]
    have hAf : frzL (frz [] 11) (A rws.length) = some (A rws.length) := by rw [hAn]; exact frzL_ints
    rw [← hAn] at h202
    rw [hrl] at h202 hAf
    simp [hlt, hsl]
    rw [← hA0]
    refine wT_up d.length (fun j env hq => ∃ (x7 x9 x10 x14 x18 x19 x20 x21 : D) (sp2 : Spare), env = [dProb p, .imm .none (c.map dCause), dI k, .loc 0 0, .loc 1 0, .loc 2 0, dI i, x7, .imm sp2 (A j), x9, x10, .imm .none (p.capacity.map dInts), dI p.capacity.length, dI i, x14, .imm .none (d.map dCause), dI d.length, dI j, x18, x19, x20, x21] ∧
      Room hp.length hq sp2 (j + 1) 1 ∧ hp.length ≤ hq.length ∧ ∀ n o, n < hp.length → At hp n o → At hq n o) 0 (by omega) ⟨_, _, _, _, _, _, _, _, .exact, rfl, .inl rfl, Nat.le_refl _, fun n o _ h => h⟩ ?_
    rintro j env hq hj ⟨x7, x9, x10, x14, x18, x19, x20, x21, sp2, rfl, R2, hle, keep⟩
    by_cases hjl : j < d.length
    · have hjr : j < rws.length := by omega
      have hdr := Cd.rows _ (List.getElem_mem hjl)
      have hg : d[j].less[i]? = some rws[j] := by
        have e : rws[j] = d[j].less.getD i [] := by simp [hrws]
        rw [e, List.getD_eq_getElem?_getD, List.getElem?_eq_getElem (show i < d[j].less.length by omega), Option.getD_some]
      have R3 : Room hp.length (hq ++ [Obj.cells [dI d[j].index, D.imm Spare.none (List.map dInts d[j].less)]]) sp2 (A j).length 1 := by
        rw [hAl j (by omega)]
        rcases R2 with h | ⟨k', h1, h2, h3⟩
        · exact .inl h
        · exact .inr ⟨k', h1, h2, h3.app⟩
      obtain ⟨h', e1, e2, e3, e4⟩ := push9 (x := .imm .none (rws[j].map dI)) (id := hq.length + 1) (hAok j _ (by omega)) (by simp [D.storable, D.atom, D.cellsL]) R3 (by simp)
      rw [hA1 j hjr] at e1
      rw [hAl j (by omega)] at e2
      simp only [List.length_append, List.length_cons, List.length_nil] at e3
      simp [hjl, hg, e1, wrap_up hjl (by omega)]
      repeat apply Exists.intro
      refine ⟨by and_intros <;> rfl, .inr ⟨_, rfl, by omega, e2⟩, by omega, fun n o hn g => e4 n o (keep n o hn g).app (fun k' hk' => ?_) (by omega)⟩
      rcases R2 with h | ⟨k2, h1, h2, _⟩
      · rw [h] at hk'; cases hk'
      · rw [h1] at hk'; cases hk'; omega
      
    · have : j = d.length := by omega
      subst this
      have G0 := keep 0 _ g0.lt g0
      have G1 := keep 1 _ g1.lt g1
      have G2 := keep 2 _ g2.lt g2
      obtain ⟨H, hH⟩ : ∃ H, H = hq ++ [Obj.dead, Obj.dead, Obj.dead, Obj.dead, Obj.dead, Obj.dead, Obj.dead, Obj.dead] := ⟨_, rfl⟩
      have K0 : At H 0 (.cells (dProb p).cellsL) := by rw [hH]; exact G0.app
      have K1 : At H 1 (.cells [.imm .exact [], .imm .exact [], .imm .exact []]) := by rw [hH]; exact G1.app
      have K2 : At H 2 (.cells [.imm .none (p.cells.map dCell), .imm sp ((L i).map dInts), .imm .none (p.vars.map dVar)]) := by rw [hH]; exact G2.app
      have R3 : Room 3 H sp ((L i).map dInts).length 1 := by
        rw [List.length_map, hLl]
        rcases R with h | ⟨k', h1, h2, h3⟩
        · exact .inl h
        · exact .inr ⟨k', h1, h2, by rw [hH]; exact (keep k' _ h3.lt h3).app⟩
      obtain ⟨h', e1, e2, e3, e4⟩ := push9 (x := .imm .none ((W i).map dI)) (id := hq.length + 5) (appOk_ints (by rw [hLl]; omega)) (by simp [D.storable, D.atom, D.cellsL]) R3 (by rw [hH]; simp)
      have eL : (L i).map dInts ++ [.imm .none ((W i).map dI)] = (L (i + 1)).map dInts := by rw [hL1]; simp
      rw [eL] at e1
      rw [List.length_map, hLl] at e2
      have hne : ∀ n, n < 3 → ∀ k', sp = .tok k' → n ≠ k' := fun n hn k' hk' => by
        rcases R with h | ⟨k2, h1, h2, _⟩
        · rw [h] at hk'; cases hk'
        · rw [h1] at hk'; cases hk'; omega
      have := g2.lt
      have Q0 := e4 0 _ K0 (hne 0 (by omega)) (by omega)
      have Q1 := e4 1 _ K1 (hne 1 (by omega)) (by omega)
      have Q2 := e4 2 _ K2 (hne 2 (by omega)) (by omega)
      simp only [dInts] at h202
      subst hH
      have lq := Q2.lt
      simp [↓G2.appE, h202, hAf, e1, Q2.eq, wrap_up hlt (by omega)]
      exact ⟨Q0.ne (by omega), Q1.ne (by omega), _, At.self lq, .inr ⟨_, rfl, by omega, e2.ne (by omega)⟩⟩
  · have : i = p.capacity.length := by omega
    subst this
    have q1 : (hp.set 1 (Obj.cells [D.imm Spare.none (List.map dCell p.cells), D.imm sp (List.map dInts (L p.capacity.length)), D.imm Spare.none (List.map dVar p.vars)]))[1]? = some (Obj.cells [D.imm Spare.none (List.map dCell p.cells), D.imm sp (List.map dInts (L p.capacity.length)), D.imm Spare.none (List.map dVar p.vars)]) := List.getElem?_set_self g1.lt
    simp [hlt, g0.eq, g1.eq, g2.eq, ↓q1]

theorem wT_loop {E : Env} {a : TC} {Q : Ex → List D → List Obj → Prop} {env : List D} {hp : List Obj} (I : Nat → List D → List Obj → Prop) (k : Nat) (h0 : I k env hp)
    (step : ∀ k env hp, I k env hp → wT E a (fun ex env' hp' => match ex with
      | .normal => ∃ k', k' < k ∧ I k' env' hp'
      | ex => Q ex env' hp') env hp) : wT E (.loop a) Q env hp := ⟨I, k, h0, step⟩

theorem SmS.exam {p : Prob} {s : Srch} (M : SmS p s) (hs : OkS p s) : SmS p (exam p s) := by
  by_cases hn : s.opn = []
  · rw [exam_nil hn]; exact M
  have h1 := exam_less hn hs.opn
  have h2 := M.most
  have h3 : (Dv.exam p s).leaves.length ≤ s.leaves.length + 1 := by
    obtain ⟨l, b, hl⟩ : ∃ l b, s.opn = l ++ [b] := ⟨s.opn.dropLast, s.opn.getLast hn, (List.dropLast_concat_getLast hn).symm⟩
    rw [exam_snoc hl]
    unfold examB
    split
    · split <;> simp
    · split <;> simp
  exact ⟨by omega⟩
theorem SmS.iter {p : Prob} (ok : OkP p) : ∀ {n : Nat} {s : Srch}, SmS p s → OkS p s → SmS p (iter p n s)
  | 0, _, h, _ => h
  | n + 1, s, h, hs => SmS.iter (n := n) (s := Dv.exam p s) ok (h.exam hs) (hs.exam ok)

set_option maxHeartbeats 16000000 in
theorem s150 (p : Prob) (s : Srch) (S : Small p) (ok : OkP p) (M : SmS p s) (hs : OkS p s) (k : Nat) (caps : List D) (more : Nat → Bool) (hp0 : List Obj) (K : Nat → List Obj → Prop)
    (hm : ∀ n hp, K n hp → ∃ hp', runS E (dL E) k caps hp = some (.bool (more n), hp') ∧ K (n + 1) hp' ∧ ∀ j o, hp0.length ≤ j → At hp j o → At hp' j o)
    (hK1 : ∀ n hp r, K n hp → K n (hp ++ r)) (hK2 : ∀ n hp j o, K n hp → hp0.length ≤ j → K n (hp.set j o)) (h0 : K 0 hp0) :
    ∃ d hp', runS E (dL E) 150 [dProb p, dSrch s, .fn k caps] hp0 = some (d, hp') ∧ ∃ n ns sp1 sp2, (∀ j, j < n → more j = true) ∧ ((iter p n s).opn = [] ∨ more n = false) ∧ (iter p n s).leaves = s.leaves ++ ns ∧ (∀ x, x ∈ ns → x.mult = []) ∧
      d = .agg [.imm sp1 ((iter p n s).opn.map dInts), dInts (iter p n s).best, dInts (iter p n s).value, .imm sp2 (dLs s.leaves ns)] ∧ ∃ m, K m hp' := by
  obtain ⟨R, hR⟩ : ∃ R : D → List Obj → Prop, R = fun d hp' => ∃ n ns sp1 sp2, (∀ j, j < n → more j = true) ∧ ((iter p n s).opn = [] ∨ more n = false) ∧ (iter p n s).leaves = s.leaves ++ ns ∧ (∀ x, x ∈ ns → x.mult = []) ∧
      d = .agg [.imm sp1 ((iter p n s).opn.map dInts), dInts (iter p n s).best, dInts (iter p n s).value, .imm sp2 (dLs s.leaves ns)] ∧ ∃ m, K m hp' := ⟨_, rfl⟩
  have key : ∃ d hp', runS E (dL E) 150 [dProb p, dSrch s, .fn k caps] hp0 = some (d, hp') ∧ R d hp' := by
    refine runS_T c150 (args := [dProb p, dSrch s, .fn k caps]) (hp := hp0) (R := R) (by simp) ?_
    have m1 := M.opn
    have h165 := r165 s.opn m1
    have h166 := r166 s.leaves
    simp [t150, n150, h165, h166, frzL_leaf]
    obtain ⟨B, hB⟩ : ∃ B, B = hp0.length := ⟨_, rfl⟩
    rw [← hB] at hm hK2 ⊢
    refine wT_loop (fun m env hp => ∃ (x8 x9 x10 x11 x12 x13 x14 x15 x16 x17 x18 x19 x20 x21 x22 x23 x24 x25 x26 x27 x28 x29 x30 x31 : D) (i : Nat) (ns : List Leaf) (sp1 sp2 : Spare), env = [dProb p, dSrch s, .fn k caps, .loc B 0, .loc (B + 1) 0, .loc (B + 1 + 1) 0, .loc (B + 3) 0, .fn 167 [.loc (B + 1) 0], x8, x9, x10, x11, x12, x13, x14, x15, x16, x17, x18, x19, x20, x21, x22, x23, x24, x25, x26, x27, x28, x29, x30, x31] ∧
      m = wO p (iter p i s).opn ∧ (∀ j, j < i → more j = true) ∧ (iter p i s).leaves = s.leaves ++ ns ∧ (∀ x, x ∈ ns → x.mult = []) ∧ At hp B (.cells (dProb p).cellsL) ∧
      At hp (B + 1) (.cells [.imm .none (s.opn.map dInts), dInts (iter p i s).best, dInts (iter p i s).value, .imm sp2 (dLs s.leaves ns)]) ∧ At hp (B + 1 + 1) (.cells [.imm .exact [], .imm .exact [], .imm .exact [], .imm .exact []]) ∧
      At hp (B + 3) (.cells [.imm sp1 ((iter p i s).opn.map dInts)]) ∧ Room (B + 4) hp sp2 (s.leaves.length + ns.length) 3 ∧ K i hp) (wO p s.opn)
      ⟨_, _, _, _, _, _, _, _, _, _, _, _, _, _, _, _, _, _, _, _, _, _, _, _, 0, [], .none, .exact, rfl, rfl, fun j h => absurd h (by omega), by simp [iter], fun x h => (by cases h), by rw [hB]; simp [At], by rw [hB]; simp [At, iter, dLs], by rw [hB, Nat.add_assoc]; simp [At], by rw [hB]; simp [At, iter], .inl rfl, hK1 _ _ _ h0⟩ ?_
    rintro m env hp ⟨x8, x9, x10, x11, x12, x13, x14, x15, x16, x17, x18, x19, x20, x21, x22, x23, x24, x25, x26, x27, x28, x29, x30, x31, i, ns, sp1, sp2, rfl, hmm, hmore, hlv, hmu, g0, g1, g2, g3, hr, hK⟩
    have okt : OkS p (iter p i s) := OkS.iter ok hs
    have Mt : SmS p (iter p i s) := SmS.iter ok M hs
    have it1 : iter p (i + 1) s = exam p (iter p i s) := iter_succ
    have hRt : ∀ (hp' : List Obj) (sp1 : Spare), K i hp' ∨ K (i + 1) hp' → ((iter p i s).opn = [] ∨ more i = false) → R (.agg [.imm sp1 ((iter p i s).opn.map dInts), dInts (iter p i s).best, dInts (iter p i s).value, .imm sp2 (dLs s.leaves ns)]) hp' := fun hp' sp1 h h' => by
      rw [hR]
      exact ⟨i, ns, sp1, sp2, hmore, h', hlv, hmu, rfl, h.elim (fun h => ⟨_, h⟩) fun h => ⟨_, h⟩⟩
    obtain ⟨t, ht⟩ : ∃ t, t = iter p i s := ⟨_, rfl⟩
    rw [← ht] at hmm hlv g1 g3 okt Mt it1 hRt
    have hl1 := g1.lt
    have hl2 := g2.lt
    have G : ∀ (hq : List Obj), At hq (B + 1) (.cells [.imm .none (s.opn.map dInts), dInts t.best, dInts t.value, .imm sp2 (dLs s.leaves ns)]) → At hq (B + 1 + 1) (.cells [.imm .exact [], .imm .exact [], .imm .exact [], .imm .exact []]) →
      (∀ x, (hq.set (B + 1) x)[B + 1]? = some x) ∧ (∀ x, (hq.set (B + 1) x)[B + 1 + 1]? = some (.cells [.imm .exact [], .imm .exact [], .imm .exact [], .imm .exact []])) ∧ ∀ x y, ((hq.set (B + 1) x).set (B + 1 + 1) y)[B + 1 + 1]? = some y := fun hq a1 a2 =>
      ⟨fun x => List.getElem?_set_self a1.lt, fun x => (a2.ne (by omega)).eq, fun x y => List.getElem?_set_self (by rw [List.length_set]; exact a2.lt)⟩
    by_cases hno : t.opn = []
    · obtain ⟨q1, q2, q3⟩ := G hp g1 g2
      rw [hno] at g3
      have hRt2 := fun hp' h => hRt hp' sp1 h (.inl hno)
      rw [hno] at hRt2
      simp [g0.eq, g1.eq, g2.eq, g3.eq, rTS_effh, gdD_b, ↓q1, ↓q2, ↓q3]
      exact hRt2 _ (.inl (hK2 _ _ _ _ (hK2 _ _ _ _ hK (by omega)) (by omega)))
    obtain ⟨l, b, hl⟩ : ∃ l b, t.opn = l ++ [b] := ⟨t.opn.dropLast, t.opn.getLast hno, (List.dropLast_concat_getLast hno).symm⟩
    have okb := okt.opn b (by rw [hl]; simp)
    have hll : l.length ≤ 1000000000 := by have := Mt.opn; rw [hl] at this; simp at this; omega
    have h168 := r168 l b hll
    obtain ⟨hp2, e1, e2, e3⟩ := hm i hp hK
    have h0l : (0 : Int) < l.length + 1 := by omega
    have a0 := e3 _ _ (by omega) g0
    have a1 := e3 _ _ (by omega) g1
    have a2 := e3 _ _ (by omega) g2
    have a3 := e3 _ _ (by omega) g3
    cases hmi : more i with
    | false =>
      obtain ⟨q1, q2, q3⟩ := G hp2 a1 a2
      rw [hmi] at e1
      rw [hl] at g3 a3
      have hRt2 := fun hp' h => hRt hp' sp1 h (.inr hmi)
      rw [hl] at hRt2
      simp only [List.map_append, List.map_cons, List.map_nil, dInts] at hRt2
      simp [g0.eq, g1.eq, g2.eq, g3.eq, a0.eq, a1.eq, a2.eq, a3.eq, e1, h0l, rTS_effh, gdD_b, ↓q1, ↓q2, ↓q3]
      exact hRt2 _ (.inr (hK2 _ _ _ _ (hK2 _ _ _ _ e2 (by omega)) (by omega)))
    | true =>
    rw [hmi] at e1
    rw [← hl] at h168
    have h0n : ¬ t.opn.length = 0 := fun h => hno (List.eq_nil_of_length_eq_zero h)
    have h0l : 0 < t.opn.length := by omega
    obtain ⟨hp3, h3⟩ : ∃ hp3, hp3 = hp2.set (B + 3) (.cells [.imm .exact (l.map dInts)]) := ⟨_, rfl⟩
    have b0 := a0.ne (j := B + 3) (x := .cells [.imm .exact (l.map dInts)]) (by omega)
    have b1 := a1.ne (j := B + 3) (x := .cells [.imm .exact (l.map dInts)]) (by omega)
    have b2 := a2.ne (j := B + 3) (x := .cells [.imm .exact (l.map dInts)]) (by omega)
    rw [← h3] at b0 b1 b2
    have b3 : At hp3 (B + 3) (.cells [.imm .exact (l.map dInts)]) := by rw [h3]; exact At.self a3.lt
    have bK : K (i + 1) hp3 := by rw [h3]; exact hK2 _ _ _ _ e2 (by omega)
    have bR : Room (B + 4) hp3 sp2 (s.leaves.length + ns.length) 3 := by
      rcases hr with h | ⟨k, h1, h2, h4⟩
      · exact .inl h
      · refine .inr ⟨k, h1, h2, ?_⟩
        rw [h3]
        exact (e3 _ _ (by omega) h4).ne (by omega)
    clear e3 a0 a1 a2 hK hr
    have hu := exam_snoc (p := p) hl
    have hmore2 : ∀ j, j < i + 1 → more j = true := fun j hj => by
      by_cases e : j = i
      · rw [e]; exact hmi
      · exact hmore j (by omega)
    have hles := exam_less hno okt.opn
    rw [← it1] at hu hles
    have hnl : s.leaves.length + ns.length ≤ 1000000000 := by
      have := Mt.lvs; rw [hlv, List.length_append] at this; exact this
    have hb20 : b.length ≤ 20 := by have := okb.len; have := S.vars; omega
    obtain ⟨V, hV⟩ : ∃ V, V = boundL p b := ⟨_, rfl⟩
    have h87 := r87 V t.value (by rw [hV]; simp [boundL]) (by
      rcases okt.val with ⟨e, _⟩ | ⟨_, e⟩
      · rw [e]; simp
      · rw [e]; simp [boundL])
    by_cases he : b.length = p.vars.length
    · have he' : (b.length : Int) = p.vars.length := by omega
      have h22 := r22 p b S hb20
      have wb : Whole p b := ⟨ok, okb, he⟩
      simp only [resV, if_pos wb, ← hV] at h22
      simp only [examB, if_pos he, bet, ← hV] at hu
      simp only [dProb, dInts] at h22 h87 h168
      by_cases hbt : (decide (t.value.length = 0) || decide (cmpL V t.value < 0)) = true
      · rw [if_pos hbt] at hu
        obtain ⟨hp4, h4⟩ : ∃ hp4, hp4 = hp3.set (B + 1) (.cells [.imm .none (s.opn.map dInts), dInts b, dInts V, .imm sp2 (dLs s.leaves ns)]) := ⟨_, rfl⟩
        obtain ⟨q1, _, _⟩ := G hp3 b1 b2
        have d0 := b0.ne (j := B + 1) (x := .cells [.imm .none (s.opn.map dInts), dInts b, dInts V, .imm sp2 (dLs s.leaves ns)]) (by omega)
        have d1 : At hp4 (B + 1) (.cells [.imm .none (s.opn.map dInts), dInts b, dInts V, .imm sp2 (dLs s.leaves ns)]) := by rw [h4]; exact At.self b1.lt
        have d2 := b2.ne (j := B + 1) (x := .cells [.imm .none (s.opn.map dInts), dInts b, dInts V, .imm sp2 (dLs s.leaves ns)]) (by omega)
        have d3 := b3.ne (j := B + 1) (x := .cells [.imm .none (s.opn.map dInts), dInts b, dInts V, .imm sp2 (dLs s.leaves ns)]) (by omega)
        rw [← h4] at d0 d2 d3
        have dK : K (i + 1) hp4 := by rw [h4]; exact hK2 _ _ _ _ bK (by omega)
        have dR : Room (B + 4) hp4 sp2 (s.leaves.length + ns.length) 3 := by
          rcases bR with h | ⟨k, h1, h2, h5⟩
          · exact .inl h
          · exact .inr ⟨k, h1, h2, by rw [h4]; exact h5.ne (by omega)⟩
        obtain ⟨d, hp5, f1, sp', f2, f3, f4, f5⟩ := s167 (i := B + 1) (C := B + 4) (hp := hp4) b 1 s.leaves ns hnl d1 dR (by have := d3.lt; omega) (by omega)
        simp only [dInts] at f1 h4
        have fin : ∃ k', k' < m ∧
      ∃ x,
        k' = wO p (iter p x s).opn ∧
          (∀ (j : Nat), j < x → more j = true) ∧
            ∃ x_1,
              (iter p x s).leaves = s.leaves ++ x_1 ∧
                (∀ (x : Leaf), x ∈ x_1 → x.mult = []) ∧
                  At hp5 B (.cells (dProb p).cellsL) ∧
                    ∃ x_2 x_3,
                      At hp5 (B + 1) (.cells [.imm .none (s.opn.map dInts), dInts (iter p x s).best, dInts (iter p x s).value, .imm x_3 (dLs s.leaves x_1)]) ∧
                        At hp5 (B + 1 + 1) (.cells [.imm .exact [], .imm .exact [], .imm .exact [], .imm .exact []]) ∧
                          At hp5 (B + 3) (.cells [.imm x_2 ((iter p x s).opn.map dInts)]) ∧
                            Room (B + 4) hp5 x_3 (s.leaves.length + x_1.length) 3 ∧ K x hp5 :=
          ⟨_, by omega, i + 1, rfl, hmore2, ns ++ [⟨b, 1, []⟩], by rw [hu]; simp [hlv], fun x hx => (by
            rcases List.mem_append.1 hx with hx | hx
            · exact hmu x hx
            · rw [List.mem_singleton.1 hx]), f4.at (by omega) (by omega) d0, .exact, sp', by rw [hu]; exact f2, f4.at (by omega) (by omega) d2, by rw [hu]; exact f4.at (by omega) (by omega) d3, by rw [List.length_append]; exact f3, f4 (K (i + 1)) (hK1 _) (fun hp j o h hj => hK2 _ _ _ _ h (by omega)) dK⟩
        by_cases c1 : t.value = []
        · simp [g0.eq, g1.eq, g2.eq, g3.eq, a3.eq, e1, h0l, rTS_effh, gdD_b, h168, ← h3, b0.eq, b1.eq, he', h22, c1, ↓q1, ← h4, f1]
          exact fin
        · have c2 : cmpL V t.value < 0 := by
            have : ¬ t.value.length = 0 := fun h => c1 (List.eq_nil_of_length_eq_zero h)
            simpa [this] using hbt
          simp [g0.eq, g1.eq, g2.eq, g3.eq, a3.eq, e1, h0l, rTS_effh, gdD_b, h168, ← h3, b0.eq, b1.eq, he', h22, h87, c1, c2, ↓q1, ← h4, f1]
          exact fin
      · rw [if_neg hbt] at hu
        have c1 : ¬ t.value = [] := fun h => hbt (by simp [h])
        have c2 : ¬ cmpL V t.value < 0 := fun h => hbt (by simp [h])
        obtain ⟨d, hp5, f1, sp', f2, f3, f4, f5⟩ := s167 (i := B + 1) (C := B + 4) (hp := hp3) b 1 s.leaves ns hnl b1 bR (by have := b3.lt; omega) (by omega)
        simp only [dInts] at f1
        simp [g0.eq, g1.eq, g2.eq, g3.eq, a3.eq, e1, h0l, rTS_effh, gdD_b, h168, ← h3, b0.eq, b1.eq, he', h22, h87, c1, c2, f1]
        exact ⟨_, by omega, i + 1, rfl, hmore2, ns ++ [⟨b, 1, []⟩], by rw [hu]; simp [hlv], fun x hx => (by
            rcases List.mem_append.1 hx with hx | hx
            · exact hmu x hx
            · rw [List.mem_singleton.1 hx]), f4.at (by omega) (by omega) b0, .exact, sp', by rw [hu]; exact f2, f4.at (by omega) (by omega) b2, by rw [hu]; exact f4.at (by omega) (by omega) b3, by rw [List.length_append]; exact f3, f4 (K (i + 1)) (hK1 _) (fun hp j o h hj => hK2 _ _ _ _ h (by omega)) bK⟩
    have he' : ¬ (b.length : Int) = p.vars.length := by omega
    have hlt : b.length < p.vars.length := by have := okb.len; omega
    have h3' := r3 p b S hb20
    simp only [resB, bk_pos ok okb, if_true, ← hV] at h3'
    simp only [examB, if_neg he, shut, ← hV] at hu
    simp only [dProb, dInts] at h3' h87 h168
    by_cases hsh : (decide (0 < t.value.length) && decide (0 ≤ cmpL V t.value)) = true
    · rw [if_pos hsh] at hu
      have c1 : 0 < t.value.length := by simp at hsh; exact hsh.1
      have c2 : 0 ≤ cmpL V t.value := by simp at hsh; exact hsh.2
      obtain ⟨d, hp5, f1, sp', f2, f3, f4, f5⟩ := s167 (i := B + 1) (C := B + 4) (hp := hp3) b 2 s.leaves ns hnl b1 bR (by have := b3.lt; omega) (by omega)
      simp only [dInts] at f1
      simp [g0.eq, g1.eq, g2.eq, g3.eq, a3.eq, e1, h0l, rTS_effh, gdD_b, h168, ← h3, b0.eq, b1.eq, he', h3', h87, c1, c2, f1]
      exact ⟨_, by omega, i + 1, rfl, hmore2, ns ++ [⟨b, 2, []⟩], by rw [hu]; simp [hlv], fun x hx => (by
            rcases List.mem_append.1 hx with hx | hx
            · exact hmu x hx
            · rw [List.mem_singleton.1 hx]), f4.at (by omega) (by omega) b0, .exact, sp', by rw [hu]; exact f2, f4.at (by omega) (by omega) b2, by rw [hu]; exact f4.at (by omega) (by omega) b3, by rw [List.length_append]; exact f3, f4 (K (i + 1)) (hK1 _) (fun hp j o h hj => hK2 _ _ _ _ h (by omega)) bK⟩
    rw [if_neg hsh] at hu
    have h7 := r7 p b S hb20
    have h169 := r169 (nextL p b)
    obtain ⟨N, hN⟩ : ∃ N, N = nextL p b := ⟨_, rfl⟩
    simp only [resN, bk_pos ok okb, if_true, if_neg he, ← hN] at h7
    rw [← hN] at h169 hu
    simp only [dProb, dInts] at h7
    have hc : ¬ 0 < t.value.length ∨ (0 < t.value.length ∧ cmpL V t.value < 0) := by
      by_cases c1 : 0 < t.value.length
      · right
        have : ¬ 0 ≤ cmpL V t.value := fun h => hsh (by simp [c1, h])
        exact ⟨c1, by omega⟩
      · exact .inl c1
    have hNl : N.length ≤ 8 := by
      rw [hN, next_len hlt]
      exact S.choices _ (List.getElem_mem hlt)
    rcases hc with c1 | ⟨c1, c2⟩
    · simp [g0.eq, g1.eq, g2.eq, g3.eq, a3.eq, e1, h0l, rTS_effh, gdD_b, h168, ← h3, b0.eq, b1.eq, he', h3', c1, h7, h169]
      refine ⟨176, _, rfl, ?_⟩
      intro L hL hcb
      obtain ⟨lp, hlp⟩ : ∃ lp, lp = hp3.length := ⟨_, rfl⟩
      rw [← hlp] at hcb ⊢
      obtain ⟨J, hJ⟩ : ∃ J : List (List Int) → List Obj → Prop, J = fun rem hq => ∃ (dn W : List (List Int)) (sp : Spare), N.reverse = dn ++ rem ∧ W = l ++ dn ∧ At hq B (.cells (dProb p).cellsL) ∧
        At hq (B + 1) (.cells [.imm .none (s.opn.map dInts), dInts t.best, dInts t.value, .imm sp2 (dLs s.leaves ns)]) ∧ At hq (B + 1 + 1) (.cells [.imm .exact [], .imm .exact [], .imm .exact [], .imm .exact []]) ∧
        At hq (B + 3) (.cells [.imm sp (W.map dInts)]) ∧ Room (B + 4) hq sp W.length 1 ∧ Room (B + 4) hq sp2 (s.leaves.length + ns.length) 3 ∧ K (i + 1) hq ∧ At hq lp (L false none) := ⟨_, rfl⟩
      have hb3 := b3.lt
      obtain ⟨sl, ps, asg, body, hLe⟩ := hL
      have key2 := i176 N (by omega) lp J (fun _ => False) (by
        intro x rem hq hj
        rw [hJ] at hj
        obtain ⟨dn, W, sp, j1, jW, j2, j3, j4, j5, j6, j7, j8, j9⟩ := hj
        have hWl : W.length ≤ 1000000100 := by
          have := congrArg List.length j1
          rw [List.length_reverse, List.length_append] at this
          rw [jW, List.length_append]; omega
        obtain ⟨W', hW'⟩ : ∃ W', W' = W ++ [x] := ⟨_, rfl⟩
        have hcat : List.map dInts W ++ [D.imm Spare.none (List.map dI x)] = List.map dInts W' := by rw [hW']; simp
        have hlen' : W'.length = W.length + 1 := by rw [hW']; simp
        have hap : ∀ y, appOk E 1 (List.map dInts W) [y] := fun y => by
          refine ⟨?_, ?_, ?_, fitsA_ints⟩ <;> simp [maxBytes]
          omega
        have z5 := j5.ne (j := lp) (x := L true none) (by omega)
        have l9 := j9.lt
        have noTok : ∀ k a b, At hq k (.tok a b) → k ≠ lp := fun k a b h e => by
          subst e
          have := h.eq.symm.trans j9.eq
          rw [hLe] at this
          simp at this
        obtain ⟨t', hp2', y1, y2⟩ := hcb [dInts x] hq (fun t' hp' => t' = true ∧ J rem hp') rfl j9 (by
          rcases j6 with rfl | ⟨k, rfl, jk, jk2⟩
          · obtain ⟨T, hT⟩ : ∃ T, T = (hq.set lp (L true none) ++ [Obj.tok (W.length + 1) 1]).set (B + 3) (.cells [.imm (.tok hq.length) (W'.map dInts)]) := ⟨_, rfl⟩
            have t1 : ∀ {m o}, m ≠ lp → m ≠ B + 3 → At hq m o → At T m o := fun h1 h2 g => by
              rw [hT]; exact ((g.ne (fun e => h1 e.symm)).app).ne (fun e => h2 e.symm)
            have t2 : At T lp (L true none) := by rw [hT]; exact ((At.self l9).app).ne (by omega)
            have t3 : At T (B + 3) (.cells [.imm (.tok hq.length) (W'.map dInts)]) := by rw [hT]; exact At.self (by simp; have := j5.lt; omega)
            have t4 : At T hq.length (Obj.tok (W.length + 1) 1) := by
              rw [hT]
              refine At.ne ?_ (by have := j5.lt; omega)
              have := get_app2 (hp := hq.set lp (L true none)) (r := [Obj.tok (W.length + 1) 1]) (k := 0)
              simpa [At] using this
            have tK : K (i + 1) T := by rw [hT]; exact hK2 _ _ _ _ (hK1 _ _ _ (hK2 _ _ _ _ j8 (by omega))) (by omega)
            have tK2 : K (i + 1) (T.set lp (L false none)) := hK2 _ _ _ _ tK (by omega)
            have hJT : J rem (T.set lp (L false none)) := by
              rw [hJ]
              have n : ∀ {m o}, m ≠ lp → At T m o → At (T.set lp (L false none)) m o := fun h g => g.ne (fun e => h e.symm)
              refine ⟨dn ++ [x], W', .tok hq.length, by rw [j1]; simp, by rw [hW', jW]; simp, n (by omega) (t1 (by omega) (by omega) j2), n (by omega) (t1 (by omega) (by omega) j3), n (by omega) (t1 (by omega) (by omega) j4), n (by omega) t3,
                .inr ⟨_, rfl, by have := j5.lt; omega, by rw [hlen', Nat.mul_one]; exact n (by omega) t4⟩, ?_, tK2, At.self t2.lt⟩
              rcases j7 with h | ⟨k, h1, h2, h5⟩
              · exact .inl h
              · exact .inr ⟨k, h1, h2, n (noTok _ _ _ h5) (t1 (noTok _ _ _ h5) (by omega) h5)⟩
            simp [setAll, j9.eq, ↓z5.eq, ↓z5.appE, app0_step, app0_exact, hap, hcat, ← hT]
            exact ⟨t2.eq, hJT⟩
          · have hkl := noTok _ _ _ jk2
            have z6 := z5.ne (j := k) (x := .dead) (by omega)
            have z7 := jk2.ne (j := lp) (x := L true none) (fun e => hkl e.symm)
            obtain ⟨T, hT⟩ : ∃ T, T = ((hq.set lp (L true none)).set k .dead ++ [Obj.tok (W.length + 1) 1]).set (B + 3) (.cells [.imm (.tok hq.length) (W'.map dInts)]) := ⟨_, rfl⟩
            have t1 : ∀ {m o}, m ≠ lp → m ≠ B + 3 → m ≠ k → At hq m o → At T m o := fun h1 h2 h3 g => by
              rw [hT]; exact (((g.ne (fun e => h1 e.symm)).ne (fun e => h3 e.symm)).app).ne (fun e => h2 e.symm)
            have t2 : At T lp (L true none) := by rw [hT]; exact (((At.self l9).ne hkl).app).ne (by omega)
            have t3 : At T (B + 3) (.cells [.imm (.tok hq.length) (W'.map dInts)]) := by rw [hT]; exact At.self (by simp; have := j5.lt; omega)
            have t4 : At T hq.length (Obj.tok (W.length + 1) 1) := by
              rw [hT]
              refine At.ne ?_ (by have := j5.lt; omega)
              have := get_app2 (hp := (hq.set lp (L true none)).set k .dead) (r := [Obj.tok (W.length + 1) 1]) (k := 0)
              simpa [At] using this
            have tK : K (i + 1) T := by rw [hT]; exact hK2 _ _ _ _ (hK1 _ _ _ (hK2 _ _ _ _ (hK2 _ _ _ _ j8 (by omega)) (by omega))) (by omega)
            have tK2 : K (i + 1) (T.set lp (L false none)) := hK2 _ _ _ _ tK (by omega)
            have hJT : J rem (T.set lp (L false none)) := by
              rw [hJ]
              have n : ∀ {m o}, m ≠ lp → At T m o → At (T.set lp (L false none)) m o := fun h g => g.ne (fun e => h e.symm)
              refine ⟨dn ++ [x], W', .tok hq.length, by rw [j1]; simp, by rw [hW', jW]; simp, n (by omega) (t1 (by omega) (by omega) (by omega) j2), n (by omega) (t1 (by omega) (by omega) (by omega) j3), n (by omega) (t1 (by omega) (by omega) (by omega) j4), n (by omega) t3,
                .inr ⟨_, rfl, by have := j5.lt; omega, by rw [hlen', Nat.mul_one]; exact n (by have := l9; omega) t4⟩, ?_, tK2, At.self t2.lt⟩
              rcases j7 with h | ⟨k2, h1, h2, h5⟩
              · exact .inl h
              · have hkk : k2 ≠ k := fun e => by
                  subst e
                  have := h5.eq.symm.trans jk2.eq
                  simp at this
                exact .inr ⟨k2, h1, h2, n (noTok _ _ _ h5) (t1 (noTok _ _ _ h5) (by omega) hkk h5)⟩
            rw [Nat.mul_one] at z7
            simp [setAll, j9.eq, ↓z5.eq, ↓z6.appE, z7.eq, app0_step, app0_tok, hap, hcat, ← hT]
            exact ⟨t2.eq, hJT⟩)
        refine ⟨t', hp2', y1, fun _ => y2.2, fun h => ?_⟩
        rw [y2.1] at h; cases h) (hp := hp3 ++ [L false none]) (by
        rw [hJ]
        exact ⟨[], l, .exact, by simp, by simp, b0.app, b1.app, b2.app, b3.app, .inl rfl, (by
          rcases bR with h | ⟨k, h1, h2, h5⟩
          · exact .inl h
          · exact .inr ⟨k, h1, h2, h5.app⟩), hK1 _ _ _ bK, by rw [hlp]; simp [At]⟩)
      obtain ⟨d, hp', k1, k2 | k2⟩ := key2
      · rw [hJ] at k2
        obtain ⟨dn, W, sp, j1, jW, j2, j3, j4, j5, j6, j7, j8, j9⟩ := k2
        refine ⟨d, hp', k1, .inl ⟨j9.eq, ?_⟩⟩
        rw [List.append_nil] at j1
        have noTok : ∀ k a b, At hp' k (.tok a b) → k ≠ lp := fun k a b h e => by
          subst e
          have := h.eq.symm.trans j9.eq
          rw [hLe] at this
          simp at this
        have n : ∀ {m o}, m ≠ lp → At hp' m o → At (hp'.set lp .dead) m o := fun h g => g.ne (fun e => h e.symm)
        rw [jW, ← j1] at j5
        simp
        exact ⟨_, by omega, i + 1, rfl, hmore2, ns, by rw [hu]; exact hlv, hmu, n (by omega) j2, sp, sp2, by rw [hu]; exact n (by omega) j3, n (by omega) j4, by rw [hu]; exact n (by omega) j5, (by
          rcases j7 with h | ⟨k, h1, h2, h5⟩
          · exact .inl h
          · exact .inr ⟨k, h1, h2, n (noTok _ _ _ h5) h5⟩), hK2 _ _ _ _ j8 (by omega)⟩
      · exact k2.elim
    · have c3 : ¬ 0 ≤ cmpL V t.value := by omega
      simp [g0.eq, g1.eq, g2.eq, g3.eq, a3.eq, e1, h0l, rTS_effh, gdD_b, h168, ← h3, b0.eq, b1.eq, he', h3', h87, c1, c2, c3, h7, h169]
      refine ⟨176, _, rfl, ?_⟩
      intro L hL hcb
      obtain ⟨lp, hlp⟩ : ∃ lp, lp = hp3.length := ⟨_, rfl⟩
      rw [← hlp] at hcb ⊢
      obtain ⟨J, hJ⟩ : ∃ J : List (List Int) → List Obj → Prop, J = fun rem hq => ∃ (dn W : List (List Int)) (sp : Spare), N.reverse = dn ++ rem ∧ W = l ++ dn ∧ At hq B (.cells (dProb p).cellsL) ∧
        At hq (B + 1) (.cells [.imm .none (s.opn.map dInts), dInts t.best, dInts t.value, .imm sp2 (dLs s.leaves ns)]) ∧ At hq (B + 1 + 1) (.cells [.imm .exact [], .imm .exact [], .imm .exact [], .imm .exact []]) ∧
        At hq (B + 3) (.cells [.imm sp (W.map dInts)]) ∧ Room (B + 4) hq sp W.length 1 ∧ Room (B + 4) hq sp2 (s.leaves.length + ns.length) 3 ∧ K (i + 1) hq ∧ At hq lp (L false none) := ⟨_, rfl⟩
      have hb3 := b3.lt
      obtain ⟨sl, ps, asg, body, hLe⟩ := hL
      have key2 := i176 N (by omega) lp J (fun _ => False) (by
        intro x rem hq hj
        rw [hJ] at hj
        obtain ⟨dn, W, sp, j1, jW, j2, j3, j4, j5, j6, j7, j8, j9⟩ := hj
        have hWl : W.length ≤ 1000000100 := by
          have := congrArg List.length j1
          rw [List.length_reverse, List.length_append] at this
          rw [jW, List.length_append]; omega
        obtain ⟨W', hW'⟩ : ∃ W', W' = W ++ [x] := ⟨_, rfl⟩
        have hcat : List.map dInts W ++ [D.imm Spare.none (List.map dI x)] = List.map dInts W' := by rw [hW']; simp
        have hlen' : W'.length = W.length + 1 := by rw [hW']; simp
        have hap : ∀ y, appOk E 1 (List.map dInts W) [y] := fun y => by
          refine ⟨?_, ?_, ?_, fitsA_ints⟩ <;> simp [maxBytes]
          omega
        have z5 := j5.ne (j := lp) (x := L true none) (by omega)
        have l9 := j9.lt
        have noTok : ∀ k a b, At hq k (.tok a b) → k ≠ lp := fun k a b h e => by
          subst e
          have := h.eq.symm.trans j9.eq
          rw [hLe] at this
          simp at this
        obtain ⟨t', hp2', y1, y2⟩ := hcb [dInts x] hq (fun t' hp' => t' = true ∧ J rem hp') rfl j9 (by
          rcases j6 with rfl | ⟨k, rfl, jk, jk2⟩
          · obtain ⟨T, hT⟩ : ∃ T, T = (hq.set lp (L true none) ++ [Obj.tok (W.length + 1) 1]).set (B + 3) (.cells [.imm (.tok hq.length) (W'.map dInts)]) := ⟨_, rfl⟩
            have t1 : ∀ {m o}, m ≠ lp → m ≠ B + 3 → At hq m o → At T m o := fun h1 h2 g => by
              rw [hT]; exact ((g.ne (fun e => h1 e.symm)).app).ne (fun e => h2 e.symm)
            have t2 : At T lp (L true none) := by rw [hT]; exact ((At.self l9).app).ne (by omega)
            have t3 : At T (B + 3) (.cells [.imm (.tok hq.length) (W'.map dInts)]) := by rw [hT]; exact At.self (by simp; have := j5.lt; omega)
            have t4 : At T hq.length (Obj.tok (W.length + 1) 1) := by
              rw [hT]
              refine At.ne ?_ (by have := j5.lt; omega)
              have := get_app2 (hp := hq.set lp (L true none)) (r := [Obj.tok (W.length + 1) 1]) (k := 0)
              simpa [At] using this
            have tK : K (i + 1) T := by rw [hT]; exact hK2 _ _ _ _ (hK1 _ _ _ (hK2 _ _ _ _ j8 (by omega))) (by omega)
            have tK2 : K (i + 1) (T.set lp (L false none)) := hK2 _ _ _ _ tK (by omega)
            have hJT : J rem (T.set lp (L false none)) := by
              rw [hJ]
              have n : ∀ {m o}, m ≠ lp → At T m o → At (T.set lp (L false none)) m o := fun h g => g.ne (fun e => h e.symm)
              refine ⟨dn ++ [x], W', .tok hq.length, by rw [j1]; simp, by rw [hW', jW]; simp, n (by omega) (t1 (by omega) (by omega) j2), n (by omega) (t1 (by omega) (by omega) j3), n (by omega) (t1 (by omega) (by omega) j4), n (by omega) t3,
                .inr ⟨_, rfl, by have := j5.lt; omega, by rw [hlen', Nat.mul_one]; exact n (by omega) t4⟩, ?_, tK2, At.self t2.lt⟩
              rcases j7 with h | ⟨k, h1, h2, h5⟩
              · exact .inl h
              · exact .inr ⟨k, h1, h2, n (noTok _ _ _ h5) (t1 (noTok _ _ _ h5) (by omega) h5)⟩
            simp [setAll, j9.eq, ↓z5.eq, ↓z5.appE, app0_step, app0_exact, hap, hcat, ← hT]
            exact ⟨t2.eq, hJT⟩
          · have hkl := noTok _ _ _ jk2
            have z6 := z5.ne (j := k) (x := .dead) (by omega)
            have z7 := jk2.ne (j := lp) (x := L true none) (fun e => hkl e.symm)
            obtain ⟨T, hT⟩ : ∃ T, T = ((hq.set lp (L true none)).set k .dead ++ [Obj.tok (W.length + 1) 1]).set (B + 3) (.cells [.imm (.tok hq.length) (W'.map dInts)]) := ⟨_, rfl⟩
            have t1 : ∀ {m o}, m ≠ lp → m ≠ B + 3 → m ≠ k → At hq m o → At T m o := fun h1 h2 h3 g => by
              rw [hT]; exact (((g.ne (fun e => h1 e.symm)).ne (fun e => h3 e.symm)).app).ne (fun e => h2 e.symm)
            have t2 : At T lp (L true none) := by rw [hT]; exact (((At.self l9).ne hkl).app).ne (by omega)
            have t3 : At T (B + 3) (.cells [.imm (.tok hq.length) (W'.map dInts)]) := by rw [hT]; exact At.self (by simp; have := j5.lt; omega)
            have t4 : At T hq.length (Obj.tok (W.length + 1) 1) := by
              rw [hT]
              refine At.ne ?_ (by have := j5.lt; omega)
              have := get_app2 (hp := (hq.set lp (L true none)).set k .dead) (r := [Obj.tok (W.length + 1) 1]) (k := 0)
              simpa [At] using this
            have tK : K (i + 1) T := by rw [hT]; exact hK2 _ _ _ _ (hK1 _ _ _ (hK2 _ _ _ _ (hK2 _ _ _ _ j8 (by omega)) (by omega))) (by omega)
            have tK2 : K (i + 1) (T.set lp (L false none)) := hK2 _ _ _ _ tK (by omega)
            have hJT : J rem (T.set lp (L false none)) := by
              rw [hJ]
              have n : ∀ {m o}, m ≠ lp → At T m o → At (T.set lp (L false none)) m o := fun h g => g.ne (fun e => h e.symm)
              refine ⟨dn ++ [x], W', .tok hq.length, by rw [j1]; simp, by rw [hW', jW]; simp, n (by omega) (t1 (by omega) (by omega) (by omega) j2), n (by omega) (t1 (by omega) (by omega) (by omega) j3), n (by omega) (t1 (by omega) (by omega) (by omega) j4), n (by omega) t3,
                .inr ⟨_, rfl, by have := j5.lt; omega, by rw [hlen', Nat.mul_one]; exact n (by have := l9; omega) t4⟩, ?_, tK2, At.self t2.lt⟩
              rcases j7 with h | ⟨k2, h1, h2, h5⟩
              · exact .inl h
              · have hkk : k2 ≠ k := fun e => by
                  subst e
                  have := h5.eq.symm.trans jk2.eq
                  simp at this
                exact .inr ⟨k2, h1, h2, n (noTok _ _ _ h5) (t1 (noTok _ _ _ h5) (by omega) hkk h5)⟩
            rw [Nat.mul_one] at z7
            simp [setAll, j9.eq, ↓z5.eq, ↓z6.appE, z7.eq, app0_step, app0_tok, hap, hcat, ← hT]
            exact ⟨t2.eq, hJT⟩)
        refine ⟨t', hp2', y1, fun _ => y2.2, fun h => ?_⟩
        rw [y2.1] at h; cases h) (hp := hp3 ++ [L false none]) (by
        rw [hJ]
        exact ⟨[], l, .exact, by simp, by simp, b0.app, b1.app, b2.app, b3.app, .inl rfl, (by
          rcases bR with h | ⟨k, h1, h2, h5⟩
          · exact .inl h
          · exact .inr ⟨k, h1, h2, h5.app⟩), hK1 _ _ _ bK, by rw [hlp]; simp [At]⟩)
      obtain ⟨d, hp', k1, k2 | k2⟩ := key2
      · rw [hJ] at k2
        obtain ⟨dn, W, sp, j1, jW, j2, j3, j4, j5, j6, j7, j8, j9⟩ := k2
        refine ⟨d, hp', k1, .inl ⟨j9.eq, ?_⟩⟩
        rw [List.append_nil] at j1
        have noTok : ∀ k a b, At hp' k (.tok a b) → k ≠ lp := fun k a b h e => by
          subst e
          have := h.eq.symm.trans j9.eq
          rw [hLe] at this
          simp at this
        have n : ∀ {m o}, m ≠ lp → At hp' m o → At (hp'.set lp .dead) m o := fun h g => g.ne (fun e => h e.symm)
        rw [jW, ← j1] at j5
        simp
        exact ⟨_, by omega, i + 1, rfl, hmore2, ns, by rw [hu]; exact hlv, hmu, n (by omega) j2, sp, sp2, by rw [hu]; exact n (by omega) j3, n (by omega) j4, by rw [hu]; exact n (by omega) j5, (by
          rcases j7 with h | ⟨k, h1, h2, h5⟩
          · exact .inl h
          · exact .inr ⟨k, h1, h2, n (noTok _ _ _ h5) h5⟩), hK2 _ _ _ _ j8 (by omega)⟩
      · exact k2.elim
  rw [hR] at key
  exact key

theorem s151 {hp : List Obj} : runS E (dL E) 151 [] hp = some (.bool true, hp) := by
  obtain ⟨d, hp', h1, h2, h3⟩ := runS_T c151 (args := []) (hp := hp) (R := fun d hp' => d = .bool true ∧ hp' = hp) (by simp) (by
    simp [t151, n151])
  rw [h1, h2, h3]

theorem wgt_le : ∀ {vs : List Var}, (∀ v, v ∈ vs → v.choices.length ≤ 8) → wgt vs ≤ 9 ^ vs.length
  | [], _ => by simp [wgt]
  | v :: vs, h => by
    have h1 := wgt_le (vs := vs) fun w hw => h w (by simp [hw])
    have h2 := h v (by simp)
    have h3 := wgt_pos (vs := vs)
    have h4 : v.choices.length * wgt vs ≤ 8 * wgt vs := Nat.mul_le_mul_right _ h2
    simp only [wgt, List.length_cons, Nat.pow_succ]
    omega
theorem wB_le {p : Prob} (S : Small p) {b : List Int} : wB p b ≤ 531441 := by
  unfold wB
  have h1 := wgt_le (vs := p.vars.drop b.length) fun v hv => S.choices v (List.mem_of_mem_drop hv)
  have h2 : (p.vars.drop b.length).length ≤ 6 := by have := S.vars; simp; omega
  exact Nat.le_trans h1 (Nat.le_trans (Nat.pow_le_pow_right (by decide) h2) (by decide))
theorem wO_le {p : Prob} (S : Small p) : ∀ {l : List (List Int)}, wO p l ≤ l.length * 531441
  | [] => by simp [wO]
  | b :: l => by
    have h1 := wB_le S (b := b)
    have h2 := wO_le S (l := l)
    simp only [wO, List.length_cons]; omega
theorem SmS.of {p : Prob} (S : Small p) {s : Srch} (h1 : s.opn.length ≤ 1000) (h2 : s.leaves.length ≤ 100000000) : SmS p s := ⟨by
  have := wO_le S (l := s.opn)
  omega⟩
theorem startS_sm {p : Prob} (S : Small p) : SmS p startS := SmS.of S (by decide) (by decide)

theorem r150 (p : Prob) (s : Srch) (S : Small p) (ok : OkP p) (M : SmS p s) (hs : OkS p s) : ∃ n, (iter p n s).opn = [] ∧ runP E (dL E) 150 [dProb p, dSrch s, .fn 151 []] = some (dSrch (iter p n s)) := by
  obtain ⟨d, hp', f1, c, ns, sp1, sp2, f2, f3, f4, f5, f6, m, f7⟩ := s150 p s S ok M hs 151 [] (fun _ => true) [] (fun _ _ => True)
    (fun m hp _ => ⟨hp, s151, trivial, fun j o _ h => h⟩) (fun m hp r g => trivial) (fun m hp j o g hj => trivial) trivial
  have hz := frzL_dLs (hp := hp') (n := 6) (ls := s.leaves) (ns := ns) f5
  rw [← f4] at hz
  refine ⟨c, by simpa using f3, ?_⟩
  have hk : E.keep 150 = false := rfl
  unfold runP
  simp only [f1, f6, hk, frzK]
  simp [hz]

noncomputable def resSolve (p : Prob) : D := if ck p = 0 then .tup [dCert (certS (solveS p)), dI 0] else .tup [dCert cert0, dI (ck p)]

theorem ck_ok {p : Prob} (h : ck p = 0) : OkP p := by
  unfold ck at h
  split at h
  · assumption
  · cases h
theorem cert_solve {p : Prob} (S : Small p) (ok : OkP p) : resCert p (solveS p) = .tup [dCert (certS (solveS p)), dI 0] := by
  have h1 : OkS p (solveS p) := startS_ok.iter ok
  have h2 := solve_end ok
  obtain ⟨w, e, _⟩ := solve_best S ok
  have h3 : sk p (solveS p) = 0 := by simp [sk, ok, h1]
  unfold resCert
  rw [if_pos h3, if_pos ⟨by rw [h2]; rfl, by rw [e]; simp [boundL]⟩]

theorem r131 (p : Prob) (S : Small p) : runP E (dL E) 131 [dProb p] = some (resSolve p) := by
  refine runP_T c131 (by simp) ?_
  have h139 := r139 p S
  simp only [dProb] at h139
  unfold resStart at h139
  by_cases h : ck p = 0
  rotate_left
  · rw [if_neg h] at h139
    simp [t131, n131, h139, h, resSolve, srch0, cert0]
  have ok := ck_ok h
  rw [if_pos h] at h139
  obtain ⟨n, h1, h2⟩ := r150 p startS S ok (startS_sm S) startS_ok
  rw [iter_all ok h1] at h2
  have h133 := r133 p (solveS p) S ((startS_sm S).iter ok startS_ok)
  rw [cert_solve S ok] at h133
  obtain ⟨V, hV⟩ : ∃ V, V = solveS p := ⟨_, rfl⟩
  rw [← hV] at h2 h133
  simp only [dProb, dSrch, dInts] at h2 h133
  simp only [startS, dInts, List.map_cons, List.map_nil] at h2
  simp [t131, n131, h139, h, resSolve, ← hV, startS, h2, h133, certS, frzL_leaf]

def prob0 : Prob := ⟨[], [], []⟩
noncomputable def resWith (p : Prob) (c : List Cause) (m : Int) : D := if ckC p c = 0 then (if 0 ≤ m ∧ m ≤ c.length then .tup [dProb (withP p c m.toNat), dI 0] else .tup [dProb prob0, dI 1]) else .tup [dProb prob0, dI (ckC p c)]

theorem ckC_ok {p : Prob} {c : List Cause} (h : ckC p c = 0) : OkP p ∧ OkC p c := by
  unfold ckC at h
  by_cases h0 : OkP p
  · rw [if_pos h0] at h
    by_cases h1 : OkC p c
    · exact ⟨h0, h1⟩
    · rw [if_neg h1] at h; omega
  · rw [if_neg h0] at h; omega

/-- a list of numbers grows by one -/
theorem push6 {hp : List Obj} {sp : Spare} {els : List D} {x : D} {B id : Nat} (hok : appOk E 2 els [x]) (hx : (x.storable && x.cellsL.length == 1) = true) (R : Room B hp sp els.length 1) (hid : id ≤ hp.length) :
    ∃ hp', app0 E hp id 6 6 (.imm sp els) (.imm .exact [x]) = some (.imm (.tok id) (els ++ [x]), hp') ∧ At hp' id (.tok ((els.length + 1) * 1) 1) ∧ hp.length ≤ hp'.length ∧
      ∀ i o, At hp i o → (∀ k, sp = .tok k → i ≠ k) → i ≠ id → At hp' i o := by
  have k9 : (E.ty 6).k = .slice 2 := rfl
  have s6 : (E.ty 2).size = 1 := rfl
  rcases R with rfl | ⟨k, rfl, _, g⟩
  · obtain ⟨a1, a2, a3⟩ := addO_at (o := .tok ((els.length + 1) * 1) 1) hid
    refine ⟨_, ?_, a1, a2, fun i o g _ hne => a3 i o g hne⟩
    rw [app0_exact, k9]
    simp only [listOf_imm, s6, List.all_cons, List.all_nil, hx, Bool.and_true, if_true, ob_some, if_pos hok, List.length_cons, List.length_nil]
  · have hg := g.eq
    obtain ⟨a1, a2, a3⟩ := addO_at (hp := hp.set k .dead) (id := id) (o := .tok ((els.length + 1) * 1) 1) (by simpa using hid)
    refine ⟨_, ?_, a1, by simpa using a2, fun i o g hk hne => a3 i o (g.ne (Ne.symm (hk k rfl))) hne⟩
    rw [app0_tok, k9]
    simp only [listOf_imm, s6, List.all_cons, List.all_nil, hx, Bool.and_true, if_true, ob_some, if_pos hok, List.length_cons, List.length_nil, hg, tokO_tok, and_self]
theorem appOk_nums {l : List Int} {x : D} (h : l.length ≤ 100000) : appOk E 2 (l.map dI) [x] := by
  refine ⟨?_, ?_, ?_, ?_⟩
  · simp [maxBytes, E, tyTab]; omega
  · simp [E, tyTab]
  · rfl
  · simp [fitsE, E, tyTab, D.storable, D.atom, D.cellsL]

noncomputable def resDly (p : Prob) : D := if ck p = 0 then .tup [dInts (dlyL p), dI 0] else .tup [dInts [], dI (ck p)]

set_option maxHeartbeats 4000000 in
theorem r184 (p : Prob) (S : Small p) : runP E (dL E) 184 [dProb p] = some (resDly p) := by
  refine runP_T c184 (by simp) ?_
  have h131 := r131 p S
  unfold resSolve at h131
  unfold resDly
  by_cases h0 : ck p = 0
  rotate_left
  · rw [if_neg h0] at h131 ⊢
    simp only [dProb, dInts, dCert, cert0, List.map_nil] at h131
    simp [t184, n184, h131, h0]
  rw [if_pos h0] at h131 ⊢
  have ok := ck_ok h0
  obtain ⟨w, _, _⟩ := solve_best S ok
  obtain ⟨Bs, hBs⟩ : ∃ Bs, Bs = (solveS p).best := ⟨_, rfl⟩
  have hD : dlyL p = (p.vars.zip Bs).map fun x => (x.1.choices.getD x.2.toNat ⟨0, 0, 0, []⟩).delay := by rw [hBs]; rfl
  rw [← hBs] at w
  have hbl : Bs.length = p.vars.length := w.2.2
  have hDl := dlyL_len S ok
  have s3 := S.vars
  obtain ⟨Ct, hC⟩ : ∃ Ct, Ct = certS (solveS p) := ⟨_, rfl⟩
  have hCb : Ct.best = Bs := by rw [hC, hBs]; rfl
  rw [← hC] at h131
  simp only [dProb, dInts, dCert, hCb] at h131
  obtain ⟨DL, hDL⟩ : ∃ DL, DL = dlyL p := ⟨_, rfl⟩
  rw [← hDL] at hD hDl ⊢
  simp [t184, n184, h131]
  refine wT_up Bs.length (fun i env hp => ∃ (x4 x5 x6 x7 x8 x12 x13 : D) (sp : Spare), env = [dProb p, .loc 0 0, .imm sp ((DL.take i).map dI), dI 0, x4, x5, x6, x7, x8, dInts Bs, dI Bs.length, dI i, x12, x13] ∧ At hp 0 (.cells (dProb p).cellsL) ∧ Room 1 hp sp i 1) 0 (by omega)
    ⟨_, _, _, _, _, _, _, .exact, rfl, by simp [At], .inl rfl⟩ ?_
  rintro i env hp hi ⟨x4, x5, x6, x7, x8, x12, x13, sp, rfl, g0, R⟩
  by_cases hlt : i < Bs.length
  · have hv : i < p.vars.length := by omega
    have hw := w.2.1.each i hlt hv
    unfold wi at hw
    have hd : i < DL.length := by omega
    have hn : Bs[i].toNat < p.vars[i].choices.length := by omega
    have hDi : DL[i] = (p.vars[i].choices[Bs[i].toNat]).delay := by
      simp only [hD, List.getElem_map, List.getElem_zip]
      rw [List.getD_eq_getElem?_getD, List.getElem?_eq_getElem hn, Option.getD_some]
    obtain ⟨b, hb⟩ : ∃ b : Nat, Bs[i] = b := ⟨Bs[i].toNat, by omega⟩
    have hn' : b < p.vars[i].choices.length := by omega
    have hDi' : DL[i] = (p.vars[i].choices[b]).delay := by
      rw [hDi]
      congr 2
      simp [hb]
    have R3 : Room 1 hp sp ((DL.take i).map dI).length 1 := by
      rw [List.length_map, List.length_take, Nat.min_eq_left (by omega)]; exact R
    obtain ⟨h', e1, e2, e3, e4⟩ := push6 (x := dI DL[i]) (id := hp.length) (appOk_nums (by simp; omega)) (by simp [D.storable, D.atom, D.cellsL]) R3 (Nat.le_refl _)
    have eL : (DL.take i).map dI ++ [dI DL[i]] = (DL.take (i + 1)).map dI := by rw [List.take_succ_eq_append_getElem hd, List.map_append]; rfl
    rw [eL] at e1
    rw [List.length_map, List.length_take, Nat.min_eq_left (by omega)] at e2
    have Q0 := e4 0 _ g0 (fun k hk => by
      rcases R with h | ⟨k2, h1, h2, _⟩
      · rw [h] at hk; cases hk
      · rw [h1] at hk; cases hk; omega) (by have := g0.lt; omega)
    obtain ⟨Ls, hLs⟩ : ∃ Ls, Ls = (DL.take i).map dI := ⟨_, rfl⟩
    obtain ⟨Lt, hLt⟩ : ∃ Lt, Lt = (DL.take (i + 1)).map dI := ⟨_, rfl⟩
    rw [← hLs, ← hLt, hDi'] at e1
    rw [← hLs, ← hLt]
    have l0 := g0.lt
    simp only [dI] at e1
    simp [hlt, hb, hv, hn', g0.eq, e1, wrap_up hlt (by omega)]
    repeat apply Exists.intro
    exact ⟨by and_intros <;> rfl, Q0, .inr ⟨_, rfl, by omega, e2⟩⟩
  · have : i = Bs.length := by omega
    subst this
    have e : DL.take Bs.length = DL := List.take_of_length_le (by omega)
    rw [e]
    simp [hlt]

set_option maxHeartbeats 16000000 in
theorem r4 (p : Prob) (b : List Int) (S : Small p) (hb : b.length ≤ 20) : runP E (dL E) 4 [dProb p, dInts b] = some (resB p b) := by
  refine runP_T c4 (by simp) ?_
  have h64 := r64 p b S hb
  have s1 := S.cells
  have s2 := S.cap
  have s3 := S.vars
  simp only [dProb, dInts] at h64
  simp [t4, n4, h64]
  by_cases h0 : bk p b 280 = 0
  rotate_left
  · simp [h0, resB]
  obtain ⟨ok, okb⟩ := bk_ok h0 (by decide)
  have hb0 := bk_pos (e := 270) ok okb
  simp only [resB, h0, if_true]
  have hov := ov_le S ok (b := b)
  obtain ⟨V, hV⟩ : ∃ V, V = ov p b := ⟨_, rfl⟩
  rw [← hV] at hov
  have hbd := bd_picks (vs := p.vars) (b := b) (fun v hv => ⟨ok.vars v hv, S.leaves v hv⟩)
  have hpl := picks_len (vs := p.vars) (b := b)
  have hCb := sumC_bd hbd
  have hGb := sumG_bd hbd
  obtain ⟨M, hM⟩ : ∃ M, M = maxD 0 (picks p.vars b) := ⟨_, rfl⟩
  obtain ⟨C, hC⟩ : ∃ C, C = sumC (picks p.vars b) := ⟨_, rfl⟩
  obtain ⟨G, hG⟩ : ∃ G, G = sumG (picks p.vars b) := ⟨_, rfl⟩
  rw [← hC] at hCb
  rw [← hG] at hGb
  have hfin : boundL p b = [V, M, C, G] := by rw [hV, hM, hC, hG]; rfl
  rw [hfin]
  clear hfin
  simp [h0, flat]
  refine wT_up p.capacity.length (fun i env hp => ∃ (x5 x8 x9 x10 x11 x12 x13 x14 x15 x16 x17 x18 x19 x20 x21 x22 x23 x24 : D) (v : Int) (h : List Obj), env = [dProb p, dInts b, .loc 0 0, .imm .exact [], dI 0, x5, .sl 1 0 4 1 false true, dI i, x8, x9, x10, x11, x12, x13, x14, x15, x16, x17, x18, x19, x20, x21, x22, x23, x24] ∧
    hp = .cells (dProb p).cellsL :: .cells [dI v, dI 0, dI 0, dI 0] :: h ∧ 0 ≤ v ∧ v + ovL p b i (p.capacity.drop i) = V) 0 (by omega) ⟨_, _, _, _, _, _, _, _, _, _, _, _, _, _, _, _, _, _, 0, _, rfl, rfl, by omega, by simp [hV, ov]⟩ ?_
  rintro i env hp hi ⟨x5, x8, x9, x10, x11, x12, x13, x14, x15, x16, x17, x18, x19, x20, x21, x22, x23, x24, v, h, rfl, rfl, hv0, hv⟩
  by_cases hlt : i < p.capacity.length
  · rw [drop_cons hlt] at hv
    simp only [ovL] at hv
    have hrest := ovL_pos (p := p) (b := b) (cs := p.capacity.drop (i + 1)) (k := i + 1)
    have hcap := ok.cap _ (List.getElem_mem hlt)
    have h18 := r18 p b i S hb
    have hQ : resQ p b i = .tup [.imm .none ((dem p b i).map dI), dI 0] := by
      have : (0 : Int) ≤ i ∧ (i : Int) ≤ p.capacity.length - 1 := by omega
      unfold resQ
      rw [if_pos hb0, if_pos this]
    rw [hQ] at h18
    simp only [dProb, dInts] at h18
    have hdl : (dem p b i).length = p.cells.length := by simp [dem, foldU_len]
    have hdb := dem_bd S ok (b := b) (leaf := i)
    obtain ⟨d, hd⟩ : ∃ d, d = dem p b i := ⟨_, rfl⟩
    rw [← hd] at h18 hdl hdb hv
    obtain ⟨c, hc⟩ : ∃ c, c = p.capacity[i] := ⟨_, rfl⟩
    rw [← hc] at hcap hv
    simp [hlt, h18]
    obtain ⟨rest, hre⟩ : ∃ rest, rest = ovL p b (i + 1) (p.capacity.drop (i + 1)) := ⟨_, rfl⟩
    rw [← hre] at hv hrest
    refine wT_up d.length (fun j env hp => ∃ (x5 x10 x11 x12 x13 x14 x15 x16 x17 x18 x19 x20 x21 x22 x23 x24 : D) (v : Int) (h : List Obj), env = [dProb p, dInts b, .loc 0 0, .imm .exact [], dI 0, x5, .sl 1 0 4 1 false true, dI i, dInts d, dI j, x10, x11, x12, x13, x14, x15, x16, x17, x18, x19, x20, x21, x22, x23, x24] ∧
      hp = .cells (dProb p).cellsL :: .cells [dI v, dI 0, dI 0, dI 0] :: h ∧ 0 ≤ v ∧ v + (ovR (d.drop j) (c.drop j) + rest) = V) 0 (by omega) ⟨_, _, _, _, _, _, _, _, _, _, _, _, _, _, _, _, v, _, rfl, rfl, hv0, by simpa using hv⟩ ?_
    rintro j env hp hj ⟨x5, x10, x11, x12, x13, x14, x15, x16, x17, x18, x19, x20, x21, x22, x23, x24, v, h, rfl, rfl, hv0, hv⟩
    by_cases hlt2 : j < d.length
    · have hjc : j < c.length := by omega
      have hjc' : j < p.capacity[i].length := by rw [← hc]; exact hjc
      rw [drop_cons hlt2, drop_cons hjc] at hv
      simp only [ovR] at hv
      have hrp := ovR_pos (d := d.drop (j + 1)) (c := c.drop (j + 1))
      have hd1 := hdb _ (List.getElem_mem hlt2)
      have hc1 := hcap.2 _ (List.getElem_mem hjc)
      unfold wi at hc1
      have e1 : p.capacity[i][j] = c[j] := by simp only [hc]
      have hm0 := mx0 (a := d[j] - c[j])
      by_cases hgt : c[j] < d[j]
      · have hm : mx (d[j] - c[j]) 0 = d[j] - c[j] := by unfold mx; rw [if_neg (by omega)]
        have w1 := wrap_i64 (n := v + d[j]) ⟨by omega, by omega⟩
        have w2 := wrap_i64 (n := v + d[j] - c[j]) ⟨by omega, by omega⟩
        simp [hlt, hlt2, hjc', e1, hgt, w1, w2, wrap_up hlt2 (by omega)]
        exact ⟨by omega, by omega⟩
      · have hm : mx (d[j] - c[j]) 0 = 0 := by unfold mx; split <;> omega
        simp [hlt, hlt2, hjc', e1, hgt, wrap_up hlt2 (by omega)]
        exact ⟨by omega, by omega⟩
    · have : j = d.length := by omega
      subst this
      simp only [List.drop_length, ovR, Int.zero_add] at hv
      simp [wrap_up hlt (by omega)]
      exact ⟨hv0, by rw [← hre]; exact hv⟩
  have : i = p.capacity.length := by omega
  subst this
  simp only [List.drop_length, ovL, Int.add_zero] at hv
  subst hv
  simp
  refine wT_up p.vars.length (fun i env hp => ∃ (x5 x7 x8 x9 x11 x12 x13 x14 x15 x16 x17 x18 x19 x20 x21 x22 x23 x24 : D) (v1 v2 v3 : Int) (h : List Obj), env = [dProb p, dInts b, .loc 0 0, .imm .exact [], dI 0, x5, .sl 1 0 4 1 false true, x7, x8, x9, dI i, x11, x12, x13, x14, x15, x16, x17, x18, x19, x20, x21, x22, x23, x24] ∧
    hp = .cells (dProb p).cellsL :: .cells [dI v, dI v1, dI v2, dI v3] :: h ∧ 0 ≤ v2 ∧ 0 ≤ v3 ∧ maxD v1 (picks (p.vars.drop i) (b.drop i)) = M ∧ v2 + sumC (picks (p.vars.drop i) (b.drop i)) = C ∧
    v3 + sumG (picks (p.vars.drop i) (b.drop i)) = G) 0 (by omega) ⟨_, _, _, _, _, _, _, _, _, _, _, _, _, _, _, _, _, _, 0, 0, 0, _, rfl, rfl, by omega, by omega, by simp [hM], by simp [hC], by simp [hG]⟩ ?_
  rintro i env hp hi ⟨x5, x7, x8, x9, x11, x12, x13, x14, x15, x16, x17, x18, x19, x20, x21, x22, x23, x24, v1, v2, v3, h, rfl, rfl, a2, a3, a4, a5, a6⟩
  by_cases hlt2 : i < p.vars.length
  · have okv := ok.vars _ (List.getElem_mem hlt2)
    have l2 := S.choices _ (List.getElem_mem hlt2)
    have l1 := S.leaves _ (List.getElem_mem hlt2)
    have hone := okv.one
    have hc0 : 0 < p.vars[i].choices.length := by omega
    have h65 := r65 p.vars[i].choices (by omega) hone
    have hr := bd_picks (vs := p.vars.drop (i + 1)) (b := b.drop (i + 1)) (fun v hv => ⟨ok.vars v (List.mem_of_mem_drop hv), S.leaves v (List.mem_of_mem_drop hv)⟩)
    have hr2 := sumC_bd hr
    have hr3 := sumG_bd hr
    have hbp := bd_pick okv (n := b[i]?)
    rw [drop_cons hlt2] at a4 a5 a6
    simp only [picks, List.tail_drop, List.head?_drop, sumC, sumG] at a4 a5 a6
    obtain ⟨n, hn⟩ : ∃ n : Int, n = p.vars[i].leaves.length := ⟨_, rfl⟩
    rw [← hn] at a4 a5 a6
    obtain ⟨⟨d1, d2⟩, ⟨c1, c2⟩, ⟨g1, g2⟩⟩ := hbp
    obtain ⟨c, hc⟩ : ∃ c, c = pick p.vars[i] b[i]? := ⟨_, rfl⟩
    rw [← hc] at a4 a5 a6 d1 d2 c1 c2 g1 g2
    have m1 := mul_bd c1 c2 (n := n) (by omega) (by omega)
    have m2 := mul_bd g1 g2 (n := n) (by omega) (by omega)
    have w1 := wrap_i64 (n := c.cost * n) ⟨by omega, by omega⟩
    have w2 := wrap_i64 (n := v2 + c.cost * n) ⟨by omega, by omega⟩
    have w3 := wrap_i64 (n := c.changes * n) ⟨by omega, by omega⟩
    have w4 := wrap_i64 (n := v3 + c.changes * n) ⟨by omega, by omega⟩
    have hmx : maxD (mx v1 c.delay) (picks (p.vars.drop (i + 1)) (b.drop (i + 1))) = M := a4
    obtain ⟨ls, hls⟩ : ∃ ls, ls = (p.vars[i].choices.drop 1).foldl minC (bare p.vars[i].choices[0]) := ⟨_, rfl⟩
    rw [← hls] at h65
    simp only [dChoice] at h65
    by_cases hib : i < b.length
    · have hw := okb.each i hib hlt2
      obtain ⟨m, hm⟩ : ∃ m : Nat, b[i] = m := ⟨b[i].toNat, by unfold wi at hw; omega⟩
      have hm' : m < p.vars[i].choices.length := by unfold wi at hw; omega
      rw [List.getElem?_eq_getElem hib, hm] at hc
      simp only [pick, Int.toNat_natCast, List.getD_eq_getElem?_getD, List.getElem?_eq_getElem hm', Option.getD_some] at hc
      by_cases hg : v1 < c.delay
      · have hmm : mx v1 c.delay = c.delay := by unfold mx; rw [if_pos hg]
        rw [hmm] at hmx
        simp [hlt2, hib, hm, hm', h65, ↓get_app2, ↓set_app2, ← hc, hg, ← hn, w1, w2, w3, w4, wrap_up hlt2 (by omega)]
        exact ⟨_, _, _, ⟨rfl, rfl, rfl⟩, by omega, by omega, hmx, by omega, by omega⟩
      · have hmm : mx v1 c.delay = v1 := by unfold mx; rw [if_neg hg]
        rw [hmm] at hmx
        simp [hlt2, hib, hm, hm', h65, ↓get_app2, ↓set_app2, ← hc, hg, ← hn, w1, w2, w3, w4, wrap_up hlt2 (by omega)]
        exact ⟨_, _, _, ⟨rfl, rfl, rfl⟩, by omega, by omega, hmx, by omega, by omega⟩
    · rw [List.getElem?_eq_none (by omega)] at hc
      simp only [pick, List.getD_eq_getElem?_getD, List.getElem?_eq_getElem hc0, Option.getD_some] at hc
      have hsame := minC_same (cs := p.vars[i].choices.drop 1) (a := bare p.vars[i].choices[0]) (b := p.vars[i].choices[0]) rfl rfl rfl
      rw [← hls, ← hc] at hsame
      obtain ⟨q1, q2, q3⟩ := hsame
      by_cases hg : v1 < c.delay
      · have hmm : mx v1 c.delay = c.delay := by unfold mx; rw [if_pos hg]
        rw [hmm] at hmx
        simp [hlt2, hib, h65, ↓get_app2, ↓set_app2, q1, q2, q3, hg, ← hn, w1, w2, w3, w4, wrap_up hlt2 (by omega)]
        exact ⟨_, _, _, ⟨rfl, rfl, rfl⟩, by omega, by omega, hmx, by omega, by omega⟩
      · have hmm : mx v1 c.delay = v1 := by unfold mx; rw [if_neg hg]
        rw [hmm] at hmx
        simp [hlt2, hib, h65, ↓get_app2, ↓set_app2, q1, q2, q3, hg, ← hn, w1, w2, w3, w4, wrap_up hlt2 (by omega)]
        exact ⟨_, _, _, ⟨rfl, rfl, rfl⟩, by omega, by omega, hmx, by omega, by omega⟩
  · have : i = p.vars.length := by omega
    subst this
    simp only [List.drop_length, picks, maxD, List.foldl_nil, sumC, sumG, Int.add_zero] at a4 a5 a6
    subst a4 a5 a6
    simp [chunk]

theorem appOk_lv {ls : List Leaf} {new : List D} (h : ls.length + new.length ≤ 2000000000) : appOk E 32 (ls.map dLeaf) new := by
  refine ⟨?_, ?_, ?_, ?_⟩
  · simp [maxBytes]; omega
  · simp
  · simp
  · have := fits_dLs (ls := ls) (ns := []); simpa [dLs] using this
theorem appOk_lv0 {new : List D} (h : new.length ≤ 2000000000) : appOk E 32 [] new := by
  have := appOk_lv (ls := []) (new := new) (by simpa using h)
  simpa using this
theorem appOk_op {l : List (List Int)} {new : List D} (h : l.length + new.length ≤ 2000000000) : appOk E 1 (l.map dInts) new := by
  refine ⟨?_, ?_, ?_, fitsA_ints⟩ <;> simp [maxBytes]
  omega
theorem appOk_op0 {new : List D} (h : new.length ≤ 2000000000) : appOk E 1 [] new := by
  have := appOk_op (l := []) (new := new) (by simpa using h)
  simpa using this
theorem all_ops {l : List (List Int)} : ((l.map dInts).all fun d => d.storable && d.cellsL.length == 1) = true := fitsA_ints
theorem all_lvs {l : List Leaf} : ((l.map dLeaf).all fun d => d.storable && d.cellsL.length == 3) = true := by
  have := fits_dLs (ls := l) (ns := [])
  simpa [dLs, fitsE] using this

set_option maxHeartbeats 16000000 in
theorem r154 (p : Prob) (s : Srch) (S : Small p) (ok : OkP p) (M : SmS p s) (hs : OkS p s) (hno : s.opn ≠ []) : runP E (dL E) 154 [dProb p, dSrch s] = some (dSrch (exam p s)) := by
  refine runP_T c154 (by simp) ?_
  obtain ⟨l, b, hl⟩ : ∃ l b, s.opn = l ++ [b] := ⟨s.opn.dropLast, s.opn.getLast hno, (List.dropLast_concat_getLast hno).symm⟩
  have hu := exam_snoc (p := p) hl
  have okb := hs.opn b (by rw [hl]; simp)
  have m1 := M.opn
  have m2 := M.lvs
  have hll : s.opn.length = l.length + 1 := by rw [hl]; simp
  have hb20 : b.length ≤ 20 := by have := okb.len; have := S.vars; omega
  have w := wrap_i64 (n := (s.opn.length : Int) - 1) ⟨by omega, by omega⟩
  have w2 : (s.opn.length : Int) - 1 = l.length := by omega
  rw [w2] at w
  have hg : (s.opn)[l.length]? = some b := by rw [hl, List.getElem?_append_right (Nat.le_refl _)]; simp
  have hs2 : sliceD E 4 (.imm .none (s.opn.map dInts)) none (some (dI l.length)) none = some (.imm .none (l.map dInts)) := by
    have hh : headFits 1 (s.opn.map dInts) = true := by cases s.opn <;> rfl
    have ht : (s.opn.map dInts).take l.length = l.map dInts := by
      rw [hl, List.map_append, List.take_append_of_le_length (by simp), List.take_of_length_le (by simp)]
    have h3 : l.length ≤ s.opn.length := by omega
    have h4 : ¬ l.length = s.opn.length := by omega
    simp [sliceD, bnd, sliceSpare, hh, ht, h3, h4]
  obtain ⟨U, hU⟩ : ∃ U, U = exam p s := ⟨_, rfl⟩
  rw [← hU] at hu ⊢
  obtain ⟨V, hV⟩ : ∃ V, V = boundL p b := ⟨_, rfl⟩
  have a1 : appOk E 1 [] (l.map dInts) := appOk_op0 (by simp; omega)
  have a2 : appOk E 32 [] (s.leaves.map dLeaf) := appOk_lv0 (by simp; omega)
  have a3 : ∀ x, appOk E 32 (s.leaves.map dLeaf) [x] := fun x => appOk_lv (by simp; omega)
  by_cases he : b.length = p.vars.length
  · have he' : (b.length : Int) = p.vars.length := by omega
    have h23 := r23 p b S hb20
    have wb : Whole p b := ⟨ok, okb, he⟩
    simp only [resV, if_pos wb, ← hV] at h23
    simp only [examB, if_pos he, bet, ← hV] at hu
    simp only [dProb, dInts] at h23
    obtain ⟨LV, hLV⟩ : ∃ LV, LV = s.leaves ++ [(⟨b, 1, []⟩ : Leaf)] := ⟨_, rfl⟩
    have hz : ∀ hp : List Obj, frzL (frz hp 10) (s.leaves.map dLeaf ++ [.agg [.imm .none (b.map dI), dI 1, .imm .exact []]]) = some (LV.map dLeaf) := fun hp => by
      have := frzL_dLs (hp := hp) (n := 6) (ls := s.leaves) (ns := [(⟨b, 1, []⟩ : Leaf)]) (fun x hx => by rw [List.mem_singleton.1 hx])
      rw [hLV]
      simpa [dLs] using this
    simp only [← hLV] at hu
    by_cases hv : s.value = []
    · simp only [hv, List.length_nil, decide_true, Bool.true_or, if_true] at hu
      simp [t154, n154, w2, w, hg, hs2, app0_step, app0_exact, app0_tok, all_ops, a1, all_lvs, a2, a3, he', h23, hv, hz, hu]
    have hv' : ¬ s.value.length = 0 := fun h => hv (List.eq_nil_of_length_eq_zero h)
    have h111 := r111 V s.value (by rw [hV]; simp [boundL]) (by
      rw [hV, okS_len hs hv]; rfl)
    simp only [dInts] at h111
    by_cases hc : cmpL V s.value < 0
    · simp only [hc, decide_true, Bool.or_true, if_true] at hu
      simp [t154, n154, w2, w, hg, hs2, app0_step, app0_exact, app0_tok, all_ops, a1, all_lvs, a2, a3, he', h23, hv, hz, hu, h111, hc]
    · simp only [hc, hv', decide_false, Bool.or_false, Bool.false_eq_true, if_false] at hu
      simp [t154, n154, w2, w, hg, hs2, app0_step, app0_exact, app0_tok, all_ops, a1, all_lvs, a2, a3, he', h23, hv, hz, hu, h111, hc]
  have he' : ¬ (b.length : Int) = p.vars.length := by omega
  have hlt : b.length < p.vars.length := by have := okb.len; omega
  have h4 := r4 p b S hb20
  simp only [resB, bk_pos ok okb, if_true, ← hV] at h4
  simp only [examB, if_neg he, shut, ← hV] at hu
  simp only [dProb, dInts] at h4
  have h8 := r8 p b S hb20
  obtain ⟨N, hN⟩ : ∃ N, N = nextL p b := ⟨_, rfl⟩
  have hNl : N.length ≤ 8 := by
    rw [hN, next_len hlt]
    exact S.choices _ (List.getElem_mem hlt)
  simp only [resN, bk_pos ok okb, if_true, if_neg he, ← hN] at h8
  simp only [dProb, dInts] at h8
  rw [← hN] at hu
  obtain ⟨LV, hLV⟩ : ∃ LV, LV = s.leaves ++ [(⟨b, 2, []⟩ : Leaf)] := ⟨_, rfl⟩
  have hz : ∀ hp : List Obj, frzL (frz hp 10) (s.leaves.map dLeaf ++ [.agg [.imm .none (b.map dI), dI 2, .imm .exact []]]) = some (LV.map dLeaf) := fun hp => by
    have := frzL_dLs (hp := hp) (n := 6) (ls := s.leaves) (ns := [(⟨b, 2, []⟩ : Leaf)]) (fun x hx => by rw [List.mem_singleton.1 hx])
    rw [hLV]
    simpa [dLs] using this
  simp only [← hLV] at hu
  have h111 : s.value ≠ [] → _ := fun hv => r111 V s.value (by rw [hV]; simp [boundL]) (by
      rw [hV, okS_len hs hv]; rfl)
  simp only [dInts] at h111
  by_cases hsh : 0 < s.value.length ∧ 0 ≤ cmpL V s.value
  · obtain ⟨c1, c2⟩ := hsh
    have h111 := h111 (fun h => by rw [h] at c1; simp at c1)
    simp only [c1, c2, decide_true, Bool.and_self, if_true] at hu
    simp [t154, n154, w2, w, hg, hs2, app0_step, app0_exact, app0_tok, all_ops, a1, all_lvs, a2, a3, he', h4, hz, hu, h111, c1, c2]
  have hsh' : ¬ (decide (0 < s.value.length) && decide (0 ≤ cmpL V s.value)) = true := by simpa using hsh
  rw [if_neg hsh'] at hu
  have wN := wrap_i64 (n := (N.length : Int) - 1) ⟨by omega, by omega⟩
  by_cases c1 : 0 < s.value.length
  · have h111 := h111 (fun h => by rw [h] at c1; simp at c1)
    have c2 : ¬ 0 ≤ cmpL V s.value := fun h => hsh ⟨c1, h⟩
    simp [t154, n154, w2, w, hg, hs2, app0_step, app0_exact, app0_tok, all_ops, a1, all_lvs, a2, a3, he', h4, h111, c1, c2, h8, wN]
    refine wT_up N.length (fun i env hp => ∃ (x7 x11 x12 x13 x14 x15 x16 x17 x18 x19 x20 x21 x22 x23 x24 x25 x26 : D) (k : Nat) (W : List (List Int)) (z : Int), env = [dProb p, dSrch s, .loc 0 0, .loc 1 0, .loc 2 0, dI l.length, dInts b, x7, dInts V, .imm .none (N.map dInts), dI z, x11, x12, x13, x14, x15, x16, x17, x18, x19, x20, x21, x22, x23, x24, x25, x26] ∧ z = (N.length : Int) - 1 - i ∧
      W = l ++ N.reverse.take i ∧ 3 ≤ k ∧ At hp 1 (.cells [.imm (.tok k) (W.map dInts), dInts s.best, dInts s.value, .imm .none (s.leaves.map dLeaf)]) ∧ At hp 2 (.cells [.imm .exact [], .imm .exact [], .imm .exact [], .imm .exact []]) ∧ At hp k (.tok W.length 1)) 0 (by omega)
      ⟨_, _, _, _, _, _, _, _, _, _, _, _, _, _, _, _, _, 3, l, _, rfl, by simp, by simp, by omega, by simp [At], by simp [At], by simp [At]⟩ ?_
    rintro i env hp hi ⟨x7, x11, x12, x13, x14, x15, x16, x17, x18, x19, x20, x21, x22, x23, x24, x25, x26, k, W, z, rfl, hz1, hW, hk, g1, g2, gk⟩
    have l1 := g1.lt
    have l2 := g2.lt
    by_cases hlt2 : i < N.length
    rotate_left
    · have hin : i = N.length := by omega
      have e1 : (N.length : Int) - 1 - i = -1 := by omega
      rw [List.take_of_length_le (by rw [List.length_reverse]; omega)] at hW
      have q1 : ∀ x, (hp.set 2 x)[2]? = some x := fun x => List.getElem?_set_self l2
      rw [e1] at hz1
      subst hz1
      rw [← hW] at hu
      simp [g1.eq, g2.eq, ↓q1, hu, frzL_leaf]
    obtain ⟨j, hj⟩ : ∃ j : Nat, N.length = i + j + 1 := ⟨N.length - 1 - i, by omega⟩
    have hjl : j < N.length := by omega
    have e1 : (N.length : Int) - 1 - i = j := by omega
    have e2 := wrap_i64 (n := (j : Int) - 1) ⟨by omega, by omega⟩
    have e3 : (N.length : Int) - 1 - (i + 1) = (j : Int) - 1 := by omega
    obtain ⟨W', hW'⟩ : ∃ W', W' = W ++ [N[j]] := ⟨_, rfl⟩
    have hcat : List.map dInts W ++ [D.imm Spare.none (List.map dI N[j])] = List.map dInts W' := by rw [hW']; simp
    have hlen' : W'.length = W.length + 1 := by rw [hW']; simp
    have hWW : W' = l ++ N.reverse.take (i + 1) := by
      have hri : i < N.reverse.length := by simp; omega
      rw [hW', hW, List.take_succ_eq_append_getElem hri, List.getElem_reverse, ← List.append_assoc]
      congr 3
      omega
    have hWl : W.length ≤ 1000000100 := by
      rw [hW, List.length_append, List.length_take]; omega
    have hap : ∀ y, appOk E 1 (List.map dInts W) [y] := fun y => appOk_op (by simp; omega)
    have lk := gk.lt
    have z1 := g1.ne (j := k) (x := .dead) (by omega)
    have z2 := g2.ne (j := k) (x := .dead) (by omega)
    have sd : ∀ r x, (hp ++ r).set k x = hp.set k x ++ r := fun r x => set_app1 lk
    rw [e1] at hz1
    subst hz1
    have hl2 : (hp.set k .dead).length = hp.length := List.length_set
    have sk2 : ∀ m r x, (hp.set k .dead ++ r).set (hp.length + m) x = hp.set k .dead ++ r.set m x := fun m r x => by rw [← hl2]; exact set_app2
    simp [hjl, ↓g1.appE, ↓gk.appE, app0_step, app0_tok, hap, hcat, sd, ↓z1.appE, e2, hlt2, sk2]
    have gt : ∀ r, (hp.set k Obj.dead ++ r)[hp.length + 7]? = r[7]? := fun r => by rw [← hl2]; exact get_app2
    repeat apply Exists.intro
    exact ⟨by and_intros <;> rfl, by omega, hWW, by omega, At.self (by simp), (z2.app).ne (by omega), At.ne (by unfold At; rw [gt]; simp [hlen']) (by omega)⟩
  · simp [t154, n154, w2, w, hg, hs2, app0_step, app0_exact, app0_tok, all_ops, a1, all_lvs, a2, a3, he', h4, c1, h8, wN]
    refine wT_up N.length (fun i env hp => ∃ (x7 x11 x12 x13 x14 x15 x16 x17 x18 x19 x20 x21 x22 x23 x24 x25 x26 : D) (k : Nat) (W : List (List Int)) (z : Int), env = [dProb p, dSrch s, .loc 0 0, .loc 1 0, .loc 2 0, dI l.length, dInts b, x7, dInts V, .imm .none (N.map dInts), dI z, x11, x12, x13, x14, x15, x16, x17, x18, x19, x20, x21, x22, x23, x24, x25, x26] ∧ z = (N.length : Int) - 1 - i ∧
      W = l ++ N.reverse.take i ∧ 3 ≤ k ∧ At hp 1 (.cells [.imm (.tok k) (W.map dInts), dInts s.best, dInts s.value, .imm .none (s.leaves.map dLeaf)]) ∧ At hp 2 (.cells [.imm .exact [], .imm .exact [], .imm .exact [], .imm .exact []]) ∧ At hp k (.tok W.length 1)) 0 (by omega)
      ⟨_, _, _, _, _, _, _, _, _, _, _, _, _, _, _, _, _, 3, l, _, rfl, by simp, by simp, by omega, by simp [At], by simp [At], by simp [At]⟩ ?_
    rintro i env hp hi ⟨x7, x11, x12, x13, x14, x15, x16, x17, x18, x19, x20, x21, x22, x23, x24, x25, x26, k, W, z, rfl, hz1, hW, hk, g1, g2, gk⟩
    have l1 := g1.lt
    have l2 := g2.lt
    by_cases hlt2 : i < N.length
    rotate_left
    · have hin : i = N.length := by omega
      have e1 : (N.length : Int) - 1 - i = -1 := by omega
      rw [List.take_of_length_le (by rw [List.length_reverse]; omega)] at hW
      have q1 : ∀ x, (hp.set 2 x)[2]? = some x := fun x => List.getElem?_set_self l2
      rw [e1] at hz1
      subst hz1
      rw [← hW] at hu
      simp [g1.eq, g2.eq, ↓q1, hu, frzL_leaf]
    obtain ⟨j, hj⟩ : ∃ j : Nat, N.length = i + j + 1 := ⟨N.length - 1 - i, by omega⟩
    have hjl : j < N.length := by omega
    have e1 : (N.length : Int) - 1 - i = j := by omega
    have e2 := wrap_i64 (n := (j : Int) - 1) ⟨by omega, by omega⟩
    have e3 : (N.length : Int) - 1 - (i + 1) = (j : Int) - 1 := by omega
    obtain ⟨W', hW'⟩ : ∃ W', W' = W ++ [N[j]] := ⟨_, rfl⟩
    have hcat : List.map dInts W ++ [D.imm Spare.none (List.map dI N[j])] = List.map dInts W' := by rw [hW']; simp
    have hlen' : W'.length = W.length + 1 := by rw [hW']; simp
    have hWW : W' = l ++ N.reverse.take (i + 1) := by
      have hri : i < N.reverse.length := by simp; omega
      rw [hW', hW, List.take_succ_eq_append_getElem hri, List.getElem_reverse, ← List.append_assoc]
      congr 3
      omega
    have hWl : W.length ≤ 1000000100 := by
      rw [hW, List.length_append, List.length_take]; omega
    have hap : ∀ y, appOk E 1 (List.map dInts W) [y] := fun y => appOk_op (by simp; omega)
    have lk := gk.lt
    have z1 := g1.ne (j := k) (x := .dead) (by omega)
    have z2 := g2.ne (j := k) (x := .dead) (by omega)
    have sd : ∀ r x, (hp ++ r).set k x = hp.set k x ++ r := fun r x => set_app1 lk
    rw [e1] at hz1
    subst hz1
    have hl2 : (hp.set k .dead).length = hp.length := List.length_set
    have sk2 : ∀ m r x, (hp.set k .dead ++ r).set (hp.length + m) x = hp.set k .dead ++ r.set m x := fun m r x => by rw [← hl2]; exact set_app2
    simp [hjl, ↓g1.appE, ↓gk.appE, app0_step, app0_tok, hap, hcat, sd, ↓z1.appE, e2, hlt2, sk2]
    have gt : ∀ r, (hp.set k Obj.dead ++ r)[hp.length + 7]? = r[7]? := fun r => by rw [← hl2]; exact get_app2
    repeat apply Exists.intro
    exact ⟨by and_intros <;> rfl, by omega, hWW, by omega, At.self (by simp), (z2.app).ne (by omega), At.ne (by unfold At; rw [gt]; simp [hlen']) (by omega)⟩

theorem r132 (p : Prob) (S : Small p) : runP E (dL E) 132 [dProb p] = some (resSolve p) := by
  refine runP_T c132 (by simp) ?_
  have h152 := r152 p S
  simp only [dProb] at h152
  unfold resStart at h152
  by_cases h : ck p = 0
  rotate_left
  · rw [if_neg h] at h152
    simp [t132, n132, h152, h, resSolve, srch0, cert0]
  have ok := ck_ok h
  rw [if_pos h] at h152
  simp [t132, n132, h152, h, startS, ↓frzL_leaf]
  refine wT_loop (fun m env hp => ∃ (x6 x7 x8 x9 : D) (i : Nat), env = [dProb p, .loc 0 0, .loc 1 0, dI 0, .loc 2 0, dI 0, x6, x7, x8, x9] ∧ m = wO p (iter p i startS).opn ∧ At hp 0 (.cells (dProb p).cellsL) ∧ At hp 1 (.cells [.imm .exact [], .imm .exact [], .imm .exact []]) ∧ At hp 2 (.cells (dSrch (iter p i startS)).cellsL)) (wO p startS.opn)
    ⟨_, _, _, _, 0, rfl, rfl, rfl, rfl, rfl⟩ ?_
  rintro m env hp ⟨x6, x7, x8, x9, i, rfl, hmm, g0, g1, g2⟩
  have it1 : iter p (i + 1) startS = exam p (iter p i startS) := iter_succ
  have okt : OkS p (iter p i startS) := OkS.iter ok startS_ok
  have Mt : SmS p (iter p i startS) := SmS.iter ok (startS_sm S) startS_ok
  have hend : (iter p i startS).opn = [] → iter p i startS = solveS p := iter_all ok
  obtain ⟨t, ht⟩ : ∃ t, t = iter p i startS := ⟨_, rfl⟩
  rw [← ht] at hmm g2 it1 okt Mt hend
  have l1 := g1.lt
  have l2 := g2.lt
  have h153 := r153 t
  simp only [dSrch, dInts] at h153
  by_cases hno : t.opn = []
  · have hV := hend hno
    have h134 := r134 p t S Mt
    rw [hV, cert_solve S ok, ← hV] at h134
    have q1 : ∀ x, (hp.set 1 x)[1]? = some x := fun x => List.getElem?_set_self l1
    rw [show decide (t.opn.length = 0) = true from by simp [hno]] at h153
    simp only [dProb, dSrch, dInts, certS] at h134
    unfold resSolve
    rw [if_pos h, ← hV]
    simp [g0.eq, g1.eq, g2.eq, ↓q1, h153, h134, certS, frzL_leaf]
  · have h154 := r154 p t S ok Mt okt hno
    have hn0 : ¬ t.opn.length = 0 := fun h => hno (List.eq_nil_of_length_eq_zero h)
    have hless := exam_less hno okt.opn
    rw [← it1] at h154 hless
    simp only [hn0, decide_false] at h153
    simp only [dProb, dSrch, dInts] at h154
    simp [g0.eq, g1.eq, g2.eq, h153, h154, frzL_leaf]
    exact ⟨_, by omega, i + 1, rfl, g0.ne (by omega), g1.ne (by omega), At.self l2⟩

theorem light_small {p : Prob} (h : lightB p = true) : Small p := by
  unfold lightB at h
  simp only [Bool.and_eq_true] at h
  exact few_small h.1

def fewA (a : Cause) : Bool := decide (a.less.length ≤ 8) && a.less.all fun r => decide (r.length ≤ 20)
def fewCB (p : Prob) (c : List Cause) : Bool := c.all fewA && (lightB p && decide (c.length ≤ 4))

theorem fewA_ok {a : Cause} (h : fewA a = true) : a.less.length ≤ 8 ∧ ∀ r, r ∈ a.less → r.length ≤ 20 := by
  simp only [fewA, Bool.and_eq_true, decide_eq_true_eq, List.all_eq_true] at h
  exact h
theorem fewC_sm {p : Prob} {c : List Cause} (h : fewCB p c = true) : Small p ∧ SmC c ∧ c.length ≤ 4 := by
  simp only [fewCB, Bool.and_eq_true, decide_eq_true_eq, List.all_eq_true] at h
  obtain ⟨h1, h2, h3⟩ := h
  exact ⟨light_small h2, ⟨by omega, fun a ha => by have := (fewA_ok (h1 a ha)).1; omega, fun a ha r hr => by have := (fewA_ok (h1 a ha)).2 r hr; omega⟩, h3⟩

set_option maxHeartbeats 4000000 in
theorem r179 (p : Prob) (c : List Cause) (hc : c.length ≤ 9223372036854775807) : runP E (dL E) 179 [dProb p, .imm .none (c.map dCause)] = some (.bool (fewCB p c)) := by
  refine runP_T c179 (by simp) ?_
  have h129 := r129 p
  generalize hB : fewCB p c = B
  have hBf : (∃ a, a ∈ c ∧ fewA a = false) → B = false := fun ⟨a, h1, h2⟩ => by
    rw [← hB]
    cases h : fewCB p c with
    | false => rfl
    | true =>
      simp only [fewCB, Bool.and_eq_true, List.all_eq_true] at h
      have := h.1 a h1
      rw [h2] at this; cases this
  have hBt : (∀ a, a ∈ c → fewA a = true) → B = (lightB p && decide (c.length ≤ 4)) := fun h => by
    rw [← hB]
    have e : c.all fewA = true := by rw [List.all_eq_true]; exact h
    simp [fewCB, e]
  simp [t179, n179]
  refine wT_all c.length (fun i => ∀ h : i < c.length, fewA c[i] = true) (fun i env hp => ∃ (x5 x6 x7 x8 : D) , env = [dProb p, .imm .none (c.map dCause), .loc 0 0, .bool false, dI i, x5, x6, x7, x8] ∧ At hp 0 (.cells (dProb p).cellsL)) ⟨_, _, _, _, rfl, by simp [At]⟩ ?_ ?_
  · rintro i env hp hi ⟨x5, x6, x7, x8, rfl, g0⟩ hall
    obtain ⟨a, ha⟩ : ∃ a, a = c[i] := ⟨_, rfl⟩
    have hmem : a ∈ c := by rw [ha]; exact List.getElem_mem hi
    have hbad : fewA a = false → B = false := fun h => hBf ⟨a, hmem, h⟩
    simp [hi, ← ha]
    refine wT_all a.less.length (fun k => ∀ h : k < a.less.length, k < 8 ∧ a.less[k].length ≤ 20) (fun k env hp => ∃ (x6 x7 x8 : D) , env = [dProb p, .imm .none (c.map dCause), .loc 0 0, .bool false, dI i, dI k, x6, x7, x8] ∧ At hp 0 (.cells (dProb p).cellsL)) ⟨_, _, _, rfl, g0⟩ ?_ ?_
    · clear g0 hp
      rintro k env hp hk ⟨x6, x7, x8, rfl, g0⟩ hk8
      by_cases q1 : k < 8
      rotate_left
      · have q1' : (8 : Int) ≤ k := by omega
        have hF : B = false := hbad (by
          have : ¬ a.less.length ≤ 8 := by omega
          simp [fewA, this])
        simp [hi, ← ha, hk, q1', hF]
      have q1' : ¬ (8 : Int) ≤ k := by omega
      by_cases q2 : (20 : Int) < a.less[k].length
      · have hF : B = false := hbad (by
          have : a.less.all (fun r => decide (r.length ≤ 20)) = false := by
            rw [List.all_eq_false]
            exact ⟨_, List.getElem_mem hk, by simp; omega⟩
          simp [fewA, this])
        simp [hi, ← ha, hk, q1', q2, hF]
      · simp [hi, ← ha, hk, q1', q2, wrap_up q1 (by omega)]
        exact ⟨fun _ => ⟨by omega, by omega⟩, g0⟩
    · clear g0 hp
      rintro env hp ⟨x6, x7, x8, rfl, g0⟩ hk8
      have hl : a.less.length ≤ 8 := by
        rcases Nat.lt_or_ge 8 a.less.length with h | h
        · have := (hk8 8 h h).1; omega
        · exact h
      have hfa : fewA a = true := by
        simp only [fewA, Bool.and_eq_true, decide_eq_true_eq, List.all_eq_true]
        refine ⟨hl, fun r hr => ?_⟩
        obtain ⟨k, hk, rfl⟩ := List.getElem_of_mem hr
        exact (hk8 k hk hk).2
      have w := wrap_i64 (n := (i : Int) + 1) ⟨by omega, by omega⟩
      simp [hi, ← ha, hfa, w]
      exact g0
  · rintro env hp ⟨x5, x6, x7, x8, rfl, g0⟩ hall
    have hall' : ∀ a, a ∈ c → fewA a = true := fun a ha => by
      obtain ⟨i, hi, rfl⟩ := List.getElem_of_mem ha
      exact hall i hi hi
    have hb := hBt hall'
    simp only [dProb, dInts] at h129
    cases hf : lightB p with
    | false => simp [g0.eq, h129, hf, hb]
    | true =>
      simp [g0.eq, h129, hf, hb]
      omega

end Dv
