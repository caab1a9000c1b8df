/- Texts that a proof of this claim uses, joined: Lw.W40. -/
import Derived.Test.YtffnaiofjjgcgaaWp
import Derived.Test.YtffnaiofjjgcgaaSb
import Derived.Test.YtffnaiofjjgcgaaRk
set_option linter.all false
/- The laws ProblemTotal and ProblemSums. -/
namespace Dv
attribute [local simp] wT_skip wK wT_ret wT_exit wR wRp wT_seq wC wT_block rTS_nil rTS_asg rTS_eff rTS_effk ob_some obP_some iteD_b condP_b xv_v xv_c xv_ite xv_bin_tt xv_bin_tc xv_bin_ct xv_bin_cc xv_un_t xv_conv_t xv_load xv_len xv_faddr xv_field xv_iaddr_tt xv_iaddr_tc xv_index_tt xv_index_tc xv_lookup_tt xv_max_tt xv_max_tc xv_max_ct xv_min_tt xv_min_tc xv_min_ct xv_slice_lo_t xv_slice_lo_c xv_slice_hi_t xv_slice_all xv_call xv_bslice bsliceV xv_build buildV xv_mkfn zeroE fillE buildD fillD List.replicate xvs_nil xvs_cons callV_fn frz_bool frz_int frz_imm frz_agg frz_tup frz_fn frz_iptr frzL_nil frzL_one frzL_dI frzL_cell frzL_use frzL_ints frzL_choice frzL_var depth dCell dUse dInts dChoice dVar dProb tStart addO Ret flat_dI flat_rep chunk_dI
 binD_add binD_sub binD_mul binD_eql binD_neq binD_lss binD_leq binD_gtr binD_geq binD_quo binD_rem binD_beql binD_bneq binD_aeql binD_aneq unD_not unD_neg lenD_imm lenD_sl lenD_str readO_cells readO_frozen loadD_loc loadD_iptr iaddrD_imm iaddrD_sl iaddrD_loc faddrD_loc faddrD_iptr fieldD_agg indexD_agg indexD_str cellsL_bool stor_bool atom_bool cellsL_int stor_int atom_int cellsL_str stor_str atom_str cellsL_imm stor_imm atom_imm cellsL_sl stor_sl atom_sl cellsL_loc stor_loc atom_loc cellsL_iptr stor_iptr atom_iptr cellsL_map stor_map atom_map cellsL_fn stor_fn atom_fn cellsL_agg stor_agg cellsL_nilfn stor_nilfn atom_nilfn cellsL_nilp stor_nilp atom_nilp takeC_z takeC_s ofCells_ag ofCells_one ag_bool ag_int ag_str ag_slice ag_struct ag_arr ag_map ag_ptr ag_func gOf_t gOf_c gOf_f kv_cons putE_some putE_none oneRes_one oneRes_two oneRes_three getAll_nil getAll_v getAll_c maxiD_two miniD_two extV_tup xv_ext stepOp_box stepOp_alloc stepOp_store writeO_cells storeD_loc setCells_nil setCells_cons stepOp_mkmap stepOp_mapset stepOp_call1 stepOp_call2 stepOp_app2 stepOp_app1 stepOp_bslice stepOp_mkslice mapO_map lookupD_some lookupD_ok mapsetD_some keyOk_agg kindsL_nil kindsL_bool kindsL_int eqL_nil eqL_cons atomEq_bool atomEq_int frz_sl tokO_tok app0_step app0_exact app0_tok frz_loc oneRes_nil listOf_imm
 ty_0 ty_1 ty_2 ty_3 ty_4 ty_5 ty_6 ty_7 ty_8 ty_9 ty_10 ty_11 ty_12 ty_13 ty_14 ty_15 ty_16 ty_17 ty_18 ty_19 ty_20 ty_21 ty_22 ty_23 ty_24 ty_25 ty_26 ty_27
attribute [local congr] wT_congr ob_congr obP_congr iteD_congr condP_congr

theorem better_anti {p : Prob} {a b : List Int} : betterI p b a = - betterI p a b := by
  unfold betterI
  rw [cmpL_anti (a := boundL p a) (b := boundL p b), cmpL_anti (a := a) (b := b)]
  by_cases h : cmpL (boundL p a) (boundL p b) = 0
  · rw [if_pos h, if_pos (by omega)]
  · rw [if_neg h, if_neg (by omega)]

theorem better_zero {p : Prob} {a b : List Int} (h : a.length = b.length) : betterI p a b = 0 ↔ a = b := by
  unfold betterI
  constructor
  · intro h1
    by_cases h2 : cmpL (boundL p a) (boundL p b) = 0
    · rw [if_pos h2] at h1
      exact (cmpL_zero h).1 h1
    · rw [if_neg h2] at h1
      exact absurd h1 h2
  · rintro rfl
    rw [if_pos cmpL_refl, cmpL_refl]

theorem better_trans {p : Prob} {a b c : List Int} (h1 : betterI p a b < 0) (h2 : betterI p b c < 0) : betterI p a c < 0 := by
  unfold betterI at *
  by_cases e1 : cmpL (boundL p a) (boundL p b) = 0
  · rw [if_pos e1] at h1
    have e := (cmpL_zero (a := boundL p a) (b := boundL p b) rfl).1 e1
    rw [e]
    by_cases e2 : cmpL (boundL p b) (boundL p c) = 0
    · rw [if_pos e2] at h2 ⊢
      exact cmpL_trans h1 h2
    · rw [if_neg e2] at h2 ⊢; exact h2
  · rw [if_neg e1] at h1
    by_cases e2 : cmpL (boundL p b) (boundL p c) = 0
    · have e := (cmpL_zero (a := boundL p b) (b := boundL p c) rfl).1 e2
      rw [← e, if_neg e1]; exact h1
    · rw [if_neg e2] at h2
      have := cmpL_trans h1 h2
      rw [if_neg (by omega)]; exact this

set_option maxHeartbeats 16000000 in
theorem law29 (h1 : runP E (dL E) 17 [] = some (.bool true)) (p : Prob) (a b c : List Int) : runP E (dL E) 29 [dProb p, dInts a, dInts b, dInts c] = some (.bool true) := by
  refine runP_T c29 (by simp) ?_
  have h2 := r2 p
  simp only [dProb] at h2
  simp [t29, n29, h1, h2]
  cases hf : fewB p with
  | false => simp
  | true =>
  have S := few_small hf
  simp
  by_cases ha : (20 : Int) < a.length
  · have ha2 : ¬ (a.length : Int) ≤ 20 := by omega
    simp [ha, ha2]
  have ha' : a.length ≤ 20 := by omega
  have ha2 : (a.length : Int) ≤ 20 := by omega
  by_cases hb : (20 : Int) < b.length
  · have hb2 : ¬ (b.length : Int) ≤ 20 := by omega
    simp [ha, ha2, hb, hb2]
  have hb' : b.length ≤ 20 := by omega
  have hb2 : (b.length : Int) ≤ 20 := by omega
  by_cases hc : (20 : Int) < c.length
  · have hc2 : ¬ (c.length : Int) ≤ 20 := by omega
    simp [ha, ha2, hb, hb2, hc, hc2]
  have hc' : c.length ≤ 20 := by omega
  have hc2 : (c.length : Int) ≤ 20 := by omega
  simp [ha, ha2, hb, hb2, hc, hc2]
  have va := r22 p a S ha'
  have vb := r22 p b S hb'
  have vc := r22 p c S hc'
  have hval : ∀ d : List Int, ∃ (V : List Int) (e : Int), resV p d = .tup [.imm .none (V.map dI), dI e] ∧ (¬ Whole p d → e = 270) ∧ (Whole p d → e = 0 ∧ V = boundL p d) := fun d => by
    by_cases w : Whole p d
    · exact ⟨boundL p d, 0, by unfold resV; rw [if_pos w], fun h => absurd w h, fun _ => ⟨rfl, rfl⟩⟩
    · exact ⟨[], 270, by unfold resV; rw [if_neg w], fun _ => rfl, fun h => absurd h w⟩
  obtain ⟨VA, ea, qa, fa, ga⟩ := hval a
  obtain ⟨VB, eb, qb, fb, gb⟩ := hval b
  obtain ⟨VC, ec, qc, fc, gc⟩ := hval c
  rw [qa] at va
  rw [qb] at vb
  rw [qc] at vc
  simp only [dProb, dInts] at va vb vc
  by_cases wa : Whole p a
  rotate_left
  · simp [va, vb, vc, fa wa]
  by_cases wb : Whole p b
  rotate_left
  · simp [va, vb, vc, (ga wa).1, fb wb]
  by_cases wc : Whole p c
  rotate_left
  · simp [va, vb, vc, (ga wa).1, (gb wb).1, fc wc]
  obtain ⟨rfl, rfl⟩ := ga wa
  obtain ⟨rfl, rfl⟩ := gb wb
  obtain ⟨rfl, rfl⟩ := gc wc
  have hl : a.length = b.length := by rw [wa.2.2, wb.2.2]
  have k1 := r24 p a b S ha' hb'
  have k2 := r24 p b a S hb' ha'
  have k3 := r24 p b c S hb' hc'
  have k4 := r24 p a c S ha' hc'
  simp only [resBt, wa, wb, wc, and_self, if_true] at k1 k2 k3 k4
  have k5 := r30 (boundL p a) (boundL p b) (by simp [boundL]) (by simp [boundL])
  unfold resC at k5
  rw [if_pos (show (boundL p a).length = (boundL p b).length from rfl)] at k5
  have k6 := r20 a b (by omega)
  have f1 := better_anti (p := p) (a := a) (b := b)
  have f2 := better_zero (p := p) hl
  have f3 : betterI p a b < 0 → betterI p b c < 0 → betterI p a c < 0 := better_trans
  have f4 : cmpL (boundL p a) (boundL p b) ≠ 0 → betterI p a b = cmpL (boundL p a) (boundL p b) := fun h => by unfold betterI; rw [if_neg h]
  rw [f1] at k2
  obtain ⟨x, hx⟩ : ∃ x, x = betterI p a b := ⟨_, rfl⟩
  obtain ⟨y, hy⟩ : ∃ y, y = betterI p b c := ⟨_, rfl⟩
  obtain ⟨z, hz⟩ : ∃ z, z = betterI p a c := ⟨_, rfl⟩
  obtain ⟨n, hn⟩ : ∃ n, n = cmpL (boundL p a) (boundL p b) := ⟨_, rfl⟩
  rw [← hx] at k1 k2 f2 f3 f4
  rw [← hy] at k3 f3
  rw [← hz] at k4 f3
  rw [← hn] at k5 f4
  have e6 : decide (a = b) = decide (x = 0) := decide_eq_decide.2 f2.symm
  rw [e6] at k6
  clear e6 f2 f1 hx hy hz hn
  obtain ⟨WA, hWA⟩ : ∃ WA, WA = boundL p a := ⟨_, rfl⟩
  obtain ⟨WB, hWB⟩ : ∃ WB, WB = boundL p b := ⟨_, rfl⟩
  obtain ⟨WC, hWC⟩ : ∃ WC, WC = boundL p c := ⟨_, rfl⟩
  rw [← hWA] at va k5
  rw [← hWB] at vb k5
  rw [← hWC] at vc
  simp only [dProb, dInts] at k1 k2 k3 k4 k5 k6
  have f4' : (n < 0 → x < 0) ∧ (0 < n → 0 < x) := ⟨fun h => by have := f4 (by omega); omega, fun h => by have := f4 (by omega); omega⟩
  by_cases x1 : x < 0
  · have x2 : ¬ 0 < x := by omega
    have x3 : ¬ x = 0 := by omega
    have x4 : ¬ -x < 0 := by omega
    have n1 : ¬ 0 < n := fun h => by have := f4'.2 h; omega
    by_cases y1 : y < 0
    · have z1 := f3 x1 y1
      simp [va, vb, vc, k1, k2, k3, k4, k5, k6, x1, x2, x3, x4, n1, y1, z1]
    · simp [va, vb, vc, k1, k2, k3, k4, k5, k6, x1, x2, x3, x4, n1, y1]
  · have n2 : ¬ n < 0 := fun h => x1 (f4'.1 h)
    by_cases x0 : x = 0
    · have n1 : ¬ 0 < n := fun h => by have := f4'.2 h; omega
      subst x0
      simp [va, vb, vc, k1, k2, k3, k4, k5, k6, n1, n2]
    · have x2 : 0 < x := by omega
      have x4 : -x < 0 := by omega
      simp [va, vb, vc, k1, k2, k3, k4, k5, k6, x1, x2, x0, x4, n2]

theorem problemTotal : ∀ xs, TypedL E [0, 6, 6, 6] xs → ∃ n, runP E (dC E n) 29 xs = some (.bool true) := by
  intro xs h
  match xs, h with
  | [x, y, z, w], ⟨h1, h2, h3, h4, _⟩ =>
    obtain ⟨p, rfl, _⟩ := ty_prob h1
    obtain ⟨a, rfl, _⟩ := ty_nums h2 rfl
    obtain ⟨b, rfl, _⟩ := ty_nums h3 rfl
    obtain ⟨c, rfl, _⟩ := ty_nums h4 rfl
    exact runP_ex (law29 sane17' p a b c)
  | [], h => exact h.elim
  | [_], h => exact h.2.elim
  | [_, _], h => exact h.2.2.elim
  | [_, _, _], h => exact h.2.2.2.elim
  | _ :: _ :: _ :: _ :: _ :: _, h => exact h.2.2.2.2.elim

end Dv
