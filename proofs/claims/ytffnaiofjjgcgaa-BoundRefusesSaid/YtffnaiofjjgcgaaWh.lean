/- Texts that a proof of this claim uses, joined: Lw.W28. -/
import Derived.Test.YtffnaiofjjgcgaaWg
import Derived.Test.YtffnaiofjjgcgaaNb
import Derived.Test.YtffnaiofjjgcgaaSa
set_option linter.all false
/- The law BoundRefuses. -/
namespace Dv
attribute [local simp] wT_skip wT_ret wT_exit wR wRp wT_seq wC wT_block rTS_nil rTS_asg rTS_eff rTS_effk ob_some obP_some iteD_b condP_b xv_v xv_c xv_ite xv_bin_tt xv_bin_tc xv_bin_ct xv_bin_cc xv_un_t xv_conv_t xv_load xv_len xv_faddr xv_field xv_iaddr_tt xv_iaddr_tc xv_index_tt xv_index_tc xv_lookup_tt xv_max_tt xv_max_tc xv_max_ct xv_min_tt xv_min_tc xv_min_ct xv_slice_lo_t xv_slice_lo_c xv_slice_hi_t xv_slice_all xv_call xv_bslice bsliceV xv_build buildV xv_mkfn zeroE fillE buildD fillD List.replicate xvs_nil xvs_cons callV_fn frz_bool frz_int frz_imm frz_agg frz_tup frz_fn frz_iptr frzL_nil frzL_one frzL_dI frzL_cell frzL_use frzL_ints frzL_choice frzL_var depth dCell dUse dInts dChoice dVar dProb tStart addO Ret flat_dI flat_rep chunk_dI
 binD_add binD_sub binD_mul binD_eql binD_neq binD_lss binD_leq binD_gtr binD_geq binD_quo binD_rem binD_beql binD_bneq binD_aeql binD_aneq unD_not unD_neg lenD_imm lenD_sl lenD_str readO_cells readO_frozen loadD_loc loadD_iptr iaddrD_imm iaddrD_sl iaddrD_loc faddrD_loc faddrD_iptr fieldD_agg indexD_agg indexD_str cellsL_bool stor_bool atom_bool cellsL_int stor_int atom_int cellsL_str stor_str atom_str cellsL_imm stor_imm atom_imm cellsL_sl stor_sl atom_sl cellsL_loc stor_loc atom_loc cellsL_iptr stor_iptr atom_iptr cellsL_map stor_map atom_map cellsL_fn stor_fn atom_fn cellsL_agg stor_agg cellsL_nilfn stor_nilfn atom_nilfn cellsL_nilp stor_nilp atom_nilp takeC_z takeC_s ofCells_ag ofCells_one ag_bool ag_int ag_str ag_slice ag_struct ag_arr ag_map ag_ptr ag_func gOf_t gOf_c gOf_f kv_cons putE_some putE_none oneRes_one oneRes_two oneRes_three getAll_nil getAll_v getAll_c maxiD_two miniD_two extV_tup xv_ext stepOp_box stepOp_alloc stepOp_store writeO_cells storeD_loc setCells_nil setCells_cons stepOp_mkmap stepOp_mapset stepOp_call1 stepOp_call2 stepOp_app2 stepOp_app1 stepOp_bslice stepOp_mkslice mapO_map lookupD_some lookupD_ok mapsetD_some keyOk_agg kindsL_nil kindsL_bool kindsL_int eqL_nil eqL_cons atomEq_bool atomEq_int frz_sl tokO_tok app0_step app0_exact app0_tok frz_loc oneRes_nil listOf_imm
 ty_0 ty_1 ty_2 ty_3 ty_4 ty_5 ty_6 ty_7 ty_8 ty_9 ty_10 ty_11 ty_12 ty_13 ty_14 ty_15 ty_16 ty_17 ty_18 ty_19 ty_20 ty_21 ty_22 ty_23 ty_24 ty_25 ty_26 ty_27
attribute [local congr] wT_congr ob_congr obP_congr iteD_congr condP_congr

theorem wrap0 : Go.IntKind.i64.wrap 0 = 0 := by decide

set_option maxHeartbeats 4000000 in
theorem law13 (h1 : runP E (dL E) 1 [] = some (.bool true)) (p : Prob) (b : List Int) : runP E (dL E) 13 [dProb p, dInts b] = some (.bool true) := by
  refine runP_T c13 (by simp) ?_
  have h2 := r2 p
  simp only [dProb] at h2
  simp [t13, n13, h1, h2]
  cases hf : fewB p with
  | false => simp
  | true =>
  have S := few_small hf
  simp
  by_cases hb : (20 : Int) < b.length
  · have hb2 : ¬ (b.length : Int) ≤ 20 := by omega
    simp [hb, hb2]
  have hb' : b.length ≤ 20 := by omega
  have hb2 : (b.length : Int) ≤ 20 := by omega
  simp [hb, hb2]
  have h3 := r3 p b S hb'
  have h7 := r7 p b S hb'
  have h9 := r9 p b S hb'
  have h14 := r14 p b 0 S hb'
  have h15 := r15 p S
  by_cases k0 : OkP p
  rotate_left
  · have e1 : ∀ e, bk p b e = 270 := fun e => by simp [bk, k0]
    have e2 : ck p = 270 := by simp [ck, k0]
    have e3 : resQ p b 0 = .tup [dInts [], dI 270] := by unfold resQ; rw [if_neg (by rw [e1]; decide)]
    simp only [resB, resN, resL, e1, e2, e3] at h3 h7 h9 h14 h15
    simp only [dProb, dInts] at h3 h7 h9 h14 h15
    simp [h3, h7, h9, h14, h15, wrap0]
  have e2 : ck p = 0 := by simp [ck, k0]
  by_cases k1 : OkB p b
  rotate_left
  · have e1 : ∀ e, bk p b e = e := fun e => by simp [bk, k0, k1]
    have e3 : resQ p b 0 = .tup [dInts [], dI 270] := by unfold resQ; rw [if_neg (by rw [e1]; decide)]
    simp only [resB, resN, resL, e1, e2, e3] at h3 h7 h9 h14 h15
    simp only [dProb, dInts] at h3 h7 h9 h14 h15
    simp [h3, h7, h9, h14, h15, wrap0]
  have e1 : ∀ e, bk p b e = 0 := fun e => bk_pos k0 k1
  have hone := k0.some
  have e3 : resQ p b 0 = .tup [dInts (dem p b 0), dI 0] := by unfold resQ; rw [if_pos (e1 _), if_pos (by omega)]
  obtain ⟨L, e, hN, hL, hLx⟩ := resN_tup p b S hb'
  rw [hN] at h7
  simp only [resB, resL, e1, e2, e3, if_true] at h3 h9 h14 h15
  simp only [dProb, dInts] at h3 h7 h9 h14 h15
  simp [h3, h7, h9, h14, h15]

theorem boundRefuses : ∀ xs, TypedL E [0, 1] xs → ∃ n, runP E (dC E n) 13 xs = some (.bool true) := by
  intro xs h
  match xs, h with
  | [x, y], ⟨h1, h2, _⟩ =>
    obtain ⟨p, rfl, _⟩ := ty_prob h1
    obtain ⟨l, h3, _⟩ := ty_ints (typed_one h2 rfl) rfl
    simp only [List.cons.injEq, and_true] at h3
    subst h3
    exact runP_ex (law13 sane1' p l)
  | [], h => exact h.elim
  | [_], h => exact h.2.elim
  | _ :: _ :: _ :: _, h => exact h.2.2.elim

end Dv
