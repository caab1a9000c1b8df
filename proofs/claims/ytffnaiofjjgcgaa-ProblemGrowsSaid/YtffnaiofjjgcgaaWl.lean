/- Texts that a proof of this claim uses, joined: Lw.W33. -/
import Derived.Test.YtffnaiofjjgcgaaWk
import Derived.Test.YtffnaiofjjgcgaaSb
set_option linter.all false
/- The law ProblemGrows. -/
namespace Dv
attribute [local simp] wT_skip wT_ret wT_exit wR wRp wT_seq wC wT_block rTS_nil rTS_asg rTS_eff rTS_effk ob_some obP_some iteD_b condP_b xv_v xv_c xv_ite xv_bin_tt xv_bin_tc xv_bin_ct xv_bin_cc xv_un_t xv_conv_t xv_load xv_len xv_faddr xv_field xv_iaddr_tt xv_iaddr_tc xv_index_tt xv_index_tc xv_lookup_tt xv_max_tt xv_max_tc xv_max_ct xv_min_tt xv_min_tc xv_min_ct xv_slice_lo_t xv_slice_lo_c xv_slice_hi_t xv_slice_all xv_call xv_bslice bsliceV xv_build buildV xv_mkfn zeroE fillE buildD fillD List.replicate xvs_nil xvs_cons callV_fn frz_bool frz_int frz_imm frz_agg frz_tup frz_fn frz_iptr frzL_nil frzL_one frzL_dI frzL_cell frzL_use frzL_ints frzL_choice frzL_var depth dCell dUse dInts dChoice dVar dProb tStart addO Ret flat_dI flat_rep chunk_dI
 binD_add binD_sub binD_mul binD_eql binD_neq binD_lss binD_leq binD_gtr binD_geq binD_quo binD_rem binD_beql binD_bneq binD_aeql binD_aneq unD_not unD_neg lenD_imm lenD_sl lenD_str readO_cells readO_frozen loadD_loc loadD_iptr iaddrD_imm iaddrD_sl iaddrD_loc faddrD_loc faddrD_iptr fieldD_agg indexD_agg indexD_str cellsL_bool stor_bool atom_bool cellsL_int stor_int atom_int cellsL_str stor_str atom_str cellsL_imm stor_imm atom_imm cellsL_sl stor_sl atom_sl cellsL_loc stor_loc atom_loc cellsL_iptr stor_iptr atom_iptr cellsL_map stor_map atom_map cellsL_fn stor_fn atom_fn cellsL_agg stor_agg cellsL_nilfn stor_nilfn atom_nilfn cellsL_nilp stor_nilp atom_nilp takeC_z takeC_s ofCells_ag ofCells_one ag_bool ag_int ag_str ag_slice ag_struct ag_arr ag_map ag_ptr ag_func gOf_t gOf_c gOf_f kv_cons putE_some putE_none oneRes_one oneRes_two oneRes_three getAll_nil getAll_v getAll_c maxiD_two miniD_two extV_tup xv_ext stepOp_box stepOp_alloc stepOp_store writeO_cells storeD_loc setCells_nil setCells_cons stepOp_mkmap stepOp_mapset stepOp_call1 stepOp_call2 stepOp_app2 stepOp_app1 stepOp_bslice stepOp_mkslice mapO_map lookupD_some lookupD_ok mapsetD_some keyOk_agg kindsL_nil kindsL_bool kindsL_int eqL_nil eqL_cons atomEq_bool atomEq_int frz_sl tokO_tok app0_step app0_exact app0_tok frz_loc oneRes_nil listOf_imm
 ty_0 ty_1 ty_2 ty_3 ty_4 ty_5 ty_6 ty_7 ty_8 ty_9 ty_10 ty_11 ty_12 ty_13 ty_14 ty_15 ty_16 ty_17 ty_18 ty_19 ty_20 ty_21 ty_22 ty_23 ty_24 ty_25 ty_26 ty_27
attribute [local congr] wT_congr ob_congr obP_congr iteD_congr condP_congr

theorem slice_take {b : List Int} {n : Nat} (h : n ≤ b.length) : sliceD E 1 (.imm .none (b.map dI)) none (some (.int .i64 (n : Int))) none = some (.imm .none ((b.take n).map dI)) := by
  have hh : headFits 1 (b.map dI) = true := by cases b <;> rfl
  simp [sliceD, bnd, sliceSpare, hh, h]

theorem okb_nil {p : Prob} : OkB p [] := ⟨by simp, fun i h => by simp at h⟩
theorem okb_take {p : Prob} {b : List Int} (h : OkB p b) {n : Nat} : OkB p (b.take n) := by
  refine ⟨by simp; have := h.len; omega, fun i hi hi' => ?_⟩
  simp only [List.length_take] at hi
  rw [List.getElem_take]
  exact h.each i (by omega) hi'

set_option maxHeartbeats 16000000 in
theorem law32 (h1 : runP E (dL E) 17 [] = some (.bool true)) (p : Prob) (b : List Int) (leaf : Int) : runP E (dL E) 32 [dProb p, dInts b, dI leaf] = some (.bool true) := by
  refine runP_T c32 (by simp) ?_
  have h2 := r2 p
  simp only [dProb] at h2
  simp [t32, n32, h1, h2]
  cases hf : fewB p with
  | false => simp
  | true =>
  have S := few_small hf
  simp
  by_cases hb : (20 : Int) < b.length
  · have hb2 : ¬ (b.length : Int) ≤ 20 := by omega
    simp [hb, hb2]
  have hb' : b.length ≤ 20 := by omega
  have hb2 : (b.length : Int) ≤ 20 := by omega
  simp [hb, hb2]
  have h14 := r14 p b leaf S hb'
  by_cases h0 : bk p b 270 = 0
  rotate_left
  · unfold resQ at h14
    rw [if_neg h0] at h14
    simp only [dProb, dInts] at h14
    simp [h14]
  obtain ⟨ok, okb⟩ := bk_ok h0 (by decide)
  by_cases hl : 0 ≤ leaf ∧ leaf ≤ p.capacity.length - 1
  rotate_left
  · unfold resQ at h14
    rw [if_pos h0, if_neg hl] at h14
    simp only [dProb, dInts] at h14
    simp [h14]
  have hz := r14 p [] leaf S (by simp)
  unfold resQ at h14 hz
  rw [if_pos h0, if_pos hl] at h14
  rw [if_pos (bk_pos ok okb_nil), if_pos hl] at hz
  have hz0 : dem p [] leaf = List.replicate p.cells.length 0 := by unfold dem; cases p.vars <;> rfl
  rw [hz0] at hz
  have s1 := S.cells
  obtain ⟨n, hn⟩ : ∃ n, n = dem p b leaf := ⟨_, rfl⟩
  have hnl : n.length = p.cells.length := by rw [hn]; simp [dem, foldU_len]
  rw [← hn] at h14
  simp only [dProb, dInts, List.map_nil, List.map_replicate] at h14 hz
  simp [h14, hz]
  refine wT_up p.cells.length (fun i env hp => ∃ (x10 x11 x12 x13 x14 x15 x16 x17 x18 x19 x20 x21 x22 x23 x24 x25 : D) (h : List Obj), env = [dProb p, dInts b, dI leaf, .loc 0 0, .bool false, dInts n, dI 0, .imm .none (List.replicate p.cells.length (dI 0)), dI 0, dI i, x10, x11, x12, x13, x14, x15, x16, x17, x18, x19, x20, x21, x22, x23, x24, x25] ∧ hp = .cells (dProb p).cellsL :: h) 0 (by omega) ⟨_, _, _, _, _, _, _, _, _, _, _, _, _, _, _, _, _, rfl, rfl⟩ ?_
  rintro i env hp hi ⟨x10, x11, x12, x13, x14, x15, x16, x17, x18, x19, x20, x21, x22, x23, x24, x25, h, rfl, rfl⟩
  by_cases hlt : i < p.cells.length
  · simp [hlt, wrap_up hlt (by omega)]
  have hi2 : i = p.cells.length := by omega
  subst hi2
  by_cases hbz : b.length = 0
  · have hbz' : b = [] := List.eq_nil_of_length_eq_zero hbz
    simp [hbz']
  have hbz' : ¬ b = [] := fun e => hbz (by rw [e]; rfl)
  have hsl := slice_take (b := b) (n := b.length - 1) (by omega)
  have hwp := wrap_pred (i := b.length) (by omega) (by omega)
  have hm := r14 p (b.take (b.length - 1)) leaf S (by simp; omega)
  unfold resQ at hm
  rw [if_pos (bk_pos ok (okb_take okb)), if_pos hl] at hm
  obtain ⟨b', hb'⟩ : ∃ b', b' = b.take (b.length - 1) := ⟨_, rfl⟩
  have hsn : b = b' ++ [b[b.length - 1]'(by omega)] := by
    rw [hb']
    have := List.take_succ_eq_append_getElem (l := b) (i := b.length - 1) (by omega)
    rw [← this, List.take_of_length_le (by omega)]
  rw [← hb'] at hsl hm
  have hlen : b'.length < p.vars.length := by rw [hb']; simp; have := okb.len; omega
  have hge := dem_ge S ok (b := b') (i := b[b.length - 1]'(by omega)) (leaf := leaf) hlen
  rw [← hsn, ← hn] at hge
  obtain ⟨m, hmm⟩ : ∃ m, m = dem p b' leaf := ⟨_, rfl⟩
  have hml : m.length = p.cells.length := by rw [hmm]; simp [dem, foldU_len]
  rw [← hmm] at hm hge
  simp only [dProb, dInts] at hm
  simp [hbz', hbz, hwp, hsl, hm, hnl, hml]
  refine wT_up p.cells.length (fun i env hp => ∃ (x7 x8 x9 x11 x13 x14 x15 x16 x17 x18 x19 x20 x21 x22 x23 x24 x25 : D) (h : List Obj), env = [dProb p, dInts b, dI leaf, .loc 0 0, .bool false, dInts n, dI 0, x7, x8, x9, dInts m, x11, dI i, x13, x14, x15, x16, x17, x18, x19, x20, x21, x22, x23, x24, x25] ∧ hp = .cells (dProb p).cellsL :: h) 0 (by omega) ⟨_, _, _, _, _, _, _, _, _, _, _, _, _, _, _, _, _, _, rfl, rfl⟩ ?_
  rintro i env hp hi ⟨x7, x8, x9, x11, x13, x14, x15, x16, x17, x18, x19, x20, x21, x22, x23, x24, x25, h, rfl, rfl⟩
  by_cases hlt2 : i < p.cells.length
  · have hin : i < n.length := by omega
    have him : i < m.length := by omega
    have hg := hge i
    simp only [List.getD_eq_getElem?_getD, List.getElem?_eq_getElem hin, List.getElem?_eq_getElem him, Option.getD_some] at hg
    have hg' : ¬ n[i] < m[i] := by omega
    simp [hnl, hlt2, hin, him, hg', wrap_up hlt2 (by omega)]
  have hi2 : i = p.cells.length := by omega
  subst hi2
  simp [hnl]

theorem problemGrows : ∀ xs, TypedL E [0, 1, 2] xs → ∃ n, runP E (dC E n) 32 xs = some (.bool true) := by
  intro xs h
  match xs, h with
  | [x, y, z], ⟨h1, h2, h3, _⟩ =>
    obtain ⟨p, rfl, _⟩ := ty_prob h1
    obtain ⟨l, rfl, _⟩ := ty_nums h2 rfl
    obtain ⟨n, rfl, _⟩ := ty_num h3 rfl
    exact runP_ex (law32 sane17' p l n)
  | [], h => exact h.elim
  | [_], h => exact h.2.elim
  | [_, _], h => exact h.2.2.elim
  | _ :: _ :: _ :: _ :: _, h => exact h.2.2.2.elim

end Dv
