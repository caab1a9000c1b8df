/- Texts that a proof of this claim uses, joined: Lw.W67. -/
import Derived.Test.YtffnaiofjjgcgaaWy
import Derived.Test.YtffnaiofjjgcgaaWq
import Derived.Test.YtffnaiofjjgcgaaSd
set_option linter.all false
/- The law DualWeak. -/
namespace Dv
attribute [local simp] wT_skip wK wT_ret wT_exit wR wRp wT_seq wC wT_block rTS_nil rTS_asg rTS_eff rTS_effk ob_some obP_some iteD_b condP_b xv_v xv_c xv_ite xv_bin_tt xv_bin_tc xv_bin_ct xv_bin_cc xv_un_t xv_conv_t xv_load xv_len xv_faddr xv_field xv_iaddr_tt xv_iaddr_tc xv_index_tt xv_index_tc xv_lookup_tt xv_max_tt xv_max_tc xv_max_ct xv_min_tt xv_min_tc xv_min_ct xv_slice_lo_t xv_slice_lo_c xv_slice_hi_t xv_slice_all xv_call xv_bslice bsliceV xv_build buildV xv_mkfn zeroE fillE buildD fillD List.replicate xvs_nil xvs_cons callV_fn frz_bool frz_int frz_imm frz_agg frz_tup frz_fn frz_iptr frzL_nil frzL_one frzL_dI frzL_cell frzL_use frzL_ints frzL_choice frzL_var depth dCell dUse dInts dChoice dVar dProb tStart addO Ret flat_dI flat_rep chunk_dI
 binD_add binD_sub binD_mul binD_eql binD_neq binD_lss binD_leq binD_gtr binD_geq binD_quo binD_rem binD_beql binD_bneq binD_aeql binD_aneq unD_not unD_neg lenD_imm lenD_sl lenD_str readO_cells readO_frozen loadD_loc loadD_iptr iaddrD_imm iaddrD_sl iaddrD_loc faddrD_loc faddrD_iptr fieldD_agg indexD_agg indexD_str cellsL_bool stor_bool atom_bool cellsL_int stor_int atom_int cellsL_str stor_str atom_str cellsL_imm stor_imm atom_imm cellsL_sl stor_sl atom_sl cellsL_loc stor_loc atom_loc cellsL_iptr stor_iptr atom_iptr cellsL_map stor_map atom_map cellsL_fn stor_fn atom_fn cellsL_agg stor_agg cellsL_nilfn stor_nilfn atom_nilfn cellsL_nilp stor_nilp atom_nilp takeC_z takeC_s ofCells_ag ofCells_one ag_bool ag_int ag_str ag_slice ag_struct ag_arr ag_map ag_ptr ag_func gOf_t gOf_c gOf_f kv_cons putE_some putE_none oneRes_one oneRes_two oneRes_three getAll_nil getAll_v getAll_c maxiD_two miniD_two extV_tup xv_ext stepOp_box stepOp_alloc stepOp_store writeO_cells storeD_loc setCells_nil setCells_cons stepOp_mkmap stepOp_mapset stepOp_call1 stepOp_call2 stepOp_app2 stepOp_app1 stepOp_bslice stepOp_mkslice mapO_map lookupD_some lookupD_ok mapsetD_some keyOk_agg kindsL_nil kindsL_bool kindsL_int eqL_nil eqL_cons atomEq_bool atomEq_int frz_sl tokO_tok app0_step app0_exact app0_tok frz_loc oneRes_nil listOf_imm
 ty_0 ty_1 ty_2 ty_3 ty_4 ty_5 ty_6 ty_7 ty_8 ty_9 ty_10 ty_11 ty_12 ty_13 ty_14 ty_15 ty_16 ty_17 ty_18 ty_19 ty_20 ty_21 ty_22 ty_23 ty_24 ty_25 ty_26 ty_27
attribute [local congr] wT_congr ob_congr obP_congr iteD_congr condP_congr

theorem foldK_some {f : Choice → Int} : ∀ {l : List (Nat × Choice)} {y : (Nat × Choice) × Int}, ∃ z, l.foldl (stepK f) (some y) = some z
  | [], y => ⟨y, rfl⟩
  | x :: l, (y, n) => by
    rw [List.foldl_cons]
    simp only [stepK]
    split
    · exact foldK_some
    · exact foldK_some
theorem bestK_nil {f f' : Choice → Int} : ∀ {l : List (Nat × Choice)}, bestK f l = none → bestK f' l = none
  | [], _ => rfl
  | x :: l, h => by
    unfold bestK at h
    rw [List.foldl_cons] at h
    simp only [stepK] at h
    obtain ⟨z, hz⟩ := foldK_some (f := f) (l := l) (y := (x, f x.2))
    rw [hz] at h
    cases h
theorem sumV_nil {p p' : Prob} {b : List Int} {g : Int} {m m' : List (List Int)} {q q' : Int} : ∀ {vs : List Var} {i : Nat}, sumV p b g m q i vs = none → sumV p' b g m' q' i vs = none
  | [], _, h => by simp [sumV] at h
  | v :: vs, i, h => by
    simp only [sumV] at h ⊢
    cases h1 : bestK (costOf p m v q) (candL b g i 0 v.choices) with
    | none => rw [bestK_nil h1]
    | some y =>
      rw [h1] at h
      obtain ⟨y, n⟩ := y
      simp only [Option.map_eq_none_iff] at h
      have := sumV_nil (p' := p') (m' := m') (q' := q') h
      cases h2 : bestK (costOf p' m' v q') (candL b g i 0 v.choices) with
      | none => rfl
      | some z => obtain ⟨z, k⟩ := z; simp only [this, Option.map_none]
theorem sumD_nil {p : Prob} {b : List Int} {g : Int} {m : List (List Int)} {q q' : Int} (h : sumD p b g m q = none) : sumD p b g m q' = none := by
  unfold sumD at h ⊢
  rw [Option.map_eq_none_iff] at h ⊢
  exact sumV_nil h

open Classical in
set_option maxHeartbeats 16000000 in
theorem law58 (h1 : runP E (dL E) 35 [] = some (.bool true)) (p : Prob) (b : List Int) (g : Int) (m : List (List Int)) (x : List Int) (hm : m.length ≤ Go.maxLen) : runP E (dL E) 58 [dProb p, dInts b, dI g, .imm .none (m.map dInts), dInts x] = some (.bool true) := by
  refine runP_T c58 (by simp) ?_
  have h2 := r2 p
  have h36 := r36 m hm
  simp only [dProb] at h2
  simp [t58, n58, h1, h2, h36]
  cases hf : fewB p with
  | false => simp
  | true =>
  have S := few_small hf
  simp
  cases hfm : fewM m with
  | false => simp
  | true =>
  have SM := few_smallM hfm
  simp
  by_cases hb : (20 : Int) < b.length
  · have hb2 : ¬ (b.length : Int) ≤ 20 := by omega
    simp [hb, hb2]
  have hb' : b.length ≤ 20 := by omega
  have hb2 : (b.length : Int) ≤ 20 := by omega
  by_cases hx : (20 : Int) < x.length
  · have hx2 : ¬ (x.length : Int) ≤ 20 := by omega
    simp [hb, hb2, hx, hx2]
  have hx' : x.length ≤ 20 := by omega
  have hx2 : (x.length : Int) ≤ 20 := by omega
  simp [hb, hb2, hx, hx2]
  have h37 := r37 p b g m S hb' SM
  have h39 := r39 p b g m S hb' SM
  have h59 := r59 p b g x S hb' hx'
  by_cases h0 : dk p b m = 0
  rotate_left
  · unfold resDB at h37
    unfold resDP at h39
    rw [if_neg h0] at h37 h39
    simp only [dProb, dInts] at h37 h39
    simp [h37, h39, h0]
  obtain ⟨ok, M, okb⟩ := dk_ok h0
  unfold resDB at h37
  unfold resDP at h39
  rw [if_pos h0] at h37 h39
  by_cases K : Keeps p b g x
  · obtain ⟨n, e1, hn⟩ := weak (q := 1) S M K
    obtain ⟨k, e2, hk⟩ := weak (q := 0) S M K
    rw [e1] at h37
    rw [e2] at h39
    have hk' : ¬ 0 < k := by omega
    rw [if_pos K, decide_eq_true K] at h59
    obtain ⟨C, hC⟩ : ∃ C, C = sumC (picks p.vars x) := ⟨_, rfl⟩
    rw [← hC] at h59 hn
    have hn' : n ≤ C := by omega
    simp only [dProb, dInts, provD] at h37 h39 h59
    simp [h37, h39, h59, hk', hn']
  · rw [if_neg K, decide_eq_false K] at h59
    cases e1 : sumD p b g m 1 with
    | none =>
      rw [e1] at h37
      rw [sumD_nil e1] at h39
      simp only [dProb, dInts, provD] at h37 h39 h59
      simp [h37, h39, h59]
    | some n =>
      rw [e1] at h37
      obtain ⟨B, hB⟩ : ∃ B, B = provD (sumD p b g m 0) := ⟨_, rfl⟩
      rw [← hB] at h39
      simp only [dProb, dInts] at h37 h39 h59
      simp [h37, h39, h59]

theorem dualWeak : ∀ xs, TypedL E [0, 1, 2, 9, 6] xs → ∃ n, runP E (dC E n) 58 xs = some (.bool true) := by
  intro xs h
  match xs, h with
  | [x, y, z, w, c], ⟨h1, h2, h3, h4, h5, _⟩ =>
    obtain ⟨p, rfl, _⟩ := ty_prob h1
    obtain ⟨l, rfl, _⟩ := ty_nums h2 rfl
    obtain ⟨n, rfl, _⟩ := ty_num h3 rfl
    obtain ⟨m, rfl, hm⟩ := ty_rows h4
    obtain ⟨d, rfl, _⟩ := ty_nums h5 rfl
    exact runP_ex (law58 sane35' p l n m d hm)
  | [], h => exact h.elim
  | [_], h => exact h.2.elim
  | [_, _], h => exact h.2.2.elim
  | [_, _, _], h => exact h.2.2.2.elim
  | [_, _, _, _], h => exact h.2.2.2.2.elim
  | _ :: _ :: _ :: _ :: _ :: _ :: _, h => exact h.2.2.2.2.2.elim

end Dv
