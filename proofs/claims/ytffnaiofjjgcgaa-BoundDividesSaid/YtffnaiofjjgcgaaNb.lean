/- Texts that a proof of this claim uses, joined: Lw.W15, Lw.W16, Lw.W17. -/
import Derived.Test.YtffnaiofjjgcgaaWc
set_option linter.all false
/- Walks: the next branches, by the reference. -/
namespace Dv
attribute [local simp] wT_skip wK wT_ret wT_exit wR wRp wT_seq wC wT_block rTS_nil rTS_asg rTS_eff rTS_effk ob_some obP_some iteD_b condP_b xv_v xv_c xv_ite xv_bin_tt xv_bin_tc xv_bin_ct xv_bin_cc xv_un_t xv_conv_t xv_load xv_len xv_faddr xv_field xv_iaddr_tt xv_iaddr_tc xv_index_tt xv_index_tc xv_lookup_tt xv_max_tt xv_max_tc xv_max_ct xv_min_tt xv_min_tc xv_min_ct xv_slice_lo_t xv_slice_lo_c xv_slice_hi_t xv_slice_all xv_call xv_bslice bsliceV xv_build buildV xv_mkfn zeroE fillE buildD fillD List.replicate xvs_nil xvs_cons callV_fn frz_bool frz_int frz_imm frz_agg frz_tup frz_fn frz_iptr frzL_nil frzL_one frzL_dI frzL_cell frzL_use frzL_ints frzL_choice frzL_var depth dCell dUse dInts dChoice dVar dProb tStart addO Ret flat_dI flat_rep chunk_dI
 binD_add binD_sub binD_mul binD_eql binD_neq binD_lss binD_leq binD_gtr binD_geq binD_quo binD_rem binD_beql binD_bneq binD_aeql binD_aneq unD_not unD_neg lenD_imm lenD_sl lenD_str readO_cells readO_frozen loadD_loc loadD_iptr iaddrD_imm iaddrD_sl iaddrD_loc faddrD_loc faddrD_iptr fieldD_agg indexD_agg indexD_str cellsL_bool stor_bool atom_bool cellsL_int stor_int atom_int cellsL_str stor_str atom_str cellsL_imm stor_imm atom_imm cellsL_sl stor_sl atom_sl cellsL_loc stor_loc atom_loc cellsL_iptr stor_iptr atom_iptr cellsL_map stor_map atom_map cellsL_fn stor_fn atom_fn cellsL_agg stor_agg cellsL_nilfn stor_nilfn atom_nilfn cellsL_nilp stor_nilp atom_nilp takeC_z takeC_s ofCells_ag ofCells_one ag_bool ag_int ag_str ag_slice ag_struct ag_arr ag_map ag_ptr ag_func gOf_t gOf_c gOf_f kv_cons putE_some putE_none oneRes_one oneRes_two oneRes_three getAll_nil getAll_v getAll_c maxiD_two miniD_two extV_tup xv_ext stepOp_box stepOp_alloc stepOp_store writeO_cells storeD_loc setCells_nil setCells_cons stepOp_mkmap stepOp_mapset stepOp_call1 stepOp_call2 stepOp_app2 stepOp_app1 stepOp_bslice stepOp_mkslice mapO_map lookupD_some lookupD_ok mapsetD_some keyOk_agg kindsL_nil kindsL_bool kindsL_int eqL_nil eqL_cons atomEq_bool atomEq_int frz_sl tokO_tok app0_step app0_exact app0_tok frz_loc oneRes_nil listOf_imm
 ty_0 ty_1 ty_2 ty_3 ty_4 ty_5 ty_6 ty_7 ty_8 ty_9 ty_10 ty_11 ty_12 ty_13 ty_14 ty_15 ty_16 ty_17 ty_18 ty_19 ty_20 ty_21 ty_22 ty_23 ty_24 ty_25 ty_26 ty_27
attribute [local congr] wT_congr ob_congr obP_congr iteD_congr condP_congr

open Classical in
/-- what Next answers -/
noncomputable def resN (p : Prob) (b : List Int) : D :=
  if bk p b 280 = 0 then (if b.length = p.vars.length then .tup [.imm .none [], dI 280] else .tup [.imm .none ((nextL p b).map dInts), dI 0]) else .tup [.imm .none [], dI (bk p b 280)]

def nextT (b : List Int) (i : Nat) : List (List Int) := (List.range i).map fun (k : Nat) => b ++ [(k : Int)]

theorem nextT_len {b : List Int} {i : Nat} : (nextT b i).length = i := by simp [nextT]
theorem nextT_succ {b : List Int} {i : Nat} : nextT b (i + 1) = nextT b i ++ [b ++ [(i : Int)]] := by simp [nextT, List.range_succ]
theorem rows_len {f : Nat → Spare} {l : List (List Int)} : (rowsD f l).length = l.length := by simp [rowsD]

theorem appOk_rows {f : Nat → Spare} {l : List (List Int)} {new : List D} (h : l.length + new.length ≤ 1000) : appOk E 1 (rowsD f l) new := by
  refine ⟨?_, ?_, ?_, fits_rows⟩ <;> simp [maxBytes, rows_len]
  omega

theorem appOk_dI {l : List Int} {new : List D} (h : l.length + new.length ≤ 1000) : appOk E 2 (l.map dI) new := by
  refine ⟨?_, ?_, ?_, fits_dI⟩ <;> simp [maxBytes]
  omega

set_option maxHeartbeats 4000000 in
theorem r8 (p : Prob) (b : List Int) (S : Small p) (hb : b.length ≤ 20) : runP E (dL E) 8 [dProb p, dInts b] = some (resN p b) := by
  refine runP_T c8 (by simp) ?_
  have h64 := r64 p b S hb
  have s3 := S.vars
  simp only [dProb, dInts] at h64
  simp [t8, n8, h64]
  by_cases h0 : bk p b 280 = 0
  rotate_left
  · simp [h0, resN]
  have hbl : b.length ≤ p.vars.length := by
    unfold bk at h0
    by_cases h1 : OkP p
    · by_cases h2 : OkB p b
      · exact h2.len
      · simp [h1, h2] at h0
    · simp [h1] at h0
  by_cases he : b.length = p.vars.length
  · have he' : (b.length : Int) = p.vars.length := by omega
    simp [h0, he, he', resN]
  have he' : ¬ (b.length : Int) = p.vars.length := by omega
  have hlt0 : b.length < p.vars.length := by omega
  have hres : resN p b = .tup [.imm .none ((nextT b p.vars[b.length].choices.length).map dInts), dI 0] := by
    simp [resN, h0, he, nextL, nextT, hlt0]
  have l2 := S.choices _ (List.getElem_mem hlt0)
  simp only [hres]
  simp [h0, he, he']
  refine wT_up p.vars[b.length].choices.length (fun i env hp => ∃ (x5 x8 x9 x10 x11 x12 x13 : D) (sp : Spare) (f : Nat → Spare) (h : List Obj), env = [dProb p, dInts b, .loc 0 0, .imm .exact [], dI 0, x5, .imm sp (rowsD f (nextT b i)), dI i, x8, x9, x10, x11, x12, x13] ∧
    hp = .cells (dProb p).cellsL :: h ∧ ((sp = .exact ∧ i = 0) ∨ ∃ k, sp = .tok (k + 1) ∧ h[k]? = some (.tok i 1))) 0 (by omega) ⟨_, _, _, _, _, _, _, .exact, fun _ => .none, _, rfl, rfl, .inl ⟨rfl, rfl⟩⟩ ?_
  rintro i env hp hi ⟨x5, x8, x9, x10, x11, x12, x13, sp, f, h, rfl, rfl, hsp⟩
  by_cases hlt : i < p.vars[b.length].choices.length
  · have a1 : appOk E 2 [] (b.map dI) := appOk_dI (l := []) (by simp; omega)
    have a2 : appOk E 2 (b.map dI) [dI i] := appOk_dI (by simp; omega)
    have a3 : ∀ x : D, appOk E 1 (rowsD f (nextT b i)) [x] := fun x => appOk_rows (by simp [nextT_len]; omega)
    obtain ⟨F, hF⟩ : ∃ F : Nat → Spare, rowsD f (nextT b i) ++ [.imm (.tok (h.length + 1 + 1)) (List.map dI b ++ [dI i])] = rowsD F (nextT b (i + 1)) := by
      refine ⟨fun k => if k = (nextT b i).length then .tok (h.length + 1 + 1) else f k, ?_⟩
      rw [nextT_succ, ← rows_snoc]
      simp
    have hrl : (rowsD f (nextT b i)).length = i := by rw [rows_len, nextT_len]
    rcases hsp with ⟨rfl, hi0⟩ | ⟨k, rfl, hk⟩
    · simp [hlt, hlt0, app0_step, app0_exact, app0_tok, all_dI, a1, a2, a3, hF, hrl, wrap_up hlt (by omega), get_mid, set_mid]
      exact ⟨_, _, _, _, _, _, _, _, ⟨rfl, ⟨rfl, F, rfl⟩, rfl, rfl, rfl, rfl, rfl, rfl⟩, h.length + 2, rfl, by simp⟩
    · have hkl := (List.getElem?_eq_some_iff.1 hk).1
      have hk2 : ∀ r, (h ++ r)[k]? = some (.tok i 1) := fun r => by rw [List.getElem?_append_left hkl]; exact hk
      simp [hlt, hlt0, app0_step, app0_exact, app0_tok, all_dI, a1, a2, get_mid, set_mid]
      simp [app0_tok, a3, hF, hrl, hk2, wrap_up hlt (by omega)]
      exact ⟨_, _, _, _, _, _, _, _, ⟨rfl, ⟨rfl, F, rfl⟩, rfl, rfl, rfl, rfl, rfl, rfl⟩, h.length + 2, rfl, by simp⟩
  · have hi' : i = p.vars[b.length].choices.length := by omega
    subst hi'
    simp [hlt0, frz_rows]

end Dv

/- Walks: the next branches. -/
namespace Dv
attribute [local simp] wT_skip wK wT_ret wT_exit wR wRp wT_seq wC wT_block rTS_nil rTS_asg rTS_eff rTS_effk ob_some obP_some iteD_b condP_b xv_v xv_c xv_ite xv_bin_tt xv_bin_tc xv_bin_ct xv_bin_cc xv_un_t xv_conv_t xv_load xv_len xv_faddr xv_field xv_iaddr_tt xv_iaddr_tc xv_index_tt xv_index_tc xv_lookup_tt xv_max_tt xv_max_tc xv_max_ct xv_min_tt xv_min_tc xv_min_ct xv_slice_lo_t xv_slice_lo_c xv_slice_hi_t xv_slice_all xv_call xv_bslice bsliceV xv_build buildV xv_mkfn zeroE fillE buildD fillD List.replicate xvs_nil xvs_cons callV_fn frz_bool frz_int frz_imm frz_agg frz_tup frz_fn frz_iptr frzL_nil frzL_one frzL_dI frzL_cell frzL_use frzL_ints frzL_choice frzL_var depth dCell dUse dInts dChoice dVar dProb tStart addO Ret flat_dI flat_rep chunk_dI
 binD_add binD_sub binD_mul binD_eql binD_neq binD_lss binD_leq binD_gtr binD_geq binD_quo binD_rem binD_beql binD_bneq binD_aeql binD_aneq unD_not unD_neg lenD_imm lenD_sl lenD_str readO_cells readO_frozen loadD_loc loadD_iptr iaddrD_imm iaddrD_sl iaddrD_loc faddrD_loc faddrD_iptr fieldD_agg indexD_agg indexD_str cellsL_bool stor_bool atom_bool cellsL_int stor_int atom_int cellsL_str stor_str atom_str cellsL_imm stor_imm atom_imm cellsL_sl stor_sl atom_sl cellsL_loc stor_loc atom_loc cellsL_iptr stor_iptr atom_iptr cellsL_map stor_map atom_map cellsL_fn stor_fn atom_fn cellsL_agg stor_agg cellsL_nilfn stor_nilfn atom_nilfn cellsL_nilp stor_nilp atom_nilp takeC_z takeC_s ofCells_ag ofCells_one ag_bool ag_int ag_str ag_slice ag_struct ag_arr ag_map ag_ptr ag_func gOf_t gOf_c gOf_f kv_cons putE_some putE_none oneRes_one oneRes_two oneRes_three getAll_nil getAll_v getAll_c maxiD_two miniD_two extV_tup xv_ext stepOp_box stepOp_alloc stepOp_store writeO_cells storeD_loc setCells_nil setCells_cons stepOp_mkmap stepOp_mapset stepOp_call1 stepOp_call2 stepOp_app2 stepOp_app1 stepOp_bslice stepOp_mkslice mapO_map lookupD_some lookupD_ok mapsetD_some keyOk_agg kindsL_nil kindsL_bool kindsL_int eqL_nil eqL_cons atomEq_bool atomEq_int frz_sl tokO_tok app0_step app0_exact app0_tok frz_loc oneRes_nil listOf_imm
 ty_0 ty_1 ty_2 ty_3 ty_4 ty_5 ty_6 ty_7 ty_8 ty_9 ty_10 ty_11 ty_12 ty_13 ty_14 ty_15 ty_16 ty_17 ty_18 ty_19 ty_20 ty_21 ty_22 ty_23 ty_24 ty_25 ty_26 ty_27
attribute [local congr] wT_congr ob_congr obP_congr iteD_congr condP_congr

theorem xv_slice3 {E : Env} {cP : Nat → List D → Option D} {env : List D} {hp : List Obj} {t a c d : Nat} {x y z : Xp} (h1 : c ≠ a) (h2 : d ≠ a) (h3 : d ≠ c) :
    xv E cP env hp (.n (.slice t (.t a) none (some (.t c)) (some (.t d))) (.cons a x (.cons c y (.cons d z .nil)))) = ob (xv E cP env hp x) fun u => ob (xv E cP env hp y) fun v => ob (xv E cP env hp z) fun w => sliceD E t u none (some v) (some w) := by
  simp only [xv, xvs]
  cases xv E cP env hp x <;> try rfl
  cases xv E cP env hp y <;> try rfl
  cases xv E cP env hp z <;> try rfl
  simp only [pureOp, Option.map_some, Option.map_none, gOf, kv, ob_some, if_true, if_false, h1, h2, h3, ↓reduceIte]
  exact map_ef

theorem slice_full {b : List Int} : sliceD E 1 (.imm .none (b.map dI)) none (some (dI b.length)) (some (dI b.length)) = some (.imm .exact (b.map dI)) := by
  have hh : headFits 1 (b.map dI) = true := by cases b <;> rfl
  have ht : (b.map dI).take b.length = b.map dI := List.take_of_length_le (by simp)
  simp [sliceD, bnd, sliceSpare, hh, ht]

set_option maxHeartbeats 4000000 in
theorem r7 (p : Prob) (b : List Int) (S : Small p) (hb : b.length ≤ 20) : runP E (dL E) 7 [dProb p, dInts b] = some (resN p b) := by
  refine runP_T c7 (by simp) ?_
  have h62 := r62 p b S hb
  have s3 := S.vars
  simp only [dProb, dInts] at h62
  simp [t7, n7, h62]
  by_cases h0 : bk p b 280 = 0
  rotate_left
  · simp [h0, resN]
  have hbl : b.length ≤ p.vars.length := by
    unfold bk at h0
    by_cases h1 : OkP p
    · by_cases h2 : OkB p b
      · exact h2.len
      · simp [h1, h2] at h0
    · simp [h1] at h0
  by_cases he : b.length = p.vars.length
  · have he' : (b.length : Int) = p.vars.length := by omega
    simp [h0, he, he', resN]
  have he' : ¬ (b.length : Int) = p.vars.length := by omega
  have hlt0 : b.length < p.vars.length := by omega
  have hres : resN p b = .tup [.imm .none ((nextT b p.vars[b.length].choices.length).map dInts), dI 0] := by
    simp [resN, h0, he, nextL, nextT, hlt0]
  have l2 := S.choices _ (List.getElem_mem hlt0)
  simp only [hres]
  simp [h0, he, he', hlt0]
  refine wT_up p.vars[b.length].choices.length (fun i env hp => ∃ (x6 x7 x8 x11 x12 x13 : D) (sp : Spare) (f : Nat → Spare) (h : List Obj), env = [dProb p, dInts b, .loc 0 0, .imm sp (rowsD f (nextT b i)), dI 0, dI b.length, x6, x7, x8, dI p.vars[b.length].choices.length, dI i, x11, x12, x13] ∧
    hp = .cells (dProb p).cellsL :: h ∧ ((sp = .exact ∧ i = 0) ∨ ∃ k, sp = .tok (k + 1) ∧ h[k]? = some (.tok i 1))) 0 (by omega) ⟨_, _, _, _, _, _, .exact, fun _ => .none, _, rfl, rfl, .inl ⟨rfl, rfl⟩⟩ ?_
  rintro i env hp hi ⟨x6, x7, x8, x11, x12, x13, sp, f, h, rfl, rfl, hsp⟩
  by_cases hlt : i < p.vars[b.length].choices.length
  · have a2 : appOk E 2 (b.map dI) [dI i] := appOk_dI (by simp; omega)
    have a3 : ∀ x : D, appOk E 1 (rowsD f (nextT b i)) [x] := fun x => appOk_rows (by simp [nextT_len]; omega)
    obtain ⟨F, hF⟩ : ∃ F : Nat → Spare, rowsD f (nextT b i) ++ [.imm (.tok (h.length + 1)) (List.map dI b ++ [dI i])] = rowsD F (nextT b (i + 1)) := by
      refine ⟨fun k => if k = (nextT b i).length then .tok (h.length + 1) else f k, ?_⟩
      rw [nextT_succ, ← rows_snoc]
      simp
    have hrl : (rowsD f (nextT b i)).length = i := by rw [rows_len, nextT_len]
    rcases hsp with ⟨rfl, hi0⟩ | ⟨k, rfl, hk⟩
    · simp [hlt, hlt0, app0_step, app0_exact, app0_tok, all_dI, a2, xv_slice3, slice_full, a3, hF, hrl, wrap_up hlt (by omega), get_mid, set_mid]
      exact ⟨_, _, _, _, _, _, _, ⟨⟨rfl, F, rfl⟩, rfl, rfl, rfl, rfl, rfl, rfl⟩, h.length + 1, rfl, by simp⟩
    · have hkl := (List.getElem?_eq_some_iff.1 hk).1
      have hk2 : ∀ r, (h ++ r)[k]? = some (.tok i 1) := fun r => by rw [List.getElem?_append_left hkl]; exact hk
      simp [hlt, hlt0, app0_step, app0_exact, app0_tok, all_dI, a2, xv_slice3, slice_full, get_mid, set_mid]
      simp [app0_tok, a3, hF, hrl, hk2, wrap_up hlt (by omega)]
      exact ⟨_, _, _, _, _, _, _, ⟨⟨rfl, F, rfl⟩, rfl, rfl, rfl, rfl, rfl, rfl⟩, h.length + 1, rfl, by simp⟩
  · have hi' : i = p.vars[b.length].choices.length := by omega
    subst hi'
    simp [hlt0, frz_rows]


end Dv

/- The law BoundNextSpec, but for the examples. -/
namespace Dv
attribute [local simp] wT_skip wK wT_ret wT_exit wR wRp wT_seq wC wT_block rTS_nil rTS_asg rTS_eff rTS_effk ob_some obP_some iteD_b condP_b xv_v xv_c xv_ite xv_bin_tt xv_bin_tc xv_bin_ct xv_bin_cc xv_un_t xv_conv_t xv_load xv_len xv_faddr xv_field xv_iaddr_tt xv_iaddr_tc xv_index_tt xv_index_tc xv_lookup_tt xv_max_tt xv_max_tc xv_max_ct xv_min_tt xv_min_tc xv_min_ct xv_slice_lo_t xv_slice_lo_c xv_slice_hi_t xv_slice_all xv_call xv_bslice bsliceV xv_build buildV xv_mkfn zeroE fillE buildD fillD List.replicate xvs_nil xvs_cons callV_fn frz_bool frz_int frz_imm frz_agg frz_tup frz_fn frz_iptr frzL_nil frzL_one frzL_dI frzL_cell frzL_use frzL_ints frzL_choice frzL_var depth dCell dUse dInts dChoice dVar dProb tStart addO Ret flat_dI flat_rep chunk_dI
 binD_add binD_sub binD_mul binD_eql binD_neq binD_lss binD_leq binD_gtr binD_geq binD_quo binD_rem binD_beql binD_bneq binD_aeql binD_aneq unD_not unD_neg lenD_imm lenD_sl lenD_str readO_cells readO_frozen loadD_loc loadD_iptr iaddrD_imm iaddrD_sl iaddrD_loc faddrD_loc faddrD_iptr fieldD_agg indexD_agg indexD_str cellsL_bool stor_bool atom_bool cellsL_int stor_int atom_int cellsL_str stor_str atom_str cellsL_imm stor_imm atom_imm cellsL_sl stor_sl atom_sl cellsL_loc stor_loc atom_loc cellsL_iptr stor_iptr atom_iptr cellsL_map stor_map atom_map cellsL_fn stor_fn atom_fn cellsL_agg stor_agg cellsL_nilfn stor_nilfn atom_nilfn cellsL_nilp stor_nilp atom_nilp takeC_z takeC_s ofCells_ag ofCells_one ag_bool ag_int ag_str ag_slice ag_struct ag_arr ag_map ag_ptr ag_func gOf_t gOf_c gOf_f kv_cons putE_some putE_none oneRes_one oneRes_two oneRes_three getAll_nil getAll_v getAll_c maxiD_two miniD_two extV_tup xv_ext stepOp_box stepOp_alloc stepOp_store writeO_cells storeD_loc setCells_nil setCells_cons stepOp_mkmap stepOp_mapset stepOp_call1 stepOp_call2 stepOp_app2 stepOp_app1 stepOp_bslice stepOp_mkslice mapO_map lookupD_some lookupD_ok mapsetD_some keyOk_agg kindsL_nil kindsL_bool kindsL_int eqL_nil eqL_cons atomEq_bool atomEq_int frz_sl tokO_tok app0_step app0_exact app0_tok frz_loc oneRes_nil listOf_imm
 ty_0 ty_1 ty_2 ty_3 ty_4 ty_5 ty_6 ty_7 ty_8 ty_9 ty_10 ty_11 ty_12 ty_13 ty_14 ty_15 ty_16 ty_17 ty_18 ty_19 ty_20 ty_21 ty_22 ty_23 ty_24 ty_25 ty_26 ty_27
attribute [local congr] wT_congr ob_congr obP_congr iteD_congr condP_congr

theorem resN_tup (p : Prob) (b : List Int) (S : Small p) (hb : b.length ≤ 20) : ∃ (L : List (List Int)) (e : Int), resN p b = .tup [.imm .none (L.map dInts), dI e] ∧ L.length ≤ 1000 ∧ ∀ x, x ∈ L → x.length ≤ 1000 := by
  unfold resN
  by_cases h0 : bk p b 280 = 0
  · by_cases h1 : b.length = p.vars.length
    · exact ⟨[], 280, by simp [h0, h1], by simp, by simp⟩
    · refine ⟨nextL p b, 0, by simp [h0, h1], ?_, ?_⟩
      · simp only [nextL, List.length_map, List.length_range]
        by_cases h2 : b.length < p.vars.length
        · have := S.choices _ (List.getElem_mem h2)
          simp [h2]; omega
        · simp [h2]
      · intro x hx
        simp only [nextL, List.mem_map] at hx
        obtain ⟨i, _, rfl⟩ := hx
        simp; omega
  · exact ⟨[], bk p b 280, by simp [h0], by simp, by simp⟩

theorem resL_tup (p : Prob) (b : List Int) (S : Small p) (hb : b.length ≤ 20) : ∃ (L : List Int) (e : Int), resL p b (dInts (firstL p b)) = .tup [.imm .none (L.map dI), dI e] ∧ L.length ≤ 1000 := by
  unfold resL
  have s3 := S.vars
  by_cases h0 : bk p b 280 = 0
  · exact ⟨firstL p b, 0, by simp [h0], by simp [firstL]; omega⟩
  · exact ⟨[], bk p b 280, by simp [h0], by simp⟩

set_option maxHeartbeats 4000000 in
theorem law6 (h1 : runP E (dL E) 1 [] = some (.bool true)) (p : Prob) (b : List Int) : runP E (dL E) 6 [dProb p, dInts b] = some (.bool true) := by
  refine runP_T c6 (by simp) ?_
  have h2 := r2 p
  simp only [dProb] at h2
  simp [t6, n6, h1, h2]
  cases hf : fewB p with
  | false => simp
  | true =>
  have S := few_small hf
  simp
  by_cases hb : (20 : Int) < b.length
  · have hb2 : ¬ (b.length : Int) ≤ 20 := by omega
    simp [hb, hb2]
  have hb' : b.length ≤ 20 := by omega
  have hb2 : (b.length : Int) ≤ 20 := by omega
  simp [hb, hb2]
  have h7 := r7 p b S hb'
  have h8 := r8 p b S hb'
  have h9 := r9 p b S hb'
  have h10 := r10 p b S hb'
  obtain ⟨L, e, hN, hL, hLx⟩ := resN_tup p b S hb'
  obtain ⟨M, e', hM, hMl⟩ := resL_tup p b S hb'
  rw [hN] at h7 h8
  rw [hM] at h9 h10
  have h11 := r11 L L (by omega) (fun x hx => by have := hLx x hx; omega)
  have h5 := r5 M M (by omega)
  simp only [dProb, dInts, decide_true] at h7 h8 h9 h10 h5
  simp at h11
  simp [h7, h8, h9, h10, h11, h5]

end Dv
