/- Texts that a proof of this claim uses, joined: Lw.W29, Lw.W30. -/
import Derived.Test.YtffnaiofjjgcgaaWg
import Derived.Test.YtffnaiofjjgcgaaSa
set_option linter.all false
/- Walks: Bound, by the reference. -/
namespace Dv
attribute [local simp] wT_skip wT_ret wT_exit wR wRp wT_seq wC wT_block rTS_nil rTS_asg rTS_eff rTS_effk ob_some obP_some iteD_b condP_b xv_v xv_c xv_ite xv_bin_tt xv_bin_tc xv_bin_ct xv_bin_cc xv_un_t xv_conv_t xv_load xv_len xv_faddr xv_field xv_iaddr_tt xv_iaddr_tc xv_index_tt xv_index_tc xv_lookup_tt xv_max_tt xv_max_tc xv_max_ct xv_min_tt xv_min_tc xv_min_ct xv_slice_lo_t xv_slice_lo_c xv_slice_hi_t xv_slice_all xv_call xv_bslice bsliceV xv_build buildV xv_mkfn zeroE fillE buildD fillD List.replicate xvs_nil xvs_cons callV_fn frz_bool frz_int frz_imm frz_agg frz_tup frz_fn frz_iptr frzL_nil frzL_one frzL_dI frzL_cell frzL_use frzL_ints frzL_choice frzL_var depth dCell dUse dInts dChoice dVar dProb tStart addO Ret flat_dI flat_rep chunk_dI
 binD_add binD_sub binD_mul binD_eql binD_neq binD_lss binD_leq binD_gtr binD_geq binD_quo binD_rem binD_beql binD_bneq binD_aeql binD_aneq unD_not unD_neg lenD_imm lenD_sl lenD_str readO_cells readO_frozen loadD_loc loadD_iptr iaddrD_imm iaddrD_sl iaddrD_loc faddrD_loc faddrD_iptr fieldD_agg indexD_agg indexD_str cellsL_bool stor_bool atom_bool cellsL_int stor_int atom_int cellsL_str stor_str atom_str cellsL_imm stor_imm atom_imm cellsL_sl stor_sl atom_sl cellsL_loc stor_loc atom_loc cellsL_iptr stor_iptr atom_iptr cellsL_map stor_map atom_map cellsL_fn stor_fn atom_fn cellsL_agg stor_agg cellsL_nilfn stor_nilfn atom_nilfn cellsL_nilp stor_nilp atom_nilp takeC_z takeC_s ofCells_ag ofCells_one ag_bool ag_int ag_str ag_slice ag_struct ag_arr ag_map ag_ptr ag_func gOf_t gOf_c gOf_f kv_cons putE_some putE_none oneRes_one oneRes_two oneRes_three getAll_nil getAll_v getAll_c maxiD_two miniD_two extV_tup xv_ext stepOp_box stepOp_alloc stepOp_store writeO_cells storeD_loc setCells_nil setCells_cons stepOp_mkmap stepOp_mapset stepOp_call1 stepOp_call2 stepOp_app2 stepOp_app1 stepOp_bslice stepOp_mkslice mapO_map lookupD_some lookupD_ok mapsetD_some keyOk_agg kindsL_nil kindsL_bool kindsL_int eqL_nil eqL_cons atomEq_bool atomEq_int frz_sl tokO_tok app0_step app0_exact app0_tok frz_loc oneRes_nil listOf_imm
 ty_0 ty_1 ty_2 ty_3 ty_4 ty_5 ty_6 ty_7 ty_8 ty_9 ty_10 ty_11 ty_12 ty_13 ty_14 ty_15 ty_16 ty_17 ty_18 ty_19 ty_20 ty_21 ty_22 ty_23 ty_24 ty_25 ty_26 ty_27
attribute [local congr] wT_congr ob_congr obP_congr iteD_congr condP_congr

set_option maxHeartbeats 16000000 in
theorem r4 (p : Prob) (b : List Int) (S : Small p) (hb : b.length ≤ 20) : runP E (dL E) 4 [dProb p, dInts b] = some (resB p b) := by
  refine runP_T c4 (by simp) ?_
  have h64 := r64 p b S hb
  have s1 := S.cells
  have s2 := S.cap
  have s3 := S.vars
  simp only [dProb, dInts] at h64
  simp [t4, n4, h64]
  by_cases h0 : bk p b 280 = 0
  rotate_left
  · simp [h0, resB]
  obtain ⟨ok, okb⟩ := bk_ok h0 (by decide)
  have hb0 := bk_pos (e := 270) ok okb
  simp only [resB, h0, if_true]
  have hov := ov_le S ok (b := b)
  obtain ⟨V, hV⟩ : ∃ V, V = ov p b := ⟨_, rfl⟩
  rw [← hV] at hov
  have hbd := bd_picks (vs := p.vars) (b := b) (fun v hv => ⟨ok.vars v hv, S.leaves v hv⟩)
  have hpl := picks_len (vs := p.vars) (b := b)
  have hCb := sumC_bd hbd
  have hGb := sumG_bd hbd
  obtain ⟨M, hM⟩ : ∃ M, M = maxD 0 (picks p.vars b) := ⟨_, rfl⟩
  obtain ⟨C, hC⟩ : ∃ C, C = sumC (picks p.vars b) := ⟨_, rfl⟩
  obtain ⟨G, hG⟩ : ∃ G, G = sumG (picks p.vars b) := ⟨_, rfl⟩
  rw [← hC] at hCb
  rw [← hG] at hGb
  have hfin : boundL p b = [V, M, C, G] := by rw [hV, hM, hC, hG]; rfl
  rw [hfin]
  clear hfin
  simp [h0, flat]
  refine wT_up p.capacity.length (fun i env hp => ∃ (x5 x8 x9 x10 x11 x12 x13 x14 x15 x16 x17 x18 x19 x20 x21 x22 x23 x24 : D) (v : Int) (h : List Obj), env = [dProb p, dInts b, .loc 0 0, .imm .exact [], dI 0, x5, .sl 1 0 4 1 false true, dI i, x8, x9, x10, x11, x12, x13, x14, x15, x16, x17, x18, x19, x20, x21, x22, x23, x24] ∧
    hp = .cells (dProb p).cellsL :: .cells [dI v, dI 0, dI 0, dI 0] :: h ∧ 0 ≤ v ∧ v + ovL p b i (p.capacity.drop i) = V) 0 (by omega) ⟨_, _, _, _, _, _, _, _, _, _, _, _, _, _, _, _, _, _, 0, _, rfl, rfl, by omega, by simp [hV, ov]⟩ ?_
  rintro i env hp hi ⟨x5, x8, x9, x10, x11, x12, x13, x14, x15, x16, x17, x18, x19, x20, x21, x22, x23, x24, v, h, rfl, rfl, hv0, hv⟩
  by_cases hlt : i < p.capacity.length
  · rw [drop_cons hlt] at hv
    simp only [ovL] at hv
    have hrest := ovL_pos (p := p) (b := b) (cs := p.capacity.drop (i + 1)) (k := i + 1)
    have hcap := ok.cap _ (List.getElem_mem hlt)
    have h18 := r18 p b i S hb
    have hQ : resQ p b i = .tup [.imm .none ((dem p b i).map dI), dI 0] := by
      have : (0 : Int) ≤ i ∧ (i : Int) ≤ p.capacity.length - 1 := by omega
      unfold resQ
      rw [if_pos hb0, if_pos this]
    rw [hQ] at h18
    simp only [dProb, dInts] at h18
    have hdl : (dem p b i).length = p.cells.length := by simp [dem, foldU_len]
    have hdb := dem_bd S ok (b := b) (leaf := i)
    obtain ⟨d, hd⟩ : ∃ d, d = dem p b i := ⟨_, rfl⟩
    rw [← hd] at h18 hdl hdb hv
    obtain ⟨c, hc⟩ : ∃ c, c = p.capacity[i] := ⟨_, rfl⟩
    rw [← hc] at hcap hv
    simp [hlt, h18]
    obtain ⟨rest, hre⟩ : ∃ rest, rest = ovL p b (i + 1) (p.capacity.drop (i + 1)) := ⟨_, rfl⟩
    rw [← hre] at hv hrest
    refine wT_up d.length (fun j env hp => ∃ (x5 x10 x11 x12 x13 x14 x15 x16 x17 x18 x19 x20 x21 x22 x23 x24 : D) (v : Int) (h : List Obj), env = [dProb p, dInts b, .loc 0 0, .imm .exact [], dI 0, x5, .sl 1 0 4 1 false true, dI i, dInts d, dI j, x10, x11, x12, x13, x14, x15, x16, x17, x18, x19, x20, x21, x22, x23, x24] ∧
      hp = .cells (dProb p).cellsL :: .cells [dI v, dI 0, dI 0, dI 0] :: h ∧ 0 ≤ v ∧ v + (ovR (d.drop j) (c.drop j) + rest) = V) 0 (by omega) ⟨_, _, _, _, _, _, _, _, _, _, _, _, _, _, _, _, v, _, rfl, rfl, hv0, by simpa using hv⟩ ?_
    rintro j env hp hj ⟨x5, x10, x11, x12, x13, x14, x15, x16, x17, x18, x19, x20, x21, x22, x23, x24, v, h, rfl, rfl, hv0, hv⟩
    by_cases hlt2 : j < d.length
    · have hjc : j < c.length := by omega
      have hjc' : j < p.capacity[i].length := by rw [← hc]; exact hjc
      rw [drop_cons hlt2, drop_cons hjc] at hv
      simp only [ovR] at hv
      have hrp := ovR_pos (d := d.drop (j + 1)) (c := c.drop (j + 1))
      have hd1 := hdb _ (List.getElem_mem hlt2)
      have hc1 := hcap.2 _ (List.getElem_mem hjc)
      unfold wi at hc1
      have e1 : p.capacity[i][j] = c[j] := by simp only [hc]
      have hm0 := mx0 (a := d[j] - c[j])
      by_cases hgt : c[j] < d[j]
      · have hm : mx (d[j] - c[j]) 0 = d[j] - c[j] := by unfold mx; rw [if_neg (by omega)]
        have w1 := wrap_i64 (n := v + d[j]) ⟨by omega, by omega⟩
        have w2 := wrap_i64 (n := v + d[j] - c[j]) ⟨by omega, by omega⟩
        simp [hlt, hlt2, hjc', e1, hgt, w1, w2, wrap_up hlt2 (by omega)]
        exact ⟨by omega, by omega⟩
      · have hm : mx (d[j] - c[j]) 0 = 0 := by unfold mx; split <;> omega
        simp [hlt, hlt2, hjc', e1, hgt, wrap_up hlt2 (by omega)]
        exact ⟨by omega, by omega⟩
    · have : j = d.length := by omega
      subst this
      simp only [List.drop_length, ovR, Int.zero_add] at hv
      simp [wrap_up hlt (by omega)]
      exact ⟨hv0, by rw [← hre]; exact hv⟩
  have : i = p.capacity.length := by omega
  subst this
  simp only [List.drop_length, ovL, Int.add_zero] at hv
  subst hv
  simp
  refine wT_up p.vars.length (fun i env hp => ∃ (x5 x7 x8 x9 x11 x12 x13 x14 x15 x16 x17 x18 x19 x20 x21 x22 x23 x24 : D) (v1 v2 v3 : Int) (h : List Obj), env = [dProb p, dInts b, .loc 0 0, .imm .exact [], dI 0, x5, .sl 1 0 4 1 false true, x7, x8, x9, dI i, x11, x12, x13, x14, x15, x16, x17, x18, x19, x20, x21, x22, x23, x24] ∧
    hp = .cells (dProb p).cellsL :: .cells [dI v, dI v1, dI v2, dI v3] :: h ∧ 0 ≤ v2 ∧ 0 ≤ v3 ∧ maxD v1 (picks (p.vars.drop i) (b.drop i)) = M ∧ v2 + sumC (picks (p.vars.drop i) (b.drop i)) = C ∧
    v3 + sumG (picks (p.vars.drop i) (b.drop i)) = G) 0 (by omega) ⟨_, _, _, _, _, _, _, _, _, _, _, _, _, _, _, _, _, _, 0, 0, 0, _, rfl, rfl, by omega, by omega, by simp [hM], by simp [hC], by simp [hG]⟩ ?_
  rintro i env hp hi ⟨x5, x7, x8, x9, x11, x12, x13, x14, x15, x16, x17, x18, x19, x20, x21, x22, x23, x24, v1, v2, v3, h, rfl, rfl, a2, a3, a4, a5, a6⟩
  by_cases hlt2 : i < p.vars.length
  · have okv := ok.vars _ (List.getElem_mem hlt2)
    have l2 := S.choices _ (List.getElem_mem hlt2)
    have l1 := S.leaves _ (List.getElem_mem hlt2)
    have hone := okv.one
    have hc0 : 0 < p.vars[i].choices.length := by omega
    have h65 := r65 p.vars[i].choices (by omega) hone
    have hr := bd_picks (vs := p.vars.drop (i + 1)) (b := b.drop (i + 1)) (fun v hv => ⟨ok.vars v (List.mem_of_mem_drop hv), S.leaves v (List.mem_of_mem_drop hv)⟩)
    have hr2 := sumC_bd hr
    have hr3 := sumG_bd hr
    have hbp := bd_pick okv (n := b[i]?)
    rw [drop_cons hlt2] at a4 a5 a6
    simp only [picks, List.tail_drop, List.head?_drop, sumC, sumG] at a4 a5 a6
    obtain ⟨n, hn⟩ : ∃ n : Int, n = p.vars[i].leaves.length := ⟨_, rfl⟩
    rw [← hn] at a4 a5 a6
    obtain ⟨⟨d1, d2⟩, ⟨c1, c2⟩, ⟨g1, g2⟩⟩ := hbp
    obtain ⟨c, hc⟩ : ∃ c, c = pick p.vars[i] b[i]? := ⟨_, rfl⟩
    rw [← hc] at a4 a5 a6 d1 d2 c1 c2 g1 g2
    have m1 := mul_bd c1 c2 (n := n) (by omega) (by omega)
    have m2 := mul_bd g1 g2 (n := n) (by omega) (by omega)
    have w1 := wrap_i64 (n := c.cost * n) ⟨by omega, by omega⟩
    have w2 := wrap_i64 (n := v2 + c.cost * n) ⟨by omega, by omega⟩
    have w3 := wrap_i64 (n := c.changes * n) ⟨by omega, by omega⟩
    have w4 := wrap_i64 (n := v3 + c.changes * n) ⟨by omega, by omega⟩
    have hmx : maxD (mx v1 c.delay) (picks (p.vars.drop (i + 1)) (b.drop (i + 1))) = M := a4
    obtain ⟨ls, hls⟩ : ∃ ls, ls = (p.vars[i].choices.drop 1).foldl minC (bare p.vars[i].choices[0]) := ⟨_, rfl⟩
    rw [← hls] at h65
    simp only [dChoice] at h65
    by_cases hib : i < b.length
    · have hw := okb.each i hib hlt2
      obtain ⟨m, hm⟩ : ∃ m : Nat, b[i] = m := ⟨b[i].toNat, by unfold wi at hw; omega⟩
      have hm' : m < p.vars[i].choices.length := by unfold wi at hw; omega
      rw [List.getElem?_eq_getElem hib, hm] at hc
      simp only [pick, Int.toNat_natCast, List.getD_eq_getElem?_getD, List.getElem?_eq_getElem hm', Option.getD_some] at hc
      by_cases hg : v1 < c.delay
      · have hmm : mx v1 c.delay = c.delay := by unfold mx; rw [if_pos hg]
        rw [hmm] at hmx
        simp [hlt2, hib, hm, hm', h65, ↓get_app2, ↓set_app2, ← hc, hg, ← hn, w1, w2, w3, w4, wrap_up hlt2 (by omega)]
        exact ⟨_, _, _, ⟨rfl, rfl, rfl⟩, by omega, by omega, hmx, by omega, by omega⟩
      · have hmm : mx v1 c.delay = v1 := by unfold mx; rw [if_neg hg]
        rw [hmm] at hmx
        simp [hlt2, hib, hm, hm', h65, ↓get_app2, ↓set_app2, ← hc, hg, ← hn, w1, w2, w3, w4, wrap_up hlt2 (by omega)]
        exact ⟨_, _, _, ⟨rfl, rfl, rfl⟩, by omega, by omega, hmx, by omega, by omega⟩
    · rw [List.getElem?_eq_none (by omega)] at hc
      simp only [pick, List.getD_eq_getElem?_getD, List.getElem?_eq_getElem hc0, Option.getD_some] at hc
      have hsame := minC_same (cs := p.vars[i].choices.drop 1) (a := bare p.vars[i].choices[0]) (b := p.vars[i].choices[0]) rfl rfl rfl
      rw [← hls, ← hc] at hsame
      obtain ⟨q1, q2, q3⟩ := hsame
      by_cases hg : v1 < c.delay
      · have hmm : mx v1 c.delay = c.delay := by unfold mx; rw [if_pos hg]
        rw [hmm] at hmx
        simp [hlt2, hib, h65, ↓get_app2, ↓set_app2, q1, q2, q3, hg, ← hn, w1, w2, w3, w4, wrap_up hlt2 (by omega)]
        exact ⟨_, _, _, ⟨rfl, rfl, rfl⟩, by omega, by omega, hmx, by omega, by omega⟩
      · have hmm : mx v1 c.delay = v1 := by unfold mx; rw [if_neg hg]
        rw [hmm] at hmx
        simp [hlt2, hib, h65, ↓get_app2, ↓set_app2, q1, q2, q3, hg, ← hn, w1, w2, w3, w4, wrap_up hlt2 (by omega)]
        exact ⟨_, _, _, ⟨rfl, rfl, rfl⟩, by omega, by omega, hmx, by omega, by omega⟩
  · have : i = p.vars.length := by omega
    subst this
    simp only [List.drop_length, picks, maxD, List.foldl_nil, sumC, sumG, Int.add_zero] at a4 a5 a6
    subst a4 a5 a6
    simp [chunk]

end Dv

/- The law BoundSpec. -/
namespace Dv
attribute [local simp] wT_skip wT_ret wT_exit wR wRp wT_seq wC wT_block rTS_nil rTS_asg rTS_eff rTS_effk ob_some obP_some iteD_b condP_b xv_v xv_c xv_ite xv_bin_tt xv_bin_tc xv_bin_ct xv_bin_cc xv_un_t xv_conv_t xv_load xv_len xv_faddr xv_field xv_iaddr_tt xv_iaddr_tc xv_index_tt xv_index_tc xv_lookup_tt xv_max_tt xv_max_tc xv_max_ct xv_min_tt xv_min_tc xv_min_ct xv_slice_lo_t xv_slice_lo_c xv_slice_hi_t xv_slice_all xv_call xv_bslice bsliceV xv_build buildV xv_mkfn zeroE fillE buildD fillD List.replicate xvs_nil xvs_cons callV_fn frz_bool frz_int frz_imm frz_agg frz_tup frz_fn frz_iptr frzL_nil frzL_one frzL_dI frzL_cell frzL_use frzL_ints frzL_choice frzL_var depth dCell dUse dInts dChoice dVar dProb tStart addO Ret flat_dI flat_rep chunk_dI
 binD_add binD_sub binD_mul binD_eql binD_neq binD_lss binD_leq binD_gtr binD_geq binD_quo binD_rem binD_beql binD_bneq binD_aeql binD_aneq unD_not unD_neg lenD_imm lenD_sl lenD_str readO_cells readO_frozen loadD_loc loadD_iptr iaddrD_imm iaddrD_sl iaddrD_loc faddrD_loc faddrD_iptr fieldD_agg indexD_agg indexD_str cellsL_bool stor_bool atom_bool cellsL_int stor_int atom_int cellsL_str stor_str atom_str cellsL_imm stor_imm atom_imm cellsL_sl stor_sl atom_sl cellsL_loc stor_loc atom_loc cellsL_iptr stor_iptr atom_iptr cellsL_map stor_map atom_map cellsL_fn stor_fn atom_fn cellsL_agg stor_agg cellsL_nilfn stor_nilfn atom_nilfn cellsL_nilp stor_nilp atom_nilp takeC_z takeC_s ofCells_ag ofCells_one ag_bool ag_int ag_str ag_slice ag_struct ag_arr ag_map ag_ptr ag_func gOf_t gOf_c gOf_f kv_cons putE_some putE_none oneRes_one oneRes_two oneRes_three getAll_nil getAll_v getAll_c maxiD_two miniD_two extV_tup xv_ext stepOp_box stepOp_alloc stepOp_store writeO_cells storeD_loc setCells_nil setCells_cons stepOp_mkmap stepOp_mapset stepOp_call1 stepOp_call2 stepOp_app2 stepOp_app1 stepOp_bslice stepOp_mkslice mapO_map lookupD_some lookupD_ok mapsetD_some keyOk_agg kindsL_nil kindsL_bool kindsL_int eqL_nil eqL_cons atomEq_bool atomEq_int frz_sl tokO_tok app0_step app0_exact app0_tok frz_loc oneRes_nil listOf_imm
 ty_0 ty_1 ty_2 ty_3 ty_4 ty_5 ty_6 ty_7 ty_8 ty_9 ty_10 ty_11 ty_12 ty_13 ty_14 ty_15 ty_16 ty_17 ty_18 ty_19 ty_20 ty_21 ty_22 ty_23 ty_24 ty_25 ty_26 ty_27
attribute [local congr] wT_congr ob_congr obP_congr iteD_congr condP_congr

theorem boundL_len {p : Prob} {b : List Int} : (boundL p b).length = 4 := rfl

theorem resB_tup (p : Prob) (b : List Int) : ∃ (L : List Int) (e : Int), resB p b = .tup [.imm .none (L.map dI), dI e] ∧ L.length ≤ 1000 := by
  unfold resB
  by_cases h0 : bk p b 280 = 0
  · exact ⟨boundL p b, 0, by rw [if_pos h0], by simp [boundL]⟩
  · exact ⟨[], bk p b 280, by rw [if_neg h0], by simp⟩

set_option maxHeartbeats 4000000 in
theorem law0 (h1 : runP E (dL E) 1 [] = some (.bool true)) (p : Prob) (b : List Int) : runP E (dL E) 0 [dProb p, dInts b] = some (.bool true) := by
  refine runP_T c0 (by simp) ?_
  have h2 := r2 p
  simp only [dProb] at h2
  simp [t0, n0, h1, h2]
  cases hf : fewB p with
  | false => simp
  | true =>
  have S := few_small hf
  simp
  by_cases hb : (20 : Int) < b.length
  · have hb2 : ¬ (b.length : Int) ≤ 20 := by omega
    simp [hb, hb2]
  have hb' : b.length ≤ 20 := by omega
  have hb2 : (b.length : Int) ≤ 20 := by omega
  simp [hb, hb2]
  have h3 := r3 p b S hb'
  have h4 := r4 p b S hb'
  obtain ⟨L, e, hN, hL⟩ := resB_tup p b
  rw [hN] at h3 h4
  have h5 := r5 L L (by omega)
  simp only [dProb, dInts, decide_true] at h3 h4 h5
  simp [h3, h4, h5]

theorem boundSpec : ∀ xs, TypedL E [0, 1] xs → ∃ n, runP E (dC E n) 0 xs = some (.bool true) := by
  intro xs h
  match xs, h with
  | [x, y], ⟨h1, h2, _⟩ =>
    obtain ⟨p, rfl, _⟩ := ty_prob h1
    obtain ⟨l, h3, _⟩ := ty_ints (typed_one h2 rfl) rfl
    simp only [List.cons.injEq, and_true] at h3
    subst h3
    exact runP_ex (law0 sane1' p l)
  | [], h => exact h.elim
  | [_], h => exact h.2.elim
  | _ :: _ :: _ :: _, h => exact h.2.2.elim

end Dv
