/- Texts that a proof of this claim uses, joined: Lw.W41, Lw.W43, Lw.W44. -/
import Derived.Test.YtffnaiofjjgcgaaWm
import Derived.Test.YtffnaiofjjgcgaaWp
import Derived.Test.YtffnaiofjjgcgaaSb
import Derived.Test.YtffnaiofjjgcgaaRk
set_option linter.all false
/- Walks: comparing lists of numbers, by the reference. -/
namespace Dv
attribute [local simp] wT_skip wK wT_ret wT_exit wR wRp wT_seq wC wT_block rTS_nil rTS_asg rTS_eff rTS_effk ob_some obP_some iteD_b condP_b xv_v xv_c xv_ite xv_bin_tt xv_bin_tc xv_bin_ct xv_bin_cc xv_un_t xv_conv_t xv_load xv_len xv_faddr xv_field xv_iaddr_tt xv_iaddr_tc xv_index_tt xv_index_tc xv_lookup_tt xv_max_tt xv_max_tc xv_max_ct xv_min_tt xv_min_tc xv_min_ct xv_slice_lo_t xv_slice_lo_c xv_slice_hi_t xv_slice_all xv_call xv_bslice bsliceV xv_build buildV xv_mkfn zeroE fillE buildD fillD List.replicate xvs_nil xvs_cons callV_fn frz_bool frz_int frz_imm frz_agg frz_tup frz_fn frz_iptr frzL_nil frzL_one frzL_dI frzL_cell frzL_use frzL_ints frzL_choice frzL_var depth dCell dUse dInts dChoice dVar dProb tStart addO Ret flat_dI flat_rep chunk_dI
 binD_add binD_sub binD_mul binD_eql binD_neq binD_lss binD_leq binD_gtr binD_geq binD_quo binD_rem binD_beql binD_bneq binD_aeql binD_aneq unD_not unD_neg lenD_imm lenD_sl lenD_str readO_cells readO_frozen loadD_loc loadD_iptr iaddrD_imm iaddrD_sl iaddrD_loc faddrD_loc faddrD_iptr fieldD_agg indexD_agg indexD_str cellsL_bool stor_bool atom_bool cellsL_int stor_int atom_int cellsL_str stor_str atom_str cellsL_imm stor_imm atom_imm cellsL_sl stor_sl atom_sl cellsL_loc stor_loc atom_loc cellsL_iptr stor_iptr atom_iptr cellsL_map stor_map atom_map cellsL_fn stor_fn atom_fn cellsL_agg stor_agg cellsL_nilfn stor_nilfn atom_nilfn cellsL_nilp stor_nilp atom_nilp takeC_z takeC_s ofCells_ag ofCells_one ag_bool ag_int ag_str ag_slice ag_struct ag_arr ag_map ag_ptr ag_func gOf_t gOf_c gOf_f kv_cons putE_some putE_none oneRes_one oneRes_two oneRes_three getAll_nil getAll_v getAll_c maxiD_two miniD_two extV_tup xv_ext stepOp_box stepOp_alloc stepOp_store writeO_cells storeD_loc setCells_nil setCells_cons stepOp_mkmap stepOp_mapset stepOp_call1 stepOp_call2 stepOp_app2 stepOp_app1 stepOp_bslice stepOp_mkslice mapO_map lookupD_some lookupD_ok mapsetD_some keyOk_agg kindsL_nil kindsL_bool kindsL_int eqL_nil eqL_cons atomEq_bool atomEq_int frz_sl tokO_tok app0_step app0_exact app0_tok frz_loc oneRes_nil listOf_imm
 ty_0 ty_1 ty_2 ty_3 ty_4 ty_5 ty_6 ty_7 ty_8 ty_9 ty_10 ty_11 ty_12 ty_13 ty_14 ty_15 ty_16 ty_17 ty_18 ty_19 ty_20 ty_21 ty_22 ty_23 ty_24 ty_25 ty_26 ty_27
attribute [local congr] wT_congr ob_congr obP_congr iteD_congr condP_congr

set_option maxHeartbeats 4000000 in
theorem r111 (a b : List Int) (ha : a.length ≤ 1000000) (h : a.length = b.length) : runP E (dL E) 111 [dInts a, dInts b] = some (dI (cmpL a b)) := by
  refine runP_T c111 (by simp) ?_
  generalize hB : cmpL a b = B
  simp [t111, n111]
  refine wT_up a.length (fun i env hp => ∃ (x4 x5 x6 : D) , env = [dInts a, dInts b, dI 0, dI i, x4, x5, x6] ∧ cmpL (a.drop i) (b.drop i) = B) 0 (by omega) ⟨_, _, _, rfl, by simpa using hB⟩ ?_
  rintro i env hp hi ⟨x4, x5, x6, rfl, hc⟩
  by_cases hlt : i < a.length
  · have h2 : i < b.length := by omega
    rw [drop_cons hlt, drop_cons h2] at hc
    simp only [cmpL] at hc
    by_cases k1 : a[i] < b[i]
    · have e : cmpI a[i] b[i] = -1 := by unfold cmpI; rw [if_pos k1]
      rw [e] at hc
      simp at hc
      simp [hlt, h2, k1, hc]
    · by_cases k2 : b[i] < a[i]
      · have e : cmpI a[i] b[i] = 1 := by unfold cmpI; rw [if_neg k1, if_pos k2]
        rw [e] at hc
        simp at hc
        simp [hlt, h2, k1, k2, hc]
      · have e : cmpI a[i] b[i] = 0 := by unfold cmpI; rw [if_neg k1, if_neg k2]
        rw [e] at hc
        simp at hc
        simp [hlt, h2, k1, k2, hc, wrap_up hlt (by omega)]
  · have hi' : i = a.length := by omega
    subst hi'
    rw [List.drop_length, h, List.drop_length] at hc
    simp only [cmpL] at hc
    simp [hc]

theorem r86 (a b : List Int) (ha : a.length ≤ 1000000) (hb : b.length ≤ 1000000) : runP E (dL E) 86 [dInts a, dInts b] = some (resC a b) := by
  refine runP_T c86 (by simp) ?_
  by_cases h : a.length = b.length
  · have h111 := r111 a b ha h
    simp only [dInts] at h111
    simp [t86, n86, h, h111, resC]
  · have h' : ¬ (a.length : Int) = b.length := by omega
    simp [t86, n86, h, h', resC]

end Dv

/- Walks: the values and overloads, by the reference. -/
namespace Dv
attribute [local simp] wT_skip wK wT_ret wT_exit wR wRp wT_seq wC wT_block rTS_nil rTS_asg rTS_eff rTS_effk ob_some obP_some iteD_b condP_b xv_v xv_c xv_ite xv_bin_tt xv_bin_tc xv_bin_ct xv_bin_cc xv_un_t xv_conv_t xv_load xv_len xv_faddr xv_field xv_iaddr_tt xv_iaddr_tc xv_index_tt xv_index_tc xv_lookup_tt xv_max_tt xv_max_tc xv_max_ct xv_min_tt xv_min_tc xv_min_ct xv_slice_lo_t xv_slice_lo_c xv_slice_hi_t xv_slice_all xv_call xv_bslice bsliceV xv_build buildV xv_mkfn zeroE fillE buildD fillD List.replicate xvs_nil xvs_cons callV_fn frz_bool frz_int frz_imm frz_agg frz_tup frz_fn frz_iptr frzL_nil frzL_one frzL_dI frzL_cell frzL_use frzL_ints frzL_choice frzL_var depth dCell dUse dInts dChoice dVar dProb tStart addO Ret flat_dI flat_rep chunk_dI
 binD_add binD_sub binD_mul binD_eql binD_neq binD_lss binD_leq binD_gtr binD_geq binD_quo binD_rem binD_beql binD_bneq binD_aeql binD_aneq unD_not unD_neg lenD_imm lenD_sl lenD_str readO_cells readO_frozen loadD_loc loadD_iptr iaddrD_imm iaddrD_sl iaddrD_loc faddrD_loc faddrD_iptr fieldD_agg indexD_agg indexD_str cellsL_bool stor_bool atom_bool cellsL_int stor_int atom_int cellsL_str stor_str atom_str cellsL_imm stor_imm atom_imm cellsL_sl stor_sl atom_sl cellsL_loc stor_loc atom_loc cellsL_iptr stor_iptr atom_iptr cellsL_map stor_map atom_map cellsL_fn stor_fn atom_fn cellsL_agg stor_agg cellsL_nilfn stor_nilfn atom_nilfn cellsL_nilp stor_nilp atom_nilp takeC_z takeC_s ofCells_ag ofCells_one ag_bool ag_int ag_str ag_slice ag_struct ag_arr ag_map ag_ptr ag_func gOf_t gOf_c gOf_f kv_cons putE_some putE_none oneRes_one oneRes_two oneRes_three getAll_nil getAll_v getAll_c maxiD_two miniD_two extV_tup xv_ext stepOp_box stepOp_alloc stepOp_store writeO_cells storeD_loc setCells_nil setCells_cons stepOp_mkmap stepOp_mapset stepOp_call1 stepOp_call2 stepOp_app2 stepOp_app1 stepOp_bslice stepOp_mkslice mapO_map lookupD_some lookupD_ok mapsetD_some keyOk_agg kindsL_nil kindsL_bool kindsL_int eqL_nil eqL_cons atomEq_bool atomEq_int frz_sl tokO_tok app0_step app0_exact app0_tok frz_loc oneRes_nil listOf_imm
 ty_0 ty_1 ty_2 ty_3 ty_4 ty_5 ty_6 ty_7 ty_8 ty_9 ty_10 ty_11 ty_12 ty_13 ty_14 ty_15 ty_16 ty_17 ty_18 ty_19 ty_20 ty_21 ty_22 ty_23 ty_24 ty_25 ty_26 ty_27
attribute [local congr] wT_congr ob_congr obP_congr iteD_congr condP_congr

theorem mx_comm0 {a : Int} : (if 0 < a then a else 0) = mx a 0 := by unfold mx; split <;> split <;> omega

set_option maxHeartbeats 16000000 in
theorem r85 (p : Prob) (b : List Int) (S : Small p) (hb : b.length ≤ 20) (ok : OkP p) (okb : OkB p b) : runP E (dL E) 85 [dProb p, dInts b] = some (dI (ov p b)) := by
  refine runP_T c85 (by simp) ?_
  have s1 := S.cells
  have s2 := S.cap
  have hov := ov_le S ok (b := b)
  obtain ⟨V, hV⟩ : ∃ V, V = ov p b := ⟨_, rfl⟩
  rw [← hV] at hov ⊢
  simp [t85, n85]
  refine wT_up p.capacity.length (fun i env hp => ∃ (x6 x7 x8 x9 : D) (v : Int) (h : List Obj), env = [dProb p, dInts b, .loc 0 0, dI 0, dI v, dI i, x6, x7, x8, x9] ∧
    hp = .cells (dProb p).cellsL :: h ∧ 0 ≤ v ∧ v + ovL p b i (p.capacity.drop i) = V) 0 (by omega) ⟨_, _, _, _, 0, _, rfl, rfl, by omega, by simp [hV, ov]⟩ ?_
  rintro i env hp hi ⟨x6, x7, x8, x9, v, h, rfl, rfl, hv0, hv⟩
  by_cases hlt : i < p.capacity.length
  · rw [drop_cons hlt] at hv
    simp only [ovL] at hv
    have hrest := ovL_pos (p := p) (b := b) (cs := p.capacity.drop (i + 1)) (k := i + 1)
    have hcap := ok.cap _ (List.getElem_mem hlt)
    have h80 := r80 p b i S hb ok okb
    simp only [dProb, dInts] at h80
    have hdl : (dem p b i).length = p.cells.length := by simp [dem, foldU_len]
    have hdb := dem_bd S ok (b := b) (leaf := i)
    obtain ⟨d, hd⟩ : ∃ d, d = dem p b i := ⟨_, rfl⟩
    rw [← hd] at h80 hdl hdb hv
    obtain ⟨c, hc⟩ : ∃ c, c = p.capacity[i] := ⟨_, rfl⟩
    rw [← hc] at hcap hv
    simp [hlt, h80]
    obtain ⟨rest, hre⟩ : ∃ rest, rest = ovL p b (i + 1) (p.capacity.drop (i + 1)) := ⟨_, rfl⟩
    rw [← hre] at hv hrest
    refine wT_up d.length (fun j env hp => ∃ (x8 x9 : D) (v : Int) (h : List Obj), env = [dProb p, dInts b, .loc 0 0, dI 0, dI v, dI i, dInts d, dI j, x8, x9] ∧
      hp = .cells (dProb p).cellsL :: h ∧ 0 ≤ v ∧ v + (ovR (d.drop j) (c.drop j) + rest) = V) 0 (by omega) ⟨_, _, v, _, rfl, rfl, hv0, by simpa using hv⟩ ?_
    rintro j env hp hj ⟨x8, x9, v, h, rfl, rfl, hv0, hv⟩
    by_cases hlt2 : j < d.length
    · have hjc : j < c.length := by omega
      have hjc' : j < p.capacity[i].length := by rw [← hc]; exact hjc
      rw [drop_cons hlt2, drop_cons hjc] at hv
      simp only [ovR] at hv
      have hrp := ovR_pos (d := d.drop (j + 1)) (c := c.drop (j + 1))
      have hd1 := hdb _ (List.getElem_mem hlt2)
      have hc1 := hcap.2 _ (List.getElem_mem hjc)
      unfold wi at hc1
      have e1 : p.capacity[i][j] = c[j] := by simp only [hc]
      have hm0 := mx0 (a := d[j] - c[j])
      have w0 := wrap_i64 (n := d[j] - c[j]) ⟨by omega, by omega⟩
      have w2 := wrap_i64 (n := v + mx (d[j] - c[j]) 0) ⟨by omega, by omega⟩
      by_cases hgt : c[j] < d[j]
      · have hm : mx (d[j] - c[j]) 0 = d[j] - c[j] := by unfold mx; rw [if_neg (by omega)]
        rw [hm] at w2
        simp [hlt, hlt2, hjc', e1, w0, hgt, w2, wrap_up hlt2 (by omega)]
        exact ⟨_, _, _, ⟨rfl, rfl, rfl⟩, by omega, by omega⟩
      · have hm : mx (d[j] - c[j]) 0 = 0 := by unfold mx; split <;> omega
        rw [hm] at w2
        simp only [Int.add_zero] at w2
        simp [hlt, hlt2, hjc', e1, w0, hgt, w2, wrap_up hlt2 (by omega)]
        exact ⟨_, _, _, ⟨rfl, rfl, rfl⟩, by omega, by omega⟩
    · have : j = d.length := by omega
      subst this
      simp only [List.drop_length, ovR, Int.zero_add] at hv
      simp [wrap_up hlt (by omega)]
      exact ⟨_, _, _, _, _, ⟨rfl, rfl, rfl, rfl, rfl⟩, hv0, by rw [← hre]; exact hv⟩
  have : i = p.capacity.length := by omega
  subst this
  simp only [List.drop_length, ovL, Int.add_zero] at hv
  subst hv
  simp

set_option maxHeartbeats 16000000 in
theorem r23 (p : Prob) (b : List Int) (S : Small p) (hb : b.length ≤ 20) : runP E (dL E) 23 [dProb p, dInts b] = some (resV p b) := by
  refine runP_T c23 (by simp) ?_
  have h19 := r19 p S
  have h78 := r78 p b S hb
  have s1 := S.cells
  have s2 := S.cap
  have s3 := S.vars
  simp only [dProb, dInts] at h19 h78
  simp [t23, n23, h19]
  by_cases h0 : Whole p b
  rotate_left
  · have hr : resV p b = .tup [dInts [], dI 270] := by unfold resV; rw [if_neg h0]
    rw [hr]
    by_cases k0 : OkP p
    rotate_left
    · have e : ck p = 270 := by simp [ck, k0]
      simp [e]
    have e : ck p = 0 := by simp [ck, k0]
    by_cases k1 : OkB p b
    · have k2 : ¬ b.length = p.vars.length := fun h => h0 ⟨k0, k1, h⟩
      have k3 : ¬ (b.length : Int) = p.vars.length := by omega
      simp [e, h78, k1, k2, k3]
    · simp [e, h78, k1]
  have hr : resV p b = .tup [dInts (boundL p b), dI 0] := by unfold resV; rw [if_pos h0]
  rw [hr]
  obtain ⟨ok, okb, hbl⟩ := h0
  have e : ck p = 0 := by simp [ck, ok]
  have hbl' : (b.length : Int) = p.vars.length := by omega
  have h85 := r85 p b S hb ok okb
  have hbd := bd_picks (vs := p.vars) (b := b) (fun v hv => ⟨ok.vars v hv, S.leaves v hv⟩)
  have hpl := picks_len (vs := p.vars) (b := b)
  have hCb := sumC_bd hbd
  have hGb := sumG_bd hbd
  obtain ⟨V, hV⟩ : ∃ V, V = ov p b := ⟨_, rfl⟩
  rw [← hV] at h85
  obtain ⟨M, hM⟩ : ∃ M, M = maxD 0 (picks p.vars b) := ⟨_, rfl⟩
  obtain ⟨C, hC⟩ : ∃ C, C = sumC (picks p.vars b) := ⟨_, rfl⟩
  obtain ⟨G, hG⟩ : ∃ G, G = sumG (picks p.vars b) := ⟨_, rfl⟩
  rw [← hC] at hCb
  rw [← hG] at hGb
  have hfin : boundL p b = [V, M, C, G] := by rw [hV, hM, hC, hG]; rfl
  rw [hfin]
  clear hfin
  simp only [dProb, dInts] at h85
  simp [e, h78, okb, hbl', h85, flat]
  refine wT_up p.vars.length (fun i env hp => ∃ (x5 x8 x9 x10 x11 x12 x13 x14 : D) (v1 v2 v3 : Int) (h : List Obj), env = [dProb p, dInts b, .loc 0 0, .imm .exact [], dI 0, x5, .sl 1 0 4 1 false true, dI i, x8, x9, x10, x11, x12, x13, x14] ∧
    hp = .cells (dProb p).cellsL :: .cells [dI V, dI v1, dI v2, dI v3] :: h ∧ 0 ≤ v2 ∧ 0 ≤ v3 ∧ maxD v1 (picks (p.vars.drop i) (b.drop i)) = M ∧ v2 + sumC (picks (p.vars.drop i) (b.drop i)) = C ∧
    v3 + sumG (picks (p.vars.drop i) (b.drop i)) = G) 0 (by omega) ⟨_, _, _, _, _, _, _, _, 0, 0, 0, _, rfl, rfl, by omega, by omega, by simp [hM], by simp [hC], by simp [hG]⟩ ?_
  rintro i env hp hi ⟨x5, x8, x9, x10, x11, x12, x13, x14, v1, v2, v3, h, rfl, rfl, a2, a3, a4, a5, a6⟩
  by_cases hlt2 : i < p.vars.length
  · have hib : i < b.length := by omega
    have okv := ok.vars _ (List.getElem_mem hlt2)
    have l1 := S.leaves _ (List.getElem_mem hlt2)
    have hr := bd_picks (vs := p.vars.drop (i + 1)) (b := b.drop (i + 1)) (fun v hv => ⟨ok.vars v (List.mem_of_mem_drop hv), S.leaves v (List.mem_of_mem_drop hv)⟩)
    have hr2 := sumC_bd hr
    have hr3 := sumG_bd hr
    have hbp := bd_pick okv (n := b[i]?)
    rw [drop_cons hlt2] at a4 a5 a6
    simp only [picks, List.tail_drop, List.head?_drop, sumC, sumG] at a4 a5 a6
    obtain ⟨n, hn⟩ : ∃ n : Int, n = p.vars[i].leaves.length := ⟨_, rfl⟩
    rw [← hn] at a4 a5 a6
    obtain ⟨⟨d1, d2⟩, ⟨c1, c2⟩, ⟨g1, g2⟩⟩ := hbp
    obtain ⟨c, hc⟩ : ∃ c, c = pick p.vars[i] b[i]? := ⟨_, rfl⟩
    rw [← hc] at a4 a5 a6 d1 d2 c1 c2 g1 g2
    have m1 := mul_bd c1 c2 (n := n) (by omega) (by omega)
    have m2 := mul_bd g1 g2 (n := n) (by omega) (by omega)
    have w1 := wrap_i64 (n := c.cost * n) ⟨by omega, by omega⟩
    have w2 := wrap_i64 (n := v2 + c.cost * n) ⟨by omega, by omega⟩
    have w3 := wrap_i64 (n := c.changes * n) ⟨by omega, by omega⟩
    have w4 := wrap_i64 (n := v3 + c.changes * n) ⟨by omega, by omega⟩
    have hmx : maxD (mx v1 c.delay) (picks (p.vars.drop (i + 1)) (b.drop (i + 1))) = M := a4
    have hw := okb.each i hib hlt2
    obtain ⟨m, hm⟩ : ∃ m : Nat, b[i] = m := ⟨b[i].toNat, by unfold wi at hw; omega⟩
    have hm' : m < p.vars[i].choices.length := by unfold wi at hw; omega
    rw [List.getElem?_eq_getElem hib, hm] at hc
    simp only [pick, Int.toNat_natCast, List.getD_eq_getElem?_getD, List.getElem?_eq_getElem hm', Option.getD_some] at hc
    simp [hlt2, hib, hm, hm', ↓get_app2, ↓set_app2, ↓get_app3, ↓set_app3, ← hc, ← hn, w1, w2, w3, w4, wrap_up hib (by omega)]
    exact ⟨_, _, _, ⟨rfl, rfl, rfl⟩, by omega, by omega, hmx, by omega, by omega⟩
  · have : i = p.vars.length := by omega
    subst this
    simp only [List.drop_length, picks, maxD, List.foldl_nil, sumC, sumG, Int.add_zero] at a4 a5 a6
    subst a4 a5 a6
    simp [chunk, hbl]

set_option maxHeartbeats 16000000 in
theorem r25 (p : Prob) (a b : List Int) (S : Small p) (ha : a.length ≤ 20) (hb : b.length ≤ 20) : runP E (dL E) 25 [dProb p, dInts a, dInts b] = some (resBt p a b) := by
  refine runP_T c25 (by simp) ?_
  have h1 := r23 p a S ha
  have h2 := r23 p b S hb
  by_cases wa : Whole p a
  rotate_left
  · have : ¬ (Whole p a ∧ Whole p b) := fun h => wa h.1
    simp only [resV, if_neg wa] at h1
    simp only [dProb, dInts] at h1
    simp [t25, n25, h1, resBt, this]
  by_cases wb : Whole p b
  rotate_left
  · have : ¬ (Whole p a ∧ Whole p b) := fun h => wb h.2
    simp only [resV, if_pos wa] at h1
    simp only [resV, if_neg wb] at h2
    simp only [dProb, dInts] at h1 h2
    simp [t25, n25, h1, h2, resBt, this]
  have hab : Whole p a ∧ Whole p b := ⟨wa, wb⟩
  simp only [resV, if_pos wa] at h1
  simp only [resV, if_pos wb] at h2
  have hlen : a.length = b.length := by rw [wa.2.2, wb.2.2]
  have h30 := r86 a b (by omega) (by omega)
  have h31 := r86 (boundL p a) (boundL p b) (by simp [boundL]) (by simp [boundL])
  unfold resC at h30 h31
  rw [if_pos hlen] at h30
  rw [if_pos (show (boundL p a).length = (boundL p b).length from rfl)] at h31
  have hr : resBt p a b = .tup [.bool (decide (betterI p a b < 0)), dI 0] := by unfold resBt; rw [if_pos hab]
  rw [hr]
  unfold betterI
  obtain ⟨v, hv⟩ : ∃ v, v = boundL p a := ⟨_, rfl⟩
  obtain ⟨w, hw⟩ : ∃ w, w = boundL p b := ⟨_, rfl⟩
  rw [← hv] at h1 h31 ⊢
  rw [← hw] at h2 h31 ⊢
  obtain ⟨q, hq⟩ : ∃ q, q = cmpL v w := ⟨_, rfl⟩
  obtain ⟨s, hs⟩ : ∃ s, s = cmpL a b := ⟨_, rfl⟩
  rw [← hq] at h31 ⊢
  rw [← hs] at h30 ⊢
  simp only [dProb, dInts] at h1 h2 h30 h31
  by_cases hq0 : q = 0
  · simp [t25, n25, h1, h2, h31, h30, hq0]
  · simp [t25, n25, h1, h2, h31, hq0]

end Dv

/- Walks: the overloads by the reference; the law ProblemValueSpec. -/
namespace Dv
attribute [local simp] wT_skip wK wT_ret wT_exit wR wRp wT_seq wC wT_block rTS_nil rTS_asg rTS_eff rTS_effk ob_some obP_some iteD_b condP_b xv_v xv_c xv_ite xv_bin_tt xv_bin_tc xv_bin_ct xv_bin_cc xv_un_t xv_conv_t xv_load xv_len xv_faddr xv_field xv_iaddr_tt xv_iaddr_tc xv_index_tt xv_index_tc xv_lookup_tt xv_max_tt xv_max_tc xv_max_ct xv_min_tt xv_min_tc xv_min_ct xv_slice_lo_t xv_slice_lo_c xv_slice_hi_t xv_slice_all xv_call xv_bslice bsliceV xv_build buildV xv_mkfn zeroE fillE buildD fillD List.replicate xvs_nil xvs_cons callV_fn frz_bool frz_int frz_imm frz_agg frz_tup frz_fn frz_iptr frzL_nil frzL_one frzL_dI frzL_cell frzL_use frzL_ints frzL_choice frzL_var depth dCell dUse dInts dChoice dVar dProb tStart addO Ret flat_dI flat_rep chunk_dI
 binD_add binD_sub binD_mul binD_eql binD_neq binD_lss binD_leq binD_gtr binD_geq binD_quo binD_rem binD_beql binD_bneq binD_aeql binD_aneq unD_not unD_neg lenD_imm lenD_sl lenD_str readO_cells readO_frozen loadD_loc loadD_iptr iaddrD_imm iaddrD_sl iaddrD_loc faddrD_loc faddrD_iptr fieldD_agg indexD_agg indexD_str cellsL_bool stor_bool atom_bool cellsL_int stor_int atom_int cellsL_str stor_str atom_str cellsL_imm stor_imm atom_imm cellsL_sl stor_sl atom_sl cellsL_loc stor_loc atom_loc cellsL_iptr stor_iptr atom_iptr cellsL_map stor_map atom_map cellsL_fn stor_fn atom_fn cellsL_agg stor_agg cellsL_nilfn stor_nilfn atom_nilfn cellsL_nilp stor_nilp atom_nilp takeC_z takeC_s ofCells_ag ofCells_one ag_bool ag_int ag_str ag_slice ag_struct ag_arr ag_map ag_ptr ag_func gOf_t gOf_c gOf_f kv_cons putE_some putE_none oneRes_one oneRes_two oneRes_three getAll_nil getAll_v getAll_c maxiD_two miniD_two extV_tup xv_ext stepOp_box stepOp_alloc stepOp_store writeO_cells storeD_loc setCells_nil setCells_cons stepOp_mkmap stepOp_mapset stepOp_call1 stepOp_call2 stepOp_app2 stepOp_app1 stepOp_bslice stepOp_mkslice mapO_map lookupD_some lookupD_ok mapsetD_some keyOk_agg kindsL_nil kindsL_bool kindsL_int eqL_nil eqL_cons atomEq_bool atomEq_int frz_sl tokO_tok app0_step app0_exact app0_tok frz_loc oneRes_nil listOf_imm
 ty_0 ty_1 ty_2 ty_3 ty_4 ty_5 ty_6 ty_7 ty_8 ty_9 ty_10 ty_11 ty_12 ty_13 ty_14 ty_15 ty_16 ty_17 ty_18 ty_19 ty_20 ty_21 ty_22 ty_23 ty_24 ty_25 ty_26 ty_27
attribute [local congr] wT_congr ob_congr obP_congr iteD_congr condP_congr

set_option maxHeartbeats 4000000 in
theorem r28 (l : List Over) (hl : l.length ≤ 1000000) : runP E (dL E) 28 [.imm .none (l.map dPlace), .imm .none (l.map dPlace)] = some (.bool true) := by
  refine runP_T c28 (by simp) ?_
  simp [t28, n28]
  refine wT_up l.length (fun i env hp => ∃ (x4 x5 x6 : D) , env = [.imm .none (l.map dPlace), .imm .none (l.map dPlace), .bool false, dI i, x4, x5, x6]) 0 (by omega) ⟨_, _, _, rfl⟩ ?_
  rintro i env hp hi ⟨x4, x5, x6, rfl⟩
  by_cases hlt : i < l.length
  · simp [hlt, wrap_up hlt (by omega)]
  · have : i = l.length := by omega
    subst this
    simp

def spOk (sp : Spare) (done : List Over) (h : List Obj) : Prop := (sp = .exact ∧ done = []) ∨ ∃ k, sp = .tok (k + 1) ∧ At h k (.tok (done.length * 2) 2)

theorem spOk.app {sp : Spare} {done : List Over} {h r : List Obj} (s : spOk sp done h) : spOk sp done (h ++ r) := by
  rcases s with s | ⟨k, s1, s2⟩
  · exact .inl s
  · exact .inr ⟨k, s1, s2.app⟩

set_option maxHeartbeats 16000000 in
theorem r27 (p : Prob) (b : List Int) (S : Small p) (hb : b.length ≤ 20) : runP E (dL E) 27 [dProb p, dInts b] = some (resO p b) := by
  refine runP_T c27 (by simp) ?_
  have h23 := r23 p b S hb
  have s1 := S.cells
  have s2 := S.cap
  by_cases h0 : Whole p b
  rotate_left
  · simp only [resV, if_neg h0] at h23
    simp only [dProb, dInts] at h23
    simp [t27, n27, h23, resO, h0]
  have hr : resO p b = .tup [.imm .none ((ovI p b).map dPlace), dI 0] := by unfold resO; rw [if_pos h0]
  rw [hr]
  simp only [resV, if_pos h0] at h23
  obtain ⟨ok, okb, hbl⟩ := h0
  have hol := ovI_len S (b := b)
  have hItem : ovI p b = ovIL p b 0 p.capacity := rfl
  obtain ⟨l, hl⟩ : ∃ l, l = ovI p b := ⟨_, rfl⟩
  rw [← hl] at hol hItem ⊢
  obtain ⟨v, hv⟩ : ∃ v, v = boundL p b := ⟨_, rfl⟩
  rw [← hv] at h23
  simp only [dProb, dInts] at h23
  simp [t27, n27, h23]
  refine wT_up p.capacity.length (fun i env hp => ∃ (x5 x8 x9 x10 x11 x12 x13 x14 x15 x16 : D) (sp : Spare) (done : List Over) (h : List Obj), env = [dProb p, dInts b, .loc 0 0, .imm .exact [], dI 0, x5, .imm sp (done.map dPlace), dI i, x8, x9, x10, x11, x12, x13, x14, x15, x16] ∧
    hp = .cells (dProb p).cellsL :: h ∧ spOk sp done h ∧ done ++ ovIL p b i (p.capacity.drop i) = l) 0 (by omega) ⟨_, _, _, _, _, _, _, _, _, _, .exact, [], _, rfl, rfl, .inl ⟨rfl, rfl⟩, by simpa using hItem.symm⟩ ?_
  rintro i env hp hi ⟨x5, x8, x9, x10, x11, x12, x13, x14, x15, x16, sp, done, h, rfl, rfl, hsp, hd⟩
  by_cases hlt : i < p.capacity.length
  rotate_left
  · have : i = p.capacity.length := by omega
    subst this
    rw [List.drop_length] at hd
    simp only [ovIL, List.append_nil] at hd
    subst hd
    simp [frzL_place]
  have h80 := r80 p b i S hb ok okb
  simp only [dProb, dInts] at h80
  have hcap := ok.cap _ (List.getElem_mem hlt)
  have hdl : (dem p b i).length = p.cells.length := by simp [dem, foldU_len]
  have hdb := dem_bd S ok (b := b) (leaf := i)
  rw [drop_cons hlt] at hd
  simp only [ovIL] at hd
  obtain ⟨d, hdd⟩ : ∃ d, d = dem p b i := ⟨_, rfl⟩
  obtain ⟨c, hc⟩ : ∃ c, c = p.capacity[i] := ⟨_, rfl⟩
  obtain ⟨rest, hre⟩ : ∃ rest, rest = ovIL p b (i + 1) (p.capacity.drop (i + 1)) := ⟨_, rfl⟩
  rw [← hdd, ← hc, ← hre] at hd
  rw [← hdd] at h80 hdl hdb
  rw [← hc] at hcap
  simp [hlt, h80]
  refine wT_up d.length (fun j env hp => ∃ (x5 x10 x11 x12 x13 x14 x15 x16 : D) (sp : Spare) (done : List Over) (h : List Obj), env = [dProb p, dInts b, .loc 0 0, .imm .exact [], dI 0, x5, .imm sp (done.map dPlace), dI i, dInts d, dI j, x10, x11, x12, x13, x14, x15, x16] ∧
    hp = .cells (dProb p).cellsL :: h ∧ spOk sp done h ∧ done ++ (ovIR i j (d.drop j) (c.drop j) ++ rest) = l) 0 (by omega) ⟨_, _, _, _, _, _, _, _, sp, done, _, rfl, rfl, hsp, by simpa using hd⟩ ?_
  rintro j env hp hj ⟨x5, x10, x11, x12, x13, x14, x15, x16, sp, done, h, rfl, rfl, hsp, hd⟩
  by_cases hlt2 : j < d.length
  rotate_left
  · have : j = d.length := by omega
    subst this
    rw [List.drop_length] at hd
    simp only [ovIR, List.nil_append] at hd
    simp [wrap_up hlt (by omega), hlt]
    exact ⟨_, _, _, _, _, _, _, _, _, _, sp, done, ⟨rfl, ⟨rfl, rfl⟩, rfl, rfl, rfl, rfl, rfl, rfl, rfl, rfl, rfl⟩, hsp, by rw [← hre]; exact hd⟩
  have hjc : j < c.length := by omega
  have hjc' : j < p.capacity[i].length := by rw [← hc]; exact hjc
  have e1 : p.capacity[i][j] = c[j] := by simp only [hc]
  rw [drop_cons hlt2, drop_cons hjc] at hd
  simp only [ovIR] at hd
  by_cases hg : c[j] < d[j]
  · rw [if_pos (by omega)] at hd
    have hd' : (done ++ [(⟨(i : Int), (j : Int), d[j] - c[j]⟩ : Over)]) ++ (ovIR i (j + 1) (d.drop (j + 1)) (c.drop (j + 1)) ++ rest) = l := by
      rw [← hd]; simp
    have hdl2 : done.length ≤ 48 := by rw [← hd] at hol; simp at hol; omega
    have hap : appOk E 11 (done.map dPlace) [.agg [dI i, dI j]] := by
      refine ⟨?_, ?_, ?_, fits_place⟩ <;> simp [maxBytes]
      omega
    rcases hsp with ⟨rfl, rfl⟩ | ⟨k, rfl, hk⟩
    · simp only [List.map_nil] at hap
      simp [hlt, hlt2, hjc', e1, hg, app0_step, app0_exact, hap, wrap_up hlt2 (by omega)]
      refine ⟨_, _, _, _, _, _, _, _, .tok (h.length + 13 + 1), [⟨(i : Int), (j : Int), d[j] - c[j]⟩], ⟨rfl, ⟨rfl, rfl⟩, rfl, rfl, rfl, rfl, rfl, rfl, rfl⟩, .inr ⟨h.length + 13, rfl, ?_⟩, hd'⟩
      exact get_app2
    · have hkl := hk.lt
      simp [hlt, hlt2, hjc', e1, hg, app0_step, app0_tok, hap, ↓hk.appE, set_app1 hkl, wrap_up hlt2 (by omega)]
      refine ⟨_, _, _, _, _, _, _, _, .tok (h.length + 13 + 1), done ++ [⟨(i : Int), (j : Int), d[j] - c[j]⟩], ⟨rfl, ⟨rfl, by rw [List.map_append]; rfl⟩, rfl, rfl, rfl, rfl, rfl, rfl, rfl⟩, .inr ⟨h.length + 13, rfl, ?_⟩, hd'⟩
      rw [List.length_append]
      have := get_app2 (hp := h.set k .dead) (r := [.dead, .dead, .dead, .dead, .dead, .dead, .dead, .dead, .dead, .dead, .dead, .dead, .dead, .tok ((done.length + 1) * 2) 2]) (k := 13)
      simp only [List.length_set] at this
      exact this
  · rw [if_neg (by omega)] at hd
    simp only [List.nil_append] at hd
    simp [hlt, hlt2, hjc', e1, hg, wrap_up hlt2 (by omega)]
    exact ⟨_, _, _, _, _, _, _, _, sp, done, ⟨rfl, ⟨rfl, rfl⟩, rfl, rfl, rfl, rfl, rfl, rfl, rfl⟩, hsp.app, hd⟩

theorem resV_tup (p : Prob) (b : List Int) : ∃ (L : List Int) (e : Int), resV p b = .tup [.imm .none (L.map dI), dI e] ∧ L.length ≤ 1000 := by
  unfold resV
  by_cases h0 : Whole p b
  · exact ⟨boundL p b, 0, by rw [if_pos h0], by simp [boundL]⟩
  · exact ⟨[], 270, by rw [if_neg h0] <;> rfl, by simp⟩
theorem resBt_tup (p : Prob) (a b : List Int) : ∃ (x : Bool) (e : Int), resBt p a b = .tup [.bool x, dI e] := by
  unfold resBt
  by_cases h0 : Whole p a ∧ Whole p b
  · exact ⟨_, 0, by rw [if_pos h0]⟩
  · exact ⟨false, 270, by rw [if_neg h0]⟩
theorem resO_tup (p : Prob) (b : List Int) (S : Small p) : ∃ (L : List Over) (e : Int), resO p b = .tup [.imm .none (L.map dPlace), dI e] ∧ L.length ≤ 1000 := by
  unfold resO
  by_cases h0 : Whole p b
  · exact ⟨ovI p b, 0, by rw [if_pos h0], by have := ovI_len S (b := b); omega⟩
  · exact ⟨[], 270, by rw [if_neg h0] <;> rfl, by simp⟩

set_option maxHeartbeats 4000000 in
theorem law21 (h1 : runP E (dL E) 17 [] = some (.bool true)) (p : Prob) (a b : List Int) : runP E (dL E) 21 [dProb p, dInts a, dInts b] = some (.bool true) := by
  refine runP_T c21 (by simp) ?_
  have h2 := r2 p
  simp only [dProb] at h2
  simp [t21, n21, h1, h2]
  cases hf : fewB p with
  | false => simp
  | true =>
  have S := few_small hf
  simp
  by_cases ha : (20 : Int) < a.length
  · have ha2 : ¬ (a.length : Int) ≤ 20 := by omega
    simp [ha, ha2]
  have ha' : a.length ≤ 20 := by omega
  have ha2 : (a.length : Int) ≤ 20 := by omega
  by_cases hb : (20 : Int) < b.length
  · have hb2 : ¬ (b.length : Int) ≤ 20 := by omega
    simp [ha, ha2, hb, hb2]
  have hb' : b.length ≤ 20 := by omega
  have hb2 : (b.length : Int) ≤ 20 := by omega
  simp [ha, ha2, hb, hb2]
  have k1 := r22 p a S ha'
  have k2 := r23 p a S ha'
  have k3 := r24 p a b S ha' hb'
  have k4 := r25 p a b S ha' hb'
  have k5 := r26 p a S ha'
  have k6 := r27 p a S ha'
  obtain ⟨L, e, q1, q2⟩ := resV_tup p a
  obtain ⟨x, f, q3⟩ := resBt_tup p a b
  obtain ⟨M, g, q4, q5⟩ := resO_tup p a S
  rw [q1] at k1 k2
  rw [q3] at k3 k4
  rw [q4] at k5 k6
  have k7 := r20 L L (by omega)
  have k8 := r28 M (by omega)
  simp only [dProb, dInts, decide_true] at k1 k2 k3 k4 k5 k6 k7 k8
  simp [k1, k2, k3, k4, k5, k6, k7, k8, frzL_place]

theorem problemValueSpec : ∀ xs, TypedL E [0, 6, 6] xs → ∃ n, runP E (dC E n) 21 xs = some (.bool true) := by
  intro xs h
  match xs, h with
  | [x, y, z], ⟨h1, h2, h3, _⟩ =>
    obtain ⟨p, rfl, _⟩ := ty_prob h1
    obtain ⟨a, rfl, _⟩ := ty_nums h2 rfl
    obtain ⟨b, rfl, _⟩ := ty_nums h3 rfl
    exact runP_ex (law21 sane17' p a b)
  | [], h => exact h.elim
  | [_], h => exact h.2.elim
  | [_, _], h => exact h.2.2.elim
  | _ :: _ :: _ :: _ :: _, h => exact h.2.2.2.elim

end Dv
