/- Texts that a proof of this claim uses, joined: Lw.W58, Lw.W59, Lw.W60, Lw.W61, Lw.W62, Lw.W63. -/
import Derived.Test.YtffnaiofjjgcgaaWo
import Derived.Test.YtffnaiofjjgcgaaWx
set_option linter.all false
/- Walks: what a choice costs. -/
namespace Dv
attribute [local simp] wT_skip wK wT_ret wT_exit wR wRp wT_seq wC wT_block rTS_nil rTS_asg rTS_eff rTS_effk ob_some obP_some iteD_b condP_b xv_v xv_c xv_ite xv_bin_tt xv_bin_tc xv_bin_ct xv_bin_cc xv_un_t xv_conv_t xv_load xv_len xv_faddr xv_field xv_iaddr_tt xv_iaddr_tc xv_index_tt xv_index_tc xv_lookup_tt xv_max_tt xv_max_tc xv_max_ct xv_min_tt xv_min_tc xv_min_ct xv_slice_lo_t xv_slice_lo_c xv_slice_hi_t xv_slice_all xv_call xv_bslice bsliceV xv_build buildV xv_mkfn zeroE fillE buildD fillD List.replicate xvs_nil xvs_cons callV_fn frz_bool frz_int frz_imm frz_agg frz_tup frz_fn frz_iptr frzL_nil frzL_one frzL_dI frzL_cell frzL_use frzL_ints frzL_choice frzL_var depth dCell dUse dInts dChoice dVar dProb tStart addO Ret flat_dI flat_rep chunk_dI
 binD_add binD_sub binD_mul binD_eql binD_neq binD_lss binD_leq binD_gtr binD_geq binD_quo binD_rem binD_beql binD_bneq binD_aeql binD_aneq unD_not unD_neg lenD_imm lenD_sl lenD_str readO_cells readO_frozen loadD_loc loadD_iptr iaddrD_imm iaddrD_sl iaddrD_loc faddrD_loc faddrD_iptr fieldD_agg indexD_agg indexD_str cellsL_bool stor_bool atom_bool cellsL_int stor_int atom_int cellsL_str stor_str atom_str cellsL_imm stor_imm atom_imm cellsL_sl stor_sl atom_sl cellsL_loc stor_loc atom_loc cellsL_iptr stor_iptr atom_iptr cellsL_map stor_map atom_map cellsL_fn stor_fn atom_fn cellsL_agg stor_agg cellsL_nilfn stor_nilfn atom_nilfn cellsL_nilp stor_nilp atom_nilp takeC_z takeC_s ofCells_ag ofCells_one ag_bool ag_int ag_str ag_slice ag_struct ag_arr ag_map ag_ptr ag_func gOf_t gOf_c gOf_f kv_cons putE_some putE_none oneRes_one oneRes_two oneRes_three getAll_nil getAll_v getAll_c maxiD_two miniD_two extV_tup xv_ext stepOp_box stepOp_alloc stepOp_store writeO_cells storeD_loc setCells_nil setCells_cons stepOp_mkmap stepOp_mapset stepOp_call1 stepOp_call2 stepOp_app2 stepOp_app1 stepOp_bslice stepOp_mkslice mapO_map lookupD_some lookupD_ok mapsetD_some keyOk_agg kindsL_nil kindsL_bool kindsL_int eqL_nil eqL_cons atomEq_bool atomEq_int frz_sl tokO_tok app0_step app0_exact app0_tok frz_loc oneRes_nil listOf_imm
 ty_0 ty_1 ty_2 ty_3 ty_4 ty_5 ty_6 ty_7 ty_8 ty_9 ty_10 ty_11 ty_12 ty_13 ty_14 ty_15 ty_16 ty_17 ty_18 ty_19 ty_20 ty_21 ty_22 ty_23 ty_24 ty_25 ty_26 ty_27
attribute [local congr] wT_congr ob_congr obP_congr iteD_congr condP_congr

def qI (q : Bool) : Int := if q then 1 else 0

set_option maxHeartbeats 16000000 in
theorem r115 (p : Prob) (b : List Int) (g : Int) (m : List (List Int)) (v : Var) (c : Choice) (q : Bool) (S : Small p) (ok : OkP p) (M : OkM p m) (hv : OkVar p v) (hl8 : v.leaves.length ≤ 8) (hcv : c ∈ v.choices) (hu : ∀ c, c ∈ v.choices → c.uses.length ≤ 12) :
    runP E (dL E) 115 [dChoice c, .iptr [.bool q], .iptr (dVar v).cellsL, .iptr (dWork p b g m).cellsL] = some (dI (costOf p m v (qI q) c)) := by
  refine runP_T c115 (by simp) ?_
  have hc := hv.choices c hcv
  have hub : ∀ u, u ∈ c.uses → 0 ≤ u.places ∧ u.places ≤ 8 := fun u hu => (hc.uses u hu).places |> fun h => by unfold wi at h; omega
  have htot := prC_bd M hl8 hub
  have hul := hu c hcv
  have hcost := hc.cost
  unfold wi at hcost
  have hcl := mul_bd hcost.1 hcost.2 (n := (v.leaves.length : Int)) (by omega) (by omega)
  have w1 := wrap_i64 (n := c.cost * v.leaves.length) ⟨by omega, by omega⟩
  unfold costOf
  obtain ⟨P, hP⟩ : ∃ P, P = prC p m v.leaves c.uses := ⟨_, rfl⟩
  rw [← hP] at htot ⊢
  obtain ⟨Z, hZ⟩ : ∃ Z, Z = qI q * c.cost * v.leaves.length := ⟨_, rfl⟩
  have hZb : 0 ≤ Z ∧ Z ≤ 8388608 := by
    rw [hZ]
    cases q
    · simp [qI]
    · simp only [qI, if_true, Int.one_mul]; omega
  rw [← hZ]
  have e0 : q = false → Z = 0 := fun h => by rw [hZ, h]; simp [qI]
  have e1 : q = true → Z = c.cost * v.leaves.length := fun h => by rw [hZ, h]; simp [qI]
  have main : ∀ (n0 : Int) (env : List D), n0 = Z → (∃ (x6 x7 x8 x9 x13 x14 x15 x16 x17 x18 : D) , env = [dChoice c, .iptr [.bool q], .iptr (dVar v).cellsL, .iptr (dWork p b g m).cellsL, .loc 0 0, dI n0, x6, x7, x8, x9, .imm .none (c.uses.map dUse), dI c.uses.length, dI 0, x13, x14, x15, x16, x17, x18]) →
      wT E (match t115 with | .seq _ (.seq _ (.seq (.seq _ (.block _ l)) _)) => l | _ => .skip) (fun ex env' hp' => ex = .exit 0 ∧ env'[5]? = some (dI (Z + P))) env [.cells (dChoice c).cellsL] := by
    rintro n0 env rfl ⟨x6, x7, x8, x9, x13, x14, x15, x16, x17, x18, rfl⟩
    simp [t115]
    refine wT_up c.uses.length (fun i env hp => ∃ (x6 x7 x8 x9 x13 x14 x15 x16 x17 x18 : D) (n : Int) (h : List Obj), env = [dChoice c, .iptr [.bool q], .iptr (dVar v).cellsL, .iptr (dWork p b g m).cellsL, .loc 0 0, dI n, x6, x7, x8, x9, .imm .none (c.uses.map dUse), dI c.uses.length, dI i, x13, x14, x15, x16, x17, x18] ∧
      hp = .cells (dChoice c).cellsL :: h ∧ 0 ≤ n ∧ n + prC p m v.leaves (c.uses.drop i) = n0 + P) 0 (by omega) ⟨_, _, _, _, _, _, _, _, _, _, n0, _, rfl, rfl, by omega, by simp [hP]⟩ ?_
    rintro i env hp hi ⟨x6, x7, x8, x9, x13, x14, x15, x16, x17, x18, n, h, rfl, rfl, hn0, hn⟩
    by_cases hlt : i < c.uses.length
    rotate_left
    · have : i = c.uses.length := by omega
      subst this
      rw [List.drop_length] at hn
      simp only [prC, Int.add_zero] at hn
      subst hn
      simp
    rw [drop_cons hlt] at hn
    simp only [prC] at hn
    have hru := prC_bd M hl8 (us := c.uses.drop (i + 1)) fun u hu => hub u (List.mem_of_mem_drop hu)
    have hui := hc.uses _ (List.getElem_mem hlt)
    have hpl := hub _ (List.getElem_mem hlt)
    have h98 := r98 p b g m c.uses[i].cell S ok hui.known
    have hat := atS_le (i := 0) hui.known
    obtain ⟨k, hk⟩ : ∃ k : Nat, atS c.uses[i].cell p.cells 0 = k := ⟨(atS c.uses[i].cell p.cells 0).toNat, by omega⟩
    have hkc : k < p.cells.length := by omega
    rw [hk] at h98
    rw [hk, Int.toNat_natCast] at hn
    obtain ⟨R, hR⟩ : ∃ R, R = prC p m v.leaves (c.uses.drop (i + 1)) := ⟨_, rfl⟩
    rw [← hR] at hn hru
    simp only [dWork, dCell] at h98
    simp [hlt, h98, get_mid, set_mid]
    refine wT_up v.leaves.length (fun j env hp => ∃ (x8 x9 x13 x14 x18 : D) (n : Int) (h2 : List Obj), env = [dChoice c, .iptr [.bool q], .iptr (dVar v).cellsL, .iptr (dWork p b g m).cellsL, .loc 0 0, dI n, .loc (h.length + 1) 0, dI k, x8, x9, .imm .none (c.uses.map dUse), dI c.uses.length, dI i, x13, x14, dInts v.leaves, dI v.leaves.length, dI j, x18] ∧
      hp = .cells (dChoice c).cellsL :: (h ++ .cells (dUse c.uses[i]).cellsL :: h2) ∧ 0 ≤ n ∧ n + (prL m k c.uses[i].places (v.leaves.drop j) + R) = n0 + P) 0 (by omega) ⟨_, _, _, _, _, n, [], rfl, rfl, hn0, by simpa using hn⟩ ?_
    rintro j env hp hj ⟨x8, x9, x13, x14, x18, n, h2, rfl, rfl, hn0, hn⟩
    by_cases hlt2 : j < v.leaves.length
    rotate_left
    · have : j = v.leaves.length := by omega
      subst this
      rw [List.drop_length] at hn
      simp only [prL, Int.zero_add] at hn
      simp [wrap_up hlt (by omega)]
      exact ⟨_, _, _, _, _, _, _, _, _, _, n, ⟨rfl, rfl, rfl, rfl, rfl, rfl, rfl, rfl, rfl, rfl, rfl⟩, hn0, by rw [← hR]; exact hn⟩
    rw [drop_cons hlt2] at hn
    simp only [prL] at hn
    have hrl := prL_bd M hpl (k := k) (l := v.leaves.drop (j + 1))
    have hleaf := hv.leaves _ (List.getElem_mem hlt2)
    unfold wi at hleaf
    obtain ⟨r, hr⟩ : ∃ r : Nat, v.leaves[j] = r := ⟨v.leaves[j].toNat, by omega⟩
    have hqc : r < p.capacity.length := by omega
    obtain ⟨g1, g2, g3⟩ := mu_get M hqc hkc
    rw [hr] at hn
    have hmb := mul8 (mu_bd M (leaf := (r : Int)) (k := k)) hpl
    obtain ⟨x, hx⟩ : ∃ x, x = mu m r k := ⟨_, rfl⟩
    rw [← hx] at g3 hn hmb
    have w2 := wrap_i64 (n := x * c.uses[i].places) ⟨by omega, by omega⟩
    have w3 := wrap_i64 (n := n + x * c.uses[i].places) ⟨by omega, by omega⟩
    simp [hlt2, hr, g1, g2, g3, w2, w3, wrap_up hlt2 (by omega), get_mid]
    exact ⟨_, _, _, _, _, _, ⟨rfl, rfl, rfl, rfl, rfl, rfl⟩, by omega, by omega⟩
  cases q with
  | false =>
    simp [t115, n115]
    refine wT_mono (fun ex env hp h => ?_) (main 0 _ (e0 rfl).symm ⟨_, _, _, _, _, _, _, _, _, _, rfl⟩)
    obtain ⟨rfl, h5⟩ := h
    have hlt := lt_get h5
    have e5 : ∀ hh, env[5]'hh = dI (Z + P) := fun hh => by
      rw [List.getElem?_eq_getElem hh] at h5
      exact Option.some.inj h5
    simp [hlt, e5]
  | true =>
    simp [t115, n115, w1]
    refine wT_mono (fun ex env hp h => ?_) (main _ _ (e1 rfl).symm ⟨_, _, _, _, _, _, _, _, _, _, rfl⟩)
    obtain ⟨rfl, h5⟩ := h
    have hlt := lt_get h5
    have e5 : ∀ hh, env[5]'hh = dI (Z + P) := fun hh => by
      rw [List.getElem?_eq_getElem hh] at h5
      exact Option.some.inj h5
    simp [hlt, e5]

end Dv

/- Walks: the choices that count, one after the other. -/
namespace Dv
attribute [local simp] wT_skip wK wT_ret wT_exit wR wRp wT_seq wC wT_block rTS_nil rTS_asg rTS_eff rTS_effk ob_some obP_some iteD_b condP_b xv_v xv_c xv_ite xv_bin_tt xv_bin_tc xv_bin_ct xv_bin_cc xv_un_t xv_conv_t xv_load xv_len xv_faddr xv_field xv_iaddr_tt xv_iaddr_tc xv_index_tt xv_index_tc xv_lookup_tt xv_max_tt xv_max_tc xv_max_ct xv_min_tt xv_min_tc xv_min_ct xv_slice_lo_t xv_slice_lo_c xv_slice_hi_t xv_slice_all xv_call xv_bslice bsliceV xv_build buildV xv_mkfn zeroE fillE buildD fillD List.replicate xvs_nil xvs_cons callV_fn frz_bool frz_int frz_imm frz_agg frz_tup frz_fn frz_iptr frzL_nil frzL_one frzL_dI frzL_cell frzL_use frzL_ints frzL_choice frzL_var depth dCell dUse dInts dChoice dVar dProb tStart addO Ret flat_dI flat_rep chunk_dI
 binD_add binD_sub binD_mul binD_eql binD_neq binD_lss binD_leq binD_gtr binD_geq binD_quo binD_rem binD_beql binD_bneq binD_aeql binD_aneq unD_not unD_neg lenD_imm lenD_sl lenD_str readO_cells readO_frozen loadD_loc loadD_iptr iaddrD_imm iaddrD_sl iaddrD_loc faddrD_loc faddrD_iptr fieldD_agg indexD_agg indexD_str cellsL_bool stor_bool atom_bool cellsL_int stor_int atom_int cellsL_str stor_str atom_str cellsL_imm stor_imm atom_imm cellsL_sl stor_sl atom_sl cellsL_loc stor_loc atom_loc cellsL_iptr stor_iptr atom_iptr cellsL_map stor_map atom_map cellsL_fn stor_fn atom_fn cellsL_agg stor_agg cellsL_nilfn stor_nilfn atom_nilfn cellsL_nilp stor_nilp atom_nilp takeC_z takeC_s ofCells_ag ofCells_one ag_bool ag_int ag_str ag_slice ag_struct ag_arr ag_map ag_ptr ag_func gOf_t gOf_c gOf_f kv_cons putE_some putE_none oneRes_one oneRes_two oneRes_three getAll_nil getAll_v getAll_c maxiD_two miniD_two extV_tup xv_ext stepOp_box stepOp_alloc stepOp_store writeO_cells storeD_loc setCells_nil setCells_cons stepOp_mkmap stepOp_mapset stepOp_call1 stepOp_call2 stepOp_app2 stepOp_app1 stepOp_bslice stepOp_mkslice mapO_map lookupD_some lookupD_ok mapsetD_some keyOk_agg kindsL_nil kindsL_bool kindsL_int eqL_nil eqL_cons atomEq_bool atomEq_int frz_sl tokO_tok app0_step app0_exact app0_tok frz_loc oneRes_nil listOf_imm
 ty_0 ty_1 ty_2 ty_3 ty_4 ty_5 ty_6 ty_7 ty_8 ty_9 ty_10 ty_11 ty_12 ty_13 ty_14 ty_15 ty_16 ty_17 ty_18 ty_19 ty_20 ty_21 ty_22 ty_23 ty_24 ty_25 ty_26 ty_27
attribute [local congr] wT_congr ob_congr obP_congr iteD_congr condP_congr

theorem r114 (p : Prob) (b : List Int) (g : Int) (m : List (List Int)) (i : Int) : runP E (dL E) 114 [dWork p b g m, dI i] = some (.fn 124 [.iptr (dWork p b g m).cellsL, .iptr [dI i]]) := by
  refine runP_T c114 (by simp) ?_
  simp [t114, n114, dWork]

set_option maxHeartbeats 16000000 in
theorem i124 (p : Prob) (b : List Int) (g : Int) (m : List (List Int)) (S : Small p) (hb : b.length ≤ 20) {i : Nat} (hi : i < p.vars.length) (l : Nat) (J : List (Nat × Choice) → List Obj → Prop) (Fin : List Obj → Prop)
    (hext : ∀ rem hp r, J rem hp → J rem (hp ++ r))
    (hy : ∀ x rem hp, J (x :: rem) hp → ∃ t hp', runY (dL E) l [dChoice x.2] hp = some (.bool t, hp') ∧ (t = true → J rem hp') ∧ (t = false → Fin hp')) {hp : List Obj}
    (h0 : J (candL b g i 0 p.vars[i].choices) hp) :
    ∃ d hp', runS E (dL E) 124 [.yld l, .iptr (dWork p b g m).cellsL, .iptr [dI i]] hp = some (d, hp') ∧ (J [] hp' ∨ Fin hp') := by
  refine runS_T c124 (R := fun _ hp' => J [] hp' ∨ Fin hp') (by simp) ?_
  have s3 := S.vars
  have l2 := S.choices _ (List.getElem_mem hi)
  simp [t124, n124, dWork, hi]
  obtain ⟨cs, hcs⟩ : ∃ cs, cs = p.vars[i].choices := ⟨_, rfl⟩
  rw [← hcs] at h0 l2
  simp only [← hcs]
  refine wT_up cs.length (fun k env hp => ∃ (x3 x4 x8 x9 x10 x11 x12 : D) , env = [.yld l, .iptr (dWork p b g m).cellsL, .iptr [dI i], x3, x4, .imm .none (cs.map dChoice), dI cs.length, dI k, x8, x9, x10, x11, x12] ∧
    J (candL b g i k (cs.drop k)) hp) 0 (by omega) ⟨_, _, _, _, _, _, _, rfl, by simpa using h0⟩ ?_
  rintro k env hp hk ⟨x3, x4, x8, x9, x10, x11, x12, rfl, hJ⟩
  by_cases hlt : k < cs.length
  rotate_left
  · have : k = cs.length := by omega
    subst this
    rw [List.drop_length] at hJ
    simp only [candL] at hJ
    simp [hJ]
  rw [drop_cons hlt] at hJ
  simp only [candL] at hJ
  have hcnt : cntB b g i k cs[k] = (decide (cs[k].delay ≤ g) && (decide (b.length ≤ i) || decide (b.getD i 0 = (k : Int)))) := rfl
  have hyield : cntB b g i k cs[k] = true → ∀ H r, hp ++ r = H → ∃ t hp', runY (dL E) l [dChoice cs[k]] H = some (.bool t, hp') ∧ (t = true → J (candL b g i (k + 1) (cs.drop (k + 1))) hp') ∧ (t = false → Fin hp') := by
    intro hc H r hH
    rw [if_pos hc] at hJ
    exact hy (k, cs[k]) _ H (ext_to hext hH hJ)
  have hskip : cntB b g i k cs[k] = false → ∀ r, J (candL b g i (k + 1) (cs.drop (k + 1))) (hp ++ r) := by
    intro hc r
    have hc' : ¬ cntB b g i k cs[k] = true := by rw [hc]; simp
    rw [if_neg hc'] at hJ
    exact hext _ _ _ hJ
  by_cases c1 : cs[k].delay ≤ g
  rotate_left
  · have hc : cntB b g i k cs[k] = false := by rw [hcnt]; simp [c1]
    have hs := hskip hc [.cells (dChoice cs[k]).cellsL]
    simp [hlt, get_app2, get_mid, set_mid, c1, rTS_effg, gdD_b, wrap_up hlt (by omega)]
    exact hs
  by_cases c2 : b.length ≤ i
  · have hc : cntB b g i k cs[k] = true := by rw [hcnt]; simp [c1, c2]
    obtain ⟨t, hp2, y1, y2, y3⟩ := hyield hc _ [.cells (dChoice cs[k]).cellsL] rfl
    simp at y1
    cases t with
    | true =>
      have hJ2 := y2 rfl
      simp [hlt, get_mid, set_mid, c1, c2, rTS_effg, gdD_b, y1, wrap_up hlt (by omega), hJ2]
    | false =>
      have hF := y3 rfl
      simp [hlt, get_mid, set_mid, c1, c2, rTS_effg, gdD_b, y1, hF]
  have c3 : i < b.length := by omega
  have e : b.getD i 0 = b[i] := by rw [List.getD_eq_getElem?_getD, List.getElem?_eq_getElem c3, Option.getD_some]
  by_cases c4 : b[i] = (k : Int)
  · have hc : cntB b g i k cs[k] = true := by rw [hcnt, e]; simp [c1, c4]
    obtain ⟨t, hp2, y1, y2, y3⟩ := hyield hc _ [.cells (dChoice cs[k]).cellsL] rfl
    simp at y1
    cases t with
    | true =>
      have hJ2 := y2 rfl
      simp [hlt, get_mid, set_mid, c1, c2, c3, c4, rTS_effg, gdD_b, y1, wrap_up hlt (by omega), hJ2]
    | false =>
      have hF := y3 rfl
      simp [hlt, get_mid, set_mid, c1, c2, c3, c4, rTS_effg, gdD_b, y1, hF]
  · have hc : cntB b g i k cs[k] = false := by rw [hcnt, e]; simp [c2, c4]
    have hs := hskip hc [.cells (dChoice cs[k]).cellsL]
    simp [hlt, get_mid, set_mid, c1, c2, c3, c4, rTS_effg, gdD_b, wrap_up hlt (by omega)]
    exact hs

end Dv

/- Walks: the choice that costs least. -/
namespace Dv
attribute [local simp] wT_skip wK wT_ret wT_exit wR wRp wT_seq wC wT_block rTS_nil rTS_asg rTS_eff rTS_effk ob_some obP_some iteD_b condP_b xv_v xv_c xv_ite xv_bin_tt xv_bin_tc xv_bin_ct xv_bin_cc xv_un_t xv_conv_t xv_load xv_len xv_faddr xv_field xv_iaddr_tt xv_iaddr_tc xv_index_tt xv_index_tc xv_lookup_tt xv_max_tt xv_max_tc xv_max_ct xv_min_tt xv_min_tc xv_min_ct xv_slice_lo_t xv_slice_lo_c xv_slice_hi_t xv_slice_all xv_call xv_bslice bsliceV xv_build buildV xv_mkfn zeroE fillE buildD fillD List.replicate xvs_nil xvs_cons callV_fn frz_bool frz_int frz_imm frz_agg frz_tup frz_fn frz_iptr frzL_nil frzL_one frzL_dI frzL_cell frzL_use frzL_ints frzL_choice frzL_var depth dCell dUse dInts dChoice dVar dProb tStart addO Ret flat_dI flat_rep chunk_dI
 binD_add binD_sub binD_mul binD_eql binD_neq binD_lss binD_leq binD_gtr binD_geq binD_quo binD_rem binD_beql binD_bneq binD_aeql binD_aneq unD_not unD_neg lenD_imm lenD_sl lenD_str readO_cells readO_frozen loadD_loc loadD_iptr iaddrD_imm iaddrD_sl iaddrD_loc faddrD_loc faddrD_iptr fieldD_agg indexD_agg indexD_str cellsL_bool stor_bool atom_bool cellsL_int stor_int atom_int cellsL_str stor_str atom_str cellsL_imm stor_imm atom_imm cellsL_sl stor_sl atom_sl cellsL_loc stor_loc atom_loc cellsL_iptr stor_iptr atom_iptr cellsL_map stor_map atom_map cellsL_fn stor_fn atom_fn cellsL_agg stor_agg cellsL_nilfn stor_nilfn atom_nilfn cellsL_nilp stor_nilp atom_nilp takeC_z takeC_s ofCells_ag ofCells_one ag_bool ag_int ag_str ag_slice ag_struct ag_arr ag_map ag_ptr ag_func gOf_t gOf_c gOf_f kv_cons putE_some putE_none oneRes_one oneRes_two oneRes_three getAll_nil getAll_v getAll_c maxiD_two miniD_two extV_tup xv_ext stepOp_box stepOp_alloc stepOp_store writeO_cells storeD_loc setCells_nil setCells_cons stepOp_mkmap stepOp_mapset stepOp_call1 stepOp_call2 stepOp_app2 stepOp_app1 stepOp_bslice stepOp_mkslice mapO_map lookupD_some lookupD_ok mapsetD_some keyOk_agg kindsL_nil kindsL_bool kindsL_int eqL_nil eqL_cons atomEq_bool atomEq_int frz_sl tokO_tok app0_step app0_exact app0_tok frz_loc oneRes_nil listOf_imm
 ty_0 ty_1 ty_2 ty_3 ty_4 ty_5 ty_6 ty_7 ty_8 ty_9 ty_10 ty_11 ty_12 ty_13 ty_14 ty_15 ty_16 ty_17 ty_18 ty_19 ty_20 ty_21 ty_22 ty_23 ty_24 ty_25 ty_26 ty_27
attribute [local congr] wT_congr ob_congr obP_congr iteD_congr condP_congr

def chOf (s : Option ((Nat × Choice) × Int)) : Choice := match s with
  | none => ⟨0, 0, 0, []⟩
  | some (y, _) => y.2
def okOf (s : Option ((Nat × Choice) × Int)) : Bool := match s with
  | none => false
  | some _ => true

/-- the choice, what it costs, and whether there is one -/
def resM (s : Option ((Nat × Choice) × Int)) : D := .tup [dChoice (chOf s), dI (leastOf s), .bool (okOf s)]

set_option maxHeartbeats 16000000 in
theorem r116 (p : Prob) (b : List Int) (g : Int) (m : List (List Int)) (q : Bool) (S : Small p) (hb : b.length ≤ 20) (ok : OkP p) (M : OkM p m) {i : Nat} (hi : i < p.vars.length) :
    runP E (dL E) 116 [.fn 124 [.iptr (dWork p b g m).cellsL, .iptr [dI i]], .fn 115 [.iptr [.bool q], .iptr (dVar p.vars[i]).cellsL, .iptr (dWork p b g m).cellsL]] =
      some (resM (bestK (costOf p m p.vars[i] (qI q)) (candL b g i 0 p.vars[i].choices))) := by
  refine runP_T c116 (by simp) ?_
  have okv := ok.vars _ (List.getElem_mem hi)
  have l1 := S.leaves _ (List.getElem_mem hi)
  have l3 := S.uses _ (List.getElem_mem hi)
  have h115 := fun c (hc : c ∈ p.vars[i].choices) => r115 p b g m p.vars[i] c q S ok M okv l1 hc l3
  have key0 := fun l J Fin => i124 p b g m S hb hi l J Fin
  obtain ⟨f, hf⟩ : ∃ f, f = costOf p m p.vars[i] (qI q) := ⟨_, rfl⟩
  simp only [← hf] at h115 ⊢
  obtain ⟨B, hB⟩ : ∃ B, B = bestK f (candL b g i 0 p.vars[i].choices) := ⟨_, rfl⟩
  rw [← hB]
  unfold bestK at hB
  have hmem : ∀ x, x ∈ candL b g i 0 p.vars[i].choices → x.2 ∈ p.vars[i].choices := fun x hx => (cand_mem hx).1
  obtain ⟨v, hv⟩ : ∃ v, v = p.vars[i] := ⟨_, rfl⟩
  simp only [← hv] at hB h115 hmem key0 ⊢
  obtain ⟨WK, hWK⟩ : ∃ WK, WK = (dWork p b g m).cellsL := ⟨_, rfl⟩
  have hfz : frzL (frz [] 11) WK = some WK := by rw [hWK]; simp [dWork]
  simp only [← hWK] at h115 key0 ⊢
  clear hWK
  simp only [dChoice] at h115
  simp at h115
  simp [t116, n116]
  refine ⟨124, _, rfl, ?_⟩
  intro L hL hcb
  obtain ⟨J, hJ⟩ : ∃ J : List (Nat × Choice) → List Obj → Prop, J = fun rem hp' => ∃ (s : Option ((Nat × Choice) × Int)) (sp : Spare) (h' : List Obj),
    hp' = .cells [.fn 115 [.iptr [.bool q], .iptr (dVar v).cellsL, .iptr WK]] :: .cells [dI (chOf s).delay, dI (chOf s).cost, dI (chOf s).changes, .imm sp ((chOf s).uses.map dUse)] :: .cells [dI (leastOf s)] :: .cells [.bool (okOf s)] :: h' ∧
    At h' 0 (L false none) ∧ rem.foldl (stepK f) s = B ∧ (∀ x, x ∈ rem → x.2 ∈ v.choices) := ⟨_, rfl⟩
  have key := key0 4 J (fun _ => False) (by
      rw [hJ]
      rintro rem hp' r ⟨s, sp, h', rfl, a1, a2⟩
      exact ⟨s, sp, h' ++ r, rfl, a1.app, a2⟩) (by
      intro x rem hp1 hj
      rw [hJ] at hj
      obtain ⟨s, sp, h', rfl, a1, a2, a3⟩ := hj
      have hx := a3 x (by simp)
      have hcx := h115 x.2 hx
      have hl1 := a1.lt
      have T1 := At.self (o := L true none) hl1
      rw [List.foldl_cons] at a2
      have LU : ∀ r, (h'.set 0 (L true none) ++ r)[h'.length]? = r[0]? := fun r => by
        have := get_app2 (hp := h'.set 0 (L true none)) (r := r) (k := 0)
        simpa using this
      obtain ⟨t, hp2, e1, e2⟩ := hcb [dChoice x.2] (.cells [.fn 115 [.iptr [.bool q], .iptr (dVar v).cellsL, .iptr WK]] :: .cells [dI (chOf s).delay, dI (chOf s).cost, dI (chOf s).changes, .imm sp ((chOf s).uses.map dUse)] :: .cells [dI (leastOf s)] :: .cells [.bool (okOf s)] :: h') (fun t hp' => t = true ∧ J rem hp') rfl (by simpa [At] using a1) (by
        have hA0 : ∀ (r : List Obj) (h : 0 < (h' ++ r).length), (h' ++ r)[0]'h = L false none := fun r h => by
          have := a1.appE (r := r)
          rw [List.getElem?_eq_getElem h] at this
          exact Option.some.inj this
        have hA1 : ∀ (r : List Obj) (h : 0 < (h'.set 0 (L true none) ++ r).length), (h'.set 0 (L true none) ++ r)[0]'h = L true none := fun r h => by
          have := T1.appE (r := r)
          rw [List.getElem?_eq_getElem h] at this
          exact Option.some.inj this
        cases s with
        | none =>
          simp only [stepK] at a2
          simp [setAll, set_app1 hl1, LU, hA0, hcx, hfz, okOf]
          refine ⟨hA1 _ _, ?_⟩
          rw [set_app1 T1.lt, hJ]
          exact ⟨some (x, f x.2), .none, _, rfl, (At.self T1.lt).app, a2, fun z hz => a3 z (by simp [hz])⟩
        | some y =>
          obtain ⟨y, n⟩ := y
          simp only [stepK] at a2
          by_cases hlt : f x.2 < n
          · rw [if_pos hlt] at a2
            simp [setAll, set_app1 hl1, LU, hA0, hcx, hfz, okOf, leastOf, hlt]
            refine ⟨hA1 _ _, ?_⟩
            rw [set_app1 T1.lt, hJ]
            exact ⟨some (x, f x.2), .none, _, rfl, (At.self T1.lt).app, a2, fun z hz => a3 z (by simp [hz])⟩
          · rw [if_neg hlt] at a2
            simp [setAll, set_app1 hl1, LU, hA0, hcx, hfz, okOf, leastOf, hlt]
            refine ⟨hA1 _ _, ?_⟩
            rw [set_app1 T1.lt, hJ]
            exact ⟨some (y, n), sp, _, rfl, (At.self T1.lt).app, a2, fun z hz => a3 z (by simp [hz])⟩)
      obtain ⟨rfl, e3⟩ := e2
      exact ⟨true, hp2, e1, fun _ => e3, fun h => by cases h⟩) (hp := .cells [.fn 115 [.iptr [.bool q], .iptr (dVar v).cellsL, .iptr WK]] :: .cells [dI 0, dI 0, dI 0, .imm .exact []] :: .cells [dI 0] :: .cells [.bool false] :: [L false none]) (by
      rw [hJ]
      exact ⟨none, .exact, _, rfl, rfl, hB.symm, hmem⟩)
  obtain ⟨d, hp', h1, h2⟩ := key
  rcases h2 with h2 | h2
  rotate_left
  · exact h2.elim
  rw [hJ] at h2
  obtain ⟨s, sp, h', rfl, a1, a2, a3⟩ := h2
  simp only [List.foldl_nil] at a2
  subst a2
  refine ⟨d, _, h1, .inl ⟨a1, ?_⟩⟩
  simp [chkT_cons, chkT_nil, chk1, did, idsNe, resM]

end Dv

/- Walks: the best choice of a variable. -/
namespace Dv
attribute [local simp] wT_skip wK wT_ret wT_exit wR wRp wT_seq wC wT_block rTS_nil rTS_asg rTS_eff rTS_effk ob_some obP_some iteD_b condP_b xv_v xv_c xv_ite xv_bin_tt xv_bin_tc xv_bin_ct xv_bin_cc xv_un_t xv_conv_t xv_load xv_len xv_faddr xv_field xv_iaddr_tt xv_iaddr_tc xv_index_tt xv_index_tc xv_lookup_tt xv_max_tt xv_max_tc xv_max_ct xv_min_tt xv_min_tc xv_min_ct xv_slice_lo_t xv_slice_lo_c xv_slice_hi_t xv_slice_all xv_call xv_bslice bsliceV xv_build buildV xv_mkfn zeroE fillE buildD fillD List.replicate xvs_nil xvs_cons callV_fn frz_bool frz_int frz_imm frz_agg frz_tup frz_fn frz_iptr frzL_nil frzL_one frzL_dI frzL_cell frzL_use frzL_ints frzL_choice frzL_var depth dCell dUse dInts dChoice dVar dProb tStart addO Ret flat_dI flat_rep chunk_dI
 binD_add binD_sub binD_mul binD_eql binD_neq binD_lss binD_leq binD_gtr binD_geq binD_quo binD_rem binD_beql binD_bneq binD_aeql binD_aneq unD_not unD_neg lenD_imm lenD_sl lenD_str readO_cells readO_frozen loadD_loc loadD_iptr iaddrD_imm iaddrD_sl iaddrD_loc faddrD_loc faddrD_iptr fieldD_agg indexD_agg indexD_str cellsL_bool stor_bool atom_bool cellsL_int stor_int atom_int cellsL_str stor_str atom_str cellsL_imm stor_imm atom_imm cellsL_sl stor_sl atom_sl cellsL_loc stor_loc atom_loc cellsL_iptr stor_iptr atom_iptr cellsL_map stor_map atom_map cellsL_fn stor_fn atom_fn cellsL_agg stor_agg cellsL_nilfn stor_nilfn atom_nilfn cellsL_nilp stor_nilp atom_nilp takeC_z takeC_s ofCells_ag ofCells_one ag_bool ag_int ag_str ag_slice ag_struct ag_arr ag_map ag_ptr ag_func gOf_t gOf_c gOf_f kv_cons putE_some putE_none oneRes_one oneRes_two oneRes_three getAll_nil getAll_v getAll_c maxiD_two miniD_two extV_tup xv_ext stepOp_box stepOp_alloc stepOp_store writeO_cells storeD_loc setCells_nil setCells_cons stepOp_mkmap stepOp_mapset stepOp_call1 stepOp_call2 stepOp_app2 stepOp_app1 stepOp_bslice stepOp_mkslice mapO_map lookupD_some lookupD_ok mapsetD_some keyOk_agg kindsL_nil kindsL_bool kindsL_int eqL_nil eqL_cons atomEq_bool atomEq_int frz_sl tokO_tok app0_step app0_exact app0_tok frz_loc oneRes_nil listOf_imm
 ty_0 ty_1 ty_2 ty_3 ty_4 ty_5 ty_6 ty_7 ty_8 ty_9 ty_10 ty_11 ty_12 ty_13 ty_14 ty_15 ty_16 ty_17 ty_18 ty_19 ty_20 ty_21 ty_22 ty_23 ty_24 ty_25 ty_26 ty_27
attribute [local congr] wT_congr ob_congr obP_congr iteD_congr condP_congr

/-- what has been read off the heap leads to no object -/
theorem ids_frz {hp hp' : List Obj} : ∀ (k : Nat) {d d' : D}, frz hp k d = some d' → ∀ n, ids hp' n d' = [] := by
  intro k
  induction k with
  | zero => intro d d' h; simp [frz] at h
  | succ k ih =>
    have ihL : ∀ {l l' : List D}, frzL (frz hp k) l = some l' → ∀ n, l'.flatMap (ids hp' n) = [] := by
      intro l
      induction l with
      | nil => intro l' h n; simp [frzL] at h; subst h; rfl
      | cons x l ihl =>
        intro l' h n
        rw [frzL_one] at h
        cases hx : frz hp k x with
        | none => rw [hx] at h; cases h
        | some x' =>
          rw [hx] at h
          simp only [ob_some] at h
          cases hl : frzL (frz hp k) l with
          | none => rw [hl] at h; cases h
          | some r =>
            rw [hl] at h
            simp only [ob_some, Option.some.injEq] at h
            subst h
            rw [List.flatMap_cons, ih hx n, ihl hl n]; rfl
    have mapI : ∀ {l : List D} {g : List D → D} {d' : D}, (frzL (frz hp k) l).map g = some d' → ∃ l', d' = g l' ∧ ∀ n, l'.flatMap (ids hp' n) = [] := by
      intro l g d' h
      cases hl : frzL (frz hp k) l with
      | none => rw [hl] at h; cases h
      | some r =>
        rw [hl] at h
        simp only [Option.map_some, Option.some.injEq] at h
        exact ⟨r, h.symm, ihL hl⟩
    intro d d' h n
    cases n with
    | zero => rfl
    | succ n =>
      cases d with
      | undef => simp [frz] at h
      | bool b => simp [frz] at h; subst h; rfl
      | int _ _ => simp [frz] at h; subst h; rfl
      | str _ => simp [frz] at h; subst h; rfl
      | nilp => simp [frz] at h; subst h; rfl
      | nilfn => simp [frz] at h; subst h; rfl
      | yld _ => simp [frz] at h
      | map m => cases m <;> simp [frz] at h; subst h; rfl
      | imm sp els => obtain ⟨l', rfl, h1⟩ := mapI (g := .imm .none) h; exact h1 n
      | agg els => obtain ⟨l', rfl, h1⟩ := mapI (g := .agg) h; exact h1 n
      | tup els => obtain ⟨l', rfl, h1⟩ := mapI (g := .tup) h; exact h1 n
      | fn f els => obtain ⟨l', rfl, h1⟩ := mapI (g := .fn f) h; exact h1 n
      | iptr els => obtain ⟨l', rfl, h1⟩ := mapI (g := .iptr) h; exact h1 n
      | sl id off len sz ag gr =>
        simp only [frz] at h
        split at h
        · split at h
          · obtain ⟨l', rfl, h1⟩ := mapI (g := .imm .none) h; exact h1 n
          · cases h
        · cases h
      | loc id off =>
        simp only [frz] at h
        split at h
        · obtain ⟨l', rfl, h1⟩ := mapI (g := .iptr) h; exact h1 n
        · cases h

theorem ids_pure {hp : List Obj} {n : Nat} {d : D} (h : frz [] 12 d = some d) : ids hp n d = [] := ids_frz 12 h n

theorem freeze1_other {hp : List Obj} {i j : Nat} (h : j ≠ i) : (freeze1 hp j)[i]? = hp[i]? := by
  unfold freeze1
  split
  · rw [List.getElem?_set_ne h]
  · rfl
theorem freezeAll_other {i : Nat} : ∀ {l : List Nat} {hp : List Obj}, i ∉ l → (freezeAll hp l)[i]? = hp[i]?
  | [], _, _ => rfl
  | j :: l, hp, h => by
    simp only [List.mem_cons, not_or] at h
    show (freezeAll (freeze1 hp j) l)[i]? = hp[i]?
    rw [freezeAll_other h.2, freeze1_other (Ne.symm h.1)]

theorem ids_loc {hp : List Obj} {n id : Nat} {cs : List D} (h : rowOf hp id = some cs) (hc : ∀ c, c ∈ cs → frz [] 12 c = some c) : ids hp (n + 1) (.loc id 0) = [id] := by
  simp only [ids, h, List.drop_zero]
  have : cs.flatMap (ids hp n) = [] := by
    rw [List.flatMap_eq_nil_iff]
    intro c hcm
    exact ids_pure (hc c hcm)
  rw [this]

set_option maxHeartbeats 16000000 in
theorem r97 (p : Prob) (b : List Int) (g : Int) (m : List (List Int)) (q : Bool) (S : Small p) (hb : b.length ≤ 20) (ok : OkP p) (M : OkM p m) {i : Nat} (hi : i < p.vars.length) :
    runP E (dL E) 97 [dWork p b g m, dI i, .bool q] = some (resM (bestK (costOf p m p.vars[i] (qI q)) (candL b g i 0 p.vars[i].choices))) := by
  refine runP_T c97 (by simp) ?_
  have h114 := r114 p b g m i
  have h116 := r116 p b g m q S hb ok M hi
  obtain ⟨B, hB⟩ : ∃ B, B = bestK (costOf p m p.vars[i] (qI q)) (candL b g i 0 p.vars[i].choices) := ⟨_, rfl⟩
  rw [← hB] at h116 ⊢
  simp only [dWork] at h114 h116
  simp at h114 h116
  simp [t97, n97, hi, h114, h116, resM]
  generalize hF : freezeAll _ _ = F
  have hF2 : F[2]? = some (.cells [.int .i64 0, .int .i64 0, .int .i64 0, .imm .exact []]) := by
    rw [← hF, freezeAll_other]
    · rfl
    · rw [List.mem_append, not_or]
      refine ⟨?_, ?_⟩
      · rw [ids_pure (by simp)]; simp
      · show 2 ∉ ([D.loc 1 0, .loc 3 0, .loc 0 0]).flatMap (ids _ 11)
        simp only [List.flatMap_cons, List.flatMap_nil]
        rw [ids_loc (cs := [.bool q]) rfl (fun c hc => by simp at hc; subst hc; rfl), ids_loc (cs := (dVar p.vars[i]).cellsL) rfl (fun c hc => by
          simp at hc
          rcases hc with rfl | rfl | rfl | rfl <;> simp), ids_loc (cs := (dWork p b g m).cellsL) rfl (fun c hc => by
          simp at hc
          rcases hc with rfl | rfl | rfl | rfl | rfl | rfl <;> simp)]
        simp
  have hF2l := lt_get hF2
  simp [↓hF2, hF2l, ↓get_set1]

end Dv

/- Walks: the sum of the duals; Bound and Proves. -/
namespace Dv
attribute [local simp] wT_skip wK wT_ret wT_exit wR wRp wT_seq wC wT_block rTS_nil rTS_asg rTS_eff rTS_effk ob_some obP_some iteD_b condP_b xv_v xv_c xv_ite xv_bin_tt xv_bin_tc xv_bin_ct xv_bin_cc xv_un_t xv_conv_t xv_load xv_len xv_faddr xv_field xv_iaddr_tt xv_iaddr_tc xv_index_tt xv_index_tc xv_lookup_tt xv_max_tt xv_max_tc xv_max_ct xv_min_tt xv_min_tc xv_min_ct xv_slice_lo_t xv_slice_lo_c xv_slice_hi_t xv_slice_all xv_call xv_bslice bsliceV xv_build buildV xv_mkfn zeroE fillE buildD fillD List.replicate xvs_nil xvs_cons callV_fn frz_bool frz_int frz_imm frz_agg frz_tup frz_fn frz_iptr frzL_nil frzL_one frzL_dI frzL_cell frzL_use frzL_ints frzL_choice frzL_var depth dCell dUse dInts dChoice dVar dProb tStart addO Ret flat_dI flat_rep chunk_dI
 binD_add binD_sub binD_mul binD_eql binD_neq binD_lss binD_leq binD_gtr binD_geq binD_quo binD_rem binD_beql binD_bneq binD_aeql binD_aneq unD_not unD_neg lenD_imm lenD_sl lenD_str readO_cells readO_frozen loadD_loc loadD_iptr iaddrD_imm iaddrD_sl iaddrD_loc faddrD_loc faddrD_iptr fieldD_agg indexD_agg indexD_str cellsL_bool stor_bool atom_bool cellsL_int stor_int atom_int cellsL_str stor_str atom_str cellsL_imm stor_imm atom_imm cellsL_sl stor_sl atom_sl cellsL_loc stor_loc atom_loc cellsL_iptr stor_iptr atom_iptr cellsL_map stor_map atom_map cellsL_fn stor_fn atom_fn cellsL_agg stor_agg cellsL_nilfn stor_nilfn atom_nilfn cellsL_nilp stor_nilp atom_nilp takeC_z takeC_s ofCells_ag ofCells_one ag_bool ag_int ag_str ag_slice ag_struct ag_arr ag_map ag_ptr ag_func gOf_t gOf_c gOf_f kv_cons putE_some putE_none oneRes_one oneRes_two oneRes_three getAll_nil getAll_v getAll_c maxiD_two miniD_two extV_tup xv_ext stepOp_box stepOp_alloc stepOp_store writeO_cells storeD_loc setCells_nil setCells_cons stepOp_mkmap stepOp_mapset stepOp_call1 stepOp_call2 stepOp_app2 stepOp_app1 stepOp_bslice stepOp_mkslice mapO_map lookupD_some lookupD_ok mapsetD_some keyOk_agg kindsL_nil kindsL_bool kindsL_int eqL_nil eqL_cons atomEq_bool atomEq_int frz_sl tokO_tok app0_step app0_exact app0_tok frz_loc oneRes_nil listOf_imm
 ty_0 ty_1 ty_2 ty_3 ty_4 ty_5 ty_6 ty_7 ty_8 ty_9 ty_10 ty_11 ty_12 ty_13 ty_14 ty_15 ty_16 ty_17 ty_18 ty_19 ty_20 ty_21 ty_22 ty_23 ty_24 ty_25 ty_26 ty_27
attribute [local congr] wT_congr ob_congr obP_congr iteD_congr condP_congr

end Dv

/- Walks: dual.Bound and dual.Proves. -/
namespace Dv
attribute [local simp] wT_skip wK wT_ret wT_exit wR wRp wT_seq wC wT_block rTS_nil rTS_asg rTS_eff rTS_effk ob_some obP_some iteD_b condP_b xv_v xv_c xv_ite xv_bin_tt xv_bin_tc xv_bin_ct xv_bin_cc xv_un_t xv_conv_t xv_load xv_len xv_faddr xv_field xv_iaddr_tt xv_iaddr_tc xv_index_tt xv_index_tc xv_lookup_tt xv_max_tt xv_max_tc xv_max_ct xv_min_tt xv_min_tc xv_min_ct xv_slice_lo_t xv_slice_lo_c xv_slice_hi_t xv_slice_all xv_call xv_bslice bsliceV xv_build buildV xv_mkfn zeroE fillE buildD fillD List.replicate xvs_nil xvs_cons callV_fn frz_bool frz_int frz_imm frz_agg frz_tup frz_fn frz_iptr frzL_nil frzL_one frzL_dI frzL_cell frzL_use frzL_ints frzL_choice frzL_var depth dCell dUse dInts dChoice dVar dProb tStart addO Ret flat_dI flat_rep chunk_dI
 binD_add binD_sub binD_mul binD_eql binD_neq binD_lss binD_leq binD_gtr binD_geq binD_quo binD_rem binD_beql binD_bneq binD_aeql binD_aneq unD_not unD_neg lenD_imm lenD_sl lenD_str readO_cells readO_frozen loadD_loc loadD_iptr iaddrD_imm iaddrD_sl iaddrD_loc faddrD_loc faddrD_iptr fieldD_agg indexD_agg indexD_str cellsL_bool stor_bool atom_bool cellsL_int stor_int atom_int cellsL_str stor_str atom_str cellsL_imm stor_imm atom_imm cellsL_sl stor_sl atom_sl cellsL_loc stor_loc atom_loc cellsL_iptr stor_iptr atom_iptr cellsL_map stor_map atom_map cellsL_fn stor_fn atom_fn cellsL_agg stor_agg cellsL_nilfn stor_nilfn atom_nilfn cellsL_nilp stor_nilp atom_nilp takeC_z takeC_s ofCells_ag ofCells_one ag_bool ag_int ag_str ag_slice ag_struct ag_arr ag_map ag_ptr ag_func gOf_t gOf_c gOf_f kv_cons putE_some putE_none oneRes_one oneRes_two oneRes_three getAll_nil getAll_v getAll_c maxiD_two miniD_two extV_tup xv_ext stepOp_box stepOp_alloc stepOp_store writeO_cells storeD_loc setCells_nil setCells_cons stepOp_mkmap stepOp_mapset stepOp_call1 stepOp_call2 stepOp_app2 stepOp_app1 stepOp_bslice stepOp_mkslice mapO_map lookupD_some lookupD_ok mapsetD_some keyOk_agg kindsL_nil kindsL_bool kindsL_int eqL_nil eqL_cons atomEq_bool atomEq_int frz_sl tokO_tok app0_step app0_exact app0_tok frz_loc oneRes_nil listOf_imm
 ty_0 ty_1 ty_2 ty_3 ty_4 ty_5 ty_6 ty_7 ty_8 ty_9 ty_10 ty_11 ty_12 ty_13 ty_14 ty_15 ty_16 ty_17 ty_18 ty_19 ty_20 ty_21 ty_22 ty_23 ty_24 ty_25 ty_26 ty_27
attribute [local congr] wT_congr ob_congr obP_congr iteD_congr condP_congr

end Dv
