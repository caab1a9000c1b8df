/- Texts that a proof of this claim uses, joined: Lw.W42. -/
import Derived.Test.YtffnaiofjjgcgaaWp
import Derived.Test.YtffnaiofjjgcgaaSb
set_option linter.all false
/- The law ProblemSums. -/
namespace Dv
attribute [local simp] wT_skip wK wT_ret wT_exit wR wRp wT_seq wC wT_block rTS_nil rTS_asg rTS_eff rTS_effk ob_some obP_some iteD_b condP_b xv_v xv_c xv_ite xv_bin_tt xv_bin_tc xv_bin_ct xv_bin_cc xv_un_t xv_conv_t xv_load xv_len xv_faddr xv_field xv_iaddr_tt xv_iaddr_tc xv_index_tt xv_index_tc xv_lookup_tt xv_max_tt xv_max_tc xv_max_ct xv_min_tt xv_min_tc xv_min_ct xv_slice_lo_t xv_slice_lo_c xv_slice_hi_t xv_slice_all xv_call xv_bslice bsliceV xv_build buildV xv_mkfn zeroE fillE buildD fillD List.replicate xvs_nil xvs_cons callV_fn frz_bool frz_int frz_imm frz_agg frz_tup frz_fn frz_iptr frzL_nil frzL_one frzL_dI frzL_cell frzL_use frzL_ints frzL_choice frzL_var depth dCell dUse dInts dChoice dVar dProb tStart addO Ret flat_dI flat_rep chunk_dI
 binD_add binD_sub binD_mul binD_eql binD_neq binD_lss binD_leq binD_gtr binD_geq binD_quo binD_rem binD_beql binD_bneq binD_aeql binD_aneq unD_not unD_neg lenD_imm lenD_sl lenD_str readO_cells readO_frozen loadD_loc loadD_iptr iaddrD_imm iaddrD_sl iaddrD_loc faddrD_loc faddrD_iptr fieldD_agg indexD_agg indexD_str cellsL_bool stor_bool atom_bool cellsL_int stor_int atom_int cellsL_str stor_str atom_str cellsL_imm stor_imm atom_imm cellsL_sl stor_sl atom_sl cellsL_loc stor_loc atom_loc cellsL_iptr stor_iptr atom_iptr cellsL_map stor_map atom_map cellsL_fn stor_fn atom_fn cellsL_agg stor_agg cellsL_nilfn stor_nilfn atom_nilfn cellsL_nilp stor_nilp atom_nilp takeC_z takeC_s ofCells_ag ofCells_one ag_bool ag_int ag_str ag_slice ag_struct ag_arr ag_map ag_ptr ag_func gOf_t gOf_c gOf_f kv_cons putE_some putE_none oneRes_one oneRes_two oneRes_three getAll_nil getAll_v getAll_c maxiD_two miniD_two extV_tup xv_ext stepOp_box stepOp_alloc stepOp_store writeO_cells storeD_loc setCells_nil setCells_cons stepOp_mkmap stepOp_mapset stepOp_call1 stepOp_call2 stepOp_app2 stepOp_app1 stepOp_bslice stepOp_mkslice mapO_map lookupD_some lookupD_ok mapsetD_some keyOk_agg kindsL_nil kindsL_bool kindsL_int eqL_nil eqL_cons atomEq_bool atomEq_int frz_sl tokO_tok app0_step app0_exact app0_tok frz_loc oneRes_nil listOf_imm
 ty_0 ty_1 ty_2 ty_3 ty_4 ty_5 ty_6 ty_7 ty_8 ty_9 ty_10 ty_11 ty_12 ty_13 ty_14 ty_15 ty_16 ty_17 ty_18 ty_19 ty_20 ty_21 ty_22 ty_23 ty_24 ty_25 ty_26 ty_27
attribute [local congr] wT_congr ob_congr obP_congr iteD_congr condP_congr

theorem drop_head {A : Type} {l : List A} {m : Nat} {x : A} {r : List A} (h : l.drop m = x :: r) : ∃ hm : m < l.length, l[m] = x ∧ l.drop (m + 1) = r := by
  have hm : m < l.length := by
    rcases Nat.lt_or_ge m l.length with h1 | h1
    · exact h1
    · rw [List.drop_of_length_le h1] at h; cases h
  rw [drop_cons hm] at h
  simp only [List.cons.injEq] at h
  exact ⟨hm, h.1, h.2⟩

theorem sumI_zero : ∀ {l : List Over}, (∀ x, x ∈ l → 0 < x.more) → sumI l = 0 → l = []
  | [], _, _ => rfl
  | x :: l, h, h0 => by
    have h1 := h x (by simp)
    have h2 := sumI_pos (l := l) fun y hy => h y (by simp [hy])
    simp only [sumI] at h0; omega

set_option maxHeartbeats 16000000 in
theorem law31 (h1 : runP E (dL E) 17 [] = some (.bool true)) (p : Prob) (b : List Int) : runP E (dL E) 31 [dProb p, dInts b] = some (.bool true) := by
  refine runP_T c31 (by simp) ?_
  have h2 := r2 p
  simp only [dProb] at h2
  simp [t31, n31, h1, h2]
  cases hf : fewB p with
  | false => simp
  | true =>
  have S := few_small hf
  simp
  by_cases hb : (20 : Int) < b.length
  · have hb2 : ¬ (b.length : Int) ≤ 20 := by omega
    simp [hb, hb2]
  have hb' : b.length ≤ 20 := by omega
  have hb2 : (b.length : Int) ≤ 20 := by omega
  simp [hb, hb2]
  have h22 := r22 p b S hb'
  have h26 := r26 p b S hb'
  by_cases h0 : Whole p b
  rotate_left
  · simp only [resV, if_neg h0] at h22
    simp only [resO, if_neg h0] at h26
    simp only [dProb, dInts] at h22 h26
    simp [h22, h26]
  simp only [resV, if_pos h0] at h22
  simp only [resO, if_pos h0] at h26
  obtain ⟨ok, okb, hbl⟩ := h0
  have s1 := S.cells
  have s2 := S.cap
  have hov := ov_le S ok (b := b)
  have hol := ovI_len S (b := b)
  have hsum := sumI_ov (p := p) (b := b)
  have hpos := okO_L (p := p) (b := b) s1 (cs := p.capacity) (k := 0) (by omega)
  change ∀ x, x ∈ ovI p b → okO p x at hpos
  have hall : ∀ m, sumI ((ovI p b).drop m) = sumI ((ovI p b).drop m) ∧ 0 ≤ sumI ((ovI p b).drop m) := fun m => ⟨rfl, sumI_pos fun x hx => (hpos x (List.mem_of_mem_drop hx)).1⟩
  have hz : ov p b = 0 → ovI p b = [] := fun e => sumI_zero (fun x hx => (hpos x hx).1) (by rw [hsum]; exact e)
  have hz2 : ovI p b = [] → ov p b = 0 := fun e => by rw [← hsum, e]; rfl
  have hItem : ovI p b = ovIL p b 0 p.capacity := rfl
  have hbv : boundL p b = [ov p b, maxD 0 (picks p.vars b), sumC (picks p.vars b), sumG (picks p.vars b)] := rfl
  rw [hbv] at h22
  obtain ⟨V, hV⟩ : ∃ V, V = ov p b := ⟨_, rfl⟩
  obtain ⟨l, hl⟩ : ∃ l, l = ovI p b := ⟨_, rfl⟩
  rw [← hV] at h22 hov hsum hz hz2
  rw [← hl] at h26 hol hsum hpos hall hz hz2 hItem
  obtain ⟨M, hM⟩ : ∃ M, M = maxD 0 (picks p.vars b) := ⟨_, rfl⟩
  obtain ⟨C, hC⟩ : ∃ C, C = sumC (picks p.vars b) := ⟨_, rfl⟩
  obtain ⟨G, hG⟩ : ∃ G, G = sumG (picks p.vars b) := ⟨_, rfl⟩
  rw [← hM, ← hC, ← hG] at h22
  simp only [dProb, dInts, List.map_cons, List.map_nil] at h22 h26
  simp [h22, h26]
  refine wT_up p.capacity.length (fun i env hp => ∃ (x11 x12 x13 x14 x15 x16 x17 x18 x19 x20 x21 x22 x23 x24 : D) (s : Int) (m : Nat) (h : List Obj), env = [dProb p, dInts b, .loc 0 0, .bool false, .imm .none [dI V, dI M, dI C, dI G], dI 0, .imm .none (l.map dPlace), dI 0, dI s, dI m, dI i, x11, x12, x13, x14, x15, x16, x17, x18, x19, x20, x21, x22, x23, x24] ∧
    hp = .cells (dProb p).cellsL :: h ∧ l.drop m = ovIL p b i (p.capacity.drop i) ∧ 0 ≤ s ∧ m ≤ l.length ∧ s + sumI (l.drop m) = V) 0 (by omega) ⟨_, _, _, _, _, _, _, _, _, _, _, _, _, _, 0, 0, _, rfl, rfl, by simpa using hItem, by omega, by omega, by simpa using hsum⟩ ?_
  rintro i env hp hi ⟨x11, x12, x13, x14, x15, x16, x17, x18, x19, x20, x21, x22, x23, x24, s, m, h, rfl, rfl, hd, hs0, hml, hs⟩
  by_cases hlt : i < p.capacity.length
  rotate_left
  · have : i = p.capacity.length := by omega
    subst this
    rw [List.drop_length] at hd
    simp only [ovIL] at hd
    rw [hd] at hs
    have hlen : l.length ≤ m := by
      have := congrArg List.length hd
      simp at this; omega
    have hm : m = l.length := by omega
    simp only [sumI, Int.add_zero] at hs
    subst hs hm
    by_cases e : l = []
    · have e2 := hz2 e
      simp [e, e2]
    · have e2 : ¬ s = 0 := fun h => e (hz h)
      have e3 : ¬ l.length = 0 := fun h => e (List.eq_nil_of_length_eq_zero h)
      have e4 : (s == 0) = false := by simp [e2]
      have e5 : ((l.length : Int) == 0) = false := by simpa using e3
      simp [e, e4, e5]
  have h14 := r14 p b i S hb'
  have hQ : resQ p b i = .tup [.imm .none ((dem p b i).map dI), dI 0] := by
    have : (0 : Int) ≤ i ∧ (i : Int) ≤ p.capacity.length - 1 := by omega
    unfold resQ
    rw [if_pos (bk_pos ok okb), if_pos this]
  rw [hQ] at h14
  have hcap := ok.cap _ (List.getElem_mem hlt)
  have hdl : (dem p b i).length = p.cells.length := by simp [dem, foldU_len]
  have hdb := dem_bd S ok (b := b) (leaf := i)
  rw [drop_cons hlt] at hd
  simp only [ovIL] at hd
  obtain ⟨d, hdd⟩ : ∃ d, d = dem p b i := ⟨_, rfl⟩
  obtain ⟨c, hc⟩ : ∃ c, c = p.capacity[i] := ⟨_, rfl⟩
  obtain ⟨rest, hre⟩ : ∃ rest, rest = ovIL p b (i + 1) (p.capacity.drop (i + 1)) := ⟨_, rfl⟩
  rw [← hdd, ← hc, ← hre] at hd
  rw [← hdd] at h14 hdl hdb
  rw [← hc] at hcap
  simp only [dProb, dInts] at h14
  simp [hlt, h14, hdl]
  refine wT_up d.length (fun j env hp => ∃ (x12 x14 x15 x16 x17 x18 x19 x20 x21 x22 x23 x24 : D) (s : Int) (m : Nat) (h : List Obj), env = [dProb p, dInts b, .loc 0 0, .bool false, .imm .none [dI V, dI M, dI C, dI G], dI 0, .imm .none (l.map dPlace), dI 0, dI s, dI m, dI i, dInts d, x12, dI j, x14, x15, x16, x17, x18, x19, x20, x21, x22, x23, x24] ∧
    hp = .cells (dProb p).cellsL :: h ∧ l.drop m = ovIR i j (d.drop j) (c.drop j) ++ rest ∧ 0 ≤ s ∧ m ≤ l.length ∧ s + sumI (l.drop m) = V) 0 (by omega) ⟨_, _, _, _, _, _, _, _, _, _, _, _, s, m, _, rfl, rfl, by simpa using hd, hs0, hml, hs⟩ ?_
  rintro j env hp hj ⟨x12, x14, x15, x16, x17, x18, x19, x20, x21, x22, x23, x24, s, m, h, rfl, rfl, hd, hs0, hml, hs⟩
  by_cases hlt2 : j < d.length
  rotate_left
  · have : j = d.length := by omega
    subst this
    rw [List.drop_length] at hd
    simp only [ovIR, List.nil_append] at hd
    simp [wrap_up hlt (by omega), hlt]
    exact ⟨_, _, _, _, _, _, _, _, _, _, _, _, _, _, s, m, ⟨rfl, rfl, rfl, rfl, rfl, rfl, rfl, rfl, rfl, rfl, rfl, rfl, rfl, rfl, rfl, rfl⟩, by rw [hd, hre], hs0, hml, hs⟩
  have hjc : j < c.length := by omega
  have hjc' : j < p.capacity[i].length := by rw [← hc]; exact hjc
  have e1 : p.capacity[i][j] = c[j] := by simp only [hc]
  rw [drop_cons hlt2, drop_cons hjc] at hd
  simp only [ovIR] at hd
  have hd1 := hdb _ (List.getElem_mem hlt2)
  have hc1 := hcap.2 _ (List.getElem_mem hjc)
  unfold wi at hc1
  by_cases hg : c[j] < d[j]
  · rw [if_pos (by omega)] at hd
    change l.drop m = (⟨(i : Int), (j : Int), d[j] - c[j]⟩ : Over) :: (ovIR i (j + 1) (d.drop (j + 1)) (c.drop (j + 1)) ++ rest) at hd
    rw [hd] at hs
    obtain ⟨hm, hx, hd2⟩ := drop_head hd
    simp only [sumI] at hs
    have hr := (hall (m + 1)).2
    rw [hd2] at hr
    have w1 := wrap_i64 (n := d[j] - c[j]) ⟨by omega, by omega⟩
    have w2 := wrap_i64 (n := s + (d[j] - c[j])) ⟨by omega, by omega⟩
    have w3 := wrap_i64 (n := (m : Int) + 1) ⟨by omega, by omega⟩
    have hm2 : ¬ l.length ≤ m := by omega
    simp [hlt, hlt2, hjc', e1, w1, w2, w3, hg, hm, hm2, hx, wrap_up hlt2 (by omega)]
    exact ⟨_, _, _, _, _, _, _, _, _, _, _, _, s + (d[j] - c[j]), m + 1, ⟨rfl, by omega, rfl, rfl, rfl, rfl, rfl, rfl, rfl, rfl, rfl, rfl, rfl, rfl⟩, hd2, by omega, by omega, by rw [hd2]; omega⟩
  · rw [if_neg (by omega)] at hd
    simp only [List.nil_append] at hd
    simp [hlt, hlt2, hjc', e1, hg, wrap_up hlt2 (by omega)]
    exact ⟨_, _, _, _, _, _, _, _, _, _, _, _, s, m, ⟨rfl, rfl, rfl, rfl, rfl, rfl, rfl, rfl, rfl, rfl, rfl, rfl, rfl, rfl⟩, hd, hs0, hml, hs⟩

theorem problemSums : ∀ xs, TypedL E [0, 6] xs → ∃ n, runP E (dC E n) 31 xs = some (.bool true) := by
  intro xs h
  match xs, h with
  | [x, y], ⟨h1, h2, _⟩ =>
    obtain ⟨p, rfl, _⟩ := ty_prob h1
    obtain ⟨l, rfl, _⟩ := ty_nums h2 rfl
    exact runP_ex (law31 sane17' p l)
  | [], h => exact h.elim
  | [_], h => exact h.2.elim
  | _ :: _ :: _ :: _, h => exact h.2.2.elim

end Dv
