/- Texts that a proof of this claim uses, joined: Lw.W74, Lw.W75. -/
import Derived.Test.YtffnaiofjjgcgaaRa
import Derived.Test.YtffnaiofjjgcgaaWn
import Derived.Test.YtffnaiofjjgcgaaSd
set_option linter.all false
/- Walks: better multipliers, the reference. -/
namespace Dv
attribute [local simp] wT_skip wK wT_ret wT_exit wR wRp wT_seq wC wT_block rTS_nil rTS_asg rTS_eff rTS_effk ob_some obP_some iteD_b condP_b xv_v xv_c xv_ite xv_bin_tt xv_bin_tc xv_bin_ct xv_bin_cc xv_un_t xv_conv_t xv_load xv_len xv_faddr xv_field xv_iaddr_tt xv_iaddr_tc xv_index_tt xv_index_tc xv_lookup_tt xv_max_tt xv_max_tc xv_max_ct xv_min_tt xv_min_tc xv_min_ct xv_slice_lo_t xv_slice_lo_c xv_slice_hi_t xv_slice_all xv_call xv_bslice bsliceV xv_build buildV xv_mkfn zeroE fillE buildD fillD List.replicate xvs_nil xvs_cons callV_fn frz_bool frz_int frz_imm frz_agg frz_tup frz_fn frz_iptr frzL_nil frzL_one frzL_dI frzL_cell frzL_use frzL_ints frzL_choice frzL_var depth dCell dUse dInts dChoice dVar dProb tStart addO Ret flat_dI flat_rep chunk_dI
 binD_add binD_sub binD_mul binD_eql binD_neq binD_lss binD_leq binD_gtr binD_geq binD_quo binD_rem binD_beql binD_bneq binD_aeql binD_aneq unD_not unD_neg lenD_imm lenD_sl lenD_str readO_cells readO_frozen loadD_loc loadD_iptr iaddrD_imm iaddrD_sl iaddrD_loc faddrD_loc faddrD_iptr fieldD_agg indexD_agg indexD_str cellsL_bool stor_bool atom_bool cellsL_int stor_int atom_int cellsL_str stor_str atom_str cellsL_imm stor_imm atom_imm cellsL_sl stor_sl atom_sl cellsL_loc stor_loc atom_loc cellsL_iptr stor_iptr atom_iptr cellsL_map stor_map atom_map cellsL_fn stor_fn atom_fn cellsL_agg stor_agg cellsL_nilfn stor_nilfn atom_nilfn cellsL_nilp stor_nilp atom_nilp takeC_z takeC_s ofCells_ag ofCells_one ag_bool ag_int ag_str ag_slice ag_struct ag_arr ag_map ag_ptr ag_func gOf_t gOf_c gOf_f kv_cons putE_some putE_none oneRes_one oneRes_two oneRes_three getAll_nil getAll_v getAll_c maxiD_two miniD_two extV_tup xv_ext stepOp_box stepOp_alloc stepOp_store writeO_cells storeD_loc setCells_nil setCells_cons stepOp_mkmap stepOp_mapset stepOp_call1 stepOp_call2 stepOp_app2 stepOp_app1 stepOp_bslice stepOp_mkslice mapO_map lookupD_some lookupD_ok mapsetD_some keyOk_agg kindsL_nil kindsL_bool kindsL_int eqL_nil eqL_cons atomEq_bool atomEq_int frz_sl tokO_tok app0_step app0_exact app0_tok frz_loc oneRes_nil listOf_imm
 ty_0 ty_1 ty_2 ty_3 ty_4 ty_5 ty_6 ty_7 ty_8 ty_9 ty_10 ty_11 ty_12 ty_13 ty_14 ty_15 ty_16 ty_17 ty_18 ty_19 ty_20 ty_21 ty_22 ty_23 ty_24 ty_25 ty_26 ty_27
attribute [local congr] wT_congr ob_congr obP_congr iteD_congr condP_congr

theorem appG_hd {hp : List Obj} {k id : Nat} {x : Int} {r : List Int} (hr : r.length = k) (h : k ≠ 0 → hp[id]? = some (.cells (r.map dI))) (hk : k ≤ 1000) :
    ∃ hp', appendG E hp 6 6 (hd k id) (.imm .exact [dI x]) = some (hd (k + 1) hp.length, hp') ∧ hp'.length = hp.length + 1 ∧ hp'[hp.length]? = some (.cells ((r ++ [x]).map dI)) ∧ ∀ (j : Nat) o, j ≠ id → hp[j]? = some o → hp'[j]? = some o := by
  by_cases h0 : k = 0
  · subst h0
    have : r = [] := List.eq_nil_of_length_eq_zero hr
    subst this
    refine ⟨hp ++ [.cells [dI x]], ?_, by simp, by simp, fun j o _ hj => get_app hj⟩
    simp [hd, appendG, fitsE, maxBytes, flat]
  · have h1 := h h0
    refine ⟨hp.set id .dead ++ [.cells ((r ++ [x]).map dI)], ?_, by simp, by simp, fun j o hj h2 => get_app (get_ne h2 (fun e => hj e.symm))⟩
    have h2 : (k + 1) * 9 ≤ 17592186044416 := by omega
    simp [hd, h0, appendG, fitsE, maxBytes, flat, h1, hr, h2]

set_option maxHeartbeats 16000000 in
theorem r45 (p : Prob) (b : List Int) (g : Int) (m : List (List Int)) (S : Small p) (hb : b.length ≤ 20) (SM : SmallM m) : runP E (dL E) 45 [dProb p, dInts b, dI g, .imm .none (m.map dInts)] = some (resI p b g m) := by
  refine runP_T c45 (by simp) ?_
  have h91 := r91 p b m S hb SM
  simp only [dProb, dInts] at h91
  unfold resI
  by_cases h0 : dk p b m = 0
  rotate_left
  · rw [if_neg h0]
    simp [t45, n45, h91, h0]
  obtain ⟨ok, M, okb⟩ := dk_ok h0
  rw [if_pos h0]
  rw [h0] at h91
  obtain ⟨T, hT⟩ : ∃ T, T = (itemsA p b g m 0 p.vars).foldl (addI p) (row0 p m) := ⟨_, rfl⟩
  unfold impL
  rw [← hT]
  rw [← sum_AR ok M] at hT
  have s1 := S.cells
  have s2 := S.cap
  have s3 := S.vars
  have m1 := M.len
  simp [t45, n45, h91]
  obtain ⟨n, hn⟩ : ∃ n, n = p.cells.length := ⟨_, rfl⟩
  refine wT_up m.length (fun i env hp => ∃ (x7 x10 x11 x12 x13 x14 x15 x16 x17 x18 x19 x20 x21 x22 x23 x24 x25 x26 x27 x28 x29 x30 x31 x32 x33 : D) (sp : Spare) (ids : List Nat), env = [dProb p, dInts b, dI g, .imm .none (m.map dInts), .loc 0 0, .imm .exact [], dI 0, x7, .imm sp (ids.map (hd n)), dI i, x10, x11, x12, x13, x14, x15, x16, x17, x18, x19, x20, x21, x22, x23, x24, x25, x26, x27, x28, x29, x30, x31, x32, x33] ∧
    At hp 0 (.cells (dProb p).cellsL) ∧ RowsI n hp ids ((row0 p m).take i) ∧ (n ≠ 0 → ∀ x, x ∈ ids → 1 ≤ x) ∧ (i = 0 ∧ sp = .exact ∨ ∃ k, sp = .tok k ∧ At hp k (.tok i 1) ∧ 1 ≤ k ∧ (n ≠ 0 → k ∉ ids))) 0 (by omega)
    ⟨_, _, _, _, _, _, _, _, _, _, _, _, _, _, _, _, _, _, _, _, _, _, _, _, _, .exact, [], rfl, rfl, ⟨rfl, by simp, by simp, by simp⟩, by simp, .inl ⟨rfl, rfl⟩⟩ ?_
  rintro i env hp hi ⟨x7, x10, x11, x12, x13, x14, x15, x16, x17, x18, x19, x20, x21, x22, x23, x24, x25, x26, x27, x28, x29, x30, x31, x32, x33, sp, ids, rfl, g0, R, hge, hsp⟩
  by_cases hlt : i < m.length
  · have hrow := M.rows _ (List.getElem_mem hlt)
    have hl0 := R.len
    have hil : i < (row0 p m).length := by rw [row0_len M]; omega
    rw [List.length_take, Nat.min_eq_left (by omega)] at hl0
    have hap : ∀ x, appOk E 6 (ids.map (hd n)) [x] := fun x => appOk_hd (by omega)
    have hx2 := g0.lt
    have hic : i < p.capacity.length := by omega
    have hci := ok.cap _ (List.getElem_mem hic)
    have hlc : m[i].length = p.capacity[i].length := by omega
    have hsl : (subR m[i] p.capacity[i]).length = n := by simp [subR]; omega
    simp [hlt]
    refine wT_up m[i].length (fun j env hp => ∃ (x7 x12 x13 x14 x15 x16 x17 x18 x19 x20 x21 x22 x23 x24 x25 x26 x27 x28 x29 x30 x31 x32 x33 : D) (id : Nat), env = [dProb p, dInts b, dI g, .imm .none (m.map dInts), .loc 0 0, .imm .exact [], dI 0, x7, .imm sp (ids.map (hd n)), dI i, hd j id, dI j, x12, x13, x14, x15, x16, x17, x18, x19, x20, x21, x22, x23, x24, x25, x26, x27, x28, x29, x30, x31, x32, x33] ∧
      At hp 0 (.cells (dProb p).cellsL) ∧ RowsI n hp ids ((row0 p m).take i) ∧ (i = 0 ∧ sp = .exact ∨ ∃ k, sp = .tok k ∧ At hp k (.tok i 1) ∧ 1 ≤ k ∧ (n ≠ 0 → k ∉ ids) ∧ k ≠ id) ∧
      1 ≤ id ∧ (n ≠ 0 → id ∉ ids) ∧ (j ≠ 0 → At hp id (.cells (((subR m[i] p.capacity[i]).take j).map dI)))) 0 (by omega)
      ⟨_, _, _, _, _, _, _, _, _, _, _, _, _, _, _, _, _, _, _, _, _, _, _, hp.length, rfl, g0, R, ?_, by omega, fun h0 h => by have := R.lt h0 h; omega, fun h => absurd rfl h⟩ ?_
    · rcases hsp with h | ⟨k, h1, h2, h3, h4⟩
      · exact .inl h
      · exact .inr ⟨k, h1, h2, h3, h4, by have := h2.lt; omega⟩
    clear hsp R g0
    rintro j env hp2 hj ⟨x7, x12, x13, x14, x15, x16, x17, x18, x19, x20, x21, x22, x23, x24, x25, x26, x27, x28, x29, x30, x31, x32, x33, id, rfl, g0, R, hsp, hid1, hidn, hidr⟩
    by_cases hlt2 : j < m[i].length
    · have hjc : j < p.capacity[i].length := by omega
      have v1 := hrow.2 _ (List.getElem_mem hlt2)
      have v2 := hci.2 _ (List.getElem_mem hjc)
      unfold wi at v2
      have w1 := wrap_i64 (n := m[i][j] - p.capacity[i][j]) ⟨by omega, by omega⟩
      have hn0 : n ≠ 0 := by omega
      obtain ⟨H, hH⟩ : ∃ H, H = hp2 ++ List.replicate 20 Obj.dead := ⟨_, rfl⟩
      obtain ⟨hp', e1, e2, e3, e4⟩ := appG_hd (hp := H) (k := j) (id := id) (x := m[i][j] - p.capacity[i][j]) (r := (subR m[i] p.capacity[i]).take j) (by rw [List.length_take]; omega) (fun h => by rw [hH]; exact get_app (hidr h)) (by omega)
      have hHl : hp2.length ≤ H.length := by rw [hH]; simp
      have q0 : At hp' 0 (.cells (dProb p).cellsL) := e4 0 _ (by omega) (by rw [hH]; exact get_app g0)
      have qR : RowsI n hp' ids ((row0 p m).take i) := ⟨R.len, R.wid, fun h0 a b c => e4 _ _ (fun e => hidn h0 (by rw [← e]; exact List.getElem_mem c)) (by rw [hH]; exact get_app (R.row h0 a b c)), R.dis⟩
      have qs : i = 0 ∧ sp = .exact ∨ ∃ k, sp = .tok k ∧ At hp' k (.tok i 1) ∧ 1 ≤ k ∧ (n ≠ 0 → k ∉ ids) ∧ k ≠ H.length := by
        rcases hsp with h | ⟨k, h1, h2, h3, h4, h5⟩
        · exact .inl h
        · exact .inr ⟨k, h1, e4 _ _ h5 (by rw [hH]; exact get_app h2), h3, h4, by have := h2.lt; omega⟩
      have hil2 : H.length ∉ ids := fun h => by have := R.lt hn0 h; omega
      have hmg : (subR m[i] p.capacity[i]).take j ++ [m[i][j] - p.capacity[i][j]] = (subR m[i] p.capacity[i]).take (j + 1) := by
        rw [List.take_succ_eq_append_getElem (by omega)]; simp [subR]
      rw [hmg, List.map_take] at e3
      have hH2 : H.length = hp2.length + 20 := by rw [hH]; simp
      rw [hH2] at e3 hil2 qs
      rw [hH] at e1
      simp only [List.replicate] at e1
      have e3' : At hp' _ _ := e3
      simp [hlt, hlt2, hic, hjc, ↓g0.appE, w1, e1, wrap_up hlt2 (by omega)]
      repeat apply Exists.intro
      refine ⟨by and_intros <;> rfl, q0, qR, qs, by omega, fun _ => hil2, e3'⟩
    have hje : j = m[i].length := by omega
    have hjn : j = n := by omega
    have htk : (subR m[i] p.capacity[i]).take j = subR m[i] p.capacity[i] := List.take_of_length_le (by omega)
    rw [htk] at hidr
    have R2 : RowsI n hp2 (ids ++ [id]) ((row0 p m).take (i + 1)) := by
      rw [row0_take M hil, row0_get hil hlt hic]
      exact R.snoc hsl fun h0 => ⟨hidr (by omega), hidn h0⟩
    have hge' : n ≠ 0 → ∀ x, x ∈ ids ++ [id] → 1 ≤ x := fun h0 x hx => by
      rcases List.mem_append.1 hx with h | h
      · exact hge h0 x h
      · rw [List.mem_singleton.1 h]; exact hid1
    have hm2 : ids.map (hd n) ++ [hd n id] = (ids ++ [id]).map (hd n) := map_hd
    have hidl : n ≠ 0 → id < hp2.length := fun h0 => (hidr (by omega)).lt
    rw [hjn]
    rw [hje] at hjn
    rcases hsp with ⟨hi0, rfl⟩ | ⟨k, rfl, gk, hk1, hki, hkid⟩
    · have e : ids = [] := List.eq_nil_of_length_eq_zero (hl0.trans hi0)
      subst e
      simp only [List.map_nil, List.nil_append] at hap hm2
      simp [hlt, hjn, app0_step, app0_exact, hap, stor_hd, cellsL_hd, wrap_up hlt (by omega)]
      rw [hm2]
      repeat apply Exists.intro
      refine ⟨by and_intros <;> rfl, g0.app, R2.app, hge', hp2.length, rfl, ?_, by have := g0.lt; omega, fun h0 h => ?_⟩
      · rw [hi0]; simp [At]
      · have := List.mem_singleton.1 h
        have := hidl h0; omega
    · simp [hlt, hjn, app0_step, app0_tok, hap, gk.eq, stor_hd, cellsL_hd, hl0, wrap_up hlt (by omega)]
      rw [hm2]
      repeat apply Exists.intro
      have R3 : RowsI n (hp2.set k .dead) (ids ++ [id]) ((row0 p m).take (i + 1)) := R2.other fun h0 h => by
        rcases List.mem_append.1 h with h | h
        · exact hki h0 h
        · exact hkid (List.mem_singleton.1 h)
      refine ⟨by and_intros <;> rfl, (g0.ne (by omega)).app, R3.app, hge', hp2.length, rfl, ?_, by have := g0.lt; omega, fun h0 h => ?_⟩
      · simp [At]
      · rcases List.mem_append.1 h with h | h
        · have := R.lt h0 h; omega
        · have := List.mem_singleton.1 h
          have := hidl h0; omega
  have hie : i = m.length := by omega
  subst hie
  have htk : (row0 p m).take m.length = row0 p m := List.take_of_length_le (by rw [row0_len M]; omega)
  rw [htk] at R
  clear hsp
  simp [hlt]
  refine wT_up p.vars.length (fun i env hp => ∃ (x7 x9 x10 x11 x13 x14 x15 x16 x17 x18 x19 x20 x21 x22 x23 x24 x25 x26 x27 x28 x29 x30 x31 x32 x33 : D) (rows : List (List Int)), env = [dProb p, dInts b, dI g, .imm .none (m.map dInts), .loc 0 0, .imm .exact [], dI 0, x7, .imm sp (ids.map (hd n)), x9, x10, x11, dI i, x13, x14, x15, x16, x17, x18, x19, x20, x21, x22, x23, x24, x25, x26, x27, x28, x29, x30, x31, x32, x33] ∧
    At hp 0 (.cells (dProb p).cellsL) ∧ RowsI n hp ids rows ∧ rows.length = p.capacity.length ∧ (itemsR p b g m i (p.vars.drop i)).foldl (addI p) rows = T) 0 (by omega)
    ⟨_, _, _, _, _, _, _, _, _, _, _, _, _, _, _, _, _, _, _, _, _, _, _, _, _, _, rfl, g0, R, row0_len M, by simp [hT]⟩ ?_
  clear R g0
  rintro i env hp hi ⟨x7, x9, x10, x11, x13, x14, x15, x16, x17, x18, x19, x20, x21, x22, x23, x24, x25, x26, x27, x28, x29, x30, x31, x32, x33, rows, rfl, g0, R, hrl, hfold⟩
  by_cases hlt : i < p.vars.length
  · have h99 := r99 p b g m S hb ok M hlt (q := 1) (.inr rfl)
    simp only [dProb, dInts] at h99
    obtain ⟨v, hv⟩ : ∃ v, v = p.vars[i] := ⟨_, rfl⟩
    have okv := ok.vars _ (List.getElem_mem hlt)
    have lv := S.leaves _ (List.getElem_mem hlt)
    have lu := S.uses _ (List.getElem_mem hlt)
    rw [← hv] at h99 okv lv lu
    rw [drop_cons hlt, ← hv] at hfold
    simp only [itemsR] at hfold
    have hus := usesB_ok (p := p) (b := b) (g := g) (m := m) (i := i) okv
    unfold usesB at hfold hus
    cases hC : bestK (costOf p m v 1) (candL b g i 0 v.choices) with
    | none =>
      rw [hC] at h99 hfold
      simp only [atOf, leastOf] at h99
      have e : itR v.leaves ([] : List Use) = [] := by simp [itR]
      simp only [chOf, e, List.nil_append] at hfold
      simp [hlt, g0.eq, h99, wrap_up hlt (by omega)]
      exact ⟨g0, rows, R, hrl, hfold⟩
    | some y =>
      obtain ⟨⟨at1, c⟩, N1⟩ := y
      rw [hC] at h99 hfold hus
      simp only [atOf, leastOf] at h99
      simp only [chOf] at hfold hus
      obtain ⟨_, hcm, hcg, _⟩ := bestK_mem hC
      simp only at hcm hcg
      obtain ⟨hal, hae⟩ := List.getElem?_eq_some_iff.1 hcg
      have lc := lu c hcm
      have hneg : ¬ (at1 : Int) < 0 := by omega
      simp [hlt, g0.eq, ↓g0.appE, h99, hneg, ← hv]
      obtain ⟨l, hl⟩ : ∃ l, l = hp.length := ⟨_, rfl⟩
      have hlid : n ≠ 0 → l ∉ ids := fun h0 h => by have := R.lt h0 h; omega
      have hl1 := g0.lt
      rw [← hl]
      refine wT_up v.leaves.length (fun k env hp => ∃ (x7 x9 x10 x11 x16 x17 x18 x19 x20 x21 x22 x23 x24 x25 x26 x27 x28 x29 x30 x31 x32 x33 : D) (rows : List (List Int)), env = [dProb p, dInts b, dI g, .imm .none (m.map dInts), .loc 0 0, .imm .exact [], dI 0, x7, .imm sp (ids.map (hd n)), x9, x10, x11, dI i, dI at1, .loc l 0, dI k, x16, x17, x18, x19, x20, x21, x22, x23, x24, x25, x26, x27, x28, x29, x30, x31, x32, x33] ∧
        At hp 0 (.cells (dProb p).cellsL) ∧ At hp l (.cells (dVar v).cellsL) ∧ RowsI n hp ids rows ∧ rows.length = p.capacity.length ∧ (itR (v.leaves.drop k) c.uses ++ itemsR p b g m (i + 1) (p.vars.drop (i + 1))).foldl (addI p) rows = T) 0 (by omega)
        ⟨_, _, _, _, _, _, _, _, _, _, _, _, _, _, _, _, _, _, _, _, _, _, _, rfl, g0.app, by rw [hl]; simp [At], R.app, hrl, by simpa using hfold⟩ ?_
      clear R g0 hfold
      rintro k env hp2 hk ⟨x7, x9, x10, x11, x16, x17, x18, x19, x20, x21, x22, x23, x24, x25, x26, x27, x28, x29, x30, x31, x32, x33, rows, rfl, g0, gv, R, hrl, hfold⟩
      by_cases hlt2 : k < v.leaves.length
      · rw [drop_cons hlt2] at hfold
        simp only [itR, List.flatMap_cons] at hfold
        have hleaf := okv.leaves _ (List.getElem_mem hlt2)
        unfold wi at hleaf
        obtain ⟨L, hL⟩ : ∃ L : Nat, v.leaves[k] = L := ⟨v.leaves[k].toNat, by omega⟩
        rw [hL] at hfold hleaf
        simp [hlt2, gv.eq]
        refine wT_up c.uses.length (fun j env hp => ∃ (x7 x9 x10 x11 x17 x18 x19 x20 x21 x22 x23 x24 x25 x26 x27 x28 x29 x30 x31 x32 x33 : D) (rows : List (List Int)), env = [dProb p, dInts b, dI g, .imm .none (m.map dInts), .loc 0 0, .imm .exact [], dI 0, x7, .imm sp (ids.map (hd n)), x9, x10, x11, dI i, dI at1, .loc l 0, dI k, dI j, x17, x18, x19, x20, x21, x22, x23, x24, x25, x26, x27, x28, x29, x30, x31, x32, x33] ∧
          At hp 0 (.cells (dProb p).cellsL) ∧ At hp l (.cells (dVar v).cellsL) ∧ RowsI n hp ids rows ∧ rows.length = p.capacity.length ∧ ((c.uses.drop j).map (fun u => ((L : Int), u)) ++ (itR (v.leaves.drop (k + 1)) c.uses ++ itemsR p b g m (i + 1) (p.vars.drop (i + 1)))).foldl (addI p) rows = T) 0 (by omega)
          ⟨_, _, _, _, _, _, _, _, _, _, _, _, _, _, _, _, _, _, _, _, _, _, rfl, g0, gv, R, hrl, by simpa [itR] using hfold⟩ ?_
        clear R g0 gv hfold
        rintro j env hp3 hj ⟨x7, x9, x10, x11, x17, x18, x19, x20, x21, x22, x23, x24, x25, x26, x27, x28, x29, x30, x31, x32, x33, rows, rfl, g0, gv, R, hrl, hfold⟩
        by_cases hlt3 : j < c.uses.length
        · have hu := hus _ (List.getElem_mem hlt3)
          obtain ⟨u, hu'⟩ : ∃ u, u = c.uses[j] := ⟨_, rfl⟩
          rw [drop_cons hlt3, List.map_cons, List.cons_append, List.foldl_cons] at hfold
          rw [← hu'] at hu hfold
          have h100 := r100 p u.cell S
          simp only [dProb, dCell] at h100
          have hLr : L < rows.length := by omega
          have hLi : L < ids.length := by rw [R.len]; omega
          have hat := atS_le (i := 0) hu.known
          obtain ⟨N, hN⟩ : ∃ N : Nat, atS u.cell p.cells 0 = N := ⟨(atS u.cell p.cells 0).toNat, by omega⟩
          rw [hN] at h100
          have hNn : N < n := by omega
          have hn0 : n ≠ 0 := by omega
          have hhd : ∀ id, hd n id = .sl id 0 n 1 false true := fun id => by unfold hd; rw [if_neg hn0]
          obtain ⟨id, hid⟩ : ∃ id, id = ids[L] := ⟨_, rfl⟩
          have gr : At hp3 id (.cells (rows[L].map dI)) := by rw [hid]; exact R.row hn0 L hLr hLi
          have hw := R.wid _ (List.getElem_mem hLr)
          have hNr : N < rows[L].length := by omega
          have hN1 : N + 1 ≤ rows[L].length := hNr
          have hgl := gr.lt
          have hadd : (rows[L].map dI).set N (.int .i64 (Go.IntKind.i64.wrap (rows[L][N] + u.places))) = (addU p rows[L] u).map dI := by
            unfold addU
            rw [hN]
            simp [wr, hNr]
          have hidl : id ≠ l := fun e => hlid hn0 (by rw [← e, hid]; exact List.getElem_mem hLi)
          have hid2 : 1 ≤ id := hge hn0 id (by rw [hid]; exact List.getElem_mem hLi)
          have R2 := R.upd hLr hLi (r := addU p rows[L] u) (by rw [addU_len, hw])
          rw [← hid] at R2
          simp [hlt2, hlt3, ↓g0.appE, ↓gv.appE, g0.eq, gv.eq, ↓gr.appE, hL, hLi, hal, hae, ← hu', ← hid, hhd, hNn, hNr, hN1, h100, hadd, set_app1 hgl, wrap_up hlt3 (by omega)]
          refine ⟨(g0.ne (by omega)).app, (gv.ne hidl).app, rows.set L (addU p rows[L] u), R2.app, by simpa using hrl, ?_⟩
          rw [← hfold]
          simp [addI, hLr]
        have hje : j = c.uses.length := by omega
        subst hje
        rw [List.drop_length, List.map_nil, List.nil_append] at hfold
        simp [hlt2, hlt3, gv.eq, hal, hae, wrap_up hlt2 (by omega)]
        exact ⟨g0, gv, rows, R, hrl, by rw [← List.foldl_append]; exact hfold⟩
      have hke : k = v.leaves.length := by omega
      subst hke
      rw [List.drop_length] at hfold
      simp only [itR, List.flatMap_nil, List.nil_append] at hfold
      simp [hlt2, gv.eq, wrap_up hlt (by omega)]
      exact ⟨g0, rows, R, hrl, hfold⟩
  have hie : i = p.vars.length := by omega
  subst hie
  rw [List.drop_length] at hfold
  simp only [itemsR, List.foldl_nil] at hfold
  subst hfold
  have hil2 := R.len
  have hhl : ∀ (hp : List Obj) (id : Nat), lenD E hp 6 (hd n id) = some (dI n) := fun hp id => by
    unfold hd
    by_cases h : n = 0
    · subst h; rfl
    · rw [if_neg h]; simp
  simp [hlt, g0.eq]
  have hrw := R.wid
  refine wT_up ids.length (fun i env hp => ∃ (x7 x9 x10 x11 x12 x13 x14 x15 x16 x17 x19 x20 x21 x22 x23 x24 x25 x26 x27 x28 x29 x30 x31 x32 x33 : D) , env = [dProb p, dInts b, dI g, .imm .none (m.map dInts), .loc 0 0, .imm .exact [], dI 0, x7, .imm sp (ids.map (hd n)), x9, x10, x11, x12, x13, x14, x15, x16, x17, dI i, x19, x20, x21, x22, x23, x24, x25, x26, x27, x28, x29, x30, x31, x32, x33] ∧
    RowsI n hp ids ((rows.take i).map (fun r => r.map clampI) ++ rows.drop i)) 0 (by omega) ⟨_, _, _, _, _, _, _, _, _, _, _, _, _, _, _, _, _, _, _, _, _, _, _, _, _, rfl, by simpa using R⟩ ?_
  clear R g0
  rintro i env hp hi ⟨x7, x9, x10, x11, x12, x13, x14, x15, x16, x17, x19, x20, x21, x22, x23, x24, x25, x26, x27, x28, x29, x30, x31, x32, x33, rfl, R⟩
  by_cases hii : i < ids.length
  · have hlt : i < rows.length := by omega
    obtain ⟨id, hid⟩ : ∃ id, id = ids[i] := ⟨_, rfl⟩
    have hwi := hrw _ (List.getElem_mem hlt)
    simp [hlt, hii, ← hid, hhl, stor_hd, cellsL_hd]
    refine wT_up n (fun k env hp => ∃ (x7 x9 x10 x11 x12 x13 x14 x15 x16 x17 x20 x21 x22 x23 x24 x25 x26 x27 x28 x29 x30 x31 x32 x33 : D) , env = [dProb p, dInts b, dI g, .imm .none (m.map dInts), .loc 0 0, .imm .exact [], dI 0, x7, .imm sp (ids.map (hd n)), x9, x10, x11, x12, x13, x14, x15, x16, x17, dI i, dI k, x20, x21, x22, x23, x24, x25, x26, x27, x28, x29, x30, x31, x32, x33] ∧
      RowsI n hp ids ((rows.take i).map (fun r => r.map clampI) ++ mixC rows[i] k :: rows.drop (i + 1))) 0 (by omega) ⟨_, _, _, _, _, _, _, _, _, _, _, _, _, _, _, _, _, _, _, _, _, _, _, _, rfl, by simpa [mixC, ← drop_cons hlt] using R⟩ ?_
    clear R
    rintro k env hp2 hk ⟨x7, x9, x10, x11, x12, x13, x14, x15, x16, x17, x20, x21, x22, x23, x24, x25, x26, x27, x28, x29, x30, x31, x32, x33, rfl, R⟩
    by_cases hlt2 : k < n
    · have hn0 : n ≠ 0 := by omega
      have hhd : ∀ id, hd n id = .sl id 0 n 1 false true := fun id => by unfold hd; rw [if_neg hn0]
      have hkr : k < rows[i].length := by omega
      have hpl : ((rows.take i).map (fun r => r.map clampI)).length = i := by simp; omega
      have hal : i < ((rows.take i).map (fun r => r.map clampI) ++ mixC rows[i] k :: rows.drop (i + 1)).length := by
        rw [List.length_append, hpl, List.length_cons]; omega
      have gr := R.row hn0 i hal hii
      rw [List.getElem_append_right (by omega)] at gr
      simp only [hpl, Nat.sub_self, List.getElem_cons_zero] at gr
      rw [← hid] at gr
      have gr' : At hp2 id _ := gr
      have hgl := gr'.lt
      have c1 : k < (mixC rows[i] k).length := by rw [mixC_len (by omega)]; exact hkr
      have c2 := mixC_get hkr c1
      have c3 := mixC_set hkr
      have c4 : k + 1 ≤ (mixC rows[i] k).length := c1
      have R2 := R.upd hal hii (r := mixC rows[i] (k + 1)) (by rw [mixC_len (by omega)]; exact hwi)
      rw [← hid, List.set_append_right _ _ (by omega), hpl, Nat.sub_self, List.set_cons_zero] at R2
      obtain ⟨Y, hY⟩ : ∃ Y, Y = rows[i][k] := ⟨_, rfl⟩
      rw [← hY] at c2 c3
      have hcl : (if (65536 : Int) < (if Y < 0 then 0 else Y) then 65536 else (if Y < 0 then 0 else Y)) = clampI Y := rfl
      have hsd : ((mixC rows[i] k).map dI).set k (dI (clampI Y)) = (mixC rows[i] (k + 1)).map dI := by rw [← c3]; simp
      simp [hlt2, hii, ← hid, hhd, ↓gr'.appE, c1, c2, c4, hcl, hsd, set_app1 hgl, wrap_up hlt2 (by omega)]
      rw [List.map_take] at R2
      exact R2.app
    have hke : k = n := by omega
    have hall : mixC rows[i] k = (rows.map fun r => r.map clampI)[i]'(by simpa using hlt) := by
      unfold mixC
      rw [List.take_of_length_le (by omega), List.drop_of_length_le (by omega)]; simp
    subst hke
    simp [hlt2, hii, ← hid, hhl, stor_hd, cellsL_hd, wrap_up hii (by omega)]
    rw [List.take_succ_eq_append_getElem (by simpa using hlt), ← hall, List.append_assoc]
    rw [List.map_take] at R
    exact R
  have hie : i = ids.length := by omega
  subst hie
  rw [List.drop_of_length_le (by omega), List.append_nil, List.take_of_length_le (by omega)] at R
  have hfz := frzL_I (n := 8) R
  rw [List.map_map] at hfz
  simp [hii, hfz]

end Dv

/- The law DualImproveSpec. -/
namespace Dv
attribute [local simp] wT_skip wK wT_ret wT_exit wR wRp wT_seq wC wT_block rTS_nil rTS_asg rTS_eff rTS_effk ob_some obP_some iteD_b condP_b xv_v xv_c xv_ite xv_bin_tt xv_bin_tc xv_bin_ct xv_bin_cc xv_un_t xv_conv_t xv_load xv_len xv_faddr xv_field xv_iaddr_tt xv_iaddr_tc xv_index_tt xv_index_tc xv_lookup_tt xv_max_tt xv_max_tc xv_max_ct xv_min_tt xv_min_tc xv_min_ct xv_slice_lo_t xv_slice_lo_c xv_slice_hi_t xv_slice_all xv_call xv_bslice bsliceV xv_build buildV xv_mkfn zeroE fillE buildD fillD List.replicate xvs_nil xvs_cons callV_fn frz_bool frz_int frz_imm frz_agg frz_tup frz_fn frz_iptr frzL_nil frzL_one frzL_dI frzL_cell frzL_use frzL_ints frzL_choice frzL_var depth dCell dUse dInts dChoice dVar dProb tStart addO Ret flat_dI flat_rep chunk_dI
 binD_add binD_sub binD_mul binD_eql binD_neq binD_lss binD_leq binD_gtr binD_geq binD_quo binD_rem binD_beql binD_bneq binD_aeql binD_aneq unD_not unD_neg lenD_imm lenD_sl lenD_str readO_cells readO_frozen loadD_loc loadD_iptr iaddrD_imm iaddrD_sl iaddrD_loc faddrD_loc faddrD_iptr fieldD_agg indexD_agg indexD_str cellsL_bool stor_bool atom_bool cellsL_int stor_int atom_int cellsL_str stor_str atom_str cellsL_imm stor_imm atom_imm cellsL_sl stor_sl atom_sl cellsL_loc stor_loc atom_loc cellsL_iptr stor_iptr atom_iptr cellsL_map stor_map atom_map cellsL_fn stor_fn atom_fn cellsL_agg stor_agg cellsL_nilfn stor_nilfn atom_nilfn cellsL_nilp stor_nilp atom_nilp takeC_z takeC_s ofCells_ag ofCells_one ag_bool ag_int ag_str ag_slice ag_struct ag_arr ag_map ag_ptr ag_func gOf_t gOf_c gOf_f kv_cons putE_some putE_none oneRes_one oneRes_two oneRes_three getAll_nil getAll_v getAll_c maxiD_two miniD_two extV_tup xv_ext stepOp_box stepOp_alloc stepOp_store writeO_cells storeD_loc setCells_nil setCells_cons stepOp_mkmap stepOp_mapset stepOp_call1 stepOp_call2 stepOp_app2 stepOp_app1 stepOp_bslice stepOp_mkslice mapO_map lookupD_some lookupD_ok mapsetD_some keyOk_agg kindsL_nil kindsL_bool kindsL_int eqL_nil eqL_cons atomEq_bool atomEq_int frz_sl tokO_tok app0_step app0_exact app0_tok frz_loc oneRes_nil listOf_imm
 ty_0 ty_1 ty_2 ty_3 ty_4 ty_5 ty_6 ty_7 ty_8 ty_9 ty_10 ty_11 ty_12 ty_13 ty_14 ty_15 ty_16 ty_17 ty_18 ty_19 ty_20 ty_21 ty_22 ty_23 ty_24 ty_25 ty_26 ty_27
attribute [local congr] wT_congr ob_congr obP_congr iteD_congr condP_congr

theorem impL_len {p : Prob} {b : List Int} {g : Int} {m : List (List Int)} (M : OkM p m) : (impL p b g m).length = p.capacity.length := by
  unfold impL
  rw [List.length_map, addI_len, row0_len M]
theorem impL_wid {p : Prob} {b : List Int} {g : Int} {m : List (List Int)} (ok : OkP p) (M : OkM p m) : ∀ r, r ∈ impL p b g m → r.length = p.cells.length := by
  intro r hr
  unfold impL at hr
  obtain ⟨s, hs, rfl⟩ := List.mem_map.1 hr
  rw [List.length_map]
  refine addI_wid (fun x hx => by
    have := (itemsA_ok (fun v hv => ok.vars v hv) x hx).1
    rw [row0_len M]; exact this) (fun r hr => ?_) s hs
  obtain ⟨i, hi, rfl⟩ := List.getElem_of_mem hr
  have h1 := row0_len M
  rw [row0_get hi (by rw [M.len]; omega) (by omega)]
  have h2 := (M.rows _ (List.getElem_mem (show i < m.length by rw [M.len]; omega))).1
  have h3 := (ok.cap _ (List.getElem_mem (show i < p.capacity.length by omega))).1
  simp [subR]; omega

open Classical in
set_option maxHeartbeats 16000000 in
theorem law43 (h1 : runP E (dL E) 35 [] = some (.bool true)) (p : Prob) (b : List Int) (g : Int) (m : List (List Int)) (hm : m.length ≤ Go.maxLen) : runP E (dL E) 43 [dProb p, dInts b, dI g, .imm .none (m.map dInts)] = some (.bool true) := by
  refine runP_T c43 (by simp) ?_
  have h2 := r2 p
  have h36 := r36 m hm
  simp only [dProb] at h2
  simp [t43, n43, h1, h2, h36]
  cases hf : fewB p with
  | false => simp
  | true =>
  have S := few_small hf
  simp
  cases hfm : fewM m with
  | false => simp
  | true =>
  have SM := few_smallM hfm
  simp
  by_cases hb : (20 : Int) < b.length
  · have hb2 : ¬ (b.length : Int) ≤ 20 := by omega
    simp [hb, hb2]
  have hb' : b.length ≤ 20 := by omega
  have hb2 : (b.length : Int) ≤ 20 := by omega
  have h44 := r44 p b g m S hb' SM
  have h45 := r45 p b g m S hb' SM
  unfold resI at h44 h45
  by_cases h0 : dk p b m = 0
  · obtain ⟨ok, M, _⟩ := dk_ok h0
    rw [if_pos h0] at h44 h45
    have s1 := S.cells
    have s2 := S.cap
    have h46 := r46 (impL p b g m) (impL p b g m) (by rw [impL_len M]; omega) (fun x hx => by rw [impL_wid ok M x hx]; omega)
    obtain ⟨X, hX⟩ : ∃ X, X = impL p b g m := ⟨_, rfl⟩
    rw [← hX] at h44 h45 h46
    simp only [dProb, dInts, decide_true] at h44 h45 h46
    simp [hb, hb2, h44, h45, h46]
  · rw [if_neg h0] at h44 h45
    have h46 := r46 [] [] (by simp) (by simp)
    simp only [dProb, dInts, List.map_nil, decide_true] at h44 h45 h46
    simp [hb, hb2, h44, h45, h46]

theorem dualImproveSpec : ∀ xs, TypedL E [0, 1, 2, 9] xs → ∃ n, runP E (dC E n) 43 xs = some (.bool true) := by
  intro xs h
  match xs, h with
  | [x, y, z, w], ⟨h1, h2, h3, h4, _⟩ =>
    obtain ⟨p, rfl, _⟩ := ty_prob h1
    obtain ⟨l, rfl, _⟩ := ty_nums h2 rfl
    obtain ⟨n, rfl, _⟩ := ty_num h3 rfl
    obtain ⟨m, rfl, hm⟩ := ty_rows h4
    exact runP_ex (law43 sane35' p l n m hm)
  | [], h => exact h.elim
  | [_], h => exact h.2.elim
  | [_, _], h => exact h.2.2.elim
  | [_, _, _], h => exact h.2.2.2.elim
  | _ :: _ :: _ :: _ :: _ :: _, h => exact h.2.2.2.2.elim

end Dv
