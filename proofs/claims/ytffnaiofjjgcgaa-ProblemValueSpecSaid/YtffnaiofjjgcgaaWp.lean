/- Texts that a proof of this claim uses, joined: Lw.W39. -/
import Derived.Test.YtffnaiofjjgcgaaWm
set_option linter.all false
/- Walks: Better and Overloads. -/
namespace Dv
attribute [local simp] wT_skip wK wT_ret wT_exit wR wRp wT_seq wC wT_block rTS_nil rTS_asg rTS_eff rTS_effk ob_some obP_some iteD_b condP_b xv_v xv_c xv_ite xv_bin_tt xv_bin_tc xv_bin_ct xv_bin_cc xv_un_t xv_conv_t xv_load xv_len xv_faddr xv_field xv_iaddr_tt xv_iaddr_tc xv_index_tt xv_index_tc xv_lookup_tt xv_max_tt xv_max_tc xv_max_ct xv_min_tt xv_min_tc xv_min_ct xv_slice_lo_t xv_slice_lo_c xv_slice_hi_t xv_slice_all xv_call xv_bslice bsliceV xv_build buildV xv_mkfn zeroE fillE buildD fillD List.replicate xvs_nil xvs_cons callV_fn frz_bool frz_int frz_imm frz_agg frz_tup frz_fn frz_iptr frzL_nil frzL_one frzL_dI frzL_cell frzL_use frzL_ints frzL_choice frzL_var depth dCell dUse dInts dChoice dVar dProb tStart addO Ret flat_dI flat_rep chunk_dI
 binD_add binD_sub binD_mul binD_eql binD_neq binD_lss binD_leq binD_gtr binD_geq binD_quo binD_rem binD_beql binD_bneq binD_aeql binD_aneq unD_not unD_neg lenD_imm lenD_sl lenD_str readO_cells readO_frozen loadD_loc loadD_iptr iaddrD_imm iaddrD_sl iaddrD_loc faddrD_loc faddrD_iptr fieldD_agg indexD_agg indexD_str cellsL_bool stor_bool atom_bool cellsL_int stor_int atom_int cellsL_str stor_str atom_str cellsL_imm stor_imm atom_imm cellsL_sl stor_sl atom_sl cellsL_loc stor_loc atom_loc cellsL_iptr stor_iptr atom_iptr cellsL_map stor_map atom_map cellsL_fn stor_fn atom_fn cellsL_agg stor_agg cellsL_nilfn stor_nilfn atom_nilfn cellsL_nilp stor_nilp atom_nilp takeC_z takeC_s ofCells_ag ofCells_one ag_bool ag_int ag_str ag_slice ag_struct ag_arr ag_map ag_ptr ag_func gOf_t gOf_c gOf_f kv_cons putE_some putE_none oneRes_one oneRes_two oneRes_three getAll_nil getAll_v getAll_c maxiD_two miniD_two extV_tup xv_ext stepOp_box stepOp_alloc stepOp_store writeO_cells storeD_loc setCells_nil setCells_cons stepOp_mkmap stepOp_mapset stepOp_call1 stepOp_call2 stepOp_app2 stepOp_app1 stepOp_bslice stepOp_mkslice mapO_map lookupD_some lookupD_ok mapsetD_some keyOk_agg kindsL_nil kindsL_bool kindsL_int eqL_nil eqL_cons atomEq_bool atomEq_int frz_sl tokO_tok app0_step app0_exact app0_tok frz_loc oneRes_nil listOf_imm
 ty_0 ty_1 ty_2 ty_3 ty_4 ty_5 ty_6 ty_7 ty_8 ty_9 ty_10 ty_11 ty_12 ty_13 ty_14 ty_15 ty_16 ty_17 ty_18 ty_19 ty_20 ty_21 ty_22 ty_23 ty_24 ty_25 ty_26 ty_27
attribute [local congr] wT_congr ob_congr obP_congr iteD_congr condP_congr

/-- the published order -/
def betterI (p : Prob) (a b : List Int) : Int := if cmpL (boundL p a) (boundL p b) = 0 then cmpL a b else cmpL (boundL p a) (boundL p b)

open Classical in
noncomputable def resBt (p : Prob) (a b : List Int) : D := if Whole p a ∧ Whole p b then .tup [.bool (decide (betterI p a b < 0)), dI 0] else .tup [.bool false, dI 270]

theorem wrapM1 : Go.IntKind.i64.wrap 1 = 1 := by decide
theorem wrapM2 : Go.IntKind.i64.wrap 2 = 2 := by decide

set_option maxHeartbeats 16000000 in
theorem r24 (p : Prob) (a b : List Int) (S : Small p) (ha : a.length ≤ 20) (hb : b.length ≤ 20) : runP E (dL E) 24 [dProb p, dInts a, dInts b] = some (resBt p a b) := by
  refine runP_T c24 (by simp) ?_
  have h1 := r22 p a S ha
  have h2 := r22 p b S hb
  by_cases wa : Whole p a
  rotate_left
  · have : ¬ (Whole p a ∧ Whole p b) := fun h => wa h.1
    simp only [resV, if_neg wa] at h1
    simp only [dProb, dInts] at h1
    simp [t24, n24, h1, resBt, this]
  by_cases wb : Whole p b
  rotate_left
  · have : ¬ (Whole p a ∧ Whole p b) := fun h => wb h.2
    simp only [resV, if_pos wa] at h1
    simp only [resV, if_neg wb] at h2
    simp only [dProb, dInts] at h1 h2
    simp [t24, n24, h1, h2, resBt, this]
  have hab : Whole p a ∧ Whole p b := ⟨wa, wb⟩
  simp only [resV, if_pos wa] at h1
  simp only [resV, if_pos wb] at h2
  have hlen : a.length = b.length := by rw [wa.2.2, wb.2.2]
  have h30 := r30 a b (by omega) (by omega)
  have h31 := r30 (boundL p a) (boundL p b) (by simp [boundL]) (by simp [boundL])
  unfold resC at h30 h31
  rw [if_pos hlen] at h30
  rw [if_pos (show (boundL p a).length = (boundL p b).length from rfl)] at h31
  have hr : resBt p a b = .tup [.bool (decide (betterI p a b < 0)), dI 0] := by unfold resBt; rw [if_pos hab]
  rw [hr]
  unfold betterI
  obtain ⟨v, hv⟩ : ∃ v, v = boundL p a := ⟨_, rfl⟩
  obtain ⟨w, hw⟩ : ∃ w, w = boundL p b := ⟨_, rfl⟩
  rw [← hv] at h1 h31 ⊢
  rw [← hw] at h2 h31 ⊢
  obtain ⟨q, hq⟩ : ∃ q, q = cmpL v w := ⟨_, rfl⟩
  obtain ⟨s, hs⟩ : ∃ s, s = cmpL a b := ⟨_, rfl⟩
  rw [← hq] at h31 ⊢
  rw [← hs] at h30 ⊢
  simp only [dProb, dInts] at h1 h2 h30 h31
  simp [t24, n24, h1, h2]
  refine wT_up 2 (fun i env hp => ∃ (x6 x7 x8 x9 x10 x11 x12 x13 x14 x18 x19 x20 x21 : D) (h : List Obj), env = [dProb p, dInts a, dInts b, .loc 0 0, .bool false, dI 0, x6, x7, x8, x9, x10, x11, x12, x13, x14, .imm .exact [.agg [dInts v, dInts w], .agg [dInts a, dInts b]], dI 2, dI i, x18, x19, x20, x21] ∧
    hp = .cells (dProb p).cellsL :: h ∧ (0 < i → q = 0) ∧ (1 < i → s = 0)) 0 (by omega) ⟨_, _, _, _, _, _, _, _, _, _, _, _, _, _, rfl, rfl, by omega, by omega⟩ ?_
  rintro i env hp hi ⟨x6, x7, x8, x9, x10, x11, x12, x13, x14, x18, x19, x20, x21, h, rfl, rfl, f1, f2⟩
  by_cases h4 : i < 2
  · obtain rfl | rfl : i = 0 ∨ i = 1 := by omega
    · by_cases hq0 : q = 0
      · simp [h31, hq0, wrapM1]
      · simp [h31, hq0]
    · have hq0 := f1 (by omega)
      by_cases hs0 : s = 0
      · simp [h30, hs0, hq0, wrapM2]
      · simp [h30, hs0, hq0]
  · have : i = 2 := by omega
    subst this
    have hq0 := f1 (by omega)
    have hs0 := f2 (by omega)
    simp [hq0, hs0]

theorem At.get0 {hp : List Obj} {o : Obj} (a : At hp 0 o) (h : 0 < hp.length) : hp[0]'h = o := by
  have := a.eq
  rw [List.getElem?_eq_getElem h] at this
  exact Option.some.inj this

theorem frzL_place {hp : List Obj} {n : Nat} {l : List Over} : frzL (frz hp (n + 2)) (l.map dPlace) = some (l.map dPlace) := frzL_map fun x _ => rfl
theorem fits_place {l : List Over} : fitsE 2 (l.map dPlace) = true := by
  unfold fitsE
  rw [List.all_eq_true]
  intro d hd
  obtain ⟨n, _, rfl⟩ := List.mem_map.1 hd
  rfl

theorem ovI_len {p : Prob} (S : Small p) {b : List Int} : (ovI p b).length ≤ 48 := by
  have hR : ∀ {leaf : Nat} {k : Nat} {d c : List Int}, (ovIR leaf k d c).length ≤ d.length := by
    intro leaf k d
    induction d generalizing k with
    | nil => intro c; simp [ovIR]
    | cons d ds ih =>
      intro c
      cases c with
      | nil => simp [ovIR]
      | cons c cs =>
        have := ih (k := k + 1) (c := cs)
        simp only [ovIR, List.length_append, List.length_cons]
        by_cases h : 0 < d - c
        · rw [if_pos h]; simp only [List.length_cons, List.length_nil]; omega
        · rw [if_neg h]; simp only [List.length_nil]; omega
  have hL : ∀ {cs : List (List Int)} {k : Nat}, (ovIL p b k cs).length ≤ 12 * cs.length := by
    intro cs
    induction cs with
    | nil => intro k; simp [ovIL]
    | cons c cs ih =>
      intro k
      have h1 := ih (k := k + 1)
      have h2 := hR (leaf := k) (k := 0) (d := dem p b k) (c := c)
      have h3 : (dem p b k).length = p.cells.length := by simp [dem, foldU_len]
      have s1 := S.cells
      simp only [ovIL, List.length_append, List.length_cons]; omega
  have := hL (cs := p.capacity) (k := 0)
  have s2 := S.cap
  unfold ovI; omega

open Classical in
noncomputable def resO (p : Prob) (b : List Int) : D := if Whole p b then .tup [.imm .none ((ovI p b).map dPlace), dI 0] else .tup [.imm .none [], dI 270]

set_option maxHeartbeats 16000000 in
theorem r26 (p : Prob) (b : List Int) (S : Small p) (hb : b.length ≤ 20) : runP E (dL E) 26 [dProb p, dInts b] = some (resO p b) := by
  refine runP_T c26 (by simp) ?_
  have h83 := r83 p b S hb
  have s1 := S.cells
  have s2 := S.cap
  simp only [dProb, dInts] at h83
  simp [t26, n26, h83]
  by_cases h0 : Whole p b
  rotate_left
  · simp [wk_neg h0, resO, h0]
  simp only [resO, h0, if_true]
  simp [wk_pos h0]
  obtain ⟨ok, okb, hbl⟩ := h0
  have h84 := r84 p b
  simp only [dProb, dInts] at h84
  simp [h84]
  have hol := ovI_len S (b := b)
  refine ⟨110, _, rfl, ?_⟩
  intro L hL hcb
  obtain ⟨J, hJ⟩ : ∃ J : List Over → List Obj → Prop, J = fun rem hp' => ∃ (sp : Spare) (done : List Over) (h' : List Obj), hp' = .cells (dProb p).cellsL :: .cells [.imm sp (done.map dPlace)] :: h' ∧
    At h' 0 (L false none) ∧ ((sp = .exact ∧ done = []) ∨ ∃ k, sp = .tok (k + 1 + 1) ∧ At h' k (.tok (done.length * 2) 2) ∧ k ≠ 0) ∧ done ++ rem = ovI p b := ⟨_, rfl⟩
  have key := i110 p b S hb ok okb 2 J (fun _ => False) (by
      rw [hJ]
      rintro rem hp' r ⟨sp, done, h', rfl, a1, a2, a3⟩
      refine ⟨sp, done, h' ++ r, rfl, a1.app, ?_, a3⟩
      rcases a2 with a2 | ⟨k, b1, b2, b3⟩
      · exact .inl a2
      · exact .inr ⟨k, b1, b2.app, b3⟩) (by
      intro x rem hp1 hj
      rw [hJ] at hj
      obtain ⟨sp, done, h', rfl, a1, a2, a3⟩ := hj
      have hdl : done.length ≤ 48 := by rw [← a3] at hol; simp at hol; omega
      have hl1 := a1.lt
      have T1 := At.self (o := L true none) hl1
      have hap : appOk E 11 (done.map dPlace) [dPlace x] := by
        refine ⟨?_, ?_, ?_, fits_place⟩ <;> simp [maxBytes]
        omega
      have LU : ∀ r, (h'.set 0 (L true none) ++ r)[h'.length]? = r[0]? := fun r => by
        have := get_app2 (hp := h'.set 0 (L true none)) (r := r) (k := 0)
        simpa using this
      have hA0 : ∀ (r : List Obj) (h : 0 < (h' ++ r).length), (h' ++ r)[0]'h = L false none := fun r h => by
        have := a1.appE (r := r)
        rw [List.getElem?_eq_getElem h] at this
        exact Option.some.inj this
      obtain ⟨t, hp2, e1, e2⟩ := hcb [dPlace x, dI x.more] (.cells (dProb p).cellsL :: .cells [.imm sp (done.map dPlace)] :: h') (fun t hp' => t = true ∧ J rem hp') rfl (by simpa [At] using a1) (by
        rcases a2 with ⟨rfl, rfl⟩ | ⟨k, rfl, b2, b3⟩
        · have hap0 : appOk E 11 [] [dPlace x] := hap
          simp only [dPlace] at hap0
          simp [setAll, set_app1 hl1, LU, app0_step, app0_exact, hA0, hap0]
          refine ⟨T1.app.get0 _, ?_⟩
          rw [set_app1 T1.lt, hJ]
          refine ⟨.tok (h'.length + 1 + 1 + 1), [x], _, rfl, (At.self T1.lt).app, .inr ⟨h'.length + 1, rfl, ?_, by omega⟩, a3⟩
          have := get_app2 (hp := (h'.set 0 (L true none)).set 0 (L false none)) (r := [.cells [dI x.leaf, dI x.cell], .tok 2 2]) (k := 1)
          simp only [List.length_set] at this
          exact this
        · have B2 := b2.ne (j := 0) (x := L true none) (Ne.symm b3)
          have B2l := B2.lt
          simp only [dPlace] at hap
          simp [setAll, set_app1 hl1, LU, app0_step, app0_tok, hA0, hap, ↓B2.appE, set_app1 B2l]
          have T2 := T1.ne (j := k) (x := .dead) b3
          refine ⟨T2.app.get0 _, ?_⟩
          rw [set_app1 T2.lt, hJ]
          refine ⟨.tok (h'.length + 1 + 1 + 1), done ++ [x], _, by rw [List.map_append]; rfl, (At.self T2.lt).app, .inr ⟨h'.length + 1, rfl, ?_, by omega⟩, by rw [List.append_assoc]; exact a3⟩
          have := get_app2 (hp := ((h'.set 0 (L true none)).set k .dead).set 0 (L false none)) (r := [.cells [dI x.leaf, dI x.cell], .tok ((done.length + 1) * 2) 2]) (k := 1)
          simp only [List.length_set] at this
          rw [List.length_append]
          exact this)
      obtain ⟨rfl, e3⟩ := e2
      exact ⟨true, hp2, e1, fun _ => e3, fun h => by cases h⟩) (hp := .cells (dProb p).cellsL :: .cells [.imm .exact []] :: [L false none]) (by
      rw [hJ]
      exact ⟨.exact, [], _, rfl, rfl, .inl ⟨rfl, rfl⟩, rfl⟩)
  obtain ⟨d, hp', h1, h2⟩ := key
  rcases h2 with h2 | h2
  rotate_left
  · exact h2.elim
  rw [hJ] at h2
  obtain ⟨sp, done, h', rfl, a1, a2, a3⟩ := h2
  rw [List.append_nil] at a3
  subst a3
  refine ⟨d, _, h1, .inl ⟨a1, ?_⟩⟩
  simp [frzL_place]

end Dv
