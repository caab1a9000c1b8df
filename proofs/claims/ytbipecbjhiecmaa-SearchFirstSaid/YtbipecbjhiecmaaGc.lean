/- Texts that a proof of this claim uses, joined: Lw.W107. -/
import Derived.Test.YtbipecbjhiecmaaGb
set_option linter.all false
namespace Dv
attribute [local simp] wT_skip wK wT_ret wT_exit wR wRp wT_seq wC wT_block rTS_nil rTS_asg rTS_eff rTS_effk rTS_effg gdV_b binD_and binD_or binD_xor stepOp_call3 closed_bool closed_int closed_tup flatB_bool flatB_int frzX_tup frzX_exact frz1_exact frz1_none frz1_int ob_some obP_some iteD_b condP_b xv_v xv_c xv_ite xv_bin_tt xv_bin_tc xv_bin_ct xv_bin_cc xv_un_t xv_conv_t xv_load xv_len xv_faddr xv_field xv_iaddr_tt xv_iaddr_tc xv_index_tt xv_index_tc xv_lookup_tt xv_max_tt xv_max_tc xv_max_ct xv_min_tt xv_min_tc xv_min_ct xv_slice_lo_t xv_slice_lo_c xv_slice_hi_t xv_slice_all xv_call xv_bslice bsliceV xv_build buildV xv_mkfn zeroE fillE buildD fillD List.replicate xvs_nil xvs_cons callV_fn frz_bool frz_int frz_imm frz_agg frz_tup frz_fn frz_iptr frzL_nil frzL_one frzL_dI frzL_cell frzL_use frzL_ints frzL_choice frzL_var depth dCell dUse dInts dChoice dVar dProb tStart addO Ret flat_dI flat_rep chunk_dI
 binD_add binD_sub binD_mul binD_eql binD_neq binD_lss binD_leq binD_gtr binD_geq binD_quo binD_rem binD_beql binD_bneq binD_aeql binD_aneq unD_not unD_neg lenD_imm lenD_sl lenD_str readO_cells readO_frozen loadD_loc loadD_iptr iaddrD_imm iaddrD_sl iaddrD_loc faddrD_loc faddrD_iptr fieldD_agg indexD_agg indexD_str cellsL_bool stor_bool atom_bool cellsL_int stor_int atom_int cellsL_str stor_str atom_str cellsL_imm stor_imm atom_imm cellsL_sl stor_sl atom_sl cellsL_loc stor_loc atom_loc cellsL_iptr stor_iptr atom_iptr cellsL_map stor_map atom_map cellsL_fn stor_fn atom_fn cellsL_agg stor_agg cellsL_nilfn stor_nilfn atom_nilfn cellsL_nilp stor_nilp atom_nilp takeC_z takeC_s ofCells_ag ofCells_one ag_bool ag_int ag_str ag_slice ag_struct ag_arr ag_map ag_ptr ag_func gOf_t gOf_c gOf_f kv_cons putE_some putE_none oneRes_one oneRes_two oneRes_three getAll_nil getAll_v getAll_c maxiD_two miniD_two extV_tup xv_ext stepOp_box stepOp_alloc stepOp_store writeO_cells storeD_loc setCells_nil setCells_cons stepOp_mkmap stepOp_mapset stepOp_call1 stepOp_call2 stepOp_app2 stepOp_app1 stepOp_bslice stepOp_mkslice mapO_map lookupD_some lookupD_ok mapsetD_some keyOk_agg kindsL_nil kindsL_bool kindsL_int eqL_nil eqL_cons atomEq_bool atomEq_int frz_sl tokO_tok app0_step app0_exact app0_tok frz_loc oneRes_nil listOf_imm
  ty_0 ty_1 ty_2 ty_3 ty_4 ty_6 ty_7 ty_8 ty_9 ty_10 ty_11 ty_13 ty_14 ty_15 ty_16 ty_17 ty_18 ty_19 ty_20 ty_21 ty_22 ty_23 ty_24 ty_26 ty_28 ty_29 ty_30 ty_31 ty_32 ty_33 ty_34 ty_35
attribute [local congr] wT_congr ob_congr obP_congr iteD_congr condP_congr gdV_congr


set_option maxHeartbeats 16000000 in
theorem law147 (h1 : runP E (dL E) 128 [] = some (.bool true)) (p : Prob) (a : List Int) : runP E (dL E) 147 [dProb p, dInts a] = some (.bool true) := by
  refine runP_T c147 (by simp) ?_
  have h129 := r129 p
  simp only [dProb, dInts] at h129
  cases hf : lightB p with
  | false => simp [t147, n147, h1, h129, hf]
  | true =>
  by_cases ha : (70 : Int) < a.length
  · simp [t147, n147, h1, h129, hf, ha]
  have ha' : (a.length : Int) ≤ 70 := by omega
  have S := light_small hf
  have h131 := r131 p S
  unfold resSolve at h131
  by_cases h0 : ck p = 0
  rotate_left
  · have h15 := r15 p S
    rw [if_neg h0] at h131
    simp only [dProb, dCert, cert0, dInts, List.map_nil] at h131 h15
    have w0 : Go.IntKind.i64.wrap 0 = 0 := by decide
    simp [t147, n147, h1, h129, hf, ha', h131, h0, h15, w0]
  have ok := ck_ok h0
  rw [if_pos h0] at h131
  obtain ⟨w, e, hbest⟩ := solve_best S ok
  have s3 := S.vars
  obtain ⟨C, hC⟩ : ∃ C, C = certS (solveS p) := ⟨_, rfl⟩
  have hcv : C.value = (solveS p).value := by rw [hC]; rfl
  have hcb : C.best = (solveS p).best := by rw [hC]; rfl
  rw [← hC] at h131
  rw [← hcv, ← hcb] at e
  rw [← hcb] at w hbest
  have h22 := q22 p C.best S
  unfold resV at h22
  rw [if_pos w, ← e] at h22
  have h5 := r5 C.value C.value (by rw [e]; simp [boundL])
  simp only [decide_true] at h5
  have hnb : ∀ x, Whole p x → decide (betterI p x C.best < 0) = false := fun x wx => by
    have := hbest x wx
    rw [better_anti] at this
    simp only [decide_eq_false_iff_not]; omega
  have h24 := q24 p a C.best S
  obtain ⟨B, Z, h24', hBZ⟩ : ∃ (B : Bool) (Z : Int), runP E (dL E) 24 [dProb p, dInts a, dInts C.best] = some (.tup [.bool B, dI Z]) ∧ (if Z = 0 then B else false) = false := by
    unfold resBt at h24
    by_cases wa : Whole p a ∧ Whole p C.best
    · rw [if_pos wa, hnb a wa.1] at h24
      exact ⟨_, _, h24, by simp⟩
    · rw [if_neg wa] at h24
      exact ⟨_, _, h24, by simp⟩
  simp only [dProb, dCert, dInts] at h131 h22 h5 h24'
  have hmb : (p.vars.length : Int) * 9 ≤ 17592186044416 := by omega
  have hst : ∀ (hp : List Obj) (n : Nat), True := fun _ _ => trivial
  by_cases hB : Z = 0
  rotate_left
  · simp [t147, n147, h1, h129, hf, ha', h131, h22, h5, h24', hB, maxBytes, hmb]
    refine wT_loop (fun m env hp => ∃ (x5 x6 x7 x8 x9 x11 x12 x13 x14 x15 x16 x17 x18 x19 x20 x21 x22 x23 x24 x25 x26 x27 : D) (x : List Int), env = [dProb p, dInts a, .loc 0 0, .bool false, .loc 1 0, x5, x6, x7, x8, x9, .sl 2 0 p.vars.length 1 false true, x11, x12, x13, x14, x15, x16, x17, x18, x19, x20, x21, x22, x23, x24, x25, x26, x27] ∧ Whole p x ∧ m = remC p.vars x ∧ At hp 0 (.cells (dProb p).cellsL) ∧ At hp 1 (.cells (dCert C).cellsL) ∧ At hp 2 (.cells (x.map dI))) (remC p.vars (List.replicate p.vars.length 0))
      ⟨_, _, _, _, _, _, _, _, _, _, _, _, _, _, _, _, _, _, _, _, _, _, List.replicate p.vars.length 0, rfl, first_nil ok, rfl, rfl, rfl, by simp [At]⟩ ?_
    rintro m env hp ⟨x5, x6, x7, x8, x9, x11, x12, x13, x14, x15, x16, x17, x18, x19, x20, x21, x22, x23, x24, x25, x26, x27, x, rfl, wx, hm, g0, g1, g2⟩
    have hxl : x.length = p.vars.length := wx.2.2
    have h24x := q24 p x C.best S
    unfold resBt at h24x
    rw [if_pos ⟨wx, w⟩, hnb x wx] at h24x
    have hch := chunk_dI (l := x)
    rw [hxl] at hch
    simp only [dProb, dInts] at h24x
    have wn := wrap_i64 (n := (p.vars.length : Int) - 1) ⟨by omega, by omega⟩
    simp [g0.eq, g1.eq, g2.eq, hch, h24x, wn]
    refine wT_loop (fun j env hp => ∃ (x5 x6 x7 x8 x9 x11 x12 x14 x15 x16 x17 x18 x19 x20 x21 x22 x23 x24 x25 x26 x27 : D) (z : Int), env = [dProb p, dInts a, .loc 0 0, .bool false, .loc 1 0, x5, x6, x7, x8, x9, .sl 2 0 p.vars.length 1 false true, x11, x12, dI z, x14, x15, x16, x17, x18, x19, x20, x21, x22, x23, x24, x25, x26, x27] ∧ z = (j : Int) - 1 ∧ j ≤ x.length ∧ At hp 0 (.cells (dProb p).cellsL) ∧ At hp 1 (.cells (dCert C).cellsL) ∧ At hp 2 (.cells ((rowC x j).map dI))) p.vars.length
      ⟨_, _, _, _, _, _, _, _, _, _, _, _, _, _, _, _, _, _, _, _, _, _, rfl, rfl, by omega, g0, g1, by rw [← hxl, rowC_all]; exact g2⟩ ?_
    clear g0 g1 g2 hp
    rintro j env hp ⟨x5, x6, x7, x8, x9, x11, x12, x14, x15, x16, x17, x18, x19, x20, x21, x22, x23, x24, x25, x26, x27, z, rfl, hz, hj, g0, g1, g2⟩
    have l2 := g2.lt
    cases j with
    | zero =>
      have hz' : z = -1 := by omega
      subst hz'
      simp
    | succ i =>
      have hz' : z = i := by omega
      subst hz'
      have hi : i < x.length := by omega
      have hiv : i < p.vars.length := by omega
      have hw := wx.2.1.each i hi hiv
      unfold wi at hw
      have l8 := S.choices _ (List.getElem_mem hiv)
      have w1 := wrap_i64 (n := (p.vars[i].choices.length : Int) - 1) ⟨by omega, by omega⟩
      have w2 := wrap_i64 (n := (i : Int) - 1) ⟨by omega, by omega⟩
      have w3 := wrap_i64 (n := x[i] + 1) ⟨by omega, by omega⟩
      obtain ⟨R, hR⟩ : ∃ R, R = rowC x (i + 1) := ⟨_, rfl⟩
      have hRl : R.length = p.vars.length := by rw [hR, rowC_len (by omega), hxl]
      have hRi : i < R.length := by omega
      have hRg : R[i] = x[i] := by
        have := rowC_get (x := x) (i := i + 1) (j := i) (by omega) (by omega)
        rw [← hR, List.getElem?_eq_getElem hRi, List.getElem?_eq_getElem hi, Option.some.injEq] at this
        exact this
      have hR0 : (List.map dI R).set i (.int .i64 0) = (rowC x i).map dI := by
        rw [← rowC_set hi, ← hR, List.map_set]
      have hR1 : (List.map dI R).set i (.int .i64 (x[i] + 1)) = (x.take i ++ (x[i] + 1) :: List.replicate (x.length - i - 1) 0).map dI := by
        rw [← rowC_up hi, ← hR, List.map_set]
      have hRi1 : i + 1 ≤ R.length := hRi
      rw [← hR] at g2
      by_cases q : x[i] = (p.vars[i].choices.length : Int) - 1
      · simp [↓g0.appE, ↓g1.appE, ↓g2.appE, hiv, hRi, hRg, w1, q, hRi1, hR0, w2]
        refine ⟨i, by omega, ?_⟩
        repeat apply Exists.intro
        exact ⟨by and_intros <;> rfl, rfl, by omega, g0.app.ne (by omega), g1.app.ne (by omega), At.self (by simp)⟩
      · obtain ⟨X, hX⟩ : ∃ X, X = x.take i ++ (x[i] + 1) :: List.replicate (x.length - i - 1) 0 := ⟨_, rfl⟩
        rw [← hX] at hR1
        have wX : Whole p X := by rw [hX]; exact next_whole wx hi hiv (by omega)
        have lt : remC p.vars X < m := by
          rw [hX, hm]
          exact remC_next hi hxl (fun v hv => (ok.vars v hv).one) (by omega) (by omega)
        simp [↓g0.appE, ↓g1.appE, ↓g2.appE, hiv, hRi, hRg, w1, q, hRi1, hR1, w3]
        exact ⟨_, lt, X, wX, rfl, g0.app.ne (by omega), g1.app.ne (by omega), At.self (by simp)⟩
  · rw [if_pos hB] at hBZ
    simp [t147, n147, h1, h129, hf, ha', h131, h22, h5, h24', hB, hBZ, maxBytes, hmb]
    refine wT_loop (fun m env hp => ∃ (x5 x6 x7 x8 x9 x11 x12 x13 x14 x15 x16 x17 x18 x19 x20 x21 x22 x23 x24 x25 x26 x27 : D) (x : List Int), env = [dProb p, dInts a, .loc 0 0, .bool false, .loc 1 0, x5, x6, x7, x8, x9, .sl 2 0 p.vars.length 1 false true, x11, x12, x13, x14, x15, x16, x17, x18, x19, x20, x21, x22, x23, x24, x25, x26, x27] ∧ Whole p x ∧ m = remC p.vars x ∧ At hp 0 (.cells (dProb p).cellsL) ∧ At hp 1 (.cells (dCert C).cellsL) ∧ At hp 2 (.cells (x.map dI))) (remC p.vars (List.replicate p.vars.length 0))
      ⟨_, _, _, _, _, _, _, _, _, _, _, _, _, _, _, _, _, _, _, _, _, _, List.replicate p.vars.length 0, rfl, first_nil ok, rfl, rfl, rfl, by simp [At]⟩ ?_
    rintro m env hp ⟨x5, x6, x7, x8, x9, x11, x12, x13, x14, x15, x16, x17, x18, x19, x20, x21, x22, x23, x24, x25, x26, x27, x, rfl, wx, hm, g0, g1, g2⟩
    have hxl : x.length = p.vars.length := wx.2.2
    have h24x := q24 p x C.best S
    unfold resBt at h24x
    rw [if_pos ⟨wx, w⟩, hnb x wx] at h24x
    have hch := chunk_dI (l := x)
    rw [hxl] at hch
    simp only [dProb, dInts] at h24x
    have wn := wrap_i64 (n := (p.vars.length : Int) - 1) ⟨by omega, by omega⟩
    simp [g0.eq, g1.eq, g2.eq, hch, h24x, wn]
    refine wT_loop (fun j env hp => ∃ (x5 x6 x7 x8 x9 x11 x12 x14 x15 x16 x17 x18 x19 x20 x21 x22 x23 x24 x25 x26 x27 : D) (z : Int), env = [dProb p, dInts a, .loc 0 0, .bool false, .loc 1 0, x5, x6, x7, x8, x9, .sl 2 0 p.vars.length 1 false true, x11, x12, dI z, x14, x15, x16, x17, x18, x19, x20, x21, x22, x23, x24, x25, x26, x27] ∧ z = (j : Int) - 1 ∧ j ≤ x.length ∧ At hp 0 (.cells (dProb p).cellsL) ∧ At hp 1 (.cells (dCert C).cellsL) ∧ At hp 2 (.cells ((rowC x j).map dI))) p.vars.length
      ⟨_, _, _, _, _, _, _, _, _, _, _, _, _, _, _, _, _, _, _, _, _, _, rfl, rfl, by omega, g0, g1, by rw [← hxl, rowC_all]; exact g2⟩ ?_
    clear g0 g1 g2 hp
    rintro j env hp ⟨x5, x6, x7, x8, x9, x11, x12, x14, x15, x16, x17, x18, x19, x20, x21, x22, x23, x24, x25, x26, x27, z, rfl, hz, hj, g0, g1, g2⟩
    have l2 := g2.lt
    cases j with
    | zero =>
      have hz' : z = -1 := by omega
      subst hz'
      simp
    | succ i =>
      have hz' : z = i := by omega
      subst hz'
      have hi : i < x.length := by omega
      have hiv : i < p.vars.length := by omega
      have hw := wx.2.1.each i hi hiv
      unfold wi at hw
      have l8 := S.choices _ (List.getElem_mem hiv)
      have w1 := wrap_i64 (n := (p.vars[i].choices.length : Int) - 1) ⟨by omega, by omega⟩
      have w2 := wrap_i64 (n := (i : Int) - 1) ⟨by omega, by omega⟩
      have w3 := wrap_i64 (n := x[i] + 1) ⟨by omega, by omega⟩
      obtain ⟨R, hR⟩ : ∃ R, R = rowC x (i + 1) := ⟨_, rfl⟩
      have hRl : R.length = p.vars.length := by rw [hR, rowC_len (by omega), hxl]
      have hRi : i < R.length := by omega
      have hRg : R[i] = x[i] := by
        have := rowC_get (x := x) (i := i + 1) (j := i) (by omega) (by omega)
        rw [← hR, List.getElem?_eq_getElem hRi, List.getElem?_eq_getElem hi, Option.some.injEq] at this
        exact this
      have hR0 : (List.map dI R).set i (.int .i64 0) = (rowC x i).map dI := by
        rw [← rowC_set hi, ← hR, List.map_set]
      have hR1 : (List.map dI R).set i (.int .i64 (x[i] + 1)) = (x.take i ++ (x[i] + 1) :: List.replicate (x.length - i - 1) 0).map dI := by
        rw [← rowC_up hi, ← hR, List.map_set]
      have hRi1 : i + 1 ≤ R.length := hRi
      rw [← hR] at g2
      by_cases q : x[i] = (p.vars[i].choices.length : Int) - 1
      · simp [↓g0.appE, ↓g1.appE, ↓g2.appE, hiv, hRi, hRg, w1, q, hRi1, hR0, w2]
        refine ⟨i, by omega, ?_⟩
        repeat apply Exists.intro
        exact ⟨by and_intros <;> rfl, rfl, by omega, g0.app.ne (by omega), g1.app.ne (by omega), At.self (by simp)⟩
      · obtain ⟨X, hX⟩ : ∃ X, X = x.take i ++ (x[i] + 1) :: List.replicate (x.length - i - 1) 0 := ⟨_, rfl⟩
        rw [← hX] at hR1
        have wX : Whole p X := by rw [hX]; exact next_whole wx hi hiv (by omega)
        have lt : remC p.vars X < m := by
          rw [hX, hm]
          exact remC_next hi hxl (fun v hv => (ok.vars v hv).one) (by omega) (by omega)
        simp [↓g0.appE, ↓g1.appE, ↓g2.appE, hiv, hRi, hRg, w1, q, hRi1, hR1, w3]
        exact ⟨_, lt, X, wX, rfl, g0.app.ne (by omega), g1.app.ne (by omega), At.self (by simp)⟩

theorem searchFirst : ∀ xs, TypedL E [0, 6] xs → ∃ n, runP E (dC E n) 147 xs = some (.bool true) := by
  intro xs h
  match xs, h with
  | [x, y], ⟨h1, h2, _⟩ =>
    obtain ⟨p, rfl, _⟩ := ty_prob h1
    obtain ⟨a, rfl, _⟩ := ty_nums h2 rfl
    exact runP_ex (law147 sane128' p a)
  | [], h => exact h.elim
  | [_], h => exact h.2.elim
  | _ :: _ :: _ :: _, h => exact h.2.2.elim

end Dv
