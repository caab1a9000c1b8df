/- Texts that a proof of this claim uses, joined: Lw.W37. -/
import Derived.Test.YtffnaiofjjgcgaaWm
import Derived.Test.YtffnaiofjjgcgaaWk
import Derived.Test.YtffnaiofjjgcgaaWg
import Derived.Test.YtffnaiofjjgcgaaTy
import Derived.Test.YtffnaiofjjgcgaaSa
set_option linter.all false
/- The laws BoundExact and BoundBelow, but for the examples. -/
namespace Dv
attribute [local simp] wT_skip wK wT_ret wT_exit wR wRp wT_seq wC wT_block rTS_nil rTS_asg rTS_eff rTS_effk ob_some obP_some iteD_b condP_b xv_v xv_c xv_ite xv_bin_tt xv_bin_tc xv_bin_ct xv_bin_cc xv_un_t xv_conv_t xv_load xv_len xv_faddr xv_field xv_iaddr_tt xv_iaddr_tc xv_index_tt xv_index_tc xv_lookup_tt xv_max_tt xv_max_tc xv_max_ct xv_min_tt xv_min_tc xv_min_ct xv_slice_lo_t xv_slice_lo_c xv_slice_hi_t xv_slice_all xv_call xv_bslice bsliceV xv_build buildV xv_mkfn zeroE fillE buildD fillD List.replicate xvs_nil xvs_cons callV_fn frz_bool frz_int frz_imm frz_agg frz_tup frz_fn frz_iptr frzL_nil frzL_one frzL_dI frzL_cell frzL_use frzL_ints frzL_choice frzL_var depth dCell dUse dInts dChoice dVar dProb tStart addO Ret flat_dI flat_rep chunk_dI
 binD_add binD_sub binD_mul binD_eql binD_neq binD_lss binD_leq binD_gtr binD_geq binD_quo binD_rem binD_beql binD_bneq binD_aeql binD_aneq unD_not unD_neg lenD_imm lenD_sl lenD_str readO_cells readO_frozen loadD_loc loadD_iptr iaddrD_imm iaddrD_sl iaddrD_loc faddrD_loc faddrD_iptr fieldD_agg indexD_agg indexD_str cellsL_bool stor_bool atom_bool cellsL_int stor_int atom_int cellsL_str stor_str atom_str cellsL_imm stor_imm atom_imm cellsL_sl stor_sl atom_sl cellsL_loc stor_loc atom_loc cellsL_iptr stor_iptr atom_iptr cellsL_map stor_map atom_map cellsL_fn stor_fn atom_fn cellsL_agg stor_agg cellsL_nilfn stor_nilfn atom_nilfn cellsL_nilp stor_nilp atom_nilp takeC_z takeC_s ofCells_ag ofCells_one ag_bool ag_int ag_str ag_slice ag_struct ag_arr ag_map ag_ptr ag_func gOf_t gOf_c gOf_f kv_cons putE_some putE_none oneRes_one oneRes_two oneRes_three getAll_nil getAll_v getAll_c maxiD_two miniD_two extV_tup xv_ext stepOp_box stepOp_alloc stepOp_store writeO_cells storeD_loc setCells_nil setCells_cons stepOp_mkmap stepOp_mapset stepOp_call1 stepOp_call2 stepOp_app2 stepOp_app1 stepOp_bslice stepOp_mkslice mapO_map lookupD_some lookupD_ok mapsetD_some keyOk_agg kindsL_nil kindsL_bool kindsL_int eqL_nil eqL_cons atomEq_bool atomEq_int frz_sl tokO_tok app0_step app0_exact app0_tok frz_loc oneRes_nil listOf_imm
 ty_0 ty_1 ty_2 ty_3 ty_4 ty_5 ty_6 ty_7 ty_8 ty_9 ty_10 ty_11 ty_12 ty_13 ty_14 ty_15 ty_16 ty_17 ty_18 ty_19 ty_20 ty_21 ty_22 ty_23 ty_24 ty_25 ty_26 ty_27
attribute [local congr] wT_congr ob_congr obP_congr iteD_congr condP_congr

theorem slice_take6 {b : List Int} {n : Nat} (h : n ≤ b.length) : sliceD E 6 (.imm .none (b.map dI)) none (some (.int .i64 (n : Int))) none = some (.imm .none ((b.take n).map dI)) := by
  have hh : headFits 1 (b.map dI) = true := by cases b <;> rfl
  simp [sliceD, bnd, sliceSpare, hh, h]

theorem tmod_nat {m k : Nat} : Int.tmod (m : Int) (k : Int) = ((m % k : Nat) : Int) := by
  rw [Int.tmod_eq_emod_of_nonneg (by omega)]; omega

set_option maxHeartbeats 4000000 in
theorem r55 (a : List Int) (m : Nat) (hm : m ≤ 255) (ha : a.length ≤ 1000) : runP E (dL E) 55 [dInts a, .int .u8 m] = some (dInts (a.take (m % (a.length + 1)))) := by
  refine runP_T c55 (by simp) ?_
  have w1 := wrap_i64 (n := (m : Int)) ⟨by omega, by omega⟩
  have w2 := wrap_i64 (n := (a.length : Int) + 1) ⟨by omega, by omega⟩
  have hle : m % (a.length + 1) ≤ a.length := by have := Nat.mod_lt m (show 0 < a.length + 1 by omega); omega
  have hsl := slice_take6 (b := a) hle
  have ht : Int.tmod (m : Int) ((a.length : Int) + 1) = ((m % (a.length + 1) : Nat) : Int) := by
    have := tmod_nat (m := m) (k := a.length + 1)
    simpa using this
  have hnz : ¬ (a.length : Int) + 1 = 0 := by omega
  rw [show ((m % (a.length + 1) : Nat) : Int) = (m : Int) % ((a.length : Int) + 1) from by simp] at hsl
  obtain ⟨t, htt⟩ : ∃ t, t = a.take (m % (a.length + 1)) := ⟨_, rfl⟩
  have htl : t.length ≤ 1000 := by rw [htt]; simp; omega
  rw [← htt] at hsl ⊢
  have hap : appOk E 2 [] (t.map dI) := by
    refine ⟨?_, ?_, ?_, ?_⟩ <;> simp [maxBytes, fitsE]
    omega
  have hall : ((t.map dI).all fun d => d.storable && d.cellsL.length == 1) = true := by
    rw [List.all_eq_true]
    intro d hd
    obtain ⟨n, _, rfl⟩ := List.mem_map.1 hd
    rfl
  simp [t55, n55, w1, w2, ht, hnz, hsl, convD, app0_step, app0_exact, hall, hap]

/-- a branch of a whole solution -/
theorem whole_take {p : Prob} {a : List Int} (h : Whole p a) {k : Nat} : OkB p (a.take k) := by
  obtain ⟨ok, okb, hl⟩ := h
  refine ⟨by simp; omega, fun i hi hi' => ?_⟩
  simp only [List.length_take] at hi
  rw [List.getElem_take]
  exact okb.each i (by omega) hi'

theorem bound_le {p : Prob} (S : Small p) {a : List Int} (h : Whole p a) : ∀ (m k : Nat), k + m = a.length → ∀ n, (boundL p (a.take k)).getD n 0 ≤ (boundL p a).getD n 0 := by
  intro m
  induction m with
  | zero =>
    intro k hk n
    rw [List.take_of_length_le (by omega)]
    exact Int.le_refl _
  | succ m ih =>
    intro k hk n
    refine Int.le_trans ?_ (ih (k + 1) (by omega) n)
    have hlt : k < a.length := by omega
    have hl : (a.take k).length = k := by simp; omega
    have hv : (a.take k).length < p.vars.length := by rw [hl]; have := h.2.2; omega
    have hw := h.2.1.each k hlt (by have := h.2.2; omega)
    unfold wi at hw
    obtain ⟨i, hi⟩ : ∃ i : Nat, a[k] = i := ⟨a[k].toNat, by omega⟩
    have := (bound_grows S h.1 hv).1 i (by simp only [hl]; omega) n
    rw [List.take_succ_eq_append_getElem hlt, hi]
    exact this

theorem maxD_ge : ∀ {l : List (Int × Choice)} {a : Int}, a ≤ maxD a l
  | [], _ => Int.le_refl _
  | x :: l, a => by
    rw [maxD_cons]
    exact Int.le_trans (by unfold mx; split <;> omega) maxD_ge
theorem bound_pos {p : Prob} (S : Small p) (ok : OkP p) {b : List Int} : ∀ n, 0 ≤ (boundL p b).getD n 0 := by
  intro n
  have hbd := bd_picks (vs := p.vars) (b := b) (fun v hv => ⟨ok.vars v hv, S.leaves v hv⟩)
  unfold boundL
  match n with
  | 0 => exact ovL_pos
  | 1 => exact maxD_ge
  | 2 => exact (sumC_bd hbd).1
  | 3 => exact (sumG_bd hbd).1
  | n + 4 => simp

set_option maxHeartbeats 4000000 in
theorem law53 (h1 : runP E (dL E) 1 [] = some (.bool true)) (p : Prob) (b : List Int) : runP E (dL E) 53 [dProb p, dInts b] = some (.bool true) := by
  refine runP_T c53 (by simp) ?_
  have h2 := r2 p
  simp only [dProb] at h2
  simp [t53, n53, h1, h2]
  cases hf : fewB p with
  | false => simp
  | true =>
  have S := few_small hf
  simp
  by_cases hb : (20 : Int) < b.length
  · have hb2 : ¬ (b.length : Int) ≤ 20 := by omega
    simp [hb, hb2]
  have hb' : b.length ≤ 20 := by omega
  have hb2 : (b.length : Int) ≤ 20 := by omega
  simp [hb, hb2]
  have h22 := r22 p b S hb'
  have h3 := r3 p b S hb'
  by_cases h0 : Whole p b
  · have hk := bk_pos (e := 280) h0.1 h0.2.1
    have h5 := r5 (boundL p b) (boundL p b) (by simp [boundL])
    simp only [resV, if_pos h0] at h22
    simp only [resB, if_pos hk] at h3
    obtain ⟨v, hv⟩ : ∃ v, v = boundL p b := ⟨_, rfl⟩
    rw [← hv] at h3 h22 h5
    simp only [dProb, dInts, decide_true] at h3 h22 h5
    simp [h3, h22, h5]
  · simp only [resV, if_neg h0] at h22
    by_cases hk : bk p b 280 = 0
    · obtain ⟨ok, okb⟩ := bk_ok hk (by decide)
      have hl : b.length < p.vars.length := by
        have := okb.len
        have : b.length ≠ p.vars.length := fun e => h0 ⟨ok, okb, e⟩
        omega
      simp only [resB, if_pos hk] at h3
      simp only [dProb, dInts] at h3 h22
      simp [h3, h22, hl]
    · simp only [resB, if_neg hk] at h3
      simp only [dProb, dInts] at h3 h22
      simp [h3, h22, hk]

theorem fourJ {ds : List Int} (h : ds.length = 4) : ∃ a b c d, ds = [a, b, c, d] := by
  match ds, h with
  | [a, b, c, d], _ => exact ⟨a, b, c, d, rfl⟩

theorem wrapN1 : Go.IntKind.i64.wrap 1 = 1 := by decide
theorem wrapN2 : Go.IntKind.i64.wrap 2 = 2 := by decide
theorem wrapN3 : Go.IntKind.i64.wrap 3 = 3 := by decide
theorem wrapN4 : Go.IntKind.i64.wrap 4 = 4 := by decide

set_option maxHeartbeats 4000000 in
theorem law54 (h1 : runP E (dL E) 1 [] = some (.bool true)) (p : Prob) (b : List Int) (m : Nat) (hm : m ≤ 255) : runP E (dL E) 54 [dProb p, dInts b, .int .u8 m] = some (.bool true) := by
  refine runP_T c54 (by simp) ?_
  have h2 := r2 p
  simp only [dProb] at h2
  simp [t54, n54, h1, h2]
  cases hf : fewB p with
  | false => simp
  | true =>
  have S := few_small hf
  simp
  by_cases hb : (20 : Int) < b.length
  · have hb2 : ¬ (b.length : Int) ≤ 20 := by omega
    simp [hb, hb2]
  have hb' : b.length ≤ 20 := by omega
  have hb2 : (b.length : Int) ≤ 20 := by omega
  simp [hb, hb2]
  have h22 := r22 p b S hb'
  by_cases h0 : Whole p b
  rotate_left
  · simp only [resV, if_neg h0] at h22
    simp only [dProb, dInts] at h22
    simp [h22]
  simp only [resV, if_pos h0] at h22
  have h55 := r55 b m hm (by omega)
  obtain ⟨k, hk⟩ : ∃ k, k = m % (b.length + 1) := ⟨_, rfl⟩
  have hkl : k ≤ b.length := by have := Nat.mod_lt m (show 0 < b.length + 1 by omega); omega
  rw [← hk] at h55
  have h3 := r3 p (b.take k) S (by simp; omega)
  have hbk := bk_pos (e := 280) h0.1 (whole_take h0 (k := k))
  simp only [resB, if_pos hbk] at h3
  have hle := bound_le S h0 (b.length - k) k (by omega)
  have hps := bound_pos S h0.1 (b := b.take k)
  obtain ⟨c, hc⟩ : ∃ c, c = b.take k := ⟨_, rfl⟩
  rw [← hc] at h55 h3 hle hps
  obtain ⟨w, hw⟩ : ∃ w, w = boundL p c := ⟨_, rfl⟩
  obtain ⟨v, hv⟩ : ∃ v, v = boundL p b := ⟨_, rfl⟩
  have hwl : w.length = 4 := by rw [hw]; rfl
  have hvl : v.length = 4 := by rw [hv]; rfl
  rw [← hw] at h3 hle hps
  rw [← hv] at h22 hle
  have h30 := r30 w v (by omega) (by omega)
  unfold resC at h30
  rw [if_pos (by omega)] at h30
  have hcb := cmpL_below (by omega) hle
  obtain ⟨q, hq⟩ : ∃ q, q = cmpL w v := ⟨_, rfl⟩
  rw [← hq] at h30 hcb
  clear hw hv hq
  obtain ⟨w0, w1, w2, w3, rfl⟩ := fourJ hwl
  obtain ⟨v0, v1, v2, v3, rfl⟩ := fourJ hvl
  have l0 := hle 0
  have l1 := hle 1
  have l2 := hle 2
  have l3 := hle 3
  have p0 := hps 0
  have p1 := hps 1
  have p2 := hps 2
  have p3 := hps 3
  simp only [List.getD_cons_zero, List.getD_cons_succ] at l0 l1 l2 l3 p0 p1 p2 p3
  simp only [dProb, dInts, List.map_cons, List.map_nil] at h22 h55 h3 h30
  simp [h22, h55, h3]
  refine wT_up 4 (fun i env hp => ∃ (x10 x11 x12 x13 x14 x15 x16 x17 x18 x19 x20 : D) (h : List Obj), env = [dProb p, dInts b, .int .u8 m, .loc 0 0, .bool false, .imm .none [dI v0, dI v1, dI v2, dI v3], dI 0, .imm .none [dI w0, dI w1, dI w2, dI w3], dI 0, dI i, x10, x11, x12, x13, x14, x15, x16, x17, x18, x19, x20] ∧ hp = .cells (dProb p).cellsL :: h) 0 (by omega) ⟨_, _, _, _, _, _, _, _, _, _, _, _, rfl, rfl⟩ ?_
  rintro i env hp hi ⟨x10, x11, x12, x13, x14, x15, x16, x17, x18, x19, x20, h, rfl, rfl⟩
  by_cases h4 : i < 4
  · obtain rfl | rfl | rfl | rfl : i = 0 ∨ i = 1 ∨ i = 2 ∨ i = 3 := by omega
    · have n0 : ¬ v0 < w0 := by omega
      have n1 : ¬ w0 < 0 := by omega
      simp [n0, n1, wrapN1]
    · have n0 : ¬ v1 < w1 := by omega
      have n1 : ¬ w1 < 0 := by omega
      simp [n0, n1, wrapN2]
    · have n0 : ¬ v2 < w2 := by omega
      have n1 : ¬ w2 < 0 := by omega
      simp [n0, n1, wrapN3]
    · have n0 : ¬ v3 < w3 := by omega
      have n1 : ¬ w3 < 0 := by omega
      simp [n0, n1, wrapN4]
  · have : i = 4 := by omega
    subst this
    simp [h30, hcb]

theorem boundExact : ∀ xs, TypedL E [0, 6] xs → ∃ n, runP E (dC E n) 53 xs = some (.bool true) := by
  intro xs h
  match xs, h with
  | [x, y], ⟨h1, h2, _⟩ =>
    obtain ⟨p, rfl, _⟩ := ty_prob h1
    obtain ⟨l, rfl, _⟩ := ty_nums h2 rfl
    exact runP_ex (law53 sane1' p l)
  | [], h => exact h.elim
  | [_], h => exact h.2.elim
  | _ :: _ :: _ :: _, h => exact h.2.2.elim

theorem boundBelow : ∀ xs, TypedL E [0, 6, 13] xs → ∃ n, runP E (dC E n) 54 xs = some (.bool true) := by
  intro xs h
  match xs, h with
  | [x, y, z], ⟨h1, h2, h3, _⟩ =>
    obtain ⟨p, rfl, _⟩ := ty_prob h1
    obtain ⟨l, rfl, _⟩ := ty_nums h2 rfl
    obtain ⟨m, rfl, hm⟩ := ty_u8 h3 rfl
    exact runP_ex (law54 sane1' p l m hm)
  | [], h => exact h.elim
  | [_], h => exact h.2.elim
  | [_, _], h => exact h.2.2.elim
  | _ :: _ :: _ :: _ :: _, h => exact h.2.2.2.elim

end Dv
