/- Texts that a proof of this claim uses, joined: Lw.W38. -/
import Derived.Test.YtffnaiofjjgcgaaWn
import Derived.Test.YtffnaiofjjgcgaaNb
set_option linter.all false
/- The law BoundDivides, but for the examples. -/
namespace Dv
attribute [local simp] wT_skip wK wT_ret wT_exit wR wRp wT_seq wC wT_block rTS_nil rTS_asg rTS_eff rTS_effk ob_some obP_some iteD_b condP_b xv_v xv_c xv_ite xv_bin_tt xv_bin_tc xv_bin_ct xv_bin_cc xv_un_t xv_conv_t xv_load xv_len xv_faddr xv_field xv_iaddr_tt xv_iaddr_tc xv_index_tt xv_index_tc xv_lookup_tt xv_max_tt xv_max_tc xv_max_ct xv_min_tt xv_min_tc xv_min_ct xv_slice_lo_t xv_slice_lo_c xv_slice_hi_t xv_slice_all xv_call xv_bslice bsliceV xv_build buildV xv_mkfn zeroE fillE buildD fillD List.replicate xvs_nil xvs_cons callV_fn frz_bool frz_int frz_imm frz_agg frz_tup frz_fn frz_iptr frzL_nil frzL_one frzL_dI frzL_cell frzL_use frzL_ints frzL_choice frzL_var depth dCell dUse dInts dChoice dVar dProb tStart addO Ret flat_dI flat_rep chunk_dI
 binD_add binD_sub binD_mul binD_eql binD_neq binD_lss binD_leq binD_gtr binD_geq binD_quo binD_rem binD_beql binD_bneq binD_aeql binD_aneq unD_not unD_neg lenD_imm lenD_sl lenD_str readO_cells readO_frozen loadD_loc loadD_iptr iaddrD_imm iaddrD_sl iaddrD_loc faddrD_loc faddrD_iptr fieldD_agg indexD_agg indexD_str cellsL_bool stor_bool atom_bool cellsL_int stor_int atom_int cellsL_str stor_str atom_str cellsL_imm stor_imm atom_imm cellsL_sl stor_sl atom_sl cellsL_loc stor_loc atom_loc cellsL_iptr stor_iptr atom_iptr cellsL_map stor_map atom_map cellsL_fn stor_fn atom_fn cellsL_agg stor_agg cellsL_nilfn stor_nilfn atom_nilfn cellsL_nilp stor_nilp atom_nilp takeC_z takeC_s ofCells_ag ofCells_one ag_bool ag_int ag_str ag_slice ag_struct ag_arr ag_map ag_ptr ag_func gOf_t gOf_c gOf_f kv_cons putE_some putE_none oneRes_one oneRes_two oneRes_three getAll_nil getAll_v getAll_c maxiD_two miniD_two extV_tup xv_ext stepOp_box stepOp_alloc stepOp_store writeO_cells storeD_loc setCells_nil setCells_cons stepOp_mkmap stepOp_mapset stepOp_call1 stepOp_call2 stepOp_app2 stepOp_app1 stepOp_bslice stepOp_mkslice mapO_map lookupD_some lookupD_ok mapsetD_some keyOk_agg kindsL_nil kindsL_bool kindsL_int eqL_nil eqL_cons atomEq_bool atomEq_int frz_sl tokO_tok app0_step app0_exact app0_tok frz_loc oneRes_nil listOf_imm
 ty_0 ty_1 ty_2 ty_3 ty_4 ty_5 ty_6 ty_7 ty_8 ty_9 ty_10 ty_11 ty_12 ty_13 ty_14 ty_15 ty_16 ty_17 ty_18 ty_19 ty_20 ty_21 ty_22 ty_23 ty_24 ty_25 ty_26 ty_27
attribute [local congr] wT_congr ob_congr obP_congr iteD_congr condP_congr

theorem begins_iff {a : List Int} {k : Nat} {x : Int} (h : k < a.length) : (a.take k ++ [x]).isPrefixOf a = decide (a[k] = x) := by
  have e : a = a.take k ++ (a[k] :: a.drop (k + 1)) := by rw [← drop_cons h, List.take_append_drop]
  have h1 : (a.take k ++ [x] <+: a) ↔ a[k] = x := by
    constructor
    · intro hp
      have hp2 : a.take k ++ [x] <+: a.take k ++ (a[k] :: a.drop (k + 1)) := by rw [← e]; exact hp
      have h2 := (List.prefix_append_right_inj _).1 hp2
      simp only [List.cons_prefix_cons] at h2
      exact h2.1.symm
    · intro hx
      subst hx
      exact ⟨a.drop (k + 1), by rw [List.append_assoc]; exact e.symm⟩
  by_cases hx : a[k] = x
  · rw [List.isPrefixOf_iff_prefix.2 (h1.2 hx)]; simp [hx]
  · have : (a.take k ++ [x]).isPrefixOf a = false := by
      cases hb : (a.take k ++ [x]).isPrefixOf a with
      | false => rfl
      | true => exact absurd (h1.1 (List.isPrefixOf_iff_prefix.1 hb)) hx
    rw [this]; simp [hx]

theorem begins_app {a b : List Int} : a.isPrefixOf (a ++ b) = true := List.isPrefixOf_iff_prefix.2 (List.prefix_append a b)

theorem first_get1 {p : Prob} {a : List Int} {k i : Nat} (hk : k ≤ a.length) (e : i < k) : (firstL p (a.take k))[i]? = a[i]? := by
  unfold firstL
  rw [List.getElem?_append_left (by simp; omega), List.getElem?_take, if_pos e]
theorem first_get2 {p : Prob} {a : List Int} {k i : Nat} (hk : k ≤ a.length) (hl : a.length = p.vars.length) (e : ¬ i < k) (hi : i < p.vars.length) : (firstL p (a.take k))[i]? = some 0 := by
  unfold firstL
  rw [List.getElem?_append_right (by simp; omega), List.getElem?_replicate, if_pos (by simp; omega)]

/-- the first solution of a branch of a solution is a solution -/
theorem first_whole {p : Prob} {a : List Int} (h : Whole p a) {k : Nat} (hk : k ≤ a.length) : Whole p (firstL p (a.take k)) := by
  obtain ⟨ok, okb, hl⟩ := h
  have hfl : (firstL p (a.take k)).length = p.vars.length := by simp [firstL]; omega
  refine ⟨ok, ⟨by omega, fun i hi hi' => ?_⟩, hfl⟩
  have okv := (ok.vars _ (List.getElem_mem hi')).one
  by_cases e : i < k
  · have h1 := first_get1 (p := p) hk e
    rw [List.getElem?_eq_getElem hi, List.getElem?_eq_getElem (by omega)] at h1
    rw [Option.some.inj h1]
    exact okb.each i (by omega) hi'
  · have h1 := first_get2 hk hl e hi'
    rw [List.getElem?_eq_getElem hi] at h1
    rw [Option.some.inj h1]
    unfold wi; omega

theorem first_below {p : Prob} {a : List Int} (h : Whole p a) {k : Nat} (hk : k ≤ a.length) (n : Nat) : (firstL p (a.take k)).getD n 0 ≤ a.getD n 0 := by
  obtain ⟨ok, okb, hl⟩ := h
  have hfl : (firstL p (a.take k)).length = p.vars.length := by simp [firstL]; omega
  by_cases hn : n < p.vars.length
  · rw [List.getD_eq_getElem?_getD, List.getD_eq_getElem?_getD]
    have hw := okb.each n (by omega) hn
    unfold wi at hw
    by_cases e : n < k
    · rw [first_get1 hk e]; exact Int.le_refl _
    · rw [first_get2 hk hl e hn, List.getElem?_eq_getElem (by omega), Option.getD_some, Option.getD_some]; omega
  · rw [List.getD_eq_getElem?_getD, List.getD_eq_getElem?_getD, List.getElem?_eq_none (by omega), List.getElem?_eq_none (by omega)]
    exact Int.le_refl _

set_option maxHeartbeats 16000000 in
theorem law56 (h1 : runP E (dL E) 1 [] = some (.bool true)) (p : Prob) (b : List Int) (m : Nat) (hm : m ≤ 255) : runP E (dL E) 56 [dProb p, dInts b, .int .u8 m] = some (.bool true) := by
  refine runP_T c56 (by simp) ?_
  have h2 := r2 p
  simp only [dProb] at h2
  simp [t56, n56, h1, h2]
  cases hf : fewB p with
  | false => simp
  | true =>
  have S := few_small hf
  simp
  by_cases hb : (20 : Int) < b.length
  · have hb2 : ¬ (b.length : Int) ≤ 20 := by omega
    simp [hb, hb2]
  have hb' : b.length ≤ 20 := by omega
  have hb2 : (b.length : Int) ≤ 20 := by omega
  simp [hb, hb2]
  have h22 := r22 p b S hb'
  by_cases h0 : Whole p b
  rotate_left
  · simp only [resV, if_neg h0] at h22
    simp only [dProb, dInts] at h22
    simp [h22]
  simp only [resV, if_pos h0] at h22
  have h55 := r55 b m hm (by omega)
  obtain ⟨k, hk⟩ : ∃ k, k = m % (b.length + 1) := ⟨_, rfl⟩
  have hkl : k ≤ b.length := by have := Nat.mod_lt m (show 0 < b.length + 1 by omega); omega
  rw [← hk] at h55
  have hwl := h0.2.2
  have hcl : (b.take k).length = k := by simp; omega
  have hbk := bk_pos (e := 280) h0.1 (whole_take h0 (k := k))
  have h9 := r9 p (b.take k) S (by omega)
  have h7 := r7 p (b.take k) S (by omega)
  have hfw := first_whole h0 hkl
  have hfb := first_below h0 hkl
  have hfl := hfw.2.2
  have hpre := begins_app (a := b.take k) (b := List.replicate (p.vars.length - (b.take k).length) 0)
  have hfe : firstL p (b.take k) = b.take k ++ List.replicate (p.vars.length - (b.take k).length) 0 := rfl
  rw [← hfe] at hpre
  have hfull : k = b.length → firstL p (b.take k) = b := fun e => by
    rw [hfe, hcl, e, List.take_of_length_le (by omega), hwl]; simp
  simp only [resL, if_pos hbk] at h9
  obtain ⟨f, hff⟩ : ∃ f, f = firstL p (b.take k) := ⟨_, rfl⟩
  rw [← hff] at h9 hfw hfb hfl hpre hfull
  have h57 := r57 f (b.take k) (by have := S.vars; omega)
  rw [hpre] at h57
  have hvf := r22 p f S (by have := S.vars; omega)
  simp only [resV, if_pos hfw] at hvf
  have h30 := r30 f b (by omega) (by omega)
  unfold resC at h30
  rw [if_pos (by omega)] at h30
  have hcb := cmpL_below (by omega) hfb
  have hc0 : k = b.length → cmpL f b = 0 := fun e => by rw [hfull e]; exact cmpL_refl
  obtain ⟨q, hq⟩ : ∃ q, q = cmpL f b := ⟨_, rfl⟩
  rw [← hq] at h30 hcb hc0
  clear hff hfe hfull
  obtain ⟨c, hc⟩ : ∃ c, c = b.take k := ⟨_, rfl⟩
  have hqn : ¬ 0 < q := by omega
  by_cases he : k = b.length
  · have he2 : (b.take k).length = p.vars.length := by omega
    have hq0 := hc0 he
    simp only [resN, if_pos hbk, if_pos he2] at h7
    have hcl' : c.length = b.length := by rw [hc]; omega
    rw [← hc] at h55 h9 h7 h57
    simp only [dProb, dInts] at h22 h55 h9 h7 h57 hvf h30
    subst hq0
    simp [h22, h55, h9, h57, hvf, h30, h7, hcl']
  have hkb : k < b.length := by omega
  have he2 : ¬ (b.take k).length = p.vars.length := by omega
  simp only [resN, if_pos hbk, if_neg he2] at h7
  have hlt0 : (b.take k).length < p.vars.length := by omega
  obtain ⟨n, hn⟩ : ∃ n, n = p.vars[(b.take k).length].choices.length := ⟨_, rfl⟩
  have hnl : nextL p (b.take k) = nextT (b.take k) n := by simp only [nextL, nextT, List.getD_eq_getElem?_getD, List.getElem?_eq_getElem hlt0, Option.getD_some, hn]
  rw [hnl] at h7
  have hn8 : n ≤ 8 := by rw [hn]; exact S.choices _ (List.getElem_mem hlt0)
  have hwb := h0.2.1.each k hkb (by omega)
  unfold wi at hwb
  obtain ⟨z, hz⟩ : ∃ z : Nat, b[k] = z := ⟨b[k].toNat, by omega⟩
  have hzn : z < n := by rw [hn]; simp only [hcl]; omega
  have hbeg : ∀ i : Nat, runP E (dL E) 57 [dInts b, dInts (b.take k ++ [(i : Int)])] = some (.bool (decide (z = i))) := fun i => by
    rw [r57 b _ (by omega), begins_iff hkb, hz]
    have : decide ((z : Int) = (i : Int)) = decide (z = i) := decide_eq_decide.2 (by omega)
    rw [this]
  have hbeg2 : ∀ i : Nat, runP E (dL E) 57 [dInts (b.take k ++ [(i : Int)]), dInts (b.take k)] = some (.bool true) := fun i => by
    rw [r57 _ _ (by simp; omega), begins_app]
  have hgi : ∀ (i : Nat) (h : i < (nextT (b.take k) n).length), (nextT (b.take k) n)[i]'h = b.take k ++ [(i : Int)] := fun i h => by simp [nextT]
  have hnt : (nextT (b.take k) n).length = n := nextT_len
  obtain ⟨Lx, hLx⟩ : ∃ Lx, Lx = nextT (b.take k) n := ⟨_, rfl⟩
  rw [← hLx] at h7 hgi hnt
  rw [← hc] at h55 h9 h7 h57 hbeg hbeg2 hgi
  have hcl' : c.length = k := by rw [hc]; exact hcl
  have hcb2 : ¬ (c.length : Int) = b.length := by omega
  simp only [dProb, dInts] at h22 h55 h9 h7 h57 hvf h30
  clear hc hLx
  have hkb2 : ¬ c.length = b.length := by omega
  simp [h22, h55, h9, h57, hvf, h30, h7, hqn, hcb2, hkb2]
  refine wT_up n (fun i env hp => ∃ (x7 x8 x9 x10 x11 x16 x17 x18 x19 x20 x21 x22 x23 x24 x25 x26 x27 x28 x29 x30 x31 : D) (h : List Obj), env = [dProb p, dInts b, .int .u8 m, .loc 0 0, .bool false, dI 0, dInts c, x7, x8, x9, x10, x11, .imm .none (Lx.map dInts), dI 0, dI (if z < i then 1 else 0), dI i, x16, x17, x18, x19, x20, x21, x22, x23, x24, x25, x26, x27, x28, x29, x30, x31] ∧ hp = .cells (dProb p).cellsL :: h) 0 (by omega) ⟨_, _, _, _, _, _, _, _, _, _, _, _, _, _, _, _, _, _, _, _, _, _, rfl, rfl⟩ ?_
  rintro i env hp hi ⟨x7, x8, x9, x10, x11, x16, x17, x18, x19, x20, x21, x22, x23, x24, x25, x26, x27, x28, x29, x30, x31, h, rfl, rfl⟩
  by_cases hlt : i < n
  · have g1 := hbeg i
    have g2 := hbeg2 i
    have g3 := hgi i (by omega)
    obtain ⟨ci, hci⟩ : ∃ ci, ci = c ++ [(i : Int)] := ⟨_, rfl⟩
    have hcil : ci.length = c.length + 1 := by rw [hci]; simp
    rw [← hci] at g1 g2 g3
    simp only [dInts] at g1 g2
    have w1 := wrap_i64 (n := (c.length : Int) + 1) ⟨by omega, by omega⟩
    have hcw : (ci.length : Int) = c.length + 1 := by omega
    by_cases hzi : z = i
    · have z1 : ¬ z < i := by omega
      have z2 : z < i + 1 := by omega
      simp [hnt, hlt, g3, g1, g2, hzi, hcil, w1, wrap_up hlt (by omega), wrapN1]
    · by_cases z1 : z < i
      · have z2 : z < i + 1 := by omega
        simp [hnt, hlt, g3, g1, g2, hzi, z1, z2, hcil, w1, wrap_up hlt (by omega)]
      · have z2 : ¬ z < i + 1 := by omega
        simp [hnt, hlt, g3, g1, g2, hzi, z1, z2, hcil, w1, wrap_up hlt (by omega)]
  · have : i = n := by omega
    subst this
    simp [hnt, hzn]

theorem boundDivides : ∀ xs, TypedL E [0, 6, 13] xs → ∃ n, runP E (dC E n) 56 xs = some (.bool true) := by
  intro xs h
  match xs, h with
  | [x, y, z], ⟨h1, h2, h3, _⟩ =>
    obtain ⟨p, rfl, _⟩ := ty_prob h1
    obtain ⟨l, rfl, _⟩ := ty_nums h2 rfl
    obtain ⟨m, rfl, hm⟩ := ty_u8 h3 rfl
    exact runP_ex (law56 sane1' p l m hm)
  | [], h => exact h.elim
  | [_], h => exact h.2.elim
  | [_, _], h => exact h.2.2.elim
  | _ :: _ :: _ :: _ :: _, h => exact h.2.2.2.elim

end Dv
