/- Texts that a proof of this claim uses, joined: Lw.W9, Lw.W10, Lw.W11, Lw.W20, Lw.W21, Lw.W22. -/
import Derived.Test.YtffnaiofjjgcgaaWb
set_option linter.all false
/- Walks: the demand of a leaf, by the reference. -/
namespace Dv
attribute [local simp] wT_skip wK wT_ret wT_exit wR wRp wT_seq wC wT_block rTS_nil rTS_asg rTS_eff rTS_effk ob_some obP_some iteD_b condP_b xv_v xv_c xv_ite xv_bin_tt xv_bin_tc xv_bin_ct xv_bin_cc xv_un_t xv_conv_t xv_load xv_len xv_faddr xv_field xv_iaddr_tt xv_iaddr_tc xv_index_tt xv_index_tc xv_lookup_tt xv_max_tt xv_max_tc xv_max_ct xv_min_tt xv_min_tc xv_min_ct xv_slice_lo_t xv_slice_lo_c xv_slice_hi_t xv_slice_all xv_call xv_bslice bsliceV xv_build buildV xv_mkfn zeroE fillE buildD fillD List.replicate xvs_nil xvs_cons callV_fn frz_bool frz_int frz_imm frz_agg frz_tup frz_fn frz_iptr frzL_nil frzL_one frzL_dI frzL_cell frzL_use frzL_ints frzL_choice frzL_var depth dCell dUse dInts dChoice dVar dProb tStart addO Ret flat_dI flat_rep chunk_dI
 binD_add binD_sub binD_mul binD_eql binD_neq binD_lss binD_leq binD_gtr binD_geq binD_quo binD_rem binD_beql binD_bneq binD_aeql binD_aneq unD_not unD_neg lenD_imm lenD_sl lenD_str readO_cells readO_frozen loadD_loc loadD_iptr iaddrD_imm iaddrD_sl iaddrD_loc faddrD_loc faddrD_iptr fieldD_agg indexD_agg indexD_str cellsL_bool stor_bool atom_bool cellsL_int stor_int atom_int cellsL_str stor_str atom_str cellsL_imm stor_imm atom_imm cellsL_sl stor_sl atom_sl cellsL_loc stor_loc atom_loc cellsL_iptr stor_iptr atom_iptr cellsL_map stor_map atom_map cellsL_fn stor_fn atom_fn cellsL_agg stor_agg cellsL_nilfn stor_nilfn atom_nilfn cellsL_nilp stor_nilp atom_nilp takeC_z takeC_s ofCells_ag ofCells_one ag_bool ag_int ag_str ag_slice ag_struct ag_arr ag_map ag_ptr ag_func gOf_t gOf_c gOf_f kv_cons putE_some putE_none oneRes_one oneRes_two oneRes_three getAll_nil getAll_v getAll_c maxiD_two miniD_two extV_tup xv_ext stepOp_box stepOp_alloc stepOp_store writeO_cells storeD_loc setCells_nil setCells_cons stepOp_mkmap stepOp_mapset stepOp_call1 stepOp_call2 stepOp_app2 stepOp_app1 stepOp_bslice stepOp_mkslice mapO_map lookupD_some lookupD_ok mapsetD_some keyOk_agg kindsL_nil kindsL_bool kindsL_int eqL_nil eqL_cons atomEq_bool atomEq_int frz_sl tokO_tok app0_step app0_exact app0_tok frz_loc oneRes_nil listOf_imm
 ty_0 ty_1 ty_2 ty_3 ty_4 ty_5 ty_6 ty_7 ty_8 ty_9 ty_10 ty_11 ty_12 ty_13 ty_14 ty_15 ty_16 ty_17 ty_18 ty_19 ty_20 ty_21 ty_22 ty_23 ty_24 ty_25 ty_26 ty_27
attribute [local congr] wT_congr ob_congr obP_congr iteD_congr condP_congr

def wr (n : Int) : Int := Go.IntKind.i64.wrap n

/-- what a use adds to a row -/
def addU (p : Prob) (r : List Int) (u : Use) : List Int := r.set (atS u.cell p.cells 0).toNat (wr (r.getD (atS u.cell p.cells 0).toNat 0 + u.places))

/-- the uses of a choice -/
def usesAt (v : Var) (n : Int) : List Use := (v.choices.getD n.toNat ⟨0, 0, 0, []⟩).uses

/-- the uses of a branch that count in a leaf -/
def usesIn : List Var → List Int → Int → List Use
  | v :: vs, n :: ns, leaf => (if v.leaves.contains leaf then usesAt v n else []) ++ usesIn vs ns leaf
  | _, _, _ => []

def dem (p : Prob) (b : List Int) (leaf : Int) : List Int := (usesIn p.vars b leaf).foldl (addU p) (List.replicate p.cells.length 0)

theorem addU_len {p : Prob} {r : List Int} {u : Use} : (addU p r u).length = r.length := by simp [addU]
theorem foldU_len {p : Prob} : ∀ {l : List Use} {r : List Int}, (l.foldl (addU p) r).length = r.length
  | [], _ => rfl
  | u :: l, r => by simp only [List.foldl_cons]; rw [foldU_len, addU_len]

theorem atS_le {c : Cell} : ∀ {l : List Cell} {i : Nat}, c ∈ l → (i : Int) ≤ atS c l i ∧ atS c l i < i + l.length
  | x :: l, i, h => by
    unfold atS
    by_cases e : x = c
    · simp [e]; omega
    · have hm : c ∈ l := by
        rcases List.mem_cons.1 h with h | h
        · exact absurd h.symm e
        · exact h
      have := atS_le (i := i + 1) hm
      simp only [if_neg e, List.length_cons]
      omega

end Dv

/- Walks: the uses of a branch, one after the other. -/
namespace Dv
attribute [local simp] wT_skip wK wT_ret wT_exit wR wRp wT_seq wC wT_block rTS_nil rTS_asg rTS_eff rTS_effk ob_some obP_some iteD_b condP_b xv_v xv_c xv_ite xv_bin_tt xv_bin_tc xv_bin_ct xv_bin_cc xv_un_t xv_conv_t xv_load xv_len xv_faddr xv_field xv_iaddr_tt xv_iaddr_tc xv_index_tt xv_index_tc xv_lookup_tt xv_max_tt xv_max_tc xv_max_ct xv_min_tt xv_min_tc xv_min_ct xv_slice_lo_t xv_slice_lo_c xv_slice_hi_t xv_slice_all xv_call xv_bslice bsliceV xv_build buildV xv_mkfn zeroE fillE buildD fillD List.replicate xvs_nil xvs_cons callV_fn frz_bool frz_int frz_imm frz_agg frz_tup frz_fn frz_iptr frzL_nil frzL_one frzL_dI frzL_cell frzL_use frzL_ints frzL_choice frzL_var depth dCell dUse dInts dChoice dVar dProb tStart addO Ret flat_dI flat_rep chunk_dI
 binD_add binD_sub binD_mul binD_eql binD_neq binD_lss binD_leq binD_gtr binD_geq binD_quo binD_rem binD_beql binD_bneq binD_aeql binD_aneq unD_not unD_neg lenD_imm lenD_sl lenD_str readO_cells readO_frozen loadD_loc loadD_iptr iaddrD_imm iaddrD_sl iaddrD_loc faddrD_loc faddrD_iptr fieldD_agg indexD_agg indexD_str cellsL_bool stor_bool atom_bool cellsL_int stor_int atom_int cellsL_str stor_str atom_str cellsL_imm stor_imm atom_imm cellsL_sl stor_sl atom_sl cellsL_loc stor_loc atom_loc cellsL_iptr stor_iptr atom_iptr cellsL_map stor_map atom_map cellsL_fn stor_fn atom_fn cellsL_agg stor_agg cellsL_nilfn stor_nilfn atom_nilfn cellsL_nilp stor_nilp atom_nilp takeC_z takeC_s ofCells_ag ofCells_one ag_bool ag_int ag_str ag_slice ag_struct ag_arr ag_map ag_ptr ag_func gOf_t gOf_c gOf_f kv_cons putE_some putE_none oneRes_one oneRes_two oneRes_three getAll_nil getAll_v getAll_c maxiD_two miniD_two extV_tup xv_ext stepOp_box stepOp_alloc stepOp_store writeO_cells storeD_loc setCells_nil setCells_cons stepOp_mkmap stepOp_mapset stepOp_call1 stepOp_call2 stepOp_app2 stepOp_app1 stepOp_bslice stepOp_mkslice mapO_map lookupD_some lookupD_ok mapsetD_some keyOk_agg kindsL_nil kindsL_bool kindsL_int eqL_nil eqL_cons atomEq_bool atomEq_int frz_sl tokO_tok app0_step app0_exact app0_tok frz_loc oneRes_nil listOf_imm
 ty_0 ty_1 ty_2 ty_3 ty_4 ty_5 ty_6 ty_7 ty_8 ty_9 ty_10 ty_11 ty_12 ty_13 ty_14 ty_15 ty_16 ty_17 ty_18 ty_19 ty_20 ty_21 ty_22 ty_23 ty_24 ty_25 ty_26 ty_27
attribute [local congr] wT_congr ob_congr obP_congr iteD_congr condP_congr

theorem r104 (p : Prob) (b : List Int) : runP E (dL E) 104 [dProb p, dInts b] = some (.fn 123 [.iptr [dInts b], .iptr (dProb p).cellsL]) := by
  refine runP_T c104 (by simp) ?_
  simp [t104, n104]

def itemsV (v : Var) (n : Int) : List (Int × Use) := v.leaves.flatMap fun leaf => (usesAt v n).map fun u => (leaf, u)

def itemsP : List Var → List Int → List (Int × Use)
  | v :: vs, n :: ns => itemsV v n ++ itemsP vs ns
  | _, _ => []

set_option maxHeartbeats 8000000 in
theorem i123 (p : Prob) (b : List Int) (S : Small p) (hb : b.length ≤ 20) (ok : OkP p) (okb : OkB p b) (l : Nat) (J : List (Int × Use) → List Obj → Prop) (Fin : List Obj → Prop)
    (hext : ∀ rem hp o, J rem hp → J rem (hp ++ [o]))
    (hy : ∀ x rem hp, J (x :: rem) hp → ∃ t hp', runY (dL E) l [dI x.1, dUse x.2] hp = some (.bool t, hp') ∧ (t = true → J rem hp') ∧ (t = false → Fin hp')) {hp : List Obj}
    (h0 : J (itemsP p.vars b) hp) :
    ∃ d hp', runS E (dL E) 123 [.yld l, .iptr [dInts b], .iptr (dProb p).cellsL] hp = some (d, hp') ∧ (J [] hp' ∨ Fin hp') := by
  refine runS_T c123 (R := fun _ hp' => J [] hp' ∨ Fin hp') (by simp) ?_
  have s3 := S.vars
  have hbl := okb.len
  simp [t123, n123]
  refine wT_up b.length (fun i env hp => ∃ (x3 x4 x5 x6 x10 x11 x12 x13 x14 x15 x16 x17 x18 x19 x20 x21 : D), env = [.yld l, .iptr [dInts b], .iptr (dProb p).cellsL, x3, x4, x5, x6, dInts b, dI b.length, dI i, x10, x11, x12, x13, x14, x15, x16, x17, x18, x19, x20, x21] ∧
    J (itemsP (p.vars.drop i) (b.drop i)) hp) 0 (by omega) ⟨_, _, _, _, _, _, _, _, _, _, _, _, _, _, _, _, rfl, by simpa using h0⟩ ?_
  rintro i env hp hi ⟨x3, x4, x5, x6, x10, x11, x12, x13, x14, x15, x16, x17, x18, x19, x20, x21, rfl, hJ⟩
  by_cases hlt : i < b.length
  rotate_left
  · have : i = b.length := by omega
    subst this
    have : itemsP (p.vars.drop b.length) (b.drop b.length) = [] := by
      rw [List.drop_length]; cases p.vars.drop b.length <;> rfl
    rw [this] at hJ
    simp [hJ]
  have hi' : i < p.vars.length := by omega
  have okv := ok.vars _ (List.getElem_mem hi')
  have hw := okb.each i hlt hi'
  rw [drop_cons hlt, drop_cons hi'] at hJ
  obtain ⟨m, hm⟩ : ∃ m : Nat, b[i] = m := ⟨b[i].toNat, by unfold wi at hw; omega⟩
  have hm' : m < p.vars[i].choices.length := by unfold wi at hw; omega
  have hus : usesAt p.vars[i] b[i] = p.vars[i].choices[m].uses := by
    rw [hm]; simp [usesAt, hm']
  have l1 := S.leaves _ (List.getElem_mem hi')
  have l3 := S.uses _ (List.getElem_mem hi') _ (List.getElem_mem hm')
  obtain ⟨us, hus'⟩ : ∃ us, us = p.vars[i].choices[m].uses := ⟨_, rfl⟩
  obtain ⟨rest, hrest⟩ : ∃ rest, rest = itemsP (p.vars.drop (i + 1)) (b.drop (i + 1)) := ⟨_, rfl⟩
  simp only [itemsP, itemsV, hus, ← hus', ← hrest] at hJ
  simp [hlt, hi', hm]
  refine wT_up p.vars[i].leaves.length (fun j env hp => ∃ (x5 x6 x10 x14 x15 x16 x17 x18 x19 x20 x21 : D), env = [.yld l, .iptr [dInts b], .iptr (dProb p).cellsL, dI i, dI m, x5, x6, dInts b, dI b.length, dI i, x10, dInts p.vars[i].leaves, dI p.vars[i].leaves.length, dI j, x14, x15, x16, x17, x18, x19, x20, x21] ∧
    J (((p.vars[i].leaves.drop j).flatMap fun leaf => us.map fun u => (leaf, u)) ++ rest) hp) 0 (by omega) ⟨_, _, _, _, _, _, _, _, _, _, _, rfl, by simpa using hJ⟩ ?_
  rintro j env hp hj ⟨x5, x6, x10, x14, x15, x16, x17, x18, x19, x20, x21, rfl, hJ⟩
  by_cases hlt2 : j < p.vars[i].leaves.length
  rotate_left
  · have : j = p.vars[i].leaves.length := by omega
    subst this
    simp only [List.drop_length, List.flatMap_nil, List.nil_append] at hJ
    rw [hrest] at hJ
    simp [hlt, wrap_up hlt (by omega), hJ]
  rw [drop_cons hlt2] at hJ
  obtain ⟨rest2, hrest2⟩ : ∃ rest2, rest2 = ((p.vars[i].leaves.drop (j + 1)).flatMap fun leaf => us.map fun u => (leaf, u)) ++ rest := ⟨_, rfl⟩
  simp only [List.flatMap_cons, List.append_assoc, ← hrest2] at hJ
  simp [hlt2, hi', hm', ← hus']
  refine wT_up us.length (fun k env hp => ∃ (x6 x10 x14 x18 x19 x20 x21 : D), env = [.yld l, .iptr [dInts b], .iptr (dProb p).cellsL, dI i, dI m, dI p.vars[i].leaves[j], x6, dInts b, dI b.length, dI i, x10, dInts p.vars[i].leaves, dI p.vars[i].leaves.length, dI j, x14, .imm .none (us.map dUse), dI us.length, dI k, x18, x19, x20, x21] ∧
    J ((us.drop k).map (fun u => (p.vars[i].leaves[j], u)) ++ rest2) hp) 0 (by omega) ⟨_, _, _, _, _, _, _, rfl, by simpa using hJ⟩ ?_
  rintro k env hp hk ⟨x6, x10, x14, x18, x19, x20, x21, rfl, hJ⟩
  rw [← hus'] at l3
  by_cases hlt3 : k < us.length
  rotate_left
  · have : k = us.length := by omega
    subst this
    simp only [List.drop_length, List.map_nil, List.nil_append] at hJ
    rw [hrest2] at hJ
    simp [hlt2, wrap_up hlt2 (by omega), hJ]
  rw [drop_cons hlt3] at hJ
  simp only [List.map_cons, List.cons_append] at hJ
  obtain ⟨t, hp2, hy1, hy2, hy3⟩ := hy _ _ _ (hext _ _ (.cells (dUse us[k]).cellsL) hJ)
  simp at hy1
  cases t with
  | true =>
    have hJ2 := hy2 rfl
    simp only [List.map_drop] at hJ2
    simp [hlt3, get_mid, set_mid, hy1, wrap_up hlt3 (by omega), hJ2]
  | false =>
    have hF := hy3 rfl
    simp [hlt3, get_mid, set_mid, hy1, hF]

end Dv

/- Walks: the numbers of cells, in a map. -/
namespace Dv
attribute [local simp] wT_skip wK wT_ret wT_exit wR wRp wT_seq wC wT_block rTS_nil rTS_asg rTS_eff rTS_effk ob_some obP_some iteD_b condP_b xv_v xv_c xv_ite xv_bin_tt xv_bin_tc xv_bin_ct xv_bin_cc xv_un_t xv_conv_t xv_load xv_len xv_faddr xv_field xv_iaddr_tt xv_iaddr_tc xv_index_tt xv_index_tc xv_lookup_tt xv_max_tt xv_max_tc xv_max_ct xv_min_tt xv_min_tc xv_min_ct xv_slice_lo_t xv_slice_lo_c xv_slice_hi_t xv_slice_all xv_call xv_bslice bsliceV xv_build buildV xv_mkfn zeroE fillE buildD fillD List.replicate xvs_nil xvs_cons callV_fn frz_bool frz_int frz_imm frz_agg frz_tup frz_fn frz_iptr frzL_nil frzL_one frzL_dI frzL_cell frzL_use frzL_ints frzL_choice frzL_var depth dCell dUse dInts dChoice dVar dProb tStart addO Ret flat_dI flat_rep chunk_dI
 binD_add binD_sub binD_mul binD_eql binD_neq binD_lss binD_leq binD_gtr binD_geq binD_quo binD_rem binD_beql binD_bneq binD_aeql binD_aneq unD_not unD_neg lenD_imm lenD_sl lenD_str readO_cells readO_frozen loadD_loc loadD_iptr iaddrD_imm iaddrD_sl iaddrD_loc faddrD_loc faddrD_iptr fieldD_agg indexD_agg indexD_str cellsL_bool stor_bool atom_bool cellsL_int stor_int atom_int cellsL_str stor_str atom_str cellsL_imm stor_imm atom_imm cellsL_sl stor_sl atom_sl cellsL_loc stor_loc atom_loc cellsL_iptr stor_iptr atom_iptr cellsL_map stor_map atom_map cellsL_fn stor_fn atom_fn cellsL_agg stor_agg cellsL_nilfn stor_nilfn atom_nilfn cellsL_nilp stor_nilp atom_nilp takeC_z takeC_s ofCells_ag ofCells_one ag_bool ag_int ag_str ag_slice ag_struct ag_arr ag_map ag_ptr ag_func gOf_t gOf_c gOf_f kv_cons putE_some putE_none oneRes_one oneRes_two oneRes_three getAll_nil getAll_v getAll_c maxiD_two miniD_two extV_tup xv_ext stepOp_box stepOp_alloc stepOp_store writeO_cells storeD_loc setCells_nil setCells_cons stepOp_mkmap stepOp_mapset stepOp_call1 stepOp_call2 stepOp_app2 stepOp_app1 stepOp_bslice stepOp_mkslice mapO_map lookupD_some lookupD_ok mapsetD_some keyOk_agg kindsL_nil kindsL_bool kindsL_int eqL_nil eqL_cons atomEq_bool atomEq_int frz_sl tokO_tok app0_step app0_exact app0_tok frz_loc oneRes_nil listOf_imm
 ty_0 ty_1 ty_2 ty_3 ty_4 ty_5 ty_6 ty_7 ty_8 ty_9 ty_10 ty_11 ty_12 ty_13 ty_14 ty_15 ty_16 ty_17 ty_18 ty_19 ty_20 ty_21 ty_22 ty_23 ty_24 ty_25 ty_26 ty_27
attribute [local congr] wT_congr ob_congr obP_congr iteD_congr condP_congr

theorem ltC_irr {a : Cell} : ltC a a = false := by simp [ltC]

theorem ltC_trans {a b c : Cell} (h : ltC a b = true) (h' : ltC b c = true) : ltC a c = true := by
  unfold ltC at *
  cases ha : a.airport <;> cases hb : b.airport <;> cases hc : c.airport <;> simp [ha, hb, hc] at h h' ⊢ <;> (repeat' split at h) <;> (repeat' split at h') <;> (repeat' split) <;> omega

theorem incr_lt {l : List Cell} (h : ∀ (i : Nat) (hi : i + 1 < l.length), ltC l[i] l[i + 1] = true) : ∀ (j i : Nat) (hj : j < l.length) (hij : i < j), ltC (l[i]'(by omega)) l[j] = true
  | j + 1, i, hj, hij => by
    rcases Nat.lt_succ_iff_lt_or_eq.1 hij with h1 | rfl
    · exact ltC_trans (incr_lt h j i (by omega) h1) (h j hj)
    · exact h i hj

theorem incr_ne {l : List Cell} (h : ∀ (i : Nat) (hi : i + 1 < l.length), ltC l[i] l[i + 1] = true) (j i : Nat) (hj : j < l.length) (hij : i < j) : l[i]'(by omega) ≠ l[j] := by
  intro e
  have := incr_lt h j i hj hij
  rw [e, ltC_irr] at this; cases this

/-- an entry of the map of numbers -/
def nent (x : Cell × Nat) : D × D := (dCell x.1, dI x.2)

theorem eqb_cell {c x : Cell} : D.eqb (dCell c) (dCell x) = some (decide (c = x)) := by
  simp [D.eqb, eqL, atomEq]
  cases c; cases x; simp [Bool.beq_eq_decide_eq]

theorem find_nent {c : Cell} : ∀ {l : List Cell} {n : Nat}, mapFind (dCell c) ((l.zipIdx n).map nent) = some (if c ∈ l then some (dI (atS c l n)) else none)
  | [], n => rfl
  | x :: l, n => by
    simp only [List.zipIdx_cons, List.map_cons, mapFind, nent, eqb_cell]
    by_cases h : c = x
    · simp [h, atS]
    · have h' : ¬ x = c := fun e => h e.symm
      simp only [h, decide_false, List.mem_cons, false_or, atS, if_neg h']
      exact find_nent

theorem put_nent {c : Cell} {v : Nat} : ∀ {es : List (Cell × Nat)}, c ∉ es.map (·.1) → mapPut (dCell c) (dI v) (es.map nent) = some ((es ++ [(c, v)]).map nent)
  | [], _ => rfl
  | x :: es, h => by
    simp only [List.map_cons, List.mem_cons, not_or] at h
    simp only [List.map_cons, mapPut, nent, eqb_cell, h.1, decide_false]
    have ih := put_nent (v := v) h.2
    rw [ih]
    rfl

end Dv

/- Walks: the demand of all leaves. -/
namespace Dv
attribute [local simp] wT_skip wK wT_ret wT_exit wR wRp wT_seq wC wT_block rTS_nil rTS_asg rTS_eff rTS_effk ob_some obP_some iteD_b condP_b xv_v xv_c xv_ite xv_bin_tt xv_bin_tc xv_bin_ct xv_bin_cc xv_un_t xv_conv_t xv_load xv_len xv_faddr xv_field xv_iaddr_tt xv_iaddr_tc xv_index_tt xv_index_tc xv_lookup_tt xv_max_tt xv_max_tc xv_max_ct xv_min_tt xv_min_tc xv_min_ct xv_slice_lo_t xv_slice_lo_c xv_slice_hi_t xv_slice_all xv_call xv_bslice bsliceV xv_build buildV xv_mkfn zeroE fillE buildD fillD List.replicate xvs_nil xvs_cons callV_fn frz_bool frz_int frz_imm frz_agg frz_tup frz_fn frz_iptr frzL_nil frzL_one frzL_dI frzL_cell frzL_use frzL_ints frzL_choice frzL_var depth dCell dUse dInts dChoice dVar dProb tStart addO Ret flat_dI flat_rep chunk_dI
 binD_add binD_sub binD_mul binD_eql binD_neq binD_lss binD_leq binD_gtr binD_geq binD_quo binD_rem binD_beql binD_bneq binD_aeql binD_aneq unD_not unD_neg lenD_imm lenD_sl lenD_str readO_cells readO_frozen loadD_loc loadD_iptr iaddrD_imm iaddrD_sl iaddrD_loc faddrD_loc faddrD_iptr fieldD_agg indexD_agg indexD_str cellsL_bool stor_bool atom_bool cellsL_int stor_int atom_int cellsL_str stor_str atom_str cellsL_imm stor_imm atom_imm cellsL_sl stor_sl atom_sl cellsL_loc stor_loc atom_loc cellsL_iptr stor_iptr atom_iptr cellsL_map stor_map atom_map cellsL_fn stor_fn atom_fn cellsL_agg stor_agg cellsL_nilfn stor_nilfn atom_nilfn cellsL_nilp stor_nilp atom_nilp takeC_z takeC_s ofCells_ag ofCells_one ag_bool ag_int ag_str ag_slice ag_struct ag_arr ag_map ag_ptr ag_func gOf_t gOf_c gOf_f kv_cons putE_some putE_none oneRes_one oneRes_two oneRes_three getAll_nil getAll_v getAll_c maxiD_two miniD_two extV_tup xv_ext stepOp_box stepOp_alloc stepOp_store writeO_cells storeD_loc setCells_nil setCells_cons stepOp_mkmap stepOp_mapset stepOp_call1 stepOp_call2 stepOp_app2 stepOp_app1 stepOp_bslice stepOp_mkslice mapO_map lookupD_some lookupD_ok mapsetD_some keyOk_agg kindsL_nil kindsL_bool kindsL_int eqL_nil eqL_cons atomEq_bool atomEq_int frz_sl tokO_tok app0_step app0_exact app0_tok frz_loc oneRes_nil listOf_imm
 ty_0 ty_1 ty_2 ty_3 ty_4 ty_5 ty_6 ty_7 ty_8 ty_9 ty_10 ty_11 ty_12 ty_13 ty_14 ty_15 ty_16 ty_17 ty_18 ty_19 ty_20 ty_21 ty_22 ty_23 ty_24 ty_25 ty_26 ty_27
attribute [local congr] wT_congr ob_congr obP_congr iteD_congr condP_congr

theorem get_app {A : Type} {hp r : List A} {i : Nat} {o : A} (h : hp[i]? = some o) : (hp ++ r)[i]? = some o := by
  rw [List.getElem?_append_left (List.getElem?_eq_some_iff.1 h).1, h]
theorem lt_get {A : Type} {hp : List A} {i : Nat} {o : A} (h : hp[i]? = some o) : i < hp.length := (List.getElem?_eq_some_iff.1 h).1
theorem get_ne {A : Type} {hp : List A} {i j : Nat} {x o : A} (h : hp[i]? = some o) (hn : j ≠ i) : (hp.set j x)[i]? = some o := by
  rw [List.getElem?_set_ne hn, h]
theorem get_set {A : Type} {hp : List A} {i : Nat} {x : A} (h : i < hp.length) : (hp.set i x)[i]? = some x := by
  rw [List.getElem?_set_self h]
theorem get_app2 {A : Type} {hp r : List A} {k : Nat} : (hp ++ r)[hp.length + k]? = r[k]? := by
  rw [List.getElem?_append_right (by omega)]; congr 1; omega
theorem set_app2 {A : Type} {hp r : List A} {k : Nat} {x : A} : (hp ++ r).set (hp.length + k) x = hp ++ r.set k x := by
  rw [List.set_append_right _ _ (by omega)]; congr 2; omega
theorem set_app1 {A : Type} {hp r : List A} {i : Nat} {x : A} (h : i < hp.length) : (hp ++ r).set i x = hp.set i x ++ r := List.set_append_left _ _ h

/-- an object lies at its place -/
def At (hp : List Obj) (i : Nat) (o : Obj) : Prop := hp[i]? = some o
theorem At.eq {hp : List Obj} {i : Nat} {o : Obj} (h : At hp i o) : hp[i]? = some o := h
theorem At.app {hp r : List Obj} {i : Nat} {o : Obj} (h : At hp i o) : At (hp ++ r) i o := get_app h
theorem At.appE {hp r : List Obj} {i : Nat} {o : Obj} (h : At hp i o) : (hp ++ r)[i]? = some o := get_app h
theorem At.ne {hp : List Obj} {i j : Nat} {x o : Obj} (h : At hp i o) (hn : j ≠ i) : At (hp.set j x) i o := get_ne h hn
theorem At.lt {hp : List Obj} {i : Nat} {o : Obj} (h : At hp i o) : i < hp.length := lt_get h
theorem At.self {hp : List Obj} {i : Nat} {o : Obj} (h : i < hp.length) : At (hp.set i o) i o := get_set h

def addI (p : Prob) (rows : List (List Int)) (x : Int × Use) : List (List Int) := rows.set x.1.toNat (addU p (rows.getD x.1.toNat []) x.2)

def demA (p : Prob) (b : List Int) : List (List Int) := (itemsP p.vars b).foldl (addI p) (List.replicate p.capacity.length (List.replicate p.cells.length 0))

theorem chunk_one : ∀ {l : List D}, chunk 1 false l.length l = some l
  | [] => rfl
  | x :: r => by
    simp only [List.length_cons, chunk, takeC, List.getElem?_cons_zero, ofCells, List.drop_succ_cons, List.drop_zero, chunk_one]

/-- what is known of an item -/
def ItemOk (p : Prob) (x : Int × Use) : Prop := (0 ≤ x.1 ∧ x.1.toNat < p.capacity.length) ∧ x.2.cell ∈ p.cells

theorem items_ok {p : Prob} (ok : OkP p) : ∀ {vs : List Var} {b : List Int}, (∀ v, v ∈ vs → v ∈ p.vars) → ∀ x, x ∈ itemsP vs b → ItemOk p x
  | [], _, _, x, h => by simp [itemsP] at h
  | _ :: _, [], _, x, h => by simp [itemsP] at h
  | v :: vs, n :: ns, hv, x, h => by
    simp only [itemsP, List.mem_append] at h
    rcases h with h | h
    · simp only [itemsV, List.mem_flatMap, List.mem_map] at h
      obtain ⟨leaf, hl, u, hu, rfl⟩ := h
      have okv := ok.vars v (hv v (by simp))
      have h1 := okv.leaves leaf hl
      unfold wi at h1
      refine ⟨by simp only; omega, ?_⟩
      unfold usesAt at hu
      by_cases hn : n.toNat < v.choices.length
      · simp only [List.getD_eq_getElem?_getD, List.getElem?_eq_getElem hn, Option.getD_some] at hu
        exact ((okv.choices _ (List.getElem_mem hn)).uses _ hu).known
      · simp [List.getD_eq_getElem?_getD, List.getElem?_eq_none (Nat.le_of_not_lt hn)] at hu
    · exact items_ok ok (fun w hw => hv w (by simp [hw])) x h

/-- the rows of a table in the heap -/
structure RowsAt (hp : List Obj) (rp c : Nat) (m : Nat) (rows : List (List Int)) : Prop where
  ptr : hp[rp]? = some (.cells ((List.range rows.length).map fun j => .sl (c + 8 * j) 0 m 1 false true))
  row : ∀ (j : Nat) (h : j < rows.length), hp[c + 8 * j]? = some (.cells (rows[j].map dI))
  len : ∀ (j : Nat) (h : j < rows.length), rows[j].length = m

theorem RowsAt.app {hp r : List Obj} {rp c m : Nat} {rows : List (List Int)} (R : RowsAt hp rp c m rows) : RowsAt (hp ++ r) rp c m rows :=
  ⟨get_app R.ptr, fun j h => get_app (R.row j h), R.len⟩
theorem RowsAt.other {hp : List Obj} {rp c m k : Nat} {o : Obj} {rows : List (List Int)} (R : RowsAt hp rp c m rows) (h1 : k ≠ rp) (h2 : ∀ j, j < rows.length → k ≠ c + 8 * j) : RowsAt (hp.set k o) rp c m rows :=
  ⟨get_ne R.ptr h1, fun j h => get_ne (R.row j h) (h2 j h), R.len⟩
theorem RowsAt.upd {hp : List Obj} {rp c m k : Nat} {r : List Int} {rows : List (List Int)} (R : RowsAt hp rp c m rows) (hk : k < rows.length) (hr : r.length = m) (hc : rp < c) : RowsAt (hp.set (c + 8 * k) (.cells (r.map dI))) rp c m (rows.set k r) := by
  refine ⟨by rw [List.length_set]; exact get_ne R.ptr (by omega), fun j h => ?_, fun j h => ?_⟩
  · rw [List.length_set] at h
    by_cases e : k = j
    · subst e
      rw [get_set (lt_get (R.row k hk))]
      simp
    · rw [get_ne (R.row j h) (by omega)]
      simp [List.getElem_set_ne e]
  · rw [List.length_set] at h
    by_cases e : k = j
    · subst e; simp [hr]
    · simp [List.getElem_set_ne e, R.len j h]

theorem frzL_rows {hp : List Obj} {n rp c m : Nat} {rows : List (List Int)} (R : RowsAt hp rp c m rows) :
    frzL (frz hp (n + 2)) ((List.range rows.length).map fun j => .sl (c + 8 * j) 0 m 1 false true) = some (rows.map dInts) := by
  have key : ∀ (k : Nat), k ≤ rows.length → frzL (frz hp (n + 2)) ((List.range' (rows.length - k) k).map fun j => .sl (c + 8 * j) 0 m 1 false true) = some ((rows.drop (rows.length - k)).map dInts) := by
    intro k
    induction k with
    | zero => intro _; simp
    | succ k ih =>
      intro hk
      have hlt : rows.length - (k + 1) < rows.length := by omega
      have e1 : rows.length - (k + 1) + 1 = rows.length - k := by omega
      rw [List.range'_succ, e1, List.map_cons, frzL_one, ih (by omega), drop_cons hlt, e1]
      have h1 := R.row _ hlt
      have h2 := R.len _ hlt
      rw [frz_sl, h1]
      simp only [readO_cells, ob_some, List.drop_zero, ← h2, chunk_dI, frzL_dI, Option.map_some, List.map_cons]
  have := key rows.length (Nat.le_refl _)
  simpa [List.range_eq_range'] using this

end Dv

/- Walks: the demand of all leaves, the function. -/
namespace Dv
attribute [local simp] wT_skip wK wT_ret wT_exit wR wRp wT_seq wC wT_block rTS_nil rTS_asg rTS_eff rTS_effk ob_some obP_some iteD_b condP_b xv_v xv_c xv_ite xv_bin_tt xv_bin_tc xv_bin_ct xv_bin_cc xv_un_t xv_conv_t xv_load xv_len xv_faddr xv_field xv_iaddr_tt xv_iaddr_tc xv_index_tt xv_index_tc xv_lookup_tt xv_max_tt xv_max_tc xv_max_ct xv_min_tt xv_min_tc xv_min_ct xv_slice_lo_t xv_slice_lo_c xv_slice_hi_t xv_slice_all xv_call xv_bslice bsliceV xv_build buildV xv_mkfn zeroE fillE buildD fillD List.replicate xvs_nil xvs_cons callV_fn frz_bool frz_int frz_imm frz_agg frz_tup frz_fn frz_iptr frzL_nil frzL_one frzL_dI frzL_cell frzL_use frzL_ints frzL_choice frzL_var depth dCell dUse dInts dChoice dVar dProb tStart addO Ret flat_dI flat_rep chunk_dI
 binD_add binD_sub binD_mul binD_eql binD_neq binD_lss binD_leq binD_gtr binD_geq binD_quo binD_rem binD_beql binD_bneq binD_aeql binD_aneq unD_not unD_neg lenD_imm lenD_sl lenD_str readO_cells readO_frozen loadD_loc loadD_iptr iaddrD_imm iaddrD_sl iaddrD_loc faddrD_loc faddrD_iptr fieldD_agg indexD_agg indexD_str cellsL_bool stor_bool atom_bool cellsL_int stor_int atom_int cellsL_str stor_str atom_str cellsL_imm stor_imm atom_imm cellsL_sl stor_sl atom_sl cellsL_loc stor_loc atom_loc cellsL_iptr stor_iptr atom_iptr cellsL_map stor_map atom_map cellsL_fn stor_fn atom_fn cellsL_agg stor_agg cellsL_nilfn stor_nilfn atom_nilfn cellsL_nilp stor_nilp atom_nilp takeC_z takeC_s ofCells_ag ofCells_one ag_bool ag_int ag_str ag_slice ag_struct ag_arr ag_map ag_ptr ag_func gOf_t gOf_c gOf_f kv_cons putE_some putE_none oneRes_one oneRes_two oneRes_three getAll_nil getAll_v getAll_c maxiD_two miniD_two extV_tup xv_ext stepOp_box stepOp_alloc stepOp_store writeO_cells storeD_loc setCells_nil setCells_cons stepOp_mkmap stepOp_mapset stepOp_call1 stepOp_call2 stepOp_app2 stepOp_app1 stepOp_bslice stepOp_mkslice mapO_map lookupD_some lookupD_ok mapsetD_some keyOk_agg kindsL_nil kindsL_bool kindsL_int eqL_nil eqL_cons atomEq_bool atomEq_int frz_sl tokO_tok app0_step app0_exact app0_tok frz_loc oneRes_nil listOf_imm
 ty_0 ty_1 ty_2 ty_3 ty_4 ty_5 ty_6 ty_7 ty_8 ty_9 ty_10 ty_11 ty_12 ty_13 ty_14 ty_15 ty_16 ty_17 ty_18 ty_19 ty_20 ty_21 ty_22 ty_23 ty_24 ty_25 ty_26 ty_27
attribute [local congr] wT_congr ob_congr obP_congr iteD_congr condP_congr

theorem flat_nils {n : Nat} : flat (List.replicate n (.imm .exact [])) = List.replicate n (.imm .exact []) := by
  induction n with
  | zero => rfl
  | succ n ih => rw [List.replicate_succ]; simp only [flat, List.flatMap_cons] at ih ⊢; rw [ih]; rfl

/-- the heads of the rows while the rows are made -/
def heads (c m n i : Nat) : List D := ((List.range i).map fun j => .sl (c + 8 * j) 0 m 1 false true) ++ List.replicate (n - i) (.imm .exact [])

theorem heads_len {c m n i : Nat} (h : i ≤ n) : (heads c m n i).length = n := by simp [heads]; omega
theorem heads_set {c m n i : Nat} (h : i < n) : (heads c m n i).set i (.sl (c + 8 * i) 0 m 1 false true) = heads c m n (i + 1) := by
  unfold heads
  rw [List.set_append_right _ _ (by simp), List.range_succ, List.map_append, List.append_assoc]
  congr 1
  obtain ⟨k, hk⟩ : ∃ k, n - i = k + 1 := ⟨n - i - 1, by omega⟩
  rw [hk, show n - (i + 1) = k from by omega, List.replicate_succ]
  simp

set_option maxHeartbeats 16000000 in
theorem r68 (p : Prob) (b : List Int) (S : Small p) (hb : b.length ≤ 20) (ok : OkP p) (okb : OkB p b) : runP E (dL E) 68 [dProb p, dInts b] = some (.imm .none ((demA p b).map dInts)) := by
  refine runP_T c68 (by simp) ?_
  have s1 := S.cells
  have s2 := S.cap
  simp [t68, n68]
  refine wT_up p.cells.length
    (fun i env hp => ∃ (x5 x6 x7 x8 x9 x10 x11 x15 x16 x17 x18 x19 x20 x21 x22 x23 x24 x25 x26 x27 x28 x29 : D) (h : List Obj), env = [dProb p, dInts b, .loc 0 0, .imm .exact [], .loc 2 0, x5, x6, x7, x8, x9, x10, x11, .imm .none (p.cells.map dCell), dI p.cells.length, dI i, x15, x16, x17, x18, x19, x20, x21, x22, x23, x24, x25, x26, x27, x28, x29] ∧ hp = .cells (dProb p).cellsL :: .map ((p.cells.take i).zipIdx.map nent) :: .cells [.map (some 1)] :: h)
    0 (by omega) ⟨_, _, _, _, _, _, _, _, _, _, _, _, _, _, _, _, _, _, _, _, _, _, _, rfl, rfl⟩ ?_
  rintro i env hp hi ⟨x5, x6, x7, x8, x9, x10, x11, x15, x16, x17, x18, x19, x20, x21, x22, x23, x24, x25, x26, x27, x28, x29, h, rfl, rfl⟩
  by_cases hlt : i < p.cells.length
  · have hnew : p.cells[i] ∉ ((p.cells.take i).zipIdx).map (·.1) := by
      intro hm
      rw [List.zipIdx_map_fst] at hm
      obtain ⟨j, hj, e⟩ := List.getElem_of_mem hm
      simp at hj e
      exact incr_ne ok.incr i j hlt (by omega) e
    have hput := put_nent (v := i) hnew
    have hts : p.cells.take (i + 1) = p.cells.take i ++ [p.cells[i]] := by simp
    have hz : ((p.cells.take (i + 1)).zipIdx) = (p.cells.take i).zipIdx ++ [(p.cells[i], i)] := by
      rw [hts, List.zipIdx_append]
      simp [Nat.min_eq_left (Nat.le_of_lt hlt)]
    rw [← hz] at hput
    simp at hput
    simp [hlt, get_mid, set_mid, hput, wrap_up hlt (by omega)]
  have hi' : i = p.cells.length := by omega
  subst hi'
  have hmb : (p.capacity.length : Int) * 25 ≤ 17592186044416 := by omega
  have hmb2 : (p.cells.length : Int) * 9 ≤ 17592186044416 := by omega
  simp [maxBytes, hmb, get_mid, set_mid, flat_nils]
  obtain ⟨c, hc⟩ : ∃ c, c = h.length + 1 + 1 + 1 + 2 + 5 := ⟨_, rfl⟩
  obtain ⟨rp, hrp⟩ : ∃ rp, rp = h.length + 1 + 1 + 1 := ⟨_, rfl⟩
  obtain ⟨sp, hsp⟩ : ∃ sp, sp = h.length + 1 + 1 + 1 + 1 := ⟨_, rfl⟩
  refine wT_up p.capacity.length
    (fun i env hp => ∃ (x5 x6 x8 x9 x10 x11 x12 x13 x14 x15 x16 x17 x18 x21 x22 x23 x24 x25 x26 x27 x28 x29 : D) , env = [dProb p, dInts b, .loc 0 0, .imm .exact [], .loc 2 0, x5, x6, .loc sp 0, x8, x9, x10, x11, x12, x13, x14, x15, x16, x17, x18, dI p.capacity.length, dI i, x21, x22, x23, x24, x25, x26, x27, x28, x29] ∧
      hp.length + 5 = c + 8 * i ∧ At hp 0 (.cells (dProb p).cellsL) ∧ At hp 1 (.map (p.cells.zipIdx.map nent)) ∧ At hp 2 (.cells [.map (some 1)]) ∧
      At hp sp (.cells [.sl rp 0 p.capacity.length 1 false true]) ∧ At hp rp (.cells (heads c p.cells.length p.capacity.length i)) ∧
      ∀ j, j < i → At hp (c + 8 * j) (.cells (List.replicate p.cells.length (dI 0))))
    0 (by omega) ⟨_, _, _, _, _, _, _, _, _, _, _, _, _, _, _, _, _, _, _, _, _, _, by rw [hsp]; rfl, by simp [hc], rfl, rfl, rfl, by rw [hsp, hrp]; simp [At], by rw [hrp]; simp [heads, At], by omega⟩ ?_
  rintro i env hp hi ⟨x5, x6, x8, x9, x10, x11, x12, x13, x14, x15, x16, x17, x18, x21, x22, x23, x24, x25, x26, x27, x28, x29, rfl, hlen, g0, g1, g2, gs, gr, grow⟩
  by_cases hlt2 : i < p.capacity.length
  · have l0 := g0.lt
    have lr := gr.lt
    have ls := gs.lt
    have hi1 : i + 1 ≤ p.capacity.length := hlt2
    have hh := heads_len (c := c) (m := p.cells.length) hi
    simp [hlt2, ↓g0.appE, ↓gs.appE, ↓gr.appE, maxBytes, hmb2, set_app2, set_app1 lr, hh, get_app2, wrap_up hlt2 (by omega), hi1, hlen, heads_set hlt2]
    have hl2 : 2 < hp.length := g2.lt
    have hcl : c + 8 * i = hp.length + 5 := hlen.symm
    refine ⟨by omega, (g0.ne (by omega)).app, (g1.ne (by omega)).app, (g2.ne (by omega)).app, (gs.ne (by omega)).app, (At.self lr).app, fun j hj => ?_⟩
    by_cases hj' : j < i
    · exact ((grow j hj').ne (by omega)).app
    · have : j = i := by omega
      subst this
      rw [hcl]
      have e : hp.length + 5 = (hp.set rp (.cells (heads c p.cells.length p.capacity.length (j + 1)))).length + 5 := by simp
      rw [e]
      exact get_app2
  have hi2 : i = p.capacity.length := by omega
  subst hi2
  have h104 := r104 p b
  simp only [dProb, dInts] at h104
  simp [g0.eq, h104]
  refine ⟨123, _, rfl, ?_⟩
  intro L hL hcb
  have hl2 : 2 < hp.length := g2.lt
  obtain ⟨l, hl⟩ : ∃ l, l = hp.length := ⟨_, rfl⟩
  rw [← hl] at hcb ⊢
  obtain ⟨J, hJ⟩ : ∃ J : List (Int × Use) → List Obj → Prop, J = fun rem hp' => ∃ rows : List (List Int), rows.length = p.capacity.length ∧ RowsAt hp' rp c p.cells.length rows ∧ At hp' 0 (.cells (dProb p).cellsL) ∧
    At hp' 1 (.map (p.cells.zipIdx.map nent)) ∧ At hp' 2 (.cells [.map (some 1)]) ∧ At hp' sp (.cells [.sl rp 0 p.capacity.length 1 false true]) ∧ At hp' l (L false none) ∧ (∀ x, x ∈ rem → ItemOk p x) ∧
    rem.foldl (addI p) rows = demA p b := ⟨_, rfl⟩
  have key := i123 p b S hb ok okb l J (fun _ => False) (by
      rw [hJ]
      rintro rem hp' o ⟨rows, a1, a2, a3, a4, a5, a6, a7, a8, a9⟩
      exact ⟨rows, a1, a2.app, a3.app, a4.app, a5.app, a6.app, a7.app, a8, a9⟩) (by
      intro x rem hp1 hj
      rw [hJ] at hj
      obtain ⟨rows, a1, a2, a3, a4, a5, a6, a7, a8, a9⟩ := hj
      obtain ⟨⟨hx0, hx1⟩, hx2⟩ := a8 x (by simp)
      obtain ⟨leaf, u⟩ := x
      obtain ⟨k, rfl⟩ : ∃ k : Nat, leaf = k := ⟨leaf.toNat, by simp only at hx0; omega⟩
      simp only [Int.toNat_natCast] at hx1 hx2
      have hkr : k < rows.length := by omega
      have hat := atS_le (i := 0) hx2
      obtain ⟨n, hn⟩ : ∃ n : Nat, atS u.cell p.cells 0 = n := ⟨(atS u.cell p.cells 0).toNat, by omega⟩
      have hnm : n < p.cells.length := by omega
      have hfn := find_nent (c := u.cell) (l := p.cells) (n := 0)
      simp only [hx2, if_true, hn] at hfn
      have hrl := a2.len k hkr
      have hnr : n < rows[k].length := by omega
      have hn1 : n + 1 ≤ rows[k].length := hnr
      have hl1 := a7.lt
      have L0 := (a3.ne (j := l) (x := L true none) (by omega))
      have L1 := (a4.ne (j := l) (x := L true none) (by omega))
      have L2 := (a5.ne (j := l) (x := L true none) (by omega))
      have L3 := (a6.ne (j := l) (x := L true none) (by omega))
      have R1 := a2.other (k := l) (o := L true none) (by omega) (fun j hj => by omega)
      have L4 : At (hp1.set l (L true none)) rp _ := R1.ptr
      have L5 : At (hp1.set l (L true none)) (c + 8 * k) _ := R1.row k hkr
      have LU : ∀ r, (hp1.set l (L true none) ++ r)[hp1.length]? = r[0]? := fun r => by
        have := get_app2 (hp := hp1.set l (L true none)) (r := r) (k := 0)
        simpa using this
      have L5l := L5.lt
      rw [a1] at L4
      obtain ⟨t, hp2, e1, e2⟩ := hcb [dI k, dUse u] hp1 (fun t hp' => t = true ∧ J rem hp') rfl a7 (by
        simp [setAll, a7.eq, set_app1 hl1, ↓L0.appE, ↓L1.appE, ↓L2.appE, ↓L3.appE, ↓L4.appE, ↓L5.appE, LU, hx1, hnm, hfn, set_app1 L5l, hnr, hn1, ↓a7.appE]
        have hadd : (rows[k].map dI).set n (.int .i64 (Go.IntKind.i64.wrap (rows[k][n] + u.places))) = (addU p rows[k] u).map dI := by
          unfold addU
          rw [hn]
          simp [wr, hnr]
        rw [hadd]
        have S7 : At ((hp1.set l (L true none)).set (c + 8 * k) (.cells ((addU p rows[k] u).map dI))) l (L true none) := At.ne (At.self hl1) (by omega)
        refine ⟨S7.app, ?_⟩
        rw [set_app1 S7.lt, hJ]
        have R2 := R1.upd (k := k) (r := addU p rows[k] u) hkr (by rw [addU_len, hrl]) (by omega)
        have R3 := R2.other (k := l) (o := L false none) (by omega) (fun j hj => by rw [List.length_set] at hj; omega)
        refine ⟨rows.set k (addU p rows[k] u), by simp [a1], R3.app, ((L0.ne (by omega)).ne (by omega)).app, ((L1.ne (by omega)).ne (by omega)).app, ((L2.ne (by omega)).ne (by omega)).app,
          ((L3.ne (by omega)).ne (by omega)).app, (At.self S7.lt).app, fun x hx => a8 x (by simp [hx]), ?_⟩
        rw [← a9, List.foldl_cons]
        congr 1
        simp [addI, hkr])
      obtain ⟨rfl, e3⟩ := e2
      exact ⟨true, hp2, e1, fun _ => e3, fun h => by cases h⟩) (hp := hp ++ [L false none]) (by
      rw [hJ]
      refine ⟨List.replicate p.capacity.length (List.replicate p.cells.length 0), by simp, ⟨?_, fun j h => ?_, fun j h => by simp⟩, g0.app, g1.app, g2.app, gs.app, ?_, items_ok ok (fun v hv => hv), rfl⟩
      · have := gr.app (r := [L false none])
        simpa [At, heads] using this
      · simp only [List.length_replicate] at h
        have := (grow j h).app (r := [L false none])
        simpa [At] using this
      · rw [hl]; simp [At])
  obtain ⟨d, hp', h1, h2⟩ := key
  rcases h2 with h2 | h2
  rotate_left
  · exact h2.elim
  rw [hJ] at h2
  obtain ⟨rows, a1, a2, a3, a4, a5, a6, a7, a8, a9⟩ := h2
  simp only [List.foldl_nil] at a9
  subst a9
  refine ⟨d, hp', h1, .inl ⟨a7, ?_⟩⟩
  have b6 := a6.ne (j := l) (x := .dead) (by omega)
  have b2 := a2.other (k := l) (o := .dead) (by omega) (fun j hj => by omega)
  have hfr := frzL_rows (n := 9) b2
  rw [a1] at hfr
  have hp2 := b2.ptr
  rw [a1] at hp2
  have hck := chunk_one (l := List.map (fun j => D.sl (c + 8 * j) 0 p.cells.length 1 false true) (List.range p.capacity.length))
  rw [List.length_map, List.length_range] at hck
  simp [b6.eq, hp2, hck, hfr]

end Dv

/- Walks: Demand, both. -/
namespace Dv
attribute [local simp] wT_skip wK wT_ret wT_exit wR wRp wT_seq wC wT_block rTS_nil rTS_asg rTS_eff rTS_effk ob_some obP_some iteD_b condP_b xv_v xv_c xv_ite xv_bin_tt xv_bin_tc xv_bin_ct xv_bin_cc xv_un_t xv_conv_t xv_load xv_len xv_faddr xv_field xv_iaddr_tt xv_iaddr_tc xv_index_tt xv_index_tc xv_lookup_tt xv_max_tt xv_max_tc xv_max_ct xv_min_tt xv_min_tc xv_min_ct xv_slice_lo_t xv_slice_lo_c xv_slice_hi_t xv_slice_all xv_call xv_bslice bsliceV xv_build buildV xv_mkfn zeroE fillE buildD fillD List.replicate xvs_nil xvs_cons callV_fn frz_bool frz_int frz_imm frz_agg frz_tup frz_fn frz_iptr frzL_nil frzL_one frzL_dI frzL_cell frzL_use frzL_ints frzL_choice frzL_var depth dCell dUse dInts dChoice dVar dProb tStart addO Ret flat_dI flat_rep chunk_dI
 binD_add binD_sub binD_mul binD_eql binD_neq binD_lss binD_leq binD_gtr binD_geq binD_quo binD_rem binD_beql binD_bneq binD_aeql binD_aneq unD_not unD_neg lenD_imm lenD_sl lenD_str readO_cells readO_frozen loadD_loc loadD_iptr iaddrD_imm iaddrD_sl iaddrD_loc faddrD_loc faddrD_iptr fieldD_agg indexD_agg indexD_str cellsL_bool stor_bool atom_bool cellsL_int stor_int atom_int cellsL_str stor_str atom_str cellsL_imm stor_imm atom_imm cellsL_sl stor_sl atom_sl cellsL_loc stor_loc atom_loc cellsL_iptr stor_iptr atom_iptr cellsL_map stor_map atom_map cellsL_fn stor_fn atom_fn cellsL_agg stor_agg cellsL_nilfn stor_nilfn atom_nilfn cellsL_nilp stor_nilp atom_nilp takeC_z takeC_s ofCells_ag ofCells_one ag_bool ag_int ag_str ag_slice ag_struct ag_arr ag_map ag_ptr ag_func gOf_t gOf_c gOf_f kv_cons putE_some putE_none oneRes_one oneRes_two oneRes_three getAll_nil getAll_v getAll_c maxiD_two miniD_two extV_tup xv_ext stepOp_box stepOp_alloc stepOp_store writeO_cells storeD_loc setCells_nil setCells_cons stepOp_mkmap stepOp_mapset stepOp_call1 stepOp_call2 stepOp_app2 stepOp_app1 stepOp_bslice stepOp_mkslice mapO_map lookupD_some lookupD_ok mapsetD_some keyOk_agg kindsL_nil kindsL_bool kindsL_int eqL_nil eqL_cons atomEq_bool atomEq_int frz_sl tokO_tok app0_step app0_exact app0_tok frz_loc oneRes_nil listOf_imm
 ty_0 ty_1 ty_2 ty_3 ty_4 ty_5 ty_6 ty_7 ty_8 ty_9 ty_10 ty_11 ty_12 ty_13 ty_14 ty_15 ty_16 ty_17 ty_18 ty_19 ty_20 ty_21 ty_22 ty_23 ty_24 ty_25 ty_26 ty_27
attribute [local congr] wT_congr ob_congr obP_congr iteD_congr condP_congr

theorem addI_row {p : Prob} {k : Nat} : ∀ {l : List (Int × Use)} {rows : List (List Int)}, (∀ x, x ∈ l → 0 ≤ x.1 ∧ x.1.toNat < rows.length) → (h : k < rows.length) →
    (l.foldl (addI p) rows)[k]? = some (((l.filter fun x => x.1 == (k : Int)).map (·.2)).foldl (addU p) rows[k])
  | [], rows, _, h => by simp [h]
  | x :: l, rows, hl, h => by
    obtain ⟨h0, h1⟩ := hl x (by simp)
    have hl' : ∀ y, y ∈ l → 0 ≤ y.1 ∧ y.1.toNat < (addI p rows x).length := fun y hy => by
      have := hl y (by simp [hy])
      simpa [addI] using this
    have h' : k < (addI p rows x).length := by simpa [addI] using h
    rw [List.foldl_cons, addI_row hl' h']
    by_cases e : x.1 = (k : Int)
    · have e' : x.1.toNat = k := by omega
      rw [List.filter_cons_of_pos (by simp [e])]
      simp only [List.map_cons, List.foldl_cons, addI, e']
      simp [h]
    · have e' : x.1.toNat ≠ k := by omega
      rw [List.filter_cons_of_neg (by simp [e])]
      simp only [addI]
      rw [List.getElem_set_ne e']

theorem filter_leaf {k : Int} {us : List Use} : ∀ {ls : List Int}, ls.Nodup → ((ls.flatMap fun leaf => us.map fun u => (leaf, u)).filter fun x => x.1 == k).map (·.2) = if ls.contains k then us else []
  | [], _ => rfl
  | a :: ls, h => by
    rw [List.nodup_cons] at h
    rw [List.flatMap_cons, List.filter_append, List.map_append, filter_leaf h.2]
    by_cases e : a = k
    · subst e
      have h1 : ls.contains a = false := by simpa using h.1
      have h2 : ((us.map fun u => (a, u)).filter fun x => x.1 == a) = us.map fun u => (a, u) := by
        rw [List.filter_eq_self]
        intro x hx
        obtain ⟨u, _, rfl⟩ := List.mem_map.1 hx
        simp
      have h3 : (List.map ((fun x : Int × Use => x.2) ∘ fun u => (a, u)) us) = us := by
        have : ((fun x : Int × Use => x.2) ∘ fun u => (a, u)) = id := rfl
        rw [this, List.map_id]
      rw [h2, h1, List.map_map, h3]
      simp
    · have h2 : ((us.map fun u => (a, u)).filter fun x => x.1 == k) = [] := by
        rw [List.filter_eq_nil_iff]
        intro x hx
        obtain ⟨u, _, rfl⟩ := List.mem_map.1 hx
        simpa using e
      have h3 : (a :: ls).contains k = ls.contains k := by
        have h4 : ¬ k = a := fun h => e h.symm
        by_cases h5 : k ∈ ls <;> simp [h4, h5]
      rw [h2, h3]
      simp

theorem leaves_nodup {l : List Int} (h : ∀ (i : Nat) (hi : i + 1 < l.length), l[i] < l[i + 1]) : l.Nodup := by
  rw [List.nodup_iff_pairwise_ne, List.pairwise_iff_getElem]
  intro i j hi hj hij
  have h1 := incr_le h j (i + 1) hj hij
  have h2 := h i (by omega)
  omega

theorem filter_items {p : Prob} (ok : OkP p) {k : Int} : ∀ {vs : List Var} {b : List Int}, (∀ v, v ∈ vs → v ∈ p.vars) → ((itemsP vs b).filter fun x => x.1 == k).map (·.2) = usesIn vs b k
  | [], _, _ => by simp [itemsP, usesIn]
  | _ :: _, [], _ => by simp [itemsP, usesIn]
  | v :: vs, n :: ns, hv => by
    simp only [itemsP, itemsV, usesIn, List.filter_append, List.map_append]
    rw [filter_leaf (leaves_nodup (ok.vars v (hv v (by simp))).incr), filter_items ok (fun w hw => hv w (by simp [hw]))]

theorem demA_len {p : Prob} {b : List Int} : (demA p b).length = p.capacity.length := by
  unfold demA
  have : ∀ (l : List (Int × Use)) (rows : List (List Int)), (l.foldl (addI p) rows).length = rows.length := by
    intro l
    induction l with
    | nil => intro rows; rfl
    | cons x l ih => intro rows; rw [List.foldl_cons, ih]; simp [addI]
  rw [this]; simp

theorem demA_get {p : Prob} (ok : OkP p) {b : List Int} {k : Nat} (h : k < p.capacity.length) : (demA p b)[k]? = some (dem p b k) := by
  unfold demA
  rw [addI_row (fun x hx => by have := (items_ok ok (fun v hv => hv) x hx).1; simpa using this) (by simpa using h)]
  rw [filter_items ok (fun v hv => hv)]
  simp [dem]

theorem bk_ok {p : Prob} {b : List Int} {e : Int} (h0 : bk p b e = 0) (he : e ≠ 0) : OkP p ∧ OkB p b := by
  unfold bk at h0
  by_cases h1 : OkP p
  · by_cases h2 : OkB p b
    · exact ⟨h1, h2⟩
    · simp [h1, h2] at h0; exact absurd h0 he
  · simp [h1] at h0
theorem bk_pos {p : Prob} {b : List Int} {e : Int} (h1 : OkP p) (h2 : OkB p b) : bk p b e = 0 := by simp [bk, h1, h2]
theorem bk_270 {p : Prob} {b : List Int} (h : bk p b 270 ≠ 0) : bk p b 270 = 270 := by
  unfold bk at h ⊢
  by_cases h1 : OkP p
  · by_cases h2 : OkB p b
    · simp [h1, h2] at h
    · simp [h1, h2]
  · simp [h1]

end Dv
