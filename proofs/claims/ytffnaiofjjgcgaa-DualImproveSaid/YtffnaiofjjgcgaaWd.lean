/- Texts that a proof of this claim uses, joined: Lw.W9, Lw.W10, Lw.W11, Lw.W20, Lw.W21, Lw.W22. -/
import Derived.Test.YtffnaiofjjgcgaaWb
set_option linter.all false
/- Walks: the demand of a leaf, by the reference. -/
namespace Dv
attribute [local simp] wT_skip wK wT_ret wT_exit wR wRp wT_seq wC wT_block rTS_nil rTS_asg rTS_eff rTS_effk ob_some obP_some iteD_b condP_b xv_v xv_c xv_ite xv_bin_tt xv_bin_tc xv_bin_ct xv_bin_cc xv_un_t xv_conv_t xv_load xv_len xv_faddr xv_field xv_iaddr_tt xv_iaddr_tc xv_index_tt xv_index_tc xv_lookup_tt xv_max_tt xv_max_tc xv_max_ct xv_min_tt xv_min_tc xv_min_ct xv_slice_lo_t xv_slice_lo_c xv_slice_hi_t xv_slice_all xv_call xv_bslice bsliceV xv_build buildV xv_mkfn zeroE fillE buildD fillD List.replicate xvs_nil xvs_cons callV_fn frz_bool frz_int frz_imm frz_agg frz_tup frz_fn frz_iptr frzL_nil frzL_one frzL_dI frzL_cell frzL_use frzL_ints frzL_choice frzL_var depth dCell dUse dInts dChoice dVar dProb tStart addO Ret flat_dI flat_rep chunk_dI
 binD_add binD_sub binD_mul binD_eql binD_neq binD_lss binD_leq binD_gtr binD_geq binD_quo binD_rem binD_beql binD_bneq binD_aeql binD_aneq unD_not unD_neg lenD_imm lenD_sl lenD_str readO_cells readO_frozen loadD_loc loadD_iptr iaddrD_imm iaddrD_sl iaddrD_loc faddrD_loc faddrD_iptr fieldD_agg indexD_agg indexD_str cellsL_bool stor_bool atom_bool cellsL_int stor_int atom_int cellsL_str stor_str atom_str cellsL_imm stor_imm atom_imm cellsL_sl stor_sl atom_sl cellsL_loc stor_loc atom_loc cellsL_iptr stor_iptr atom_iptr cellsL_map stor_map atom_map cellsL_fn stor_fn atom_fn cellsL_agg stor_agg cellsL_nilfn stor_nilfn atom_nilfn cellsL_nilp stor_nilp atom_nilp takeC_z takeC_s ofCells_ag ofCells_one ag_bool ag_int ag_str ag_slice ag_struct ag_arr ag_map ag_ptr ag_func gOf_t gOf_c gOf_f kv_cons putE_some putE_none oneRes_one oneRes_two oneRes_three getAll_nil getAll_v getAll_c maxiD_two miniD_two extV_tup xv_ext stepOp_box stepOp_alloc stepOp_store writeO_cells storeD_loc setCells_nil setCells_cons stepOp_mkmap stepOp_mapset stepOp_call1 stepOp_call2 stepOp_app2 stepOp_app1 stepOp_bslice stepOp_mkslice mapO_map lookupD_some lookupD_ok mapsetD_some keyOk_agg kindsL_nil kindsL_bool kindsL_int eqL_nil eqL_cons atomEq_bool atomEq_int frz_sl tokO_tok app0_step app0_exact app0_tok frz_loc oneRes_nil listOf_imm
 ty_0 ty_1 ty_2 ty_3 ty_4 ty_5 ty_6 ty_7 ty_8 ty_9 ty_10 ty_11 ty_12 ty_13 ty_14 ty_15 ty_16 ty_17 ty_18 ty_19 ty_20 ty_21 ty_22 ty_23 ty_24 ty_25 ty_26 ty_27
attribute [local congr] wT_congr ob_congr obP_congr iteD_congr condP_congr

def wr (n : Int) : Int := Go.IntKind.i64.wrap n

/-- what a use adds to a row -/
def addU (p : Prob) (r : List Int) (u : Use) : List Int := r.set (atS u.cell p.cells 0).toNat (wr (r.getD (atS u.cell p.cells 0).toNat 0 + u.places))

/-- the uses of a choice -/
def usesAt (v : Var) (n : Int) : List Use := (v.choices.getD n.toNat ⟨0, 0, 0, []⟩).uses

/-- the uses of a branch that count in a leaf -/
def usesIn : List Var → List Int → Int → List Use
  | v :: vs, n :: ns, leaf => (if v.leaves.contains leaf then usesAt v n else []) ++ usesIn vs ns leaf
  | _, _, _ => []

def dem (p : Prob) (b : List Int) (leaf : Int) : List Int := (usesIn p.vars b leaf).foldl (addU p) (List.replicate p.cells.length 0)

theorem addU_len {p : Prob} {r : List Int} {u : Use} : (addU p r u).length = r.length := by simp [addU]
theorem foldU_len {p : Prob} : ∀ {l : List Use} {r : List Int}, (l.foldl (addU p) r).length = r.length
  | [], _ => rfl
  | u :: l, r => by simp only [List.foldl_cons]; rw [foldU_len, addU_len]

theorem atS_le {c : Cell} : ∀ {l : List Cell} {i : Nat}, c ∈ l → (i : Int) ≤ atS c l i ∧ atS c l i < i + l.length
  | x :: l, i, h => by
    unfold atS
    by_cases e : x = c
    · simp [e]; omega
    · have hm : c ∈ l := by
        rcases List.mem_cons.1 h with h | h
        · exact absurd h.symm e
        · exact h
      have := atS_le (i := i + 1) hm
      simp only [if_neg e, List.length_cons]
      omega

end Dv

/- Walks: the uses of a branch, one after the other. -/
namespace Dv
attribute [local simp] wT_skip wK wT_ret wT_exit wR wRp wT_seq wC wT_block rTS_nil rTS_asg rTS_eff rTS_effk ob_some obP_some iteD_b condP_b xv_v xv_c xv_ite xv_bin_tt xv_bin_tc xv_bin_ct xv_bin_cc xv_un_t xv_conv_t xv_load xv_len xv_faddr xv_field xv_iaddr_tt xv_iaddr_tc xv_index_tt xv_index_tc xv_lookup_tt xv_max_tt xv_max_tc xv_max_ct xv_min_tt xv_min_tc xv_min_ct xv_slice_lo_t xv_slice_lo_c xv_slice_hi_t xv_slice_all xv_call xv_bslice bsliceV xv_build buildV xv_mkfn zeroE fillE buildD fillD List.replicate xvs_nil xvs_cons callV_fn frz_bool frz_int frz_imm frz_agg frz_tup frz_fn frz_iptr frzL_nil frzL_one frzL_dI frzL_cell frzL_use frzL_ints frzL_choice frzL_var depth dCell dUse dInts dChoice dVar dProb tStart addO Ret flat_dI flat_rep chunk_dI
 binD_add binD_sub binD_mul binD_eql binD_neq binD_lss binD_leq binD_gtr binD_geq binD_quo binD_rem binD_beql binD_bneq binD_aeql binD_aneq unD_not unD_neg lenD_imm lenD_sl lenD_str readO_cells readO_frozen loadD_loc loadD_iptr iaddrD_imm iaddrD_sl iaddrD_loc faddrD_loc faddrD_iptr fieldD_agg indexD_agg indexD_str cellsL_bool stor_bool atom_bool cellsL_int stor_int atom_int cellsL_str stor_str atom_str cellsL_imm stor_imm atom_imm cellsL_sl stor_sl atom_sl cellsL_loc stor_loc atom_loc cellsL_iptr stor_iptr atom_iptr cellsL_map stor_map atom_map cellsL_fn stor_fn atom_fn cellsL_agg stor_agg cellsL_nilfn stor_nilfn atom_nilfn cellsL_nilp stor_nilp atom_nilp takeC_z takeC_s ofCells_ag ofCells_one ag_bool ag_int ag_str ag_slice ag_struct ag_arr ag_map ag_ptr ag_func gOf_t gOf_c gOf_f kv_cons putE_some putE_none oneRes_one oneRes_two oneRes_three getAll_nil getAll_v getAll_c maxiD_two miniD_two extV_tup xv_ext stepOp_box stepOp_alloc stepOp_store writeO_cells storeD_loc setCells_nil setCells_cons stepOp_mkmap stepOp_mapset stepOp_call1 stepOp_call2 stepOp_app2 stepOp_app1 stepOp_bslice stepOp_mkslice mapO_map lookupD_some lookupD_ok mapsetD_some keyOk_agg kindsL_nil kindsL_bool kindsL_int eqL_nil eqL_cons atomEq_bool atomEq_int frz_sl tokO_tok app0_step app0_exact app0_tok frz_loc oneRes_nil listOf_imm
 ty_0 ty_1 ty_2 ty_3 ty_4 ty_5 ty_6 ty_7 ty_8 ty_9 ty_10 ty_11 ty_12 ty_13 ty_14 ty_15 ty_16 ty_17 ty_18 ty_19 ty_20 ty_21 ty_22 ty_23 ty_24 ty_25 ty_26 ty_27
attribute [local congr] wT_congr ob_congr obP_congr iteD_congr condP_congr

end Dv

/- Walks: the numbers of cells, in a map. -/
namespace Dv
attribute [local simp] wT_skip wK wT_ret wT_exit wR wRp wT_seq wC wT_block rTS_nil rTS_asg rTS_eff rTS_effk ob_some obP_some iteD_b condP_b xv_v xv_c xv_ite xv_bin_tt xv_bin_tc xv_bin_ct xv_bin_cc xv_un_t xv_conv_t xv_load xv_len xv_faddr xv_field xv_iaddr_tt xv_iaddr_tc xv_index_tt xv_index_tc xv_lookup_tt xv_max_tt xv_max_tc xv_max_ct xv_min_tt xv_min_tc xv_min_ct xv_slice_lo_t xv_slice_lo_c xv_slice_hi_t xv_slice_all xv_call xv_bslice bsliceV xv_build buildV xv_mkfn zeroE fillE buildD fillD List.replicate xvs_nil xvs_cons callV_fn frz_bool frz_int frz_imm frz_agg frz_tup frz_fn frz_iptr frzL_nil frzL_one frzL_dI frzL_cell frzL_use frzL_ints frzL_choice frzL_var depth dCell dUse dInts dChoice dVar dProb tStart addO Ret flat_dI flat_rep chunk_dI
 binD_add binD_sub binD_mul binD_eql binD_neq binD_lss binD_leq binD_gtr binD_geq binD_quo binD_rem binD_beql binD_bneq binD_aeql binD_aneq unD_not unD_neg lenD_imm lenD_sl lenD_str readO_cells readO_frozen loadD_loc loadD_iptr iaddrD_imm iaddrD_sl iaddrD_loc faddrD_loc faddrD_iptr fieldD_agg indexD_agg indexD_str cellsL_bool stor_bool atom_bool cellsL_int stor_int atom_int cellsL_str stor_str atom_str cellsL_imm stor_imm atom_imm cellsL_sl stor_sl atom_sl cellsL_loc stor_loc atom_loc cellsL_iptr stor_iptr atom_iptr cellsL_map stor_map atom_map cellsL_fn stor_fn atom_fn cellsL_agg stor_agg cellsL_nilfn stor_nilfn atom_nilfn cellsL_nilp stor_nilp atom_nilp takeC_z takeC_s ofCells_ag ofCells_one ag_bool ag_int ag_str ag_slice ag_struct ag_arr ag_map ag_ptr ag_func gOf_t gOf_c gOf_f kv_cons putE_some putE_none oneRes_one oneRes_two oneRes_three getAll_nil getAll_v getAll_c maxiD_two miniD_two extV_tup xv_ext stepOp_box stepOp_alloc stepOp_store writeO_cells storeD_loc setCells_nil setCells_cons stepOp_mkmap stepOp_mapset stepOp_call1 stepOp_call2 stepOp_app2 stepOp_app1 stepOp_bslice stepOp_mkslice mapO_map lookupD_some lookupD_ok mapsetD_some keyOk_agg kindsL_nil kindsL_bool kindsL_int eqL_nil eqL_cons atomEq_bool atomEq_int frz_sl tokO_tok app0_step app0_exact app0_tok frz_loc oneRes_nil listOf_imm
 ty_0 ty_1 ty_2 ty_3 ty_4 ty_5 ty_6 ty_7 ty_8 ty_9 ty_10 ty_11 ty_12 ty_13 ty_14 ty_15 ty_16 ty_17 ty_18 ty_19 ty_20 ty_21 ty_22 ty_23 ty_24 ty_25 ty_26 ty_27
attribute [local congr] wT_congr ob_congr obP_congr iteD_congr condP_congr

theorem ltC_irr {a : Cell} : ltC a a = false := by simp [ltC]

theorem ltC_trans {a b c : Cell} (h : ltC a b = true) (h' : ltC b c = true) : ltC a c = true := by
  unfold ltC at *
  cases ha : a.airport <;> cases hb : b.airport <;> cases hc : c.airport <;> simp [ha, hb, hc] at h h' ⊢ <;> (repeat' split at h) <;> (repeat' split at h') <;> (repeat' split) <;> omega

theorem incr_lt {l : List Cell} (h : ∀ (i : Nat) (hi : i + 1 < l.length), ltC l[i] l[i + 1] = true) : ∀ (j i : Nat) (hj : j < l.length) (hij : i < j), ltC (l[i]'(by omega)) l[j] = true
  | j + 1, i, hj, hij => by
    rcases Nat.lt_succ_iff_lt_or_eq.1 hij with h1 | rfl
    · exact ltC_trans (incr_lt h j i (by omega) h1) (h j hj)
    · exact h i hj

theorem incr_ne {l : List Cell} (h : ∀ (i : Nat) (hi : i + 1 < l.length), ltC l[i] l[i + 1] = true) (j i : Nat) (hj : j < l.length) (hij : i < j) : l[i]'(by omega) ≠ l[j] := by
  intro e
  have := incr_lt h j i hj hij
  rw [e, ltC_irr] at this; cases this

end Dv

/- Walks: the demand of all leaves. -/
namespace Dv
attribute [local simp] wT_skip wK wT_ret wT_exit wR wRp wT_seq wC wT_block rTS_nil rTS_asg rTS_eff rTS_effk ob_some obP_some iteD_b condP_b xv_v xv_c xv_ite xv_bin_tt xv_bin_tc xv_bin_ct xv_bin_cc xv_un_t xv_conv_t xv_load xv_len xv_faddr xv_field xv_iaddr_tt xv_iaddr_tc xv_index_tt xv_index_tc xv_lookup_tt xv_max_tt xv_max_tc xv_max_ct xv_min_tt xv_min_tc xv_min_ct xv_slice_lo_t xv_slice_lo_c xv_slice_hi_t xv_slice_all xv_call xv_bslice bsliceV xv_build buildV xv_mkfn zeroE fillE buildD fillD List.replicate xvs_nil xvs_cons callV_fn frz_bool frz_int frz_imm frz_agg frz_tup frz_fn frz_iptr frzL_nil frzL_one frzL_dI frzL_cell frzL_use frzL_ints frzL_choice frzL_var depth dCell dUse dInts dChoice dVar dProb tStart addO Ret flat_dI flat_rep chunk_dI
 binD_add binD_sub binD_mul binD_eql binD_neq binD_lss binD_leq binD_gtr binD_geq binD_quo binD_rem binD_beql binD_bneq binD_aeql binD_aneq unD_not unD_neg lenD_imm lenD_sl lenD_str readO_cells readO_frozen loadD_loc loadD_iptr iaddrD_imm iaddrD_sl iaddrD_loc faddrD_loc faddrD_iptr fieldD_agg indexD_agg indexD_str cellsL_bool stor_bool atom_bool cellsL_int stor_int atom_int cellsL_str stor_str atom_str cellsL_imm stor_imm atom_imm cellsL_sl stor_sl atom_sl cellsL_loc stor_loc atom_loc cellsL_iptr stor_iptr atom_iptr cellsL_map stor_map atom_map cellsL_fn stor_fn atom_fn cellsL_agg stor_agg cellsL_nilfn stor_nilfn atom_nilfn cellsL_nilp stor_nilp atom_nilp takeC_z takeC_s ofCells_ag ofCells_one ag_bool ag_int ag_str ag_slice ag_struct ag_arr ag_map ag_ptr ag_func gOf_t gOf_c gOf_f kv_cons putE_some putE_none oneRes_one oneRes_two oneRes_three getAll_nil getAll_v getAll_c maxiD_two miniD_two extV_tup xv_ext stepOp_box stepOp_alloc stepOp_store writeO_cells storeD_loc setCells_nil setCells_cons stepOp_mkmap stepOp_mapset stepOp_call1 stepOp_call2 stepOp_app2 stepOp_app1 stepOp_bslice stepOp_mkslice mapO_map lookupD_some lookupD_ok mapsetD_some keyOk_agg kindsL_nil kindsL_bool kindsL_int eqL_nil eqL_cons atomEq_bool atomEq_int frz_sl tokO_tok app0_step app0_exact app0_tok frz_loc oneRes_nil listOf_imm
 ty_0 ty_1 ty_2 ty_3 ty_4 ty_5 ty_6 ty_7 ty_8 ty_9 ty_10 ty_11 ty_12 ty_13 ty_14 ty_15 ty_16 ty_17 ty_18 ty_19 ty_20 ty_21 ty_22 ty_23 ty_24 ty_25 ty_26 ty_27
attribute [local congr] wT_congr ob_congr obP_congr iteD_congr condP_congr

theorem get_app {A : Type} {hp r : List A} {i : Nat} {o : A} (h : hp[i]? = some o) : (hp ++ r)[i]? = some o := by
  rw [List.getElem?_append_left (List.getElem?_eq_some_iff.1 h).1, h]
theorem lt_get {A : Type} {hp : List A} {i : Nat} {o : A} (h : hp[i]? = some o) : i < hp.length := (List.getElem?_eq_some_iff.1 h).1
theorem get_ne {A : Type} {hp : List A} {i j : Nat} {x o : A} (h : hp[i]? = some o) (hn : j ≠ i) : (hp.set j x)[i]? = some o := by
  rw [List.getElem?_set_ne hn, h]
theorem get_set {A : Type} {hp : List A} {i : Nat} {x : A} (h : i < hp.length) : (hp.set i x)[i]? = some x := by
  rw [List.getElem?_set_self h]
theorem get_app2 {A : Type} {hp r : List A} {k : Nat} : (hp ++ r)[hp.length + k]? = r[k]? := by
  rw [List.getElem?_append_right (by omega)]; congr 1; omega
theorem set_app1 {A : Type} {hp r : List A} {i : Nat} {x : A} (h : i < hp.length) : (hp ++ r).set i x = hp.set i x ++ r := List.set_append_left _ _ h

/-- an object lies at its place -/
def At (hp : List Obj) (i : Nat) (o : Obj) : Prop := hp[i]? = some o
theorem At.eq {hp : List Obj} {i : Nat} {o : Obj} (h : At hp i o) : hp[i]? = some o := h
theorem At.app {hp r : List Obj} {i : Nat} {o : Obj} (h : At hp i o) : At (hp ++ r) i o := get_app h
theorem At.appE {hp r : List Obj} {i : Nat} {o : Obj} (h : At hp i o) : (hp ++ r)[i]? = some o := get_app h
theorem At.ne {hp : List Obj} {i j : Nat} {x o : Obj} (h : At hp i o) (hn : j ≠ i) : At (hp.set j x) i o := get_ne h hn
theorem At.lt {hp : List Obj} {i : Nat} {o : Obj} (h : At hp i o) : i < hp.length := lt_get h
theorem At.self {hp : List Obj} {i : Nat} {o : Obj} (h : i < hp.length) : At (hp.set i o) i o := get_set h

def addI (p : Prob) (rows : List (List Int)) (x : Int × Use) : List (List Int) := rows.set x.1.toNat (addU p (rows.getD x.1.toNat []) x.2)

/-- what is known of an item -/
def ItemOk (p : Prob) (x : Int × Use) : Prop := (0 ≤ x.1 ∧ x.1.toNat < p.capacity.length) ∧ x.2.cell ∈ p.cells

/-- the rows of a table in the heap -/
structure RowsAt (hp : List Obj) (rp c : Nat) (m : Nat) (rows : List (List Int)) : Prop where
  ptr : hp[rp]? = some (.cells ((List.range rows.length).map fun j => .sl (c + 8 * j) 0 m 1 false true))
  row : ∀ (j : Nat) (h : j < rows.length), hp[c + 8 * j]? = some (.cells (rows[j].map dI))
  len : ∀ (j : Nat) (h : j < rows.length), rows[j].length = m

theorem RowsAt.app {hp r : List Obj} {rp c m : Nat} {rows : List (List Int)} (R : RowsAt hp rp c m rows) : RowsAt (hp ++ r) rp c m rows :=
  ⟨get_app R.ptr, fun j h => get_app (R.row j h), R.len⟩
theorem RowsAt.other {hp : List Obj} {rp c m k : Nat} {o : Obj} {rows : List (List Int)} (R : RowsAt hp rp c m rows) (h1 : k ≠ rp) (h2 : ∀ j, j < rows.length → k ≠ c + 8 * j) : RowsAt (hp.set k o) rp c m rows :=
  ⟨get_ne R.ptr h1, fun j h => get_ne (R.row j h) (h2 j h), R.len⟩
theorem RowsAt.upd {hp : List Obj} {rp c m k : Nat} {r : List Int} {rows : List (List Int)} (R : RowsAt hp rp c m rows) (hk : k < rows.length) (hr : r.length = m) (hc : rp < c) : RowsAt (hp.set (c + 8 * k) (.cells (r.map dI))) rp c m (rows.set k r) := by
  refine ⟨by rw [List.length_set]; exact get_ne R.ptr (by omega), fun j h => ?_, fun j h => ?_⟩
  · rw [List.length_set] at h
    by_cases e : k = j
    · subst e
      rw [get_set (lt_get (R.row k hk))]
      simp
    · rw [get_ne (R.row j h) (by omega)]
      simp [List.getElem_set_ne e]
  · rw [List.length_set] at h
    by_cases e : k = j
    · subst e; simp [hr]
    · simp [List.getElem_set_ne e, R.len j h]

end Dv

/- Walks: the demand of all leaves, the function. -/
namespace Dv
attribute [local simp] wT_skip wK wT_ret wT_exit wR wRp wT_seq wC wT_block rTS_nil rTS_asg rTS_eff rTS_effk ob_some obP_some iteD_b condP_b xv_v xv_c xv_ite xv_bin_tt xv_bin_tc xv_bin_ct xv_bin_cc xv_un_t xv_conv_t xv_load xv_len xv_faddr xv_field xv_iaddr_tt xv_iaddr_tc xv_index_tt xv_index_tc xv_lookup_tt xv_max_tt xv_max_tc xv_max_ct xv_min_tt xv_min_tc xv_min_ct xv_slice_lo_t xv_slice_lo_c xv_slice_hi_t xv_slice_all xv_call xv_bslice bsliceV xv_build buildV xv_mkfn zeroE fillE buildD fillD List.replicate xvs_nil xvs_cons callV_fn frz_bool frz_int frz_imm frz_agg frz_tup frz_fn frz_iptr frzL_nil frzL_one frzL_dI frzL_cell frzL_use frzL_ints frzL_choice frzL_var depth dCell dUse dInts dChoice dVar dProb tStart addO Ret flat_dI flat_rep chunk_dI
 binD_add binD_sub binD_mul binD_eql binD_neq binD_lss binD_leq binD_gtr binD_geq binD_quo binD_rem binD_beql binD_bneq binD_aeql binD_aneq unD_not unD_neg lenD_imm lenD_sl lenD_str readO_cells readO_frozen loadD_loc loadD_iptr iaddrD_imm iaddrD_sl iaddrD_loc faddrD_loc faddrD_iptr fieldD_agg indexD_agg indexD_str cellsL_bool stor_bool atom_bool cellsL_int stor_int atom_int cellsL_str stor_str atom_str cellsL_imm stor_imm atom_imm cellsL_sl stor_sl atom_sl cellsL_loc stor_loc atom_loc cellsL_iptr stor_iptr atom_iptr cellsL_map stor_map atom_map cellsL_fn stor_fn atom_fn cellsL_agg stor_agg cellsL_nilfn stor_nilfn atom_nilfn cellsL_nilp stor_nilp atom_nilp takeC_z takeC_s ofCells_ag ofCells_one ag_bool ag_int ag_str ag_slice ag_struct ag_arr ag_map ag_ptr ag_func gOf_t gOf_c gOf_f kv_cons putE_some putE_none oneRes_one oneRes_two oneRes_three getAll_nil getAll_v getAll_c maxiD_two miniD_two extV_tup xv_ext stepOp_box stepOp_alloc stepOp_store writeO_cells storeD_loc setCells_nil setCells_cons stepOp_mkmap stepOp_mapset stepOp_call1 stepOp_call2 stepOp_app2 stepOp_app1 stepOp_bslice stepOp_mkslice mapO_map lookupD_some lookupD_ok mapsetD_some keyOk_agg kindsL_nil kindsL_bool kindsL_int eqL_nil eqL_cons atomEq_bool atomEq_int frz_sl tokO_tok app0_step app0_exact app0_tok frz_loc oneRes_nil listOf_imm
 ty_0 ty_1 ty_2 ty_3 ty_4 ty_5 ty_6 ty_7 ty_8 ty_9 ty_10 ty_11 ty_12 ty_13 ty_14 ty_15 ty_16 ty_17 ty_18 ty_19 ty_20 ty_21 ty_22 ty_23 ty_24 ty_25 ty_26 ty_27
attribute [local congr] wT_congr ob_congr obP_congr iteD_congr condP_congr

end Dv

/- Walks: Demand, both. -/
namespace Dv
attribute [local simp] wT_skip wK wT_ret wT_exit wR wRp wT_seq wC wT_block rTS_nil rTS_asg rTS_eff rTS_effk ob_some obP_some iteD_b condP_b xv_v xv_c xv_ite xv_bin_tt xv_bin_tc xv_bin_ct xv_bin_cc xv_un_t xv_conv_t xv_load xv_len xv_faddr xv_field xv_iaddr_tt xv_iaddr_tc xv_index_tt xv_index_tc xv_lookup_tt xv_max_tt xv_max_tc xv_max_ct xv_min_tt xv_min_tc xv_min_ct xv_slice_lo_t xv_slice_lo_c xv_slice_hi_t xv_slice_all xv_call xv_bslice bsliceV xv_build buildV xv_mkfn zeroE fillE buildD fillD List.replicate xvs_nil xvs_cons callV_fn frz_bool frz_int frz_imm frz_agg frz_tup frz_fn frz_iptr frzL_nil frzL_one frzL_dI frzL_cell frzL_use frzL_ints frzL_choice frzL_var depth dCell dUse dInts dChoice dVar dProb tStart addO Ret flat_dI flat_rep chunk_dI
 binD_add binD_sub binD_mul binD_eql binD_neq binD_lss binD_leq binD_gtr binD_geq binD_quo binD_rem binD_beql binD_bneq binD_aeql binD_aneq unD_not unD_neg lenD_imm lenD_sl lenD_str readO_cells readO_frozen loadD_loc loadD_iptr iaddrD_imm iaddrD_sl iaddrD_loc faddrD_loc faddrD_iptr fieldD_agg indexD_agg indexD_str cellsL_bool stor_bool atom_bool cellsL_int stor_int atom_int cellsL_str stor_str atom_str cellsL_imm stor_imm atom_imm cellsL_sl stor_sl atom_sl cellsL_loc stor_loc atom_loc cellsL_iptr stor_iptr atom_iptr cellsL_map stor_map atom_map cellsL_fn stor_fn atom_fn cellsL_agg stor_agg cellsL_nilfn stor_nilfn atom_nilfn cellsL_nilp stor_nilp atom_nilp takeC_z takeC_s ofCells_ag ofCells_one ag_bool ag_int ag_str ag_slice ag_struct ag_arr ag_map ag_ptr ag_func gOf_t gOf_c gOf_f kv_cons putE_some putE_none oneRes_one oneRes_two oneRes_three getAll_nil getAll_v getAll_c maxiD_two miniD_two extV_tup xv_ext stepOp_box stepOp_alloc stepOp_store writeO_cells storeD_loc setCells_nil setCells_cons stepOp_mkmap stepOp_mapset stepOp_call1 stepOp_call2 stepOp_app2 stepOp_app1 stepOp_bslice stepOp_mkslice mapO_map lookupD_some lookupD_ok mapsetD_some keyOk_agg kindsL_nil kindsL_bool kindsL_int eqL_nil eqL_cons atomEq_bool atomEq_int frz_sl tokO_tok app0_step app0_exact app0_tok frz_loc oneRes_nil listOf_imm
 ty_0 ty_1 ty_2 ty_3 ty_4 ty_5 ty_6 ty_7 ty_8 ty_9 ty_10 ty_11 ty_12 ty_13 ty_14 ty_15 ty_16 ty_17 ty_18 ty_19 ty_20 ty_21 ty_22 ty_23 ty_24 ty_25 ty_26 ty_27
attribute [local congr] wT_congr ob_congr obP_congr iteD_congr condP_congr

theorem addI_row {p : Prob} {k : Nat} : ∀ {l : List (Int × Use)} {rows : List (List Int)}, (∀ x, x ∈ l → 0 ≤ x.1 ∧ x.1.toNat < rows.length) → (h : k < rows.length) →
    (l.foldl (addI p) rows)[k]? = some (((l.filter fun x => x.1 == (k : Int)).map (·.2)).foldl (addU p) rows[k])
  | [], rows, _, h => by simp [h]
  | x :: l, rows, hl, h => by
    obtain ⟨h0, h1⟩ := hl x (by simp)
    have hl' : ∀ y, y ∈ l → 0 ≤ y.1 ∧ y.1.toNat < (addI p rows x).length := fun y hy => by
      have := hl y (by simp [hy])
      simpa [addI] using this
    have h' : k < (addI p rows x).length := by simpa [addI] using h
    rw [List.foldl_cons, addI_row hl' h']
    by_cases e : x.1 = (k : Int)
    · have e' : x.1.toNat = k := by omega
      rw [List.filter_cons_of_pos (by simp [e])]
      simp only [List.map_cons, List.foldl_cons, addI, e']
      simp [h]
    · have e' : x.1.toNat ≠ k := by omega
      rw [List.filter_cons_of_neg (by simp [e])]
      simp only [addI]
      rw [List.getElem_set_ne e']

theorem filter_leaf {k : Int} {us : List Use} : ∀ {ls : List Int}, ls.Nodup → ((ls.flatMap fun leaf => us.map fun u => (leaf, u)).filter fun x => x.1 == k).map (·.2) = if ls.contains k then us else []
  | [], _ => rfl
  | a :: ls, h => by
    rw [List.nodup_cons] at h
    rw [List.flatMap_cons, List.filter_append, List.map_append, filter_leaf h.2]
    by_cases e : a = k
    · subst e
      have h1 : ls.contains a = false := by simpa using h.1
      have h2 : ((us.map fun u => (a, u)).filter fun x => x.1 == a) = us.map fun u => (a, u) := by
        rw [List.filter_eq_self]
        intro x hx
        obtain ⟨u, _, rfl⟩ := List.mem_map.1 hx
        simp
      have h3 : (List.map ((fun x : Int × Use => x.2) ∘ fun u => (a, u)) us) = us := by
        have : ((fun x : Int × Use => x.2) ∘ fun u => (a, u)) = id := rfl
        rw [this, List.map_id]
      rw [h2, h1, List.map_map, h3]
      simp
    · have h2 : ((us.map fun u => (a, u)).filter fun x => x.1 == k) = [] := by
        rw [List.filter_eq_nil_iff]
        intro x hx
        obtain ⟨u, _, rfl⟩ := List.mem_map.1 hx
        simpa using e
      have h3 : (a :: ls).contains k = ls.contains k := by
        have h4 : ¬ k = a := fun h => e h.symm
        by_cases h5 : k ∈ ls <;> simp [h4, h5]
      rw [h2, h3]
      simp

theorem leaves_nodup {l : List Int} (h : ∀ (i : Nat) (hi : i + 1 < l.length), l[i] < l[i + 1]) : l.Nodup := by
  rw [List.nodup_iff_pairwise_ne, List.pairwise_iff_getElem]
  intro i j hi hj hij
  have h1 := incr_le h j (i + 1) hj hij
  have h2 := h i (by omega)
  omega

end Dv
