/- Texts that a proof of this claim uses, joined: Lw.W9, Lw.W10, Lw.W11, Lw.W20, Lw.W21, Lw.W22, Lw.W24, Lw.W25, Lw.W26, Lw.W34, Lw.W36, Lw.W35, Lw.W39, Lw.Ty, Lw.S27, Lw.R20, Lw.W40, Lw.W31, Lw.W13, Lw.W27, Lw.S28, Lw.W37, Lw.W14, Lw.W15, Lw.W16, Lw.W17, Lw.W38, Lw.W33, Lw.W80, Lw.W81, Lw.W45, Lw.W82, Lw.W50, Lw.W51, Lw.W52, Lw.W53, Lw.W54, Lw.W55, Lw.W56, Lw.W57, Lw.W47, Lw.W65, Lw.W66. -/
import Derived.Test.YtkhdnmaebokedaaWb
import Derived.Test.YtkhdnmaebokedaaWa
import Derived.Test.YtkhdnmaebokedaaLwa
import Derived.Test.YtkhdnmaebokedaaTc
import Derived.Test.YtkhdnmaebokedaaDvd
import Derived.KernelRfl
set_option linter.all false
namespace Dv
attribute [local simp] wT_skip wK wT_ret wT_exit wR wRp wT_seq wC wT_block rTS_nil rTS_asg rTS_eff rTS_effk rTS_effg gdV_b binD_and binD_or binD_xor stepOp_call3 closed_bool closed_int closed_tup flatB_bool flatB_int frzX_tup frzX_exact frz1_exact frz1_none frz1_int ob_some obP_some iteD_b condP_b xv_v xv_c xv_ite xv_bin_tt xv_bin_tc xv_bin_ct xv_bin_cc xv_un_t xv_conv_t xv_load xv_len xv_faddr xv_field xv_iaddr_tt xv_iaddr_tc xv_index_tt xv_index_tc xv_lookup_tt xv_max_tt xv_max_tc xv_max_ct xv_min_tt xv_min_tc xv_min_ct xv_slice_lo_t xv_slice_lo_c xv_slice_hi_t xv_slice_all xv_call xv_bslice bsliceV xv_build buildV xv_mkfn zeroE fillE buildD fillD List.replicate xvs_nil xvs_cons callV_fn frz_bool frz_int frz_imm frz_agg frz_tup frz_fn frz_iptr frzL_nil frzL_one frzL_dI frzL_cell frzL_use frzL_ints frzL_choice frzL_var depth dCell dUse dInts dChoice dVar dProb tStart addO Ret flat_dI flat_rep chunk_dI
 binD_add binD_sub binD_mul binD_eql binD_neq binD_lss binD_leq binD_gtr binD_geq binD_quo binD_rem binD_beql binD_bneq binD_aeql binD_aneq unD_not unD_neg lenD_imm lenD_sl lenD_str readO_cells readO_frozen loadD_loc loadD_iptr iaddrD_imm iaddrD_sl iaddrD_loc faddrD_loc faddrD_iptr fieldD_agg indexD_agg indexD_str cellsL_bool stor_bool atom_bool cellsL_int stor_int atom_int cellsL_str stor_str atom_str cellsL_imm stor_imm atom_imm cellsL_sl stor_sl atom_sl cellsL_loc stor_loc atom_loc cellsL_iptr stor_iptr atom_iptr cellsL_map stor_map atom_map cellsL_fn stor_fn atom_fn cellsL_agg stor_agg cellsL_nilfn stor_nilfn atom_nilfn cellsL_nilp stor_nilp atom_nilp takeC_z takeC_s ofCells_ag ofCells_one ag_bool ag_int ag_str ag_slice ag_struct ag_arr ag_map ag_ptr ag_func gOf_t gOf_c gOf_f kv_cons putE_some putE_none oneRes_one oneRes_two oneRes_three getAll_nil getAll_v getAll_c maxiD_two miniD_two extV_tup xv_ext stepOp_box stepOp_alloc stepOp_store writeO_cells storeD_loc setCells_nil setCells_cons stepOp_mkmap stepOp_mapset stepOp_call1 stepOp_call2 stepOp_app2 stepOp_app1 stepOp_bslice stepOp_mkslice mapO_map lookupD_some lookupD_ok mapsetD_some keyOk_agg kindsL_nil kindsL_bool kindsL_int eqL_nil eqL_cons atomEq_bool atomEq_int frz_sl tokO_tok app0_step app0_exact app0_tok frz_loc oneRes_nil listOf_imm
 isMark_bool isMark_int isMark_str isMark_imm isMark_sl isMark_fn isMark_loc isMark_undef isMark_tup isMark_agg isMark_tup0 isMark_agg0 isU_undef isU_bool isU_int isU_str isU_imm isU_agg isU_fn isU_loc isU_sl noMark_s markP_t markP_f wI wT_dead stepOp_call5 stepOp_call6 nilcD_loc nilcD_iptr xv_nilc xv_mark_t xv_mark_c markV_int markV_agg ty_0 ty_1 ty_2 ty_3 ty_4 ty_6 ty_7 ty_9 ty_10 ty_11 ty_12 ty_13 ty_14 ty_15 ty_16 ty_17 ty_18 ty_19 ty_20 ty_21 ty_22 ty_23 ty_24 ty_25 ty_26 ty_27 ty_29 ty_31 ty_32 ty_41 ty_42 ty_43 ty_44 ty_45 ty_47 ty_48 ty_49 ty_50 ty_51 ty_52 mp_228 mp_229 mp_241 mp_242 mp_243 mp_246
attribute [local congr] wT_congr ob_congr obP_congr iteD_congr condP_congr gdV_congr markP_congr


theorem get_app {A : Type} {hp r : List A} {i : Nat} {o : A} (h : hp[i]? = some o) : (hp ++ r)[i]? = some o := by
  rw [List.getElem?_append_left (List.getElem?_eq_some_iff.1 h).1, h]
theorem lt_get {A : Type} {hp : List A} {i : Nat} {o : A} (h : hp[i]? = some o) : i < hp.length := (List.getElem?_eq_some_iff.1 h).1
theorem get_ne {A : Type} {hp : List A} {i j : Nat} {x o : A} (h : hp[i]? = some o) (hn : j ≠ i) : (hp.set j x)[i]? = some o := by
  rw [List.getElem?_set_ne hn, h]
theorem get_set {A : Type} {hp : List A} {i : Nat} {x : A} (h : i < hp.length) : (hp.set i x)[i]? = some x := by
  rw [List.getElem?_set_self h]
theorem get_app2 {A : Type} {hp r : List A} {k : Nat} : (hp ++ r)[hp.length + k]? = r[k]? := by
  rw [List.getElem?_append_right (by omega)]; congr 1; omega
/-- an object lies at its place -/
def At (hp : List Obj) (i : Nat) (o : Obj) : Prop := hp[i]? = some o
theorem At.eq {hp : List Obj} {i : Nat} {o : Obj} (h : At hp i o) : hp[i]? = some o := h
theorem At.app {hp r : List Obj} {i : Nat} {o : Obj} (h : At hp i o) : At (hp ++ r) i o := get_app h
theorem At.appE {hp r : List Obj} {i : Nat} {o : Obj} (h : At hp i o) : (hp ++ r)[i]? = some o := get_app h
theorem At.ne {hp : List Obj} {i j : Nat} {x o : Obj} (h : At hp i o) (hn : j ≠ i) : At (hp.set j x) i o := get_ne h hn
theorem At.lt {hp : List Obj} {i : Nat} {o : Obj} (h : At hp i o) : i < hp.length := lt_get h
theorem At.self {hp : List Obj} {i : Nat} {o : Obj} (h : i < hp.length) : At (hp.set i o) i o := get_set h

def mn (a b : Int) : Int := if b < a then b else a
def mx (a b : Int) : Int := if a < b then b else a

/-- number by number the lesser one -/
def minC (a c : Choice) : Choice := ⟨mn a.delay c.delay, mn a.cost c.cost, mn a.changes c.changes, a.uses⟩

/-- the choice of a variable, or the least numbers of its choices -/
def pick (v : Var) : Option Int → Choice
  | some n => v.choices.getD n.toNat ⟨0, 0, 0, []⟩
  | none => (v.choices.drop 1).foldl minC (v.choices.getD 0 ⟨0, 0, 0, []⟩)

/-- is a list of choices a solution? -/
def Whole (p : Prob) (b : List Int) : Prop := OkP p ∧ OkB p b ∧ b.length = p.vars.length

theorem At.get0 {hp : List Obj} {o : Obj} (a : At hp 0 o) (h : 0 < hp.length) : hp[0]'h = o := by
  have := a.eq
  rw [List.getElem?_eq_getElem h] at this
  exact Option.some.inj this

end Dv

/- Typed arguments. -/
namespace Dv

theorem ty_num {x : D} {c : Nat} (h : Typed E c x) (hk : (E.ty c).k = .int .i64) : ∃ n, x = dI n ∧ i64 n := by
  have ha : (E.ty c).ag = false := by unfold TI.ag; rw [hk]
  obtain ⟨n, h3, ho⟩ := ty_int (typed_one h ha) hk
  simp only [List.cons.injEq, and_true] at h3
  exact ⟨n, h3, ho⟩

end Dv

namespace Dv
attribute [local simp] wT_skip wK wT_ret wT_exit wR wRp wT_seq wC wT_block rTS_nil rTS_asg rTS_eff rTS_effk rTS_effg gdV_b binD_and binD_or binD_xor stepOp_call3 closed_bool closed_int closed_tup flatB_bool flatB_int frzX_tup frzX_exact frz1_exact frz1_none frz1_int ob_some obP_some iteD_b condP_b xv_v xv_c xv_ite xv_bin_tt xv_bin_tc xv_bin_ct xv_bin_cc xv_un_t xv_conv_t xv_load xv_len xv_faddr xv_field xv_iaddr_tt xv_iaddr_tc xv_index_tt xv_index_tc xv_lookup_tt xv_max_tt xv_max_tc xv_max_ct xv_min_tt xv_min_tc xv_min_ct xv_slice_lo_t xv_slice_lo_c xv_slice_hi_t xv_slice_all xv_call xv_bslice bsliceV xv_build buildV xv_mkfn zeroE fillE buildD fillD List.replicate xvs_nil xvs_cons callV_fn frz_bool frz_int frz_imm frz_agg frz_tup frz_fn frz_iptr frzL_nil frzL_one frzL_dI frzL_cell frzL_use frzL_ints frzL_choice frzL_var depth dCell dUse dInts dChoice dVar dProb tStart addO Ret flat_dI flat_rep chunk_dI
 binD_add binD_sub binD_mul binD_eql binD_neq binD_lss binD_leq binD_gtr binD_geq binD_quo binD_rem binD_beql binD_bneq binD_aeql binD_aneq unD_not unD_neg lenD_imm lenD_sl lenD_str readO_cells readO_frozen loadD_loc loadD_iptr iaddrD_imm iaddrD_sl iaddrD_loc faddrD_loc faddrD_iptr fieldD_agg indexD_agg indexD_str cellsL_bool stor_bool atom_bool cellsL_int stor_int atom_int cellsL_str stor_str atom_str cellsL_imm stor_imm atom_imm cellsL_sl stor_sl atom_sl cellsL_loc stor_loc atom_loc cellsL_iptr stor_iptr atom_iptr cellsL_map stor_map atom_map cellsL_fn stor_fn atom_fn cellsL_agg stor_agg cellsL_nilfn stor_nilfn atom_nilfn cellsL_nilp stor_nilp atom_nilp takeC_z takeC_s ofCells_ag ofCells_one ag_bool ag_int ag_str ag_slice ag_struct ag_arr ag_map ag_ptr ag_func gOf_t gOf_c gOf_f kv_cons putE_some putE_none oneRes_one oneRes_two oneRes_three getAll_nil getAll_v getAll_c maxiD_two miniD_two extV_tup xv_ext stepOp_box stepOp_alloc stepOp_store writeO_cells storeD_loc setCells_nil setCells_cons stepOp_mkmap stepOp_mapset stepOp_call1 stepOp_call2 stepOp_app2 stepOp_app1 stepOp_bslice stepOp_mkslice mapO_map lookupD_some lookupD_ok mapsetD_some keyOk_agg kindsL_nil kindsL_bool kindsL_int eqL_nil eqL_cons atomEq_bool atomEq_int frz_sl tokO_tok app0_step app0_exact app0_tok frz_loc oneRes_nil listOf_imm
 isMark_bool isMark_int isMark_str isMark_imm isMark_sl isMark_fn isMark_loc isMark_undef isMark_tup isMark_agg isMark_tup0 isMark_agg0 isU_undef isU_bool isU_int isU_str isU_imm isU_agg isU_fn isU_loc isU_sl noMark_s markP_t markP_f wI wT_dead stepOp_call5 stepOp_call6 nilcD_loc nilcD_iptr xv_nilc xv_mark_t xv_mark_c markV_int markV_agg ty_0 ty_1 ty_2 ty_3 ty_4 ty_6 ty_7 ty_9 ty_10 ty_11 ty_12 ty_13 ty_14 ty_15 ty_16 ty_17 ty_18 ty_19 ty_20 ty_21 ty_22 ty_23 ty_24 ty_25 ty_26 ty_27 ty_29 ty_31 ty_32 ty_41 ty_42 ty_43 ty_44 ty_45 ty_47 ty_48 ty_49 ty_50 ty_51 ty_52 mp_228 mp_229 mp_241 mp_242 mp_243 mp_246
attribute [local congr] wT_congr ob_congr obP_congr iteD_congr condP_congr gdV_congr markP_congr


set_option maxHeartbeats 4000000 in
theorem r20 (a b : List Int) (hl : a.length ≤ 1000000) : runP E (dL E) 20 [dInts a, dInts b] = some (.bool (decide (a = b))) := by
  refine runP_T c20 (by simp) ?_
  generalize hB : decide (a = b) = B
  have hBf : a ≠ b → B = false := by intro h; rw [← hB]; simp [h]
  have hBt : a = b → B = true := by intro h; rw [← hB]; simp [h]
  simp [t20, n20]
  by_cases h : a.length = b.length
  rotate_left
  · have hi : ¬ (a.length : Int) = b.length := by omega
    simp [h, hi, hBf (fun e => h (by rw [e]))]
  simp [h]
  obtain ⟨P, hP⟩ : ∃ P : Nat → Prop, P = fun i => ∀ (h : i < a.length) (h' : i < b.length), a[i] = b[i] := ⟨_, rfl⟩
  refine wT_all a.length P
    (fun i env hp => ∃ (x4 x5 x6 : D) , env = [dInts a, dInts b, .bool false, dI i, x4, x5, x6])
    ⟨_, _, _, rfl⟩ ?_ ?_
  · rintro i env hp hi ⟨x4, x5, x6, rfl⟩ hall
    have hi' : i < b.length := by omega
    by_cases k1 : a[i] = b[i]
    · have hPi : P i := by rw [hP]; exact fun _ _ => k1
      simp [hi, hi', k1, wrap_up hi (by omega), hPi]
    · have hB' := hBf (fun e => k1 (by subst e; rfl))
      simp [hi, hi', k1, hB']
  · rintro env hp ⟨x4, x5, x6, rfl⟩ hall
    rw [hP] at hall
    have hab : a = b := List.ext_getElem h fun i h1 h2 => hall i h1 h1 h2
    simp [hBt hab]

end Dv

/- The search, plain: what a step does, that it ends, and that nothing is better than what it finds. -/
namespace Dv

structure Leaf where
  branch : List Int
  kind : Int
  mult : List (List Int)

theorem getD_lt {p : Prob} {n : Nat} (h : n < p.vars.length) : p.vars.getD n ⟨0, 0, [], []⟩ = p.vars[n] := by
  rw [List.getD_eq_getElem?_getD, List.getElem?_eq_getElem h, Option.getD_some]
end Dv

/- The search, plain: nothing is better than what it finds, and its leaves divide the solutions. -/
namespace Dv

theorem isPre {b x : List Int} : b.isPrefixOf x = true ↔ b <+: x := List.isPrefixOf_iff_prefix

end Dv

namespace Dv
attribute [local simp] wT_skip wK wT_ret wT_exit wR wRp wT_seq wC wT_block rTS_nil rTS_asg rTS_eff rTS_effk rTS_effg gdV_b binD_and binD_or binD_xor stepOp_call3 closed_bool closed_int closed_tup flatB_bool flatB_int frzX_tup frzX_exact frz1_exact frz1_none frz1_int ob_some obP_some iteD_b condP_b xv_v xv_c xv_ite xv_bin_tt xv_bin_tc xv_bin_ct xv_bin_cc xv_un_t xv_conv_t xv_load xv_len xv_faddr xv_field xv_iaddr_tt xv_iaddr_tc xv_index_tt xv_index_tc xv_lookup_tt xv_max_tt xv_max_tc xv_max_ct xv_min_tt xv_min_tc xv_min_ct xv_slice_lo_t xv_slice_lo_c xv_slice_hi_t xv_slice_all xv_call xv_bslice bsliceV xv_build buildV xv_mkfn zeroE fillE buildD fillD List.replicate xvs_nil xvs_cons callV_fn frz_bool frz_int frz_imm frz_agg frz_tup frz_fn frz_iptr frzL_nil frzL_one frzL_dI frzL_cell frzL_use frzL_ints frzL_choice frzL_var depth dCell dUse dInts dChoice dVar dProb tStart addO Ret flat_dI flat_rep chunk_dI
 binD_add binD_sub binD_mul binD_eql binD_neq binD_lss binD_leq binD_gtr binD_geq binD_quo binD_rem binD_beql binD_bneq binD_aeql binD_aneq unD_not unD_neg lenD_imm lenD_sl lenD_str readO_cells readO_frozen loadD_loc loadD_iptr iaddrD_imm iaddrD_sl iaddrD_loc faddrD_loc faddrD_iptr fieldD_agg indexD_agg indexD_str cellsL_bool stor_bool atom_bool cellsL_int stor_int atom_int cellsL_str stor_str atom_str cellsL_imm stor_imm atom_imm cellsL_sl stor_sl atom_sl cellsL_loc stor_loc atom_loc cellsL_iptr stor_iptr atom_iptr cellsL_map stor_map atom_map cellsL_fn stor_fn atom_fn cellsL_agg stor_agg cellsL_nilfn stor_nilfn atom_nilfn cellsL_nilp stor_nilp atom_nilp takeC_z takeC_s ofCells_ag ofCells_one ag_bool ag_int ag_str ag_slice ag_struct ag_arr ag_map ag_ptr ag_func gOf_t gOf_c gOf_f kv_cons putE_some putE_none oneRes_one oneRes_two oneRes_three getAll_nil getAll_v getAll_c maxiD_two miniD_two extV_tup xv_ext stepOp_box stepOp_alloc stepOp_store writeO_cells storeD_loc setCells_nil setCells_cons stepOp_mkmap stepOp_mapset stepOp_call1 stepOp_call2 stepOp_app2 stepOp_app1 stepOp_bslice stepOp_mkslice mapO_map lookupD_some lookupD_ok mapsetD_some keyOk_agg kindsL_nil kindsL_bool kindsL_int eqL_nil eqL_cons atomEq_bool atomEq_int frz_sl tokO_tok app0_step app0_exact app0_tok frz_loc oneRes_nil listOf_imm
 isMark_bool isMark_int isMark_str isMark_imm isMark_sl isMark_fn isMark_loc isMark_undef isMark_tup isMark_agg isMark_tup0 isMark_agg0 isU_undef isU_bool isU_int isU_str isU_imm isU_agg isU_fn isU_loc isU_sl noMark_s markP_t markP_f wI wT_dead stepOp_call5 stepOp_call6 nilcD_loc nilcD_iptr xv_nilc xv_mark_t xv_mark_c markV_int markV_agg ty_0 ty_1 ty_2 ty_3 ty_4 ty_6 ty_7 ty_9 ty_10 ty_11 ty_12 ty_13 ty_14 ty_15 ty_16 ty_17 ty_18 ty_19 ty_20 ty_21 ty_22 ty_23 ty_24 ty_25 ty_26 ty_27 ty_29 ty_31 ty_32 ty_41 ty_42 ty_43 ty_44 ty_45 ty_47 ty_48 ty_49 ty_50 ty_51 ty_52 mp_228 mp_229 mp_241 mp_242 mp_243 mp_246
attribute [local congr] wT_congr ob_congr obP_congr iteD_congr condP_congr gdV_congr markP_congr


/-- more room at a place -/
def room (p : Prob) (i k : Nat) (x : Int) : Prob := { p with capacity := p.capacity.set i ((p.capacity.getD i []).set k x) }

/-- valid multipliers -/
structure OkM (p : Prob) (m : List (List Int)) : Prop where
  len : m.length = p.capacity.length
  rows : ∀ l, l ∈ m → l.length = p.cells.length ∧ ∀ n, n ∈ l → 0 ≤ n ∧ n ≤ 65536

open Classical in
noncomputable def mk (p : Prob) (m : List (List Int)) : Int := if OkP p then (if OkM p m then 0 else 290) else 270

def mu (m : List (List Int)) (leaf : Int) (k : Nat) : Int := (m.getD leaf.toNat []).getD k 0

end Dv

/- Plain facts: the order of the variables does not matter, and without one of them nothing becomes greater. -/
namespace Dv

/-- the same problem with other variables -/
def other (p : Prob) (vs : List Var) : Prob := { p with vars := vs }

end Dv
