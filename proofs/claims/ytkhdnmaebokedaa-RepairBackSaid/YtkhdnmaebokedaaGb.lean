/- Texts that a proof of this claim uses, joined: Lw.W58, Lw.W59, Lw.W60, Lw.W61, Lw.W62, Lw.W63, Lw.S29, Lw.W67, Lw.W85, Lw.W86, Lw.W87, Lw.W41, Lw.W43, Lw.W90, Lw.W140, Lw.W141, Lw.W142, Lw.Pieces, Lw.S30, Lw.W91, Lw.W92, Lw.W93, Lw.W94, Lw.W69, Lw.W71, Lw.W73, Lw.W95, Lw.W96, Lw.W143, Lw.W144, Lw.W145, Lw.W146, Lw.W147, Lw.W97, Lw.W98, Lw.W148. -/
import Derived.Test.YtkhdnmaebokedaaGa
import Derived.Test.YtkhdnmaebokedaaTc
import Derived.Test.YtkhdnmaebokedaaDvd
import Derived.KernelRfl
set_option linter.all false
/- Certificates, plain: what leaves prove, and what divides the solutions. -/
namespace Dv

/-! dividing the solutions -/

/-- how many branches a solution begins with -/
def cntB' (l : List (List Int)) (x : List Int) : Nat := l.countP fun b => b.isPrefixOf x

/-- whether branches divide the solutions, from a depth on -/
def divD (p : Prob) : Nat → Nat → List (List Int) → Bool
  | 0, _, _ => false
  | f + 1, depth, l => if l.any (fun b => decide (b.length = depth)) then decide (l.length = 1) else if l.isEmpty then false else
      (List.range (p.vars.getD depth ⟨0, 0, [], []⟩).choices.length).all fun k => divD p f (depth + 1) (l.filter fun b => decide (b.getD depth 0 = (k : Int)))

theorem filter_cnt {depth : Nat} {x : List Int} : ∀ {l : List (List Int)}, (∀ b, b ∈ l → depth < b.length) → depth < x.length → cntB' (l.filter fun b => decide (b.getD depth 0 = x.getD depth 0)) x = cntB' l x
  | [], _, _ => rfl
  | b :: l, h, hx => by
    have ih := filter_cnt (l := l) (fun c hc => h c (by simp [hc])) hx
    unfold cntB' at ih ⊢
    have hb := h b (by simp)
    by_cases e : b.getD depth 0 = x.getD depth 0
    · rw [List.filter_cons_of_pos (by simpa using e), List.countP_cons, List.countP_cons, ih]
    · rw [List.filter_cons_of_neg (by simpa using e), List.countP_cons, ih]
      have : b.isPrefixOf x = false := by
        cases hh : b.isPrefixOf x with
        | false => rfl
        | true =>
          obtain ⟨u, rfl⟩ := isPre.1 hh
          exact absurd (by simp only [List.getD_eq_getElem?_getD]; rw [List.getElem?_append_left hb]) e
      rw [this]; simp

/-- branches that divide: each solution begins with exactly one -/
theorem div_one {p : Prob} {x : List Int} (hx : Whole p x) : ∀ {f depth : Nat} {l : List (List Int)}, (∀ b, b ∈ l → OkB p b ∧ depth ≤ b.length ∧ b.take depth = x.take depth) → divD p f depth l = true → cntB' l x = 1
  | 0, _, _, _, h => by simp [divD] at h
  | f + 1, depth, l, hl, h => by
    unfold divD at h
    by_cases hd : l.any (fun b => decide (b.length = depth)) = true
    · rw [if_pos hd] at h
      simp only [decide_eq_true_eq] at h
      obtain ⟨b, hb, hbd⟩ := List.any_eq_true.1 hd
      match l, h, hb with
      | [c], _, hb =>
        rw [List.mem_singleton.1 hb] at hbd
        simp only [decide_eq_true_eq] at hbd
        have h3 := (hl c (by simp)).2.2
        rw [List.take_of_length_le (by omega)] at h3
        unfold cntB'
        rw [List.countP_singleton, if_pos (isPre.2 (by rw [h3]; exact List.take_prefix _ _))]
    · rw [if_neg hd] at h
      by_cases he : l.isEmpty = true
      · rw [if_pos he] at h; cases h
      · rw [if_neg he, List.all_eq_true] at h
        have hgt : ∀ b, b ∈ l → depth < b.length := fun b hb => by
          have h1 := (hl b hb).2.1
          have h2 : b.length ≠ depth := fun e => hd (List.any_eq_true.2 ⟨b, hb, by simp [e]⟩)
          omega
        have hne : l ≠ [] := fun e => he (by rw [e]; rfl)
        obtain ⟨b0, hb0⟩ := List.exists_mem_of_ne_nil l hne
        have hdv : depth < p.vars.length := by have := hgt b0 hb0; have := (hl b0 hb0).1.len; omega
        have hdx : depth < x.length := by rw [hx.2.2]; exact hdv
        rw [getD_lt hdv] at h
        have hw := hx.2.1.each depth hdx hdv
        unfold wi at hw
        have hxd : x.getD depth 0 = x[depth] := by rw [List.getD_eq_getElem?_getD, List.getElem?_eq_getElem hdx, Option.getD_some]
        have hk := h x[depth].toNat (List.mem_range.2 (by omega))
        have hcast : ((x[depth].toNat : Nat) : Int) = x.getD depth 0 := by rw [hxd]; omega
        rw [hcast] at hk
        rw [← filter_cnt hgt hdx]
        refine div_one hx (fun b hb => ?_) hk
        rw [List.mem_filter] at hb
        obtain ⟨hb, hbe⟩ := hb
        simp only [decide_eq_true_eq] at hbe
        obtain ⟨h1, h2, h3⟩ := hl b hb
        have hbl := hgt b hb
        refine ⟨h1, hbl, ?_⟩
        rw [List.take_succ_eq_append_getElem hbl, List.take_succ_eq_append_getElem hdx, h3]
        rw [hxd, List.getD_eq_getElem?_getD, List.getElem?_eq_getElem hbl, Option.getD_some] at hbe
        rw [hbe]
end Dv

namespace Dv
attribute [local simp] wT_skip wK wT_ret wT_exit wR wRp wT_seq wC wT_block rTS_nil rTS_asg rTS_eff rTS_effk rTS_effg gdV_b binD_and binD_or binD_xor stepOp_call3 closed_bool closed_int closed_tup flatB_bool flatB_int frzX_tup frzX_exact frz1_exact frz1_none frz1_int ob_some obP_some iteD_b condP_b xv_v xv_c xv_ite xv_bin_tt xv_bin_tc xv_bin_ct xv_bin_cc xv_un_t xv_conv_t xv_load xv_len xv_faddr xv_field xv_iaddr_tt xv_iaddr_tc xv_index_tt xv_index_tc xv_lookup_tt xv_max_tt xv_max_tc xv_max_ct xv_min_tt xv_min_tc xv_min_ct xv_slice_lo_t xv_slice_lo_c xv_slice_hi_t xv_slice_all xv_call xv_bslice bsliceV xv_build buildV xv_mkfn zeroE fillE buildD fillD List.replicate xvs_nil xvs_cons callV_fn frz_bool frz_int frz_imm frz_agg frz_tup frz_fn frz_iptr frzL_nil frzL_one frzL_dI frzL_cell frzL_use frzL_ints frzL_choice frzL_var depth dCell dUse dInts dChoice dVar dProb tStart addO Ret flat_dI flat_rep chunk_dI
 binD_add binD_sub binD_mul binD_eql binD_neq binD_lss binD_leq binD_gtr binD_geq binD_quo binD_rem binD_beql binD_bneq binD_aeql binD_aneq unD_not unD_neg lenD_imm lenD_sl lenD_str readO_cells readO_frozen loadD_loc loadD_iptr iaddrD_imm iaddrD_sl iaddrD_loc faddrD_loc faddrD_iptr fieldD_agg indexD_agg indexD_str cellsL_bool stor_bool atom_bool cellsL_int stor_int atom_int cellsL_str stor_str atom_str cellsL_imm stor_imm atom_imm cellsL_sl stor_sl atom_sl cellsL_loc stor_loc atom_loc cellsL_iptr stor_iptr atom_iptr cellsL_map stor_map atom_map cellsL_fn stor_fn atom_fn cellsL_agg stor_agg cellsL_nilfn stor_nilfn atom_nilfn cellsL_nilp stor_nilp atom_nilp takeC_z takeC_s ofCells_ag ofCells_one ag_bool ag_int ag_str ag_slice ag_struct ag_arr ag_map ag_ptr ag_func gOf_t gOf_c gOf_f kv_cons putE_some putE_none oneRes_one oneRes_two oneRes_three getAll_nil getAll_v getAll_c maxiD_two miniD_two extV_tup xv_ext stepOp_box stepOp_alloc stepOp_store writeO_cells storeD_loc setCells_nil setCells_cons stepOp_mkmap stepOp_mapset stepOp_call1 stepOp_call2 stepOp_app2 stepOp_app1 stepOp_bslice stepOp_mkslice mapO_map lookupD_some lookupD_ok mapsetD_some keyOk_agg kindsL_nil kindsL_bool kindsL_int eqL_nil eqL_cons atomEq_bool atomEq_int frz_sl tokO_tok app0_step app0_exact app0_tok frz_loc oneRes_nil listOf_imm
 isMark_bool isMark_int isMark_str isMark_imm isMark_sl isMark_fn isMark_loc isMark_undef isMark_tup isMark_agg isMark_tup0 isMark_agg0 isU_undef isU_bool isU_int isU_str isU_imm isU_agg isU_fn isU_loc isU_sl noMark_s markP_t markP_f wI wT_dead stepOp_call5 stepOp_call6 nilcD_loc nilcD_iptr xv_nilc xv_mark_t xv_mark_c markV_int markV_agg ty_0 ty_1 ty_2 ty_3 ty_4 ty_6 ty_7 ty_9 ty_10 ty_11 ty_12 ty_13 ty_14 ty_15 ty_16 ty_17 ty_18 ty_19 ty_20 ty_21 ty_22 ty_23 ty_24 ty_25 ty_26 ty_27 ty_29 ty_31 ty_32 ty_41 ty_42 ty_43 ty_44 ty_45 ty_47 ty_48 ty_49 ty_50 ty_51 ty_52 mp_228 mp_229 mp_241 mp_242 mp_243 mp_246
attribute [local congr] wT_congr ob_congr obP_congr iteD_congr condP_congr gdV_congr markP_congr


@[simp] theorem markP_tup0 {a b : Prop} : markP (.tup []) a b = b := markP_f rfl
@[simp] theorem markP_boo {x : Bool} {a b : Prop} : markP (.bool x) a b = b := markP_f rfl
@[simp] theorem markP_num {k : Go.IntKind} {n : Int} {a b : Prop} : markP (.int k n) a b = b := markP_f rfl
@[simp] theorem markP_mk {r : List D} {a b : Prop} : markP (.tup (.undef :: r)) a b = a := markP_t rfl

abbrev dLeaf (l : Leaf) : D := .agg [dInts l.branch, dI l.kind, .imm .none (l.mult.map dInts)]

structure Cert where
  best : List Int
  value : List Int
  leaves : List Leaf
abbrev dCert (c : Cert) : D := .agg [dInts c.best, dInts c.value, .imm .none (c.leaves.map dLeaf)]
def cert0 : Cert := ⟨[], [], []⟩

end Dv

/- Better multipliers: what is meant. -/
namespace Dv

/-! rows in the heap, each at a place of its own -/

/-- the head of a row -/
def hd (n id : Nat) : D := if n = 0 then .imm .exact [] else .sl id 0 n 1 false true
end Dv

namespace Dv
attribute [local simp] wT_skip wK wT_ret wT_exit wR wRp wT_seq wC wT_block rTS_nil rTS_asg rTS_eff rTS_effk rTS_effg gdV_b binD_and binD_or binD_xor stepOp_call3 closed_bool closed_int closed_tup flatB_bool flatB_int frzX_tup frzX_exact frz1_exact frz1_none frz1_int ob_some obP_some iteD_b condP_b xv_v xv_c xv_ite xv_bin_tt xv_bin_tc xv_bin_ct xv_bin_cc xv_un_t xv_conv_t xv_load xv_len xv_faddr xv_field xv_iaddr_tt xv_iaddr_tc xv_index_tt xv_index_tc xv_lookup_tt xv_max_tt xv_max_tc xv_max_ct xv_min_tt xv_min_tc xv_min_ct xv_slice_lo_t xv_slice_lo_c xv_slice_hi_t xv_slice_all xv_call xv_bslice bsliceV xv_build buildV xv_mkfn zeroE fillE buildD fillD List.replicate xvs_nil xvs_cons callV_fn frz_bool frz_int frz_imm frz_agg frz_tup frz_fn frz_iptr frzL_nil frzL_one frzL_dI frzL_cell frzL_use frzL_ints frzL_choice frzL_var depth dCell dUse dInts dChoice dVar dProb tStart addO Ret flat_dI flat_rep chunk_dI
 binD_add binD_sub binD_mul binD_eql binD_neq binD_lss binD_leq binD_gtr binD_geq binD_quo binD_rem binD_beql binD_bneq binD_aeql binD_aneq unD_not unD_neg lenD_imm lenD_sl lenD_str readO_cells readO_frozen loadD_loc loadD_iptr iaddrD_imm iaddrD_sl iaddrD_loc faddrD_loc faddrD_iptr fieldD_agg indexD_agg indexD_str cellsL_bool stor_bool atom_bool cellsL_int stor_int atom_int cellsL_str stor_str atom_str cellsL_imm stor_imm atom_imm cellsL_sl stor_sl atom_sl cellsL_loc stor_loc atom_loc cellsL_iptr stor_iptr atom_iptr cellsL_map stor_map atom_map cellsL_fn stor_fn atom_fn cellsL_agg stor_agg cellsL_nilfn stor_nilfn atom_nilfn cellsL_nilp stor_nilp atom_nilp takeC_z takeC_s ofCells_ag ofCells_one ag_bool ag_int ag_str ag_slice ag_struct ag_arr ag_map ag_ptr ag_func gOf_t gOf_c gOf_f kv_cons putE_some putE_none oneRes_one oneRes_two oneRes_three getAll_nil getAll_v getAll_c maxiD_two miniD_two extV_tup xv_ext stepOp_box stepOp_alloc stepOp_store writeO_cells storeD_loc setCells_nil setCells_cons stepOp_mkmap stepOp_mapset stepOp_call1 stepOp_call2 stepOp_app2 stepOp_app1 stepOp_bslice stepOp_mkslice mapO_map lookupD_some lookupD_ok mapsetD_some keyOk_agg kindsL_nil kindsL_bool kindsL_int eqL_nil eqL_cons atomEq_bool atomEq_int frz_sl tokO_tok app0_step app0_exact app0_tok frz_loc oneRes_nil listOf_imm
 isMark_bool isMark_int isMark_str isMark_imm isMark_sl isMark_fn isMark_loc isMark_undef isMark_tup isMark_agg isMark_tup0 isMark_agg0 isU_undef isU_bool isU_int isU_str isU_imm isU_agg isU_fn isU_loc isU_sl noMark_s markP_t markP_f wI wT_dead stepOp_call5 stepOp_call6 nilcD_loc nilcD_iptr xv_nilc xv_mark_t xv_mark_c markV_int markV_agg ty_0 ty_1 ty_2 ty_3 ty_4 ty_6 ty_7 ty_9 ty_10 ty_11 ty_12 ty_13 ty_14 ty_15 ty_16 ty_17 ty_18 ty_19 ty_20 ty_21 ty_22 ty_23 ty_24 ty_25 ty_26 ty_27 ty_29 ty_31 ty_32 ty_41 ty_42 ty_43 ty_44 ty_45 ty_47 ty_48 ty_49 ty_50 ty_51 ty_52 mp_228 mp_229 mp_241 mp_242 mp_243 mp_246
attribute [local congr] wT_congr ob_congr obP_congr iteD_congr condP_congr gdV_congr markP_congr


/-- nothing changes but at one place and behind C -/
def Keep (i C : Nat) (hp hp' : List Obj) : Prop := ∀ J : List Obj → Prop, (∀ hp r, J hp → J (hp ++ r)) → (∀ hp j o, J hp → (j = i ∨ C ≤ j) → J (hp.set j o)) → J hp → J hp'
theorem Keep.at {i C : Nat} {hp hp' : List Obj} (h : Keep i C hp hp') {j : Nat} {o : Obj} (hj : j ≠ i) (hC : j < C) (g : At hp j o) : At hp' j o :=
  h (fun hp => At hp j o) (fun _ _ h => h.app) (fun _ k _ h hk => h.ne (by rcases hk with rfl | hk; exact fun e => hj e.symm; omega)) g
theorem Keep.refl {i C : Nat} {hp : List Obj} : Keep i C hp hp := fun _ _ _ h => h
theorem Keep.trans {i C : Nat} {hp hp' hp'' : List Obj} (h : Keep i C hp hp') (h' : Keep i C hp' hp'') : Keep i C hp hp'' := fun J h1 h2 h3 => h' J h1 h2 (h J h1 h2 h3)
theorem Keep.app {i C : Nat} {hp r : List Obj} : Keep i C hp (hp ++ r) := fun _ h1 _ h3 => h1 _ _ h3
theorem Keep.set {i C j : Nat} {o : Obj} {hp : List Obj} (hj : j = i ∨ C ≤ j) : Keep i C hp (hp.set j o) := fun _ _ h2 h3 => h2 _ _ _ h3 hj

theorem Keep.le {C C' : Nat} {hp hp' : List Obj} (h : Keep C C hp hp') (hC : C' ≤ C) : Keep C' C' hp hp' := fun J h1 h2 h3 => h J h1 (fun hp j o hj _ => h2 hp j o hj (.inr (by omega))) h3

theorem s244 (n : Int) (h : 0 ≤ n) (h' : n ≤ 1000000) (hp : List Obj) : runS E (dL E) (244) [.imm .exact [], dI n] hp = some (.imm (.tok hp.length) [], hp ++ [.tok 0 4]) := by
  have e : E.fn (244) = some f244 := rfl
  have e2 : E.mp 244 = false := rfl
  have e3 : ¬ n < 0 := by omega
  have e4 : n * 65 ≤ maxBytes := by unfold maxBytes; omega
  have e5 : fitsE 4 [] = true := rfl
  unfold runS
  simp only [e, e2, f244, startF, dL_seq, dL_region, dL_ifp, dL_cond, dL_ret, finishQ]
  simp [stepOps, stepOp, wantedD, putO, DOp.fin, finOp, pureOp, getO, gOf, dL_ret, finishF, resD, appendG, appendM, appendI, lenD, binD, listOf, applyEf, addO, dL_cond, dL_skip, isMark, e3, e4, e5, h, intBin]

theorem fitsA_var {l : List Var} : fitsE 4 (l.map dVar) = true := by
  unfold fitsE
  rw [List.all_eq_true]
  intro x hx
  obtain ⟨r, _, rfl⟩ := List.mem_map.1 hx
  rfl
/-- the first lists, joined -/
def catN (ls : List (List Var)) (i : Nat) : List Var := (ls.take i).flatten
theorem catN_s {ls : List (List Var)} {i : Nat} (h : i < ls.length) : catN ls (i + 1) = catN ls i ++ ls[i] := by
  unfold catN
  rw [List.take_succ_eq_append_getElem h, List.flatten_append]; simp
theorem catN_le {ls : List (List Var)} {i : Nat} : (catN ls i).length ≤ (catN ls ls.length).length := by
  have h : ls.flatten = (ls.take i).flatten ++ (ls.drop i).flatten := by rw [← List.flatten_append, List.take_append_drop]
  unfold catN
  rw [List.take_length, h, List.length_append]; omega
theorem appOk_var {a b : List Var} (h : a.length + b.length ≤ 100000) : appOk E 15 (a.map dVar) (b.map dVar) := by
  refine ⟨?_, ?_, ?_, fitsA_var⟩ <;> simp [maxBytes]
  omega

set_option maxHeartbeats 4000000 in
theorem r233 (ls : List (List Var)) (h1 : (catN ls ls.length).length ≤ 1000) (h2 : ls.length ≤ 1000) : runP E (dL E) 233 [.imm .none (ls.map fun l => .imm .none (l.map dVar))] = some (.imm .none ((catN ls ls.length).map dVar)) := by
  refine runP_T c233 (by simp) ?_
  simp [t233, n233]
  refine wT_up ls.length (fun i env h => ∃ (x1 x3 x4 x5 x9 x10 x11 x12 x13 x14 x15 x16 : D) (m : Nat), env = [.imm .none (ls.map fun l => .imm .none (l.map dVar)), x1, dI m, x3, x4, x5, .imm .none (ls.map fun l => .imm .none (l.map dVar)), dI ls.length, dI i, x9, x10, x11, x12, x13, x14, x15, x16] ∧ h = [] ∧ m = (catN ls i).length) 0 (by omega) ⟨_, _, _, _, _, _, _, _, _, _, _, _, 0, rfl, rfl, rfl⟩ ?_
  rintro i env h hi ⟨x1, x3, x4, x5, x9, x10, x11, x12, x13, x14, x15, x16, m, rfl, rfl, hm⟩
  by_cases hlt : i < ls.length
  · have hs := catN_s hlt
    have hb := catN_le (ls := ls) (i := i + 1)
    obtain ⟨W, hW⟩ : ∃ W, ls[i] = W := ⟨_, rfl⟩
    rw [hW] at hs
    rw [hs, List.length_append] at hb
    have w := wrap_i64 (n := (m : Int) + W.length) ⟨by omega, by omega⟩
    have hn : ¬ (m : Int) + W.length < 0 := by omega
    rw [hm] at w hn
    simp [hlt, hW, w, hn, wrap_up hlt (by omega), hs, hm]
  · have : i = ls.length := by omega
    subst this
    have e := s244 (m : Int) (by omega) (by omega) []
    have fb : ∀ l : List Var, ((l.map dVar).all fun d => d.storable && d.cellsL.length == 4) = true := fun l => fitsA_var
    simp [e]
    refine wT_up ls.length (fun i env h => ∃ (x1 x2 x3 x5 x6 x7 x8 x9 x10 x11 x15 x16 : D) (k : Nat), env = [.imm .none (ls.map fun l => .imm .none (l.map dVar)), x1, x2, x3, .imm (.tok k) ((catN ls i).map dVar), x5, x6, x7, x8, x9, x10, x11, .imm .none (ls.map fun l => .imm .none (l.map dVar)), dI ls.length, dI i, x15, x16] ∧ At h k (.tok ((catN ls i).length * 4) 4)) 0 (by omega) ⟨_, _, _, _, _, _, _, _, _, _, _, _, 0, rfl, rfl⟩ ?_
    clear hi hm e
    rintro i env h hi ⟨x1, x2, x3, x5, x6, x7, x8, x9, x10, x11, x15, x16, k, rfl, a1⟩
    by_cases hlt : i < ls.length
    · have hs := catN_s hlt
      have hb := catN_le (ls := ls) (i := i + 1)
      obtain ⟨W, hW⟩ : ∃ W, ls[i] = W := ⟨_, rfl⟩
      obtain ⟨C, hC⟩ : ∃ C, catN ls i = C := ⟨_, rfl⟩
      obtain ⟨C', hC'⟩ : ∃ C, catN ls (i + 1) = C := ⟨_, rfl⟩
      rw [hW, hC, hC'] at hs
      rw [hC', hs, List.length_append] at hb
      have hap := appOk_var (a := C) (b := W) (by omega)
      rw [hC] at a1 ⊢
      have hcat : C.map dVar ++ W.map dVar = C'.map dVar := by rw [hs]; simp
      have hlen : C'.length = C.length + W.length := by rw [hs]; simp
      simp [hlt, hW, app0_step, app0_tok, a1.eq, hap, fb, wrap_up hlt (by omega), ↓hC']
      have hg := get_app2 (hp := h.set k Obj.dead) (r := [Obj.tok ((C.length + W.length) * 4) 4]) (k := 0)
      rw [List.length_set, Nat.add_zero] at hg
      repeat apply Exists.intro
      refine ⟨?_, hg.trans (by rw [hlen]; rfl)⟩
      and_intros <;> first | rfl | exact hcat
    · have : i = ls.length := by omega
      subst this
      simp


/-- a problem with another variable -/
def putVar (p : Prob) (i : Nat) (v : Var) : Prob := ⟨p.cells, p.capacity, p.vars.set i v⟩

theorem slice_hiV {l : List Var} {i : Nat} (h : i ≤ l.length) : sliceD E 14 (.imm .none (l.map dVar)) none (some (dI i)) none = some (.imm .none ((l.take i).map dVar)) := by
  have hh : headFits 4 (l.map dVar) = true := by cases l <;> rfl
  simp [sliceD, bnd, sliceSpare, hh, h]
theorem slice_loV {l : List Var} {i : Nat} (h : i ≤ l.length) : sliceD E 14 (.imm .none (l.map dVar)) (some (dI i)) none none = some (.imm .none ((l.drop i).map dVar)) := by
  have hh : headFits 4 (l.map dVar) = true := by cases l <;> rfl
  have ht : (List.drop i (l.map dVar)).take (l.length - i) = List.drop i (l.map dVar) := List.take_of_length_le (by simp)
  simp [sliceD, bnd, sliceSpare, hh, h, ht]

set_option maxHeartbeats 4000000 in
theorem r224 (p : Prob) (i : Nat) (v : Var) (hi : i < p.vars.length) (hv : p.vars.length ≤ 100) : runP E (dL E) 224 [dProb p, dI i, .imm .none [dVar v]] = some (dProb (putVar p i v)) := by
  refine runP_T c224 (by simp) ?_
  have s1 := slice_hiV (l := p.vars) (i := i) (by omega)
  have s2 := slice_loV (l := p.vars) (i := i + 1) (by omega)
  have hc : catN [p.vars.take i, [v], p.vars.drop (i + 1)] 3 = p.vars.set i v := by
    simp [catN, List.set_eq_take_append_cons_drop, hi]
  obtain ⟨A, hA⟩ : ∃ A, p.vars.take i = A := ⟨_, rfl⟩
  obtain ⟨C, hC⟩ : ∃ C, p.vars.drop (i + 1) = C := ⟨_, rfl⟩
  obtain ⟨V, hV⟩ : ∃ V, p.vars.set i v = V := ⟨_, rfl⟩
  have hVl : V.length = p.vars.length := by rw [← hV, List.length_set]
  rw [hA] at s1
  rw [hC] at s2
  rw [hA, hC, hV] at hc
  have h233 := r233 [A, [v], C] (by rw [show [A, [v], C].length = 3 from rfl, hc]; omega) (by simp)
  rw [show [A, [v], C].length = 3 from rfl, hc] at h233
  unfold putVar
  rw [hV]
  have w := wrap_i64 (n := (i : Int) + 1) ⟨by omega, by omega⟩
  simp at h233 s1 s2
  simp [t224, n224, w, s1, s2, h233]

theorem wrap_up9 {i n : Nat} (h : i < n) (hn : n ≤ 9223372036854775807) : Go.IntKind.i64.wrap ((i : Int) + 1) = (i : Int) + 1 := wrap_i64 ⟨by omega, by omega⟩
theorem wrap_pred9 {i : Nat} (h0 : 0 < i) (h : i ≤ 9223372036854775807) : Go.IntKind.i64.wrap ((i : Int) - 1) = ((i - 1 : Nat) : Int) := by
  rw [wrap_i64 ⟨by omega, by omega⟩]; omega
theorem wrap_nat9 {n : Nat} (h : n ≤ 9223372036854775807) : Go.IntKind.i64.wrap (n : Int) = (n : Int) := wrap_i64 ⟨by omega, by omega⟩

/-- what is known of a problem with a variable that may be great -/
structure Mid (p : Prob) : Prop where
  cells : p.cells.length ≤ 12
  cap : p.capacity.length ≤ 4
  rows : ∀ l, l ∈ p.capacity → l.length ≤ 16
  vars : p.vars.length ≤ 6
  leaves : ∀ v, v ∈ p.vars → v.leaves.length ≤ 9223372036854775807
  choices : ∀ v, v ∈ p.vars → v.choices.length ≤ 9223372036854775807
  uses : ∀ v, v ∈ p.vars → ∀ c, c ∈ v.choices → c.uses.length ≤ 9223372036854775807

theorem g73 (l : List Int) (k : Nat) (c : Int → Int → Int) (hc : ∀ a b, runP E (dL E) k [dI a, dI b] = some (dI (c a b))) (hl : l.length ≤ 9223372036854775807) :
    runP E (dL E) 73 [.imm .none (l.map dI), .fn k []] = some (.bool (incrB c l)) := by
  refine runP_T c73 (by simp) ?_
  simp [t73, n73]
  refine wT_up (l.length + 1) (fun i env hp => ∃ c4 c5 : D, env = [.imm .none (l.map dI), .fn k [], .bool false, dI i, c4, c5] ∧ ∃ j, i = j + 1 ∧ incrB c (l.drop j) = incrB c l) 1 (by omega) ⟨_, _, rfl, 0, rfl, rfl⟩ ?_
  rintro i env hp hi ⟨c4, c5, rfl, j, rfl, hm⟩
  by_cases hlt : j + 1 < l.length
  · have hj : j < l.length := by omega
    rw [drop_cons hj, drop_cons hlt] at hm
    have hk := hc l[j] l[j + 1]
    have hlt' : (j : Int) + 1 < l.length := by omega
    have hnn : (0 : Int) ≤ (j : Int) + 1 := by omega
    by_cases h0 : c l[j] l[j + 1] < 0
    · simp [incrB, h0] at hm
      have h0' : ¬ 0 ≤ c l[j] l[j + 1] := by omega
      simp [hlt, hlt', hj, hnn, wrap_nat9 (n := j) (by omega), wrap_i64 (n := (j : Int) + 1) ⟨by omega, by omega⟩, wrap_i64 (n := (j : Int) + 1 + 1) ⟨by omega, by omega⟩, hk, h0', hm]
    · simp [incrB, h0] at hm
      have h0' : 0 ≤ c l[j] l[j + 1] := by omega
      simp [hlt, hlt', hj, hnn, wrap_nat9 (n := j) (by omega), wrap_i64 (n := (j : Int) + 1) ⟨by omega, by omega⟩, hk, h0', hm]
  · have he : incrB c (l.drop j) = true := incrB_end (by simp; omega)
    have hlt' : ¬ (j : Int) + 1 < l.length := by omega
    rw [he] at hm
    simp [hlt, hlt', ← hm]

theorem g75 (l : List Use) (k : Nat) (c : Use → Use → Int) (hc : ∀ a b, runP E (dL E) k [dUse a, dUse b] = some (dI (c a b))) (hl : l.length ≤ 9223372036854775807) :
    runP E (dL E) 75 [.imm .none (l.map dUse), .fn k []] = some (.bool (incrB c l)) := by
  refine runP_T c75 (by simp) ?_
  simp [t75, n75]
  refine wT_up (l.length + 1) (fun i env hp => ∃ c4 c5 : D, env = [.imm .none (l.map dUse), .fn k [], .bool false, dI i, c4, c5] ∧ ∃ j, i = j + 1 ∧ incrB c (l.drop j) = incrB c l) 1 (by omega) ⟨_, _, rfl, 0, rfl, rfl⟩ ?_
  rintro i env hp hi ⟨c4, c5, rfl, j, rfl, hm⟩
  by_cases hlt : j + 1 < l.length
  · have hj : j < l.length := by omega
    rw [drop_cons hj, drop_cons hlt] at hm
    have hk := hc l[j] l[j + 1]
    have hlt' : (j : Int) + 1 < l.length := by omega
    have hnn : (0 : Int) ≤ (j : Int) + 1 := by omega
    by_cases h0 : c l[j] l[j + 1] < 0
    · simp [incrB, h0] at hm
      have h0' : ¬ 0 ≤ c l[j] l[j + 1] := by omega
      simp [hlt, hlt', hj, hnn, wrap_nat9 (n := j) (by omega), wrap_i64 (n := (j : Int) + 1) ⟨by omega, by omega⟩, wrap_i64 (n := (j : Int) + 1 + 1) ⟨by omega, by omega⟩, hk, h0', hm]
    · simp [incrB, h0] at hm
      have h0' : 0 ≤ c l[j] l[j + 1] := by omega
      simp [hlt, hlt', hj, hnn, wrap_nat9 (n := j) (by omega), wrap_i64 (n := (j : Int) + 1) ⟨by omega, by omega⟩, hk, h0', hm]
  · have he : incrB c (l.drop j) = true := incrB_end (by simp; omega)
    have hlt' : ¬ (j : Int) + 1 < l.length := by omega
    rw [he] at hm
    simp [hlt, hlt', ← hm]

set_option maxHeartbeats 8000000 in
theorem g15 (p : Prob) (S : Mid p) : runP E (dL E) 15 [dProb p] = some (dI (ck p)) := by
  refine runP_T c15 (by simp) ?_
  generalize hB : ck p = B
  have hBf : ¬ OkP p → B = 270 := by intro h; rw [← hB]; simp [ck, h]
  have hBt : OkP p → B = 0 := by intro h; rw [← hB]; simp [ck, h]
  have s1 := S.cells
  have s2 := S.cap
  have s3 := S.vars
  have h69 := r69 p.cells 70 cmpC r70 (by omega)
  simp [t15, n15, r67, h69]
  have h1 : ¬ (4096 : Int) < p.cells.length := by omega
  by_cases h2 : (p.capacity.length : Int) < 1
  · have h2' : ((p.capacity.length : Int) < 1 ∨ (32 : Int) < p.capacity.length) := .inl h2
    simp [h1, h2', hBf (fun ok => by have := ok.some; omega)]
  have h2' : ¬ ((p.capacity.length : Int) < 1 ∨ (32 : Int) < p.capacity.length) := by omega
  have h4 : ¬ (64 : Int) < p.vars.length := by omega
  cases hinc : incrB cmpC p.cells with
  | false =>
    simp [h1, h2', h4, hBf (fun ok => by
      have : incrB cmpC p.cells = true := incrB_iff.2 fun i hi => by
        have := ok.incr i hi
        rw [← ltC_cmp] at this; exact this
      rw [hinc] at this; cases this)]
  | true =>
  have hincr := incrB_iff.1 hinc
  simp [h1, h2', h4]
  obtain ⟨P, hP⟩ : ∃ P : Nat → Prop, P = fun i => ∀ (h : i < p.cells.length), 0 ≤ p.cells[i].index ∧ 0 ≤ p.cells[i].minute := ⟨_, rfl⟩
  refine wT_all p.cells.length P
    (fun i env hp => ∃ (x4 x5 x6 x7 x8 x9 x10 x11 x15 x16 x17 x18 x19 x20 x21 x22 x23 x24 x25 x26 x27 x28 x29 x30 x31 x32 x33 x34 x35 x36 x37 x38 x39 x40 : D) (es : List Cell) (h : List Obj), env = [dProb p, .loc 0 0, dI 0, .map (some 1), x4, x5, x6, x7, x8, x9, x10, x11, .imm .none (p.cells.map dCell), dI p.cells.length, dI i, x15, x16, x17, x18, x19, x20, x21, x22, x23, x24, x25, x26, x27, x28, x29, x30, x31, x32, x33, x34, x35, x36, x37, x38, x39, x40] ∧ hp = .cells (dProb p).cellsL :: .map (es.map kent) :: h ∧ ∀ c, c ∈ es ↔ c ∈ p.cells.take i)
    ⟨_, _, _, _, _, _, _, _, _, _, _, _, _, _, _, _, _, _, _, _, _, _, _, _, _, _, _, _, _, _, _, _, _, _, [], _, rfl, rfl, by simp⟩ ?_ ?_
  · rintro i env hp hi ⟨x4, x5, x6, x7, x8, x9, x10, x11, x15, x16, x17, x18, x19, x20, x21, x22, x23, x24, x25, x26, x27, x28, x29, x30, x31, x32, x33, x34, x35, x36, x37, x38, x39, x40, es, h, rfl, rfl, hes⟩ hall
    have hBc : ¬ (0 ≤ p.cells[i].index ∧ 0 ≤ p.cells[i].minute) → B = 270 := fun hn => hBf (fun ok => hn (ok.nonneg _ (List.getElem_mem hi)))
    simp [hi, get_mid, set_mid]
    by_cases g1 : p.cells[i].index < 0
    · simp [g1, hBc (by omega)]
    by_cases g2 : p.cells[i].minute < 0
    · simp [g1, g2, hBc (by omega)]
    have hPi : P i := by rw [hP]; exact fun _ => ⟨by omega, by omega⟩
    have hput := put_kent (c := p.cells[i]) (es := es)
    simp at hput
    simp [g1, g2, get_mid, hput, wrap_up9 hi (by omega), hPi]
    refine ⟨_, rfl, fun c => ?_⟩
    have hts : p.cells.take (i + 1) = p.cells.take i ++ [p.cells[i]] := by simp
    rw [hts, List.mem_append, ← hes c]
    by_cases hm : p.cells[i] ∈ es
    · rw [if_pos hm]
      constructor
      · exact .inl
      · rintro (h | h)
        · exact h
        · simp at h; rw [h]; exact hm
    · rw [if_neg hm, List.mem_append]
  rintro env hp ⟨x4, x5, x6, x7, x8, x9, x10, x11, x15, x16, x17, x18, x19, x20, x21, x22, x23, x24, x25, x26, x27, x28, x29, x30, x31, x32, x33, x34, x35, x36, x37, x38, x39, x40, es, h, rfl, rfl, hes⟩ hcells
  rw [hP] at hcells
  rw [List.take_length] at hes
  simp
  clear hP P
  obtain ⟨P, hP⟩ : ∃ P : Nat → Prop, P = fun i => ∀ (h : i < p.capacity.length), p.capacity[i].length = p.cells.length ∧ ∀ n, n ∈ p.capacity[i] → wi n 0 4096 := ⟨_, rfl⟩
  refine wT_all p.capacity.length P
    (fun i env hp => ∃ (x4 x5 x6 x7 x8 x9 x10 x11 x12 x13 x14 x15 x16 x17 x21 x22 x23 x24 x25 x26 x27 x28 x29 x30 x31 x32 x33 x34 x35 x36 x37 x38 x39 x40 : D) (h : List Obj), env = [dProb p, .loc 0 0, dI 0, .map (some 1), x4, x5, x6, x7, x8, x9, x10, x11, x12, x13, x14, x15, x16, x17, .imm .none (p.capacity.map dInts), dI p.capacity.length, dI i, x21, x22, x23, x24, x25, x26, x27, x28, x29, x30, x31, x32, x33, x34, x35, x36, x37, x38, x39, x40] ∧ hp = .cells (dProb p).cellsL :: .map (es.map kent) :: h)
    ⟨_, _, _, _, _, _, _, _, _, _, _, _, _, _, _, _, _, _, _, _, _, _, _, _, _, _, _, _, _, _, _, _, _, _, _, rfl, rfl⟩ ?_ ?_
  · rintro i env hp hi ⟨x4, x5, x6, x7, x8, x9, x10, x11, x12, x13, x14, x15, x16, x17, x21, x22, x23, x24, x25, x26, x27, x28, x29, x30, x31, x32, x33, x34, x35, x36, x37, x38, x39, x40, h, rfl, rfl⟩ hall
    have hBc : ¬ (p.capacity[i].length = p.cells.length ∧ ∀ n, n ∈ p.capacity[i] → wi n 0 4096) → B = 270 := fun hn => hBf (fun ok => hn (ok.cap _ (List.getElem_mem hi)))
    obtain ⟨q, hq, h71⟩ := r71w p.capacity[i] (by have := S.rows _ (List.getElem_mem hi); omega)
    simp [hi, h71]
    by_cases g1 : p.capacity[i].length = p.cells.length
    rotate_left
    · have g1' : ¬ (p.capacity[i].length : Int) = p.cells.length := by omega
      simp [g1, g1', hBc (fun h => g1 h.1)]
    simp [g1]
    cases q with
    | false =>
      have g2 : ∀ n, n ∈ p.capacity[i] → wi n 0 4096 := Classical.byContradiction fun h => by
        have := hq.2 h; cases this
      have hPi : P i := by rw [hP]; exact fun _ => ⟨g1, g2⟩
      simp [wrap_up9 hi (by omega), hPi]
    | true => simp [hBc (fun h => hq.1 rfl h.2)]
  rintro env hp ⟨x4, x5, x6, x7, x8, x9, x10, x11, x12, x13, x14, x15, x16, x17, x21, x22, x23, x24, x25, x26, x27, x28, x29, x30, x31, x32, x33, x34, x35, x36, x37, x38, x39, x40, h, rfl, rfl⟩ hcap
  rw [hP] at hcap
  simp
  clear hP P
  obtain ⟨P, hP⟩ : ∃ P : Nat → Prop, P = fun i => ∀ (h : i < p.vars.length), OkVar p p.vars[i] := ⟨_, rfl⟩
  refine wT_all p.vars.length P
    (fun i env hp => ∃ (x4 x5 x6 x7 x8 x9 x10 x11 x12 x13 x14 x15 x16 x17 x18 x19 x20 x21 x22 x26 x27 x28 x29 x30 x31 x32 x33 x34 x35 x36 x37 x38 x39 x40 : D) (h : List Obj), env = [dProb p, .loc 0 0, dI 0, .map (some 1), x4, x5, x6, x7, x8, x9, x10, x11, x12, x13, x14, x15, x16, x17, x18, x19, x20, x21, x22, .imm .none (p.vars.map dVar), dI p.vars.length, dI i, x26, x27, x28, x29, x30, x31, x32, x33, x34, x35, x36, x37, x38, x39, x40] ∧ hp = .cells (dProb p).cellsL :: .map (es.map kent) :: h)
    ⟨_, _, _, _, _, _, _, _, _, _, _, _, _, _, _, _, _, _, _, _, _, _, _, _, _, _, _, _, _, _, _, _, _, _, _, rfl, rfl⟩ ?_ ?_
  · rintro i env hp hi ⟨x4, x5, x6, x7, x8, x9, x10, x11, x12, x13, x14, x15, x16, x17, x18, x19, x20, x21, x22, x26, x27, x28, x29, x30, x31, x32, x33, x34, x35, x36, x37, x38, x39, x40, h, rfl, rfl⟩ hall
    have hmem := List.getElem_mem hi
    have hBv : ¬ OkVar p p.vars[i] → B = 270 := fun hn => hBf (fun ok => hn (ok.vars _ hmem))
    have l1 := S.leaves _ hmem
    have l2 := S.choices _ hmem
    have h73 := g73 p.vars[i].leaves 74 cmpI r74 (by omega)
    have hcapw := s2
    simp [hi, get_mid, set_mid, r67, h73]
    by_cases g1 : p.vars[i].leaves = []
    · simp [g1, hBv (fun ok => by have := ok.some; rw [g1] at this; simp at this)]
    have g1l : p.vars[i].leaves.length ≠ 0 := fun h => g1 (List.length_eq_zero_iff.1 h)
    by_cases g2 : (p.vars[i].choices.length : Int) < 1
    · have g2' : ¬ (1 : Int) ≤ p.vars[i].choices.length := by omega
      simp [g1, g2', hBv (fun ok => by have := ok.one; omega)]
    have g2' : (1 : Int) ≤ p.vars[i].choices.length := by omega
    by_cases g2'' : (p.vars[i].choices.length : Int) ≤ 96
    rotate_left
    · simp [g1, g2', g2'', hBv (fun ok => by have := ok.most; omega)]
    cases g3 : incrB cmpI p.vars[i].leaves with
    | false =>
      simp [g1, g2', g2'', hBv (fun ok => by
        have : incrB cmpI p.vars[i].leaves = true := incrB_iff.2 fun k hk => cmpI_neg.2 (ok.incr k hk)
        rw [g3] at this; cases this)]
    | true =>
    have g3' := incrB_iff.1 g3
    have hl0 : 0 < p.vars[i].leaves.length := by omega
    by_cases g4 : p.vars[i].leaves[0] < 0
    · simp [g1, g2', g2'', hl0, get_mid, g4, hBv (fun ok => by
        have := ok.leaves _ (List.getElem_mem hl0)
        unfold wi at this; omega)]
    have hl1 : p.vars[i].leaves.length - 1 < p.vars[i].leaves.length := by omega
    have hwp : Go.IntKind.i64.wrap ((p.vars[i].leaves.length : Int) - 1) = ((p.vars[i].leaves.length - 1 : Nat) : Int) := wrap_pred9 hl0 (by omega)
    by_cases g5 : (p.capacity.length : Int) ≤ p.vars[i].leaves[p.vars[i].leaves.length - 1]
    · simp [g1, g2', g2'', hl0, hl1, get_mid, g4, g5, hwp, hBv (fun ok => by
        have := ok.leaves _ (List.getElem_mem hl1)
        unfold wi at this; omega)]
    simp [g1, g2', g2'', hl0, hl1, get_mid, g4, g5, hwp]
    have hleaves : ∀ n, n ∈ p.vars[i].leaves → wi n 0 (p.capacity.length - 1) := mem_get.2 fun k hk => by
      have e : ∀ (k : Nat) (hk : k + 1 < p.vars[i].leaves.length), p.vars[i].leaves[k] < p.vars[i].leaves[k + 1] := fun k hk => cmpI_neg.1 (g3' k hk)
      have e1 := incr_le e k 0 hk (by omega)
      have e2 := incr_le e (p.vars[i].leaves.length - 1) k hl1 (by omega)
      unfold wi; omega
    obtain ⟨P2, hP2⟩ : ∃ P : Nat → Prop, P = fun k => ∀ (h : k < p.vars[i].choices.length), OkChoice p p.vars[i].choices[k] := ⟨_, rfl⟩
    refine wT_all p.vars[i].choices.length P2
      (fun k env hp => ∃ (x4 x5 x7 x8 x9 x10 x11 x12 x13 x14 x15 x16 x17 x18 x19 x20 x21 x22 x26 x27 x28 x32 x33 x34 x35 x36 x37 x38 x39 x40 : D) (G : List Obj), env = [dProb p, .loc 0 0, dI 0, .map (some 1), x4, x5, .loc (h.length + 2) 0, x7, x8, x9, x10, x11, x12, x13, x14, x15, x16, x17, x18, x19, x20, x21, x22, .imm .none (p.vars.map dVar), dI p.vars.length, dI i, x26, x27, x28, .imm .none (p.vars[i].choices.map dChoice), dI p.vars[i].choices.length, dI k, x32, x33, x34, x35, x36, x37, x38, x39, x40] ∧ hp = .cells (dProb p).cellsL :: .map (es.map kent) :: G ∧ G[h.length]? = some (.cells (dVar p.vars[i]).cellsL))
      ⟨_, _, _, _, _, _, _, _, _, _, _, _, _, _, _, _, _, _, _, _, _, _, _, _, _, _, _, _, _, _, _, rfl, rfl, get_mid⟩ ?_ ?_
    · rintro k env hp hk ⟨x4, x5, x7, x8, x9, x10, x11, x12, x13, x14, x15, x16, x17, x18, x19, x20, x21, x22, x26, x27, x28, x32, x33, x34, x35, x36, x37, x38, x39, x40, G, rfl, rfl, hG⟩ hall2
      have hBc : ¬ OkChoice p p.vars[i].choices[k] → B = 270 := fun hn => hBv (fun ok => hn (ok.choices _ (List.getElem_mem hk)))
      have hmemk := List.getElem_mem hk
      have l3 := S.uses _ hmem _ hmemk
      have h75 := g75 p.vars[i].choices[k].uses 76 (fun a b => cmpC a.cell b.cell) r76 (by omega)
      simp [hk, get_mid, set_mid, r67, h75]
      by_cases k1 : wi p.vars[i].choices[k].delay 0 1048576
      rotate_left
      · rcases wi_neg k1 with ⟨q1, q2⟩ | ⟨q1, q2, q3, q4⟩
        · simp [q1, q2, hBc (fun ok => k1 ok.delay)]
        · simp [q1, q2, q3, q4, hBc (fun ok => k1 ok.delay)]
      obtain ⟨a1, a2, a3, a4⟩ := wi_pos k1
      by_cases k2 : wi p.vars[i].choices[k].cost 0 1048576
      rotate_left
      · rcases wi_neg k2 with ⟨q1, q2⟩ | ⟨q1, q2, q3, q4⟩
        · simp [a1, a2, a3, a4, q1, q2, hBc (fun ok => k2 ok.cost)]
        · simp [a1, a2, a3, a4, q1, q2, q3, q4, hBc (fun ok => k2 ok.cost)]
      obtain ⟨b1, b2, b3, b4⟩ := wi_pos k2
      by_cases k3 : wi p.vars[i].choices[k].changes 0 1048576
      rotate_left
      · rcases wi_neg k3 with ⟨q1, q2⟩ | ⟨q1, q2, q3, q4⟩
        · simp [a1, a2, a3, a4, b1, b2, b3, b4, q1, q2, hBc (fun ok => k3 ok.changes)]
        · simp [a1, a2, a3, a4, b1, b2, b3, b4, q1, q2, q3, q4, hBc (fun ok => k3 ok.changes)]
      obtain ⟨c1, c2, c3, c4⟩ := wi_pos k3
      cases k4 : incrB (fun a b : Use => cmpC a.cell b.cell) p.vars[i].choices[k].uses with
      | false =>
        simp [a1, a2, a3, a4, b1, b2, b3, b4, c1, c2, c3, c4, hBc (fun ok => by
          have : incrB (fun a b : Use => cmpC a.cell b.cell) p.vars[i].choices[k].uses = true := incrB_iff.2 fun q hq => by
            have := ok.incr q hq
            rw [← ltC_cmp] at this; exact this
          rw [k4] at this; cases this)]
      | true =>
      have k4' := incrB_iff.1 k4
      simp [a1, a2, a3, a4, b1, b2, b3, b4, c1, c2, c3, c4, get_mid]
      obtain ⟨P3, hP3⟩ : ∃ P : Nat → Prop, P = fun q => ∀ (h : q < p.vars[i].choices[k].uses.length), OkUse p p.vars[i].choices[k].uses[q] := ⟨_, rfl⟩
      have hGa : ∀ r, (G ++ r)[h.length]? = some (.cells (dVar p.vars[i]).cellsL) := fun r => by
        rw [List.getElem?_append_left (List.getElem?_eq_some_iff.1 hG).1]; exact hG
      refine wT_all p.vars[i].choices[k].uses.length P3
        (fun q env hp => ∃ (x4 x5 x9 x10 x11 x12 x13 x14 x15 x16 x17 x18 x19 x20 x21 x22 x26 x27 x28 x32 x33 x34 x38 x39 x40 : D) (G2 : List Obj), env = [dProb p, .loc 0 0, dI 0, .map (some 1), x4, x5, .loc (h.length + 2) 0, .loc (G.length + 2) 0, dI 1048576, x9, x10, x11, x12, x13, x14, x15, x16, x17, x18, x19, x20, x21, x22, .imm .none (p.vars.map dVar), dI p.vars.length, dI i, x26, x27, x28, .imm .none (p.vars[i].choices.map dChoice), dI p.vars[i].choices.length, dI k, x32, x33, x34, .imm .none (p.vars[i].choices[k].uses.map dUse), dI p.vars[i].choices[k].uses.length, dI q, x38, x39, x40] ∧ hp = .cells (dProb p).cellsL :: .map (es.map kent) :: G2 ∧ G2[h.length]? = some (.cells (dVar p.vars[i]).cellsL))
        ⟨_, _, _, _, _, _, _, _, _, _, _, _, _, _, _, _, _, _, _, _, _, _, _, _, _, _, rfl, rfl, hGa _⟩ ?_ ?_
      · rintro q env hp hq ⟨x4, x5, x9, x10, x11, x12, x13, x14, x15, x16, x17, x18, x19, x20, x21, x22, x26, x27, x28, x32, x33, x34, x38, x39, x40, G2, rfl, rfl, hG2⟩ hall3
        have hGb : ∀ r, (G2 ++ r)[h.length]? = some (.cells (dVar p.vars[i]).cellsL) := fun r => by
          rw [List.getElem?_append_left (List.getElem?_eq_some_iff.1 hG2).1]; exact hG2
        have hBu : (¬ OkUse p p.vars[i].choices[k].uses[q]) → B = 270 := fun hn => hBc (fun ok => hn (ok.uses _ (List.getElem_mem hq)))
        have hfind := find_kent (c := p.vars[i].choices[k].uses[q].cell) (es := es)
        simp at hfind
        simp [hq, get_mid, set_mid, r67, hfind]
        by_cases m1 : p.vars[i].choices[k].uses[q].cell ∈ es
        rotate_left
        · simp [m1, hBu (fun ok => m1 ((hes _).2 ok.known))]
        by_cases m2 : wi p.vars[i].choices[k].uses[q].places 1 8
        rotate_left
        · rcases wi_neg m2 with ⟨q1, q2⟩ | ⟨q1, q2, q3, q4⟩
          · simp [m1, q1, q2, hBu (fun ok => m2 ok.places)]
          · simp [m1, q1, q2, q3, q4, hBu (fun ok => m2 ok.places)]
        obtain ⟨d1, d2, d3, d4⟩ := wi_pos m2
        have hPq : P3 q := by rw [hP3]; exact fun _ => ⟨(hes _).1 m1, m2⟩
        simp [m1, d1, d2, d3, d4, wrap_up9 hq (by omega), hPq]
        simpa using hGb _
      · rintro env hp ⟨x4, x5, x9, x10, x11, x12, x13, x14, x15, x16, x17, x18, x19, x20, x21, x22, x26, x27, x28, x32, x33, x34, x38, x39, x40, G2, rfl, rfl, hG2⟩ hall3
        rw [hP3] at hall3
        have hPk : P2 k := by
          rw [hP2]
          exact fun _ => ⟨k1, k2, k3, mem_get.2 fun q hq => hall3 q hq hq, fun q hq => by
            have := k4' q hq
            rw [ltC_cmp] at this; exact this⟩
        simp [wrap_up9 hk (by omega), hPk]
        simpa using hG2
    · rintro env hp ⟨x4, x5, x7, x8, x9, x10, x11, x12, x13, x14, x15, x16, x17, x18, x19, x20, x21, x22, x26, x27, x28, x32, x33, x34, x35, x36, x37, x38, x39, x40, G, rfl, rfl, hG⟩ hall2
      rw [hP2] at hall2
      have hPi : P i := by
        rw [hP]
        exact fun _ => ⟨by omega, by omega, by omega, hleaves, fun k hk => cmpI_neg.1 (g3' k hk), mem_get.2 fun k hk => hall2 k hk hk⟩
      simp [wrap_up9 hi (by omega), hPi]
  rintro env hp ⟨x4, x5, x6, x7, x8, x9, x10, x11, x12, x13, x14, x15, x16, x17, x18, x19, x20, x21, x22, x26, x27, x28, x29, x30, x31, x32, x33, x34, x35, x36, x37, x38, x39, x40, h, rfl, rfl⟩ hvars
  rw [hP] at hvars
  have : B = 0 := hBt ⟨by omega, mem_get.2 fun i hi => hcells i hi hi, fun i hi => by
    have := hincr i hi
    rw [ltC_cmp] at this; exact this, mem_get.2 fun i hi => hcap i hi hi, mem_get.2 fun i hi => hvars i hi hi⟩
  simp [this]

def prob0 : Prob := ⟨[], [], []⟩
open Classical in
noncomputable def resRep (p : Prob) (i : Int) (v : Var) : D := if OkP p then (if 0 ≤ i ∧ i < p.vars.length then (if OkP (putVar p i.toNat v) then .tup [dProb (putVar p i.toNat v), dI 0] else .tup [dProb prob0, dI 270]) else .tup [dProb prob0, dI 330]) else .tup [dProb prob0, dI 270]

set_option maxHeartbeats 4000000 in
theorem r214 (p : Prob) (i : Int) (v : Var) (S : Small p) (M : ∀ j, j < p.vars.length → Mid (putVar p j v)) : runP E (dL E) 214 [dProb p, dI i, dVar v] = some (resRep p i v) := by
  refine runP_T c214 (by simp) ?_
  have h15 := r15 p S
  simp only [dProb, dInts] at h15
  unfold resRep prob0
  by_cases ok : OkP p
  rotate_left
  · have e : ck p = 270 := by simp [ck, ok]
    simp [t214, n214, h15, e, ok]
  have e : ck p = 0 := by simp [ck, ok]
  by_cases h1 : i < 0
  · have h2 : ¬ (0 ≤ i ∧ i < p.vars.length) := by omega
    simp [t214, n214, h15, e, ok, h1, h2]
  by_cases h2 : i < p.vars.length
  rotate_left
  · have h3 : ¬ (0 ≤ i ∧ i < p.vars.length) := by omega
    have h4 : (p.vars.length : Int) ≤ i := by omega
    simp [t214, n214, h15, e, ok, h1, h3, h4]
  obtain ⟨j, rfl⟩ : ∃ j : Nat, i = (j : Int) := ⟨i.toNat, by omega⟩
  have hj : j < p.vars.length := by omega
  have h3 : (0 : Int) ≤ j ∧ (j : Int) < p.vars.length := by omega
  have h4 : ¬ (p.vars.length : Int) ≤ j := by omega
  have h5 : ¬ (j : Int) < 0 := by omega
  have h224 := r224 p j v hj (by have := S.vars; omega)
  have g := g15 (putVar p j v) (M j hj)
  rw [Int.toNat_natCast]
  obtain ⟨Q, hQ⟩ : ∃ Q, Q = putVar p j v := ⟨_, rfl⟩
  rw [← hQ] at h224 g ⊢
  simp only [dProb, dInts, dVar] at h224 g
  by_cases okq : OkP Q
  · have e2 : ck Q = 0 := by simp [ck, okq]
    rw [e2] at g
    simp [t214, n214, h15, e, ok, h3, h4, h5, hj, h224, g, okq]
  · have e2 : ck Q = 270 := by simp [ck, okq]
    rw [e2] at g
    simp [t214, n214, h15, e, ok, h3, h4, h5, hj, h224, g, okq]

end Dv
