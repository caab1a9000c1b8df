/- Texts that a proof of this claim uses, joined: Lw.W24, Lw.W25, Lw.W26. -/
import Derived.Test.YtffnaiofjjgcgaaWd
set_option linter.all false
/- Walks: the least numbers of choices. -/
namespace Dv
attribute [local simp] wT_skip wK wT_ret wT_exit wR wRp wT_seq wC wT_block rTS_nil rTS_asg rTS_eff rTS_effk ob_some obP_some iteD_b condP_b xv_v xv_c xv_ite xv_bin_tt xv_bin_tc xv_bin_ct xv_bin_cc xv_un_t xv_conv_t xv_load xv_len xv_faddr xv_field xv_iaddr_tt xv_iaddr_tc xv_index_tt xv_index_tc xv_lookup_tt xv_max_tt xv_max_tc xv_max_ct xv_min_tt xv_min_tc xv_min_ct xv_slice_lo_t xv_slice_lo_c xv_slice_hi_t xv_slice_all xv_call xv_bslice bsliceV xv_build buildV xv_mkfn zeroE fillE buildD fillD List.replicate xvs_nil xvs_cons callV_fn frz_bool frz_int frz_imm frz_agg frz_tup frz_fn frz_iptr frzL_nil frzL_one frzL_dI frzL_cell frzL_use frzL_ints frzL_choice frzL_var depth dCell dUse dInts dChoice dVar dProb tStart addO Ret flat_dI flat_rep chunk_dI
 binD_add binD_sub binD_mul binD_eql binD_neq binD_lss binD_leq binD_gtr binD_geq binD_quo binD_rem binD_beql binD_bneq binD_aeql binD_aneq unD_not unD_neg lenD_imm lenD_sl lenD_str readO_cells readO_frozen loadD_loc loadD_iptr iaddrD_imm iaddrD_sl iaddrD_loc faddrD_loc faddrD_iptr fieldD_agg indexD_agg indexD_str cellsL_bool stor_bool atom_bool cellsL_int stor_int atom_int cellsL_str stor_str atom_str cellsL_imm stor_imm atom_imm cellsL_sl stor_sl atom_sl cellsL_loc stor_loc atom_loc cellsL_iptr stor_iptr atom_iptr cellsL_map stor_map atom_map cellsL_fn stor_fn atom_fn cellsL_agg stor_agg cellsL_nilfn stor_nilfn atom_nilfn cellsL_nilp stor_nilp atom_nilp takeC_z takeC_s ofCells_ag ofCells_one ag_bool ag_int ag_str ag_slice ag_struct ag_arr ag_map ag_ptr ag_func gOf_t gOf_c gOf_f kv_cons putE_some putE_none oneRes_one oneRes_two oneRes_three getAll_nil getAll_v getAll_c maxiD_two miniD_two extV_tup xv_ext stepOp_box stepOp_alloc stepOp_store writeO_cells storeD_loc setCells_nil setCells_cons stepOp_mkmap stepOp_mapset stepOp_call1 stepOp_call2 stepOp_app2 stepOp_app1 stepOp_bslice stepOp_mkslice mapO_map lookupD_some lookupD_ok mapsetD_some keyOk_agg kindsL_nil kindsL_bool kindsL_int eqL_nil eqL_cons atomEq_bool atomEq_int frz_sl tokO_tok app0_step app0_exact app0_tok frz_loc oneRes_nil listOf_imm
 ty_0 ty_1 ty_2 ty_3 ty_4 ty_5 ty_6 ty_7 ty_8 ty_9 ty_10 ty_11 ty_12 ty_13 ty_14 ty_15 ty_16 ty_17 ty_18 ty_19 ty_20 ty_21 ty_22 ty_23 ty_24 ty_25 ty_26 ty_27
attribute [local congr] wT_congr ob_congr obP_congr iteD_congr condP_congr

def mn (a b : Int) : Int := if b < a then b else a
def mx (a b : Int) : Int := if a < b then b else a

/-- number by number the lesser one -/
def minC (a c : Choice) : Choice := ⟨mn a.delay c.delay, mn a.cost c.cost, mn a.changes c.changes, a.uses⟩

theorem get_set1 {A : Type} {hp : List A} {i : Nat} {x : A} (h : i < hp.length) : (hp.set i x)[i]? = some x := List.getElem?_set_self h
end Dv

/- Walks: the chosen numbers, one variable after the other. -/
namespace Dv
attribute [local simp] wT_skip wK wT_ret wT_exit wR wRp wT_seq wC wT_block rTS_nil rTS_asg rTS_eff rTS_effk ob_some obP_some iteD_b condP_b xv_v xv_c xv_ite xv_bin_tt xv_bin_tc xv_bin_ct xv_bin_cc xv_un_t xv_conv_t xv_load xv_len xv_faddr xv_field xv_iaddr_tt xv_iaddr_tc xv_index_tt xv_index_tc xv_lookup_tt xv_max_tt xv_max_tc xv_max_ct xv_min_tt xv_min_tc xv_min_ct xv_slice_lo_t xv_slice_lo_c xv_slice_hi_t xv_slice_all xv_call xv_bslice bsliceV xv_build buildV xv_mkfn zeroE fillE buildD fillD List.replicate xvs_nil xvs_cons callV_fn frz_bool frz_int frz_imm frz_agg frz_tup frz_fn frz_iptr frzL_nil frzL_one frzL_dI frzL_cell frzL_use frzL_ints frzL_choice frzL_var depth dCell dUse dInts dChoice dVar dProb tStart addO Ret flat_dI flat_rep chunk_dI
 binD_add binD_sub binD_mul binD_eql binD_neq binD_lss binD_leq binD_gtr binD_geq binD_quo binD_rem binD_beql binD_bneq binD_aeql binD_aneq unD_not unD_neg lenD_imm lenD_sl lenD_str readO_cells readO_frozen loadD_loc loadD_iptr iaddrD_imm iaddrD_sl iaddrD_loc faddrD_loc faddrD_iptr fieldD_agg indexD_agg indexD_str cellsL_bool stor_bool atom_bool cellsL_int stor_int atom_int cellsL_str stor_str atom_str cellsL_imm stor_imm atom_imm cellsL_sl stor_sl atom_sl cellsL_loc stor_loc atom_loc cellsL_iptr stor_iptr atom_iptr cellsL_map stor_map atom_map cellsL_fn stor_fn atom_fn cellsL_agg stor_agg cellsL_nilfn stor_nilfn atom_nilfn cellsL_nilp stor_nilp atom_nilp takeC_z takeC_s ofCells_ag ofCells_one ag_bool ag_int ag_str ag_slice ag_struct ag_arr ag_map ag_ptr ag_func gOf_t gOf_c gOf_f kv_cons putE_some putE_none oneRes_one oneRes_two oneRes_three getAll_nil getAll_v getAll_c maxiD_two miniD_two extV_tup xv_ext stepOp_box stepOp_alloc stepOp_store writeO_cells storeD_loc setCells_nil setCells_cons stepOp_mkmap stepOp_mapset stepOp_call1 stepOp_call2 stepOp_app2 stepOp_app1 stepOp_bslice stepOp_mkslice mapO_map lookupD_some lookupD_ok mapsetD_some keyOk_agg kindsL_nil kindsL_bool kindsL_int eqL_nil eqL_cons atomEq_bool atomEq_int frz_sl tokO_tok app0_step app0_exact app0_tok frz_loc oneRes_nil listOf_imm
 ty_0 ty_1 ty_2 ty_3 ty_4 ty_5 ty_6 ty_7 ty_8 ty_9 ty_10 ty_11 ty_12 ty_13 ty_14 ty_15 ty_16 ty_17 ty_18 ty_19 ty_20 ty_21 ty_22 ty_23 ty_24 ty_25 ty_26 ty_27
attribute [local congr] wT_congr ob_congr obP_congr iteD_congr condP_congr

/-- the choice of a variable, or the least numbers of its choices -/
def pick (v : Var) : Option Int → Choice
  | some n => v.choices.getD n.toNat ⟨0, 0, 0, []⟩
  | none => (v.choices.drop 1).foldl minC (v.choices.getD 0 ⟨0, 0, 0, []⟩)

def picks : List Var → List Int → List (Int × Choice)
  | [], _ => []
  | v :: vs, b => (v.leaves.length, pick v b.head?) :: picks vs b.tail

theorem ext_to {A : Type} {J : List A → List Obj → Prop} (hext : ∀ rem hp r, J rem hp → J rem (hp ++ r)) {rem : List A} {hp r H : List Obj} (h : hp ++ r = H) (hJ : J rem hp) : J rem H := h ▸ hext _ _ _ hJ

end Dv

/- Plain facts: how great the numbers of a small valid problem can be. -/
namespace Dv

theorem wr_id {n : Int} (h : i64 n) : wr n = n := wrap_i64 h

theorem getD_or {r : List Int} {a : Nat} : r.getD a 0 ∈ r ∨ r.getD a 0 = 0 := by
  by_cases h : a < r.length
  · left; simp [List.getD_eq_getElem?_getD, List.getElem?_eq_getElem h]
  · right; simp [List.getD_eq_getElem?_getD, List.getElem?_eq_none (Nat.le_of_not_lt h)]

theorem usesAt_ok {p : Prob} {v : Var} (okv : OkVar p v) {n : Int} : ∀ u, u ∈ usesAt v n → OkUse p u := by
  intro u hu
  unfold usesAt at hu
  by_cases hn : n.toNat < v.choices.length
  · simp only [List.getD_eq_getElem?_getD, List.getElem?_eq_getElem hn, Option.getD_some] at hu
    exact (okv.choices _ (List.getElem_mem hn)).uses _ hu
  · simp [List.getD_eq_getElem?_getD, List.getElem?_eq_none (Nat.le_of_not_lt hn)] at hu

theorem usesAt_len {v : Var} {n : Int} (h : ∀ c, c ∈ v.choices → c.uses.length ≤ 12) : (usesAt v n).length ≤ 12 := by
  unfold usesAt
  by_cases hn : n.toNat < v.choices.length
  · simp only [List.getD_eq_getElem?_getD, List.getElem?_eq_getElem hn, Option.getD_some]
    exact h _ (List.getElem_mem hn)
  · simp [List.getD_eq_getElem?_getD, List.getElem?_eq_none (Nat.le_of_not_lt hn)]

theorem usesIn_ok {p : Prob} {leaf : Int} : ∀ {vs : List Var} {b : List Int}, (∀ v, v ∈ vs → OkVar p v) → ∀ u, u ∈ usesIn vs b leaf → OkUse p u
  | [], _, _, u, h => by simp [usesIn] at h
  | _ :: _, [], _, u, h => by simp [usesIn] at h
  | v :: vs, n :: ns, hv, u, h => by
    simp only [usesIn, List.mem_append] at h
    rcases h with h | h
    · by_cases hc : v.leaves.contains leaf = true
      · rw [if_pos hc] at h; exact usesAt_ok (hv v (by simp)) u h
      · rw [if_neg hc] at h; cases h
    · exact usesIn_ok (fun w hw => hv w (by simp [hw])) u h

theorem usesIn_len {leaf : Int} : ∀ {vs : List Var} {b : List Int}, (∀ v, v ∈ vs → ∀ c, c ∈ v.choices → c.uses.length ≤ 12) → (usesIn vs b leaf).length ≤ 12 * vs.length
  | [], _, _ => by simp [usesIn]
  | _ :: _, [], _ => by simp [usesIn]
  | v :: vs, n :: ns, hv => by
    have h1 := usesIn_len (leaf := leaf) (vs := vs) (b := ns) (fun w hw => hv w (by simp [hw]))
    have h2 := usesAt_len (v := v) (n := n) (hv v (by simp))
    simp only [usesIn, List.length_append, List.length_cons]
    by_cases hc : v.leaves.contains leaf = true
    · rw [if_pos hc]; omega
    · rw [if_neg hc]; simp only [List.length_nil]; omega

/-- by how much a row exceeds another one -/
def ovR : List Int → List Int → Int
  | d :: ds, c :: cs => mx (d - c) 0 + ovR ds cs
  | _, _ => 0
def ovL (p : Prob) (b : List Int) : Nat → List (List Int) → Int
  | _, [] => 0
  | k, c :: cs => ovR (dem p b k) c + ovL p b (k + 1) cs
def ov (p : Prob) (b : List Int) : Int := ovL p b 0 p.capacity

theorem mx0 {a : Int} : 0 ≤ mx a 0 := by unfold mx; split <;> omega
theorem ovR_pos : ∀ {d c : List Int}, 0 ≤ ovR d c
  | [], _ => by simp [ovR]
  | _ :: _, [] => by simp [ovR]
  | d :: ds, c :: cs => by
    have := ovR_pos (d := ds) (c := cs)
    have := mx0 (a := d - c)
    simp only [ovR]; omega
theorem ovL_pos {p : Prob} {b : List Int} : ∀ {cs : List (List Int)} {k : Nat}, 0 ≤ ovL p b k cs
  | [], _ => by simp [ovL]
  | c :: cs, k => by
    have := ovL_pos (p := p) (b := b) (cs := cs) (k := k + 1)
    have := ovR_pos (d := dem p b k) (c := c)
    simp only [ovL]; omega
def sumC : List (Int × Choice) → Int
  | [] => 0
  | x :: r => x.2.cost * x.1 + sumC r
theorem mul_bd {a n : Int} (h1 : 0 ≤ a) (h2 : a ≤ 1048576) (h3 : 0 ≤ n) (h4 : n ≤ 8) : 0 ≤ a * n ∧ a * n ≤ 8388608 :=
  ⟨Int.mul_nonneg h1 h3, by have := Int.mul_le_mul h2 h4 h3 (by omega); omega⟩
end Dv
