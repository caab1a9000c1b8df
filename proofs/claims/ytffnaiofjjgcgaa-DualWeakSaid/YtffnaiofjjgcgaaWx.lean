/- Texts that a proof of this claim uses, joined: Lw.W24, Lw.W25, Lw.W26. -/
import Derived.Test.YtffnaiofjjgcgaaWd
set_option linter.all false
/- Walks: the least numbers of choices. -/
namespace Dv
attribute [local simp] wT_skip wK wT_ret wT_exit wR wRp wT_seq wC wT_block rTS_nil rTS_asg rTS_eff rTS_effk ob_some obP_some iteD_b condP_b xv_v xv_c xv_ite xv_bin_tt xv_bin_tc xv_bin_ct xv_bin_cc xv_un_t xv_conv_t xv_load xv_len xv_faddr xv_field xv_iaddr_tt xv_iaddr_tc xv_index_tt xv_index_tc xv_lookup_tt xv_max_tt xv_max_tc xv_max_ct xv_min_tt xv_min_tc xv_min_ct xv_slice_lo_t xv_slice_lo_c xv_slice_hi_t xv_slice_all xv_call xv_bslice bsliceV xv_build buildV xv_mkfn zeroE fillE buildD fillD List.replicate xvs_nil xvs_cons callV_fn frz_bool frz_int frz_imm frz_agg frz_tup frz_fn frz_iptr frzL_nil frzL_one frzL_dI frzL_cell frzL_use frzL_ints frzL_choice frzL_var depth dCell dUse dInts dChoice dVar dProb tStart addO Ret flat_dI flat_rep chunk_dI
 binD_add binD_sub binD_mul binD_eql binD_neq binD_lss binD_leq binD_gtr binD_geq binD_quo binD_rem binD_beql binD_bneq binD_aeql binD_aneq unD_not unD_neg lenD_imm lenD_sl lenD_str readO_cells readO_frozen loadD_loc loadD_iptr iaddrD_imm iaddrD_sl iaddrD_loc faddrD_loc faddrD_iptr fieldD_agg indexD_agg indexD_str cellsL_bool stor_bool atom_bool cellsL_int stor_int atom_int cellsL_str stor_str atom_str cellsL_imm stor_imm atom_imm cellsL_sl stor_sl atom_sl cellsL_loc stor_loc atom_loc cellsL_iptr stor_iptr atom_iptr cellsL_map stor_map atom_map cellsL_fn stor_fn atom_fn cellsL_agg stor_agg cellsL_nilfn stor_nilfn atom_nilfn cellsL_nilp stor_nilp atom_nilp takeC_z takeC_s ofCells_ag ofCells_one ag_bool ag_int ag_str ag_slice ag_struct ag_arr ag_map ag_ptr ag_func gOf_t gOf_c gOf_f kv_cons putE_some putE_none oneRes_one oneRes_two oneRes_three getAll_nil getAll_v getAll_c maxiD_two miniD_two extV_tup xv_ext stepOp_box stepOp_alloc stepOp_store writeO_cells storeD_loc setCells_nil setCells_cons stepOp_mkmap stepOp_mapset stepOp_call1 stepOp_call2 stepOp_app2 stepOp_app1 stepOp_bslice stepOp_mkslice mapO_map lookupD_some lookupD_ok mapsetD_some keyOk_agg kindsL_nil kindsL_bool kindsL_int eqL_nil eqL_cons atomEq_bool atomEq_int frz_sl tokO_tok app0_step app0_exact app0_tok frz_loc oneRes_nil listOf_imm
 ty_0 ty_1 ty_2 ty_3 ty_4 ty_5 ty_6 ty_7 ty_8 ty_9 ty_10 ty_11 ty_12 ty_13 ty_14 ty_15 ty_16 ty_17 ty_18 ty_19 ty_20 ty_21 ty_22 ty_23 ty_24 ty_25 ty_26 ty_27
attribute [local congr] wT_congr ob_congr obP_congr iteD_congr condP_congr

def mn (a b : Int) : Int := if b < a then b else a
def mx (a b : Int) : Int := if a < b then b else a

/-- number by number the lesser one -/
def minC (a c : Choice) : Choice := ⟨mn a.delay c.delay, mn a.cost c.cost, mn a.changes c.changes, a.uses⟩

theorem get_set1 {A : Type} {hp : List A} {i : Nat} {x : A} (h : i < hp.length) : (hp.set i x)[i]? = some x := List.getElem?_set_self h
end Dv

/- Walks: the chosen numbers, one variable after the other. -/
namespace Dv
attribute [local simp] wT_skip wK wT_ret wT_exit wR wRp wT_seq wC wT_block rTS_nil rTS_asg rTS_eff rTS_effk ob_some obP_some iteD_b condP_b xv_v xv_c xv_ite xv_bin_tt xv_bin_tc xv_bin_ct xv_bin_cc xv_un_t xv_conv_t xv_load xv_len xv_faddr xv_field xv_iaddr_tt xv_iaddr_tc xv_index_tt xv_index_tc xv_lookup_tt xv_max_tt xv_max_tc xv_max_ct xv_min_tt xv_min_tc xv_min_ct xv_slice_lo_t xv_slice_lo_c xv_slice_hi_t xv_slice_all xv_call xv_bslice bsliceV xv_build buildV xv_mkfn zeroE fillE buildD fillD List.replicate xvs_nil xvs_cons callV_fn frz_bool frz_int frz_imm frz_agg frz_tup frz_fn frz_iptr frzL_nil frzL_one frzL_dI frzL_cell frzL_use frzL_ints frzL_choice frzL_var depth dCell dUse dInts dChoice dVar dProb tStart addO Ret flat_dI flat_rep chunk_dI
 binD_add binD_sub binD_mul binD_eql binD_neq binD_lss binD_leq binD_gtr binD_geq binD_quo binD_rem binD_beql binD_bneq binD_aeql binD_aneq unD_not unD_neg lenD_imm lenD_sl lenD_str readO_cells readO_frozen loadD_loc loadD_iptr iaddrD_imm iaddrD_sl iaddrD_loc faddrD_loc faddrD_iptr fieldD_agg indexD_agg indexD_str cellsL_bool stor_bool atom_bool cellsL_int stor_int atom_int cellsL_str stor_str atom_str cellsL_imm stor_imm atom_imm cellsL_sl stor_sl atom_sl cellsL_loc stor_loc atom_loc cellsL_iptr stor_iptr atom_iptr cellsL_map stor_map atom_map cellsL_fn stor_fn atom_fn cellsL_agg stor_agg cellsL_nilfn stor_nilfn atom_nilfn cellsL_nilp stor_nilp atom_nilp takeC_z takeC_s ofCells_ag ofCells_one ag_bool ag_int ag_str ag_slice ag_struct ag_arr ag_map ag_ptr ag_func gOf_t gOf_c gOf_f kv_cons putE_some putE_none oneRes_one oneRes_two oneRes_three getAll_nil getAll_v getAll_c maxiD_two miniD_two extV_tup xv_ext stepOp_box stepOp_alloc stepOp_store writeO_cells storeD_loc setCells_nil setCells_cons stepOp_mkmap stepOp_mapset stepOp_call1 stepOp_call2 stepOp_app2 stepOp_app1 stepOp_bslice stepOp_mkslice mapO_map lookupD_some lookupD_ok mapsetD_some keyOk_agg kindsL_nil kindsL_bool kindsL_int eqL_nil eqL_cons atomEq_bool atomEq_int frz_sl tokO_tok app0_step app0_exact app0_tok frz_loc oneRes_nil listOf_imm
 ty_0 ty_1 ty_2 ty_3 ty_4 ty_5 ty_6 ty_7 ty_8 ty_9 ty_10 ty_11 ty_12 ty_13 ty_14 ty_15 ty_16 ty_17 ty_18 ty_19 ty_20 ty_21 ty_22 ty_23 ty_24 ty_25 ty_26 ty_27
attribute [local congr] wT_congr ob_congr obP_congr iteD_congr condP_congr

/-- the choice of a variable, or the least numbers of its choices -/
def pick (v : Var) : Option Int → Choice
  | some n => v.choices.getD n.toNat ⟨0, 0, 0, []⟩
  | none => (v.choices.drop 1).foldl minC (v.choices.getD 0 ⟨0, 0, 0, []⟩)

def picks : List Var → List Int → List (Int × Choice)
  | [], _ => []
  | v :: vs, b => (v.leaves.length, pick v b.head?) :: picks vs b.tail

theorem ext_to {A : Type} {J : List A → List Obj → Prop} (hext : ∀ rem hp r, J rem hp → J rem (hp ++ r)) {rem : List A} {hp r H : List Obj} (h : hp ++ r = H) (hJ : J rem hp) : J rem H := h ▸ hext _ _ _ hJ

end Dv

/- Plain facts: how great the numbers of a small valid problem can be. -/
namespace Dv

theorem wr_id {n : Int} (h : i64 n) : wr n = n := wrap_i64 h

theorem getD_or {r : List Int} {a : Nat} : r.getD a 0 ∈ r ∨ r.getD a 0 = 0 := by
  by_cases h : a < r.length
  · left; simp [List.getD_eq_getElem?_getD, List.getElem?_eq_getElem h]
  · right; simp [List.getD_eq_getElem?_getD, List.getElem?_eq_none (Nat.le_of_not_lt h)]

theorem foldU_bd {p : Prob} : ∀ {l : List Use} {r : List Int} {k : Int}, (∀ u, u ∈ l → 0 ≤ u.places ∧ u.places ≤ 8) → 0 ≤ k → (∀ x, x ∈ r → 0 ≤ x ∧ x ≤ k) → k + 8 * l.length ≤ 1000000 →
    ∀ x, x ∈ l.foldl (addU p) r → 0 ≤ x ∧ x ≤ k + 8 * l.length
  | [], r, k, _, _, hr, _, x, hx => by
    have := hr x hx
    simp only [List.length_nil]; omega
  | u :: l, r, k, hu, hk, hr, hb, x, hx => by
    simp only [List.length_cons] at hb ⊢
    rw [List.foldl_cons] at hx
    have hu1 := hu u (by simp)
    have h1 : 0 ≤ r.getD (atS u.cell p.cells 0).toNat 0 ∧ r.getD (atS u.cell p.cells 0).toNat 0 ≤ k := by
      rcases getD_or (r := r) (a := (atS u.cell p.cells 0).toNat) with h | h
      · exact hr _ h
      · rw [h]; omega
    have := foldU_bd (p := p) (l := l) (r := addU p r u) (k := k + 8) (fun v hv => hu v (by simp [hv])) (by omega) (fun y hy => by
      unfold addU at hy
      rcases List.mem_or_eq_of_mem_set hy with h | h
      · have := hr y h; omega
      · rw [h, wr_id ⟨by omega, by omega⟩]; omega) (by omega) x hx
    omega

theorem usesAt_ok {p : Prob} {v : Var} (okv : OkVar p v) {n : Int} : ∀ u, u ∈ usesAt v n → OkUse p u := by
  intro u hu
  unfold usesAt at hu
  by_cases hn : n.toNat < v.choices.length
  · simp only [List.getD_eq_getElem?_getD, List.getElem?_eq_getElem hn, Option.getD_some] at hu
    exact (okv.choices _ (List.getElem_mem hn)).uses _ hu
  · simp [List.getD_eq_getElem?_getD, List.getElem?_eq_none (Nat.le_of_not_lt hn)] at hu

theorem usesAt_len {v : Var} {n : Int} (h : ∀ c, c ∈ v.choices → c.uses.length ≤ 12) : (usesAt v n).length ≤ 12 := by
  unfold usesAt
  by_cases hn : n.toNat < v.choices.length
  · simp only [List.getD_eq_getElem?_getD, List.getElem?_eq_getElem hn, Option.getD_some]
    exact h _ (List.getElem_mem hn)
  · simp [List.getD_eq_getElem?_getD, List.getElem?_eq_none (Nat.le_of_not_lt hn)]

theorem usesIn_ok {p : Prob} {leaf : Int} : ∀ {vs : List Var} {b : List Int}, (∀ v, v ∈ vs → OkVar p v) → ∀ u, u ∈ usesIn vs b leaf → OkUse p u
  | [], _, _, u, h => by simp [usesIn] at h
  | _ :: _, [], _, u, h => by simp [usesIn] at h
  | v :: vs, n :: ns, hv, u, h => by
    simp only [usesIn, List.mem_append] at h
    rcases h with h | h
    · by_cases hc : v.leaves.contains leaf = true
      · rw [if_pos hc] at h; exact usesAt_ok (hv v (by simp)) u h
      · rw [if_neg hc] at h; cases h
    · exact usesIn_ok (fun w hw => hv w (by simp [hw])) u h

theorem usesIn_len {leaf : Int} : ∀ {vs : List Var} {b : List Int}, (∀ v, v ∈ vs → ∀ c, c ∈ v.choices → c.uses.length ≤ 12) → (usesIn vs b leaf).length ≤ 12 * vs.length
  | [], _, _ => by simp [usesIn]
  | _ :: _, [], _ => by simp [usesIn]
  | v :: vs, n :: ns, hv => by
    have h1 := usesIn_len (leaf := leaf) (vs := vs) (b := ns) (fun w hw => hv w (by simp [hw]))
    have h2 := usesAt_len (v := v) (n := n) (hv v (by simp))
    simp only [usesIn, List.length_append, List.length_cons]
    by_cases hc : v.leaves.contains leaf = true
    · rw [if_pos hc]; omega
    · rw [if_neg hc]; simp only [List.length_nil]; omega

theorem dem_bd {p : Prob} (S : Small p) (ok : OkP p) {b : List Int} {leaf : Int} : ∀ x, x ∈ dem p b leaf → 0 ≤ x ∧ x ≤ 576 := by
  intro x hx
  have h1 := usesIn_len (leaf := leaf) (vs := p.vars) (b := b) S.uses
  have s3 := S.vars
  have := foldU_bd (p := p) (l := usesIn p.vars b leaf) (r := List.replicate p.cells.length 0) (k := 0) (fun u hu => (usesIn_ok ok.vars u hu).places |> fun h => by unfold wi at h; omega) (by omega)
    (fun y hy => by rw [(List.mem_replicate.1 hy).2]; omega) (by omega) x hx
  omega

/-- by how much a row exceeds another one -/
def ovR : List Int → List Int → Int
  | d :: ds, c :: cs => mx (d - c) 0 + ovR ds cs
  | _, _ => 0
def ovL (p : Prob) (b : List Int) : Nat → List (List Int) → Int
  | _, [] => 0
  | k, c :: cs => ovR (dem p b k) c + ovL p b (k + 1) cs
def ov (p : Prob) (b : List Int) : Int := ovL p b 0 p.capacity

theorem mx0 {a : Int} : 0 ≤ mx a 0 := by unfold mx; split <;> omega
theorem ovR_pos : ∀ {d c : List Int}, 0 ≤ ovR d c
  | [], _ => by simp [ovR]
  | _ :: _, [] => by simp [ovR]
  | d :: ds, c :: cs => by
    have := ovR_pos (d := ds) (c := cs)
    have := mx0 (a := d - c)
    simp only [ovR]; omega
theorem ovR_le {k : Int} (hk : 0 ≤ k) : ∀ {d c : List Int}, (∀ x, x ∈ d → x ≤ k) → (∀ x, x ∈ c → 0 ≤ x) → ovR d c ≤ k * d.length
  | [], _, _, _ => by simp [ovR]
  | d :: ds, [], _, _ => by
    simp only [ovR]
    exact Int.mul_nonneg hk (by omega)
  | d :: ds, c :: cs, hd, hc => by
    have h1 := ovR_le hk (d := ds) (c := cs) (fun x hx => hd x (by simp [hx])) (fun x hx => hc x (by simp [hx]))
    have h2 := hd d (by simp)
    have h3 := hc c (by simp)
    have h4 : mx (d - c) 0 ≤ k := by unfold mx; split <;> omega
    simp only [ovR, List.length_cons]
    have : k * ((ds.length + 1 : Nat) : Int) = k * ds.length + k := by rw [Int.natCast_add, Int.mul_add]; simp
    omega
theorem ovL_pos {p : Prob} {b : List Int} : ∀ {cs : List (List Int)} {k : Nat}, 0 ≤ ovL p b k cs
  | [], _ => by simp [ovL]
  | c :: cs, k => by
    have := ovL_pos (p := p) (b := b) (cs := cs) (k := k + 1)
    have := ovR_pos (d := dem p b k) (c := c)
    simp only [ovL]; omega
theorem ovL_le {p : Prob} (S : Small p) (ok : OkP p) {b : List Int} : ∀ {cs : List (List Int)} {k : Nat}, (∀ l, l ∈ cs → l ∈ p.capacity) → ovL p b k cs ≤ 7000 * cs.length
  | [], _, _ => by simp [ovL]
  | c :: cs, k, hm => by
    have h1 := ovL_le S ok (b := b) (cs := cs) (k := k + 1) (fun l hl => hm l (by simp [hl]))
    have s1 := S.cells
    have h2 := ovR_le (k := 576) (by omega) (d := dem p b k) (c := c) (fun x hx => (dem_bd S ok x hx).2) (fun x hx => by
      have := (ok.cap c (hm c (by simp))).2 x hx; unfold wi at this; omega)
    have h3 : (dem p b k).length = p.cells.length := by simp [dem, foldU_len]
    rw [h3] at h2
    simp only [ovL, List.length_cons]; omega
theorem ov_le {p : Prob} (S : Small p) (ok : OkP p) {b : List Int} : ov p b ≤ 28000 := by
  have := ovL_le S ok (b := b) (cs := p.capacity) (k := 0) (fun l hl => hl)
  have := S.cap
  unfold ov; omega

/-- bounds of the numbers of a choice -/
def bdC (c : Choice) : Prop := (0 ≤ c.delay ∧ c.delay ≤ 1048576) ∧ (0 ≤ c.cost ∧ c.cost ≤ 1048576) ∧ (0 ≤ c.changes ∧ c.changes ≤ 1048576)
theorem bdC_of {p : Prob} {c : Choice} (h : OkChoice p c) : bdC c := by
  obtain ⟨h1, h2, h3, _, _⟩ := h
  exact ⟨h1, h2, h3⟩
theorem bd_min {a c : Choice} (h : bdC a) (h' : bdC c) : bdC (minC a c) := by
  unfold bdC minC mn at *
  simp only
  refine ⟨?_, ?_, ?_⟩ <;> split <;> omega
theorem bd_fold : ∀ {l : List Choice} {a : Choice}, bdC a → (∀ c, c ∈ l → bdC c) → bdC (l.foldl minC a)
  | [], _, h, _ => h
  | c :: l, a, h, h' => by
    rw [List.foldl_cons]
    exact bd_fold (bd_min h (h' c (by simp))) (fun d hd => h' d (by simp [hd]))
theorem bd_zero : bdC ⟨0, 0, 0, []⟩ := by unfold bdC; simp
theorem bd_getD {p : Prob} {v : Var} (okv : OkVar p v) {n : Nat} : bdC (v.choices.getD n ⟨0, 0, 0, []⟩) := by
  by_cases hn : n < v.choices.length
  · simp only [List.getD_eq_getElem?_getD, List.getElem?_eq_getElem hn, Option.getD_some]
    exact bdC_of (okv.choices _ (List.getElem_mem hn))
  · simp only [List.getD_eq_getElem?_getD, List.getElem?_eq_none (Nat.le_of_not_lt hn), Option.getD_none]
    exact bd_zero
theorem bd_pick {p : Prob} {v : Var} (okv : OkVar p v) {n : Option Int} : bdC (pick v n) := by
  cases n with
  | some n => exact bd_getD okv
  | none => exact bd_fold (bd_getD okv) (fun c hc => bdC_of (okv.choices c (List.mem_of_mem_drop hc)))

def sumC : List (Int × Choice) → Int
  | [] => 0
  | x :: r => x.2.cost * x.1 + sumC r
def sumG : List (Int × Choice) → Int
  | [] => 0
  | x :: r => x.2.changes * x.1 + sumG r
def maxD (a : Int) (l : List (Int × Choice)) : Int := l.foldl (fun a x => mx a x.2.delay) a

def bdP (x : Int × Choice) : Prop := (0 ≤ x.1 ∧ x.1 ≤ 8) ∧ bdC x.2
theorem bd_picks {p : Prob} : ∀ {vs : List Var} {b : List Int}, (∀ v, v ∈ vs → OkVar p v ∧ v.leaves.length ≤ 8) → ∀ x, x ∈ picks vs b → bdP x
  | [], _, _, x, h => by simp [picks] at h
  | v :: vs, b, hv, x, h => by
    simp only [picks, List.mem_cons] at h
    rcases h with rfl | h
    · have := hv v (by simp)
      exact ⟨⟨by simp only; omega, by simp only; omega⟩, bd_pick this.1⟩
    · exact bd_picks (fun w hw => hv w (by simp [hw])) x h
theorem picks_len : ∀ {vs : List Var} {b : List Int}, (picks vs b).length = vs.length
  | [], _ => rfl
  | v :: vs, b => by simp [picks, picks_len]

theorem mul_bd {a n : Int} (h1 : 0 ≤ a) (h2 : a ≤ 1048576) (h3 : 0 ≤ n) (h4 : n ≤ 8) : 0 ≤ a * n ∧ a * n ≤ 8388608 :=
  ⟨Int.mul_nonneg h1 h3, by have := Int.mul_le_mul h2 h4 h3 (by omega); omega⟩
theorem sumC_bd : ∀ {l : List (Int × Choice)}, (∀ x, x ∈ l → bdP x) → 0 ≤ sumC l ∧ sumC l ≤ 8388608 * l.length
  | [], _ => by simp [sumC]
  | x :: r, h => by
    have h1 := sumC_bd (l := r) (fun y hy => h y (by simp [hy]))
    obtain ⟨⟨a1, a2⟩, _, ⟨b1, b2⟩, _⟩ := h x (by simp)
    have := mul_bd b1 b2 a1 a2
    simp only [sumC, List.length_cons]; omega
theorem sumG_bd : ∀ {l : List (Int × Choice)}, (∀ x, x ∈ l → bdP x) → 0 ≤ sumG l ∧ sumG l ≤ 8388608 * l.length
  | [], _ => by simp [sumG]
  | x :: r, h => by
    have h1 := sumG_bd (l := r) (fun y hy => h y (by simp [hy]))
    obtain ⟨⟨a1, a2⟩, _, _, ⟨b1, b2⟩⟩ := h x (by simp)
    have := mul_bd b1 b2 a1 a2
    simp only [sumG, List.length_cons]; omega

/-- the bound of a branch -/
def boundL (p : Prob) (b : List Int) : List Int := [ov p b, maxD 0 (picks p.vars b), sumC (picks p.vars b), sumG (picks p.vars b)]

end Dv
