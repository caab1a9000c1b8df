/- Texts that a proof of this claim uses, joined: Lw.W83, Lw.W84, Lw.W110, Lw.W50, Lw.W51, Lw.W52, Lw.W53, Lw.W54, Lw.W55, Lw.W56, Lw.W57, Lw.W47, Lw.W65, Lw.W66, Lw.W69, Lw.W58, Lw.W59, Lw.W60, Lw.W71, Lw.W61, Lw.W73, Lw.W46, Lw.W48, Lw.W111, Lw.W95, Lw.W96, Lw.W112, Lw.W97, Lw.W98, Lw.W113, Lw.W29, Lw.W99, Lw.W100, Lw.W114, Lw.W115, Lw.W116, Lw.W62, Lw.W63, Lw.S29, Lw.W67, Lw.W68, Lw.W117, Lw.W118, Lw.W119, Lw.W120. -/
import Derived.Test.YtpekfakljjogjaaGa
import Derived.Test.YtpekfakljjogjaaTc
import Derived.Test.YtpekfakljjogjaaDvb
import Derived.KernelRfl
set_option linter.all false
/- Causes, plain: the problem without some of them, the delays, the shares. -/
namespace Dv

structure Cause where
  index : Int
  less : List (List Int)

/-- valid causes -/
structure OkC (p : Prob) (c : List Cause) : Prop where
  len : c.length ≤ 8
  idx : ∀ a, a ∈ c → 0 ≤ a.index ∧ a.index ≤ 1048576
  rows : ∀ a, a ∈ c → a.less.length = p.capacity.length
  wid : ∀ a, a ∈ c → ∀ r, r ∈ a.less → r.length = p.cells.length ∧ ∀ n, n ∈ r → 0 ≤ n ∧ n ≤ 4096

/-- places and those that a cause took -/
def addR (x y : List Int) : List Int := List.zipWith (fun a n => mn (a + n) 4096) x y
def capW (c : List Cause) (i : Nat) (row : List Int) : List Int := (c.map fun a => a.less.getD i []).foldl addR row
/-- the problem with the first causes alone -/
def withP (p : Prob) (c : List Cause) (k : Nat) : Prob := { p with capacity := (List.range p.capacity.length).map fun i => capW (c.drop k) i (p.capacity.getD i []) }

/-- no number is less -/
def leR (x y : List Int) : Prop := x.length = y.length ∧ ∀ n, x.getD n 0 ≤ y.getD n 0
theorem leR_refl {x : List Int} : leR x x := ⟨rfl, fun _ => Int.le_refl _⟩
theorem leR_trans {x y z : List Int} (h : leR x y) (h' : leR y z) : leR x z := ⟨h.1.trans h'.1, fun n => Int.le_trans (h.2 n) (h'.2 n)⟩

theorem addR_get {x y : List Int} {n : Nat} (h1 : n < x.length) (h2 : n < y.length) : (addR x y).getD n 0 = mn (x.getD n 0 + y.getD n 0) 4096 := by
  unfold addR
  simp only [List.getD_eq_getElem?_getD, List.getElem?_zipWith, List.getElem?_eq_getElem h1, List.getElem?_eq_getElem h2, Option.getD_some]
theorem addR_len {x y : List Int} (h : x.length = y.length) : (addR x y).length = x.length := by simp [addR, h]
theorem getD_out {x : List Int} {n : Nat} (h : x.length ≤ n) : x.getD n 0 = 0 := by simp [List.getD_eq_getElem?_getD, List.getElem?_eq_none h]

/-- a row of places -/
def okR (n : Nat) (x : List Int) : Prop := x.length = n ∧ ∀ a, a ∈ x → 0 ≤ a ∧ a ≤ 4096
theorem okR_get {n : Nat} {x : List Int} (h : okR n x) {k : Nat} (hk : k < n) : 0 ≤ x.getD k 0 ∧ x.getD k 0 ≤ 4096 := by
  have hk' : k < x.length := by rw [h.1]; exact hk
  rw [List.getD_eq_getElem?_getD, List.getElem?_eq_getElem hk', Option.getD_some]
  exact h.2 _ (List.getElem_mem hk')
theorem okR_add {n : Nat} {x y : List Int} (hx : okR n x) (hy : okR n y) : okR n (addR x y) := by
  refine ⟨by rw [addR_len (hx.1.trans hy.1.symm)]; exact hx.1, fun a ha => ?_⟩
  obtain ⟨k, hk, rfl⟩ := List.getElem_of_mem ha
  have hl := addR_len (hx.1.trans hy.1.symm)
  have h1 : k < x.length := by omega
  have h2 : k < y.length := by rw [hy.1, ← hx.1]; exact h1
  have h3 := addR_get h1 h2
  rw [List.getD_eq_getElem?_getD (l := addR x y), List.getElem?_eq_getElem hk, Option.getD_some] at h3
  rw [h3]
  have a1 := okR_get hx (k := k) (by rw [← hx.1]; exact h1)
  have a2 := okR_get hy (k := k) (by rw [← hx.1]; exact h1)
  unfold mn; split <;> omega
theorem leR_add {n : Nat} {x x' y : List Int} (hl : x.length = n) (hx : leR x x') (hy : okR n y) : leR (addR x y) (addR x' y) := by
  have e1 : x.length = y.length := hl.trans hy.1.symm
  have e2 : x'.length = y.length := hx.1.symm.trans e1
  refine ⟨by rw [addR_len e1, addR_len e2]; exact hx.1, fun k => ?_⟩
  by_cases h : k < y.length
  · rw [addR_get (by omega) h, addR_get (by omega) h]
    have := hx.2 k
    unfold mn; split <;> split <;> omega
  · rw [getD_out (by rw [addR_len e1]; omega), getD_out (by rw [addR_len e2]; omega)]; exact Int.le_refl _
theorem leR_self {n : Nat} {x y : List Int} (hx : okR n x) (hy : okR n y) : leR x (addR x y) := by
  have e1 : x.length = y.length := hx.1.trans hy.1.symm
  refine ⟨(addR_len e1).symm, fun k => ?_⟩
  by_cases h : k < y.length
  · rw [addR_get (by omega) h]
    have a1 := okR_get hx (k := k) (by rw [← hy.1]; exact h)
    have a2 := okR_get hy (k := k) (by rw [← hy.1]; exact h)
    unfold mn; split <;> omega
  · rw [getD_out (by omega), getD_out (by rw [addR_len e1]; omega)]; exact Int.le_refl _
theorem okR_fold {n : Nat} : ∀ {l : List (List Int)} {x : List Int}, okR n x → (∀ y, y ∈ l → okR n y) → okR n (l.foldl addR x)
  | [], _, h, _ => h
  | y :: l, x, h, hl => by
    rw [List.foldl_cons]
    exact okR_fold (okR_add h (hl y (by simp))) fun z hz => hl z (by simp [hz])
theorem leR_fold {n : Nat} : ∀ {l : List (List Int)} {x x' : List Int}, x.length = n → leR x x' → (∀ y, y ∈ l → okR n y) → leR (l.foldl addR x) (l.foldl addR x')
  | [], _, _, _, h, _ => h
  | y :: l, x, x', hn, h, hl => by
    rw [List.foldl_cons, List.foldl_cons]
    have hy := hl y (by simp)
    exact leR_fold (by rw [addR_len (hn.trans hy.1.symm)]; exact hn) (leR_add hn h hy) fun z hz => hl z (by simp [hz])
theorem leR_foldS {n : Nat} : ∀ {l : List (List Int)} {x : List Int}, okR n x → (∀ y, y ∈ l → okR n y) → leR x (l.foldl addR x)
  | [], _, _, _ => leR_refl
  | y :: l, x, h, hl => by
    rw [List.foldl_cons]
    have hy := hl y (by simp)
    exact leR_trans (leR_self h hy) (leR_foldS (okR_add h hy) fun z hz => hl z (by simp [hz]))

section
variable {p : Prob} {c : List Cause} (ok : OkP p) (C : OkC p c)
include ok C
theorem rows_ok {i : Nat} (hi : i < p.capacity.length) : ∀ y, y ∈ c.map (fun a => a.less.getD i []) → okR p.cells.length y := by
  intro y hy
  obtain ⟨a, ha, rfl⟩ := List.mem_map.1 hy
  have hl := C.rows a ha
  rw [List.getD_eq_getElem?_getD, List.getElem?_eq_getElem (by omega), Option.getD_some]
  exact C.wid a ha _ (List.getElem_mem (by omega))
theorem cap_ok {i : Nat} (hi : i < p.capacity.length) : okR p.cells.length (p.capacity.getD i []) := by
  rw [List.getD_eq_getElem?_getD, List.getElem?_eq_getElem hi, Option.getD_some]
  have h := ok.cap _ (List.getElem_mem hi)
  exact ⟨h.1, fun a ha => by have := h.2 a ha; unfold wi at this; omega⟩
omit ok in
theorem dropC {k : Nat} : OkC p (c.drop k) := ⟨by have := C.len; simp; omega, fun a ha => C.idx a (List.mem_of_mem_drop ha), fun a ha => C.rows a (List.mem_of_mem_drop ha), fun a ha => C.wid a (List.mem_of_mem_drop ha)⟩
omit ok in
theorem takeC' {k : Nat} : OkC p (c.take k) := ⟨by have := C.len; simp; omega, fun a ha => C.idx a (List.mem_of_mem_take ha), fun a ha => C.rows a (List.mem_of_mem_take ha), fun a ha => C.wid a (List.mem_of_mem_take ha)⟩
theorem capW_ok {i : Nat} (hi : i < p.capacity.length) : okR p.cells.length (capW c i (p.capacity.getD i [])) := okR_fold (cap_ok ok C hi) (rows_ok ok C hi)
theorem withP_ok {k : Nat} : OkP (withP p c k) := by
  refine ⟨by simp only [withP, List.length_map, List.length_range]; exact ok.some, ok.nonneg, ok.incr, fun l hl => ?_, fun v hv => ?_⟩
  · obtain ⟨i, hi, rfl⟩ := List.mem_map.1 hl
    have h := capW_ok ok (dropC C (k := k)) (List.mem_range.1 hi)
    exact ⟨h.1, fun n hn => by have := h.2 n hn; unfold wi; omega⟩
  · obtain ⟨h1, h2, h3, h4, h5, h6⟩ := ok.vars v hv
    exact ⟨h1, h2, h3, fun n hn => by simpa [withP] using h4 n hn, h5, fun c hc => by
      obtain ⟨a1, a2, a3, a4, a5⟩ := h6 c hc
      exact ⟨a1, a2, a3, fun u hu => ⟨(a4 u hu).known, (a4 u hu).places⟩, a5⟩⟩
theorem withP_small (S : Small p) {k : Nat} : Small (withP p c k) := by
  refine ⟨S.cells, by simp only [withP, List.length_map, List.length_range]; exact S.cap, fun l hl => ?_, S.vars, S.leaves, S.choices, S.uses⟩
  obtain ⟨i, hi, rfl⟩ := List.mem_map.1 hl
  have h := capW_ok ok (dropC C (k := k)) (List.mem_range.1 hi)
  have := S.cells
  rw [h.1]; omega
end
theorem withP_all {p : Prob} {c : List Cause} {k : Nat} (h : c.length ≤ k) : withP p c k = p := by
  unfold withP
  rw [List.drop_of_length_le h]
  have : (List.range p.capacity.length).map (fun i => capW [] i (p.capacity.getD i [])) = p.capacity := by
    refine List.ext_getElem (by simp) fun i h1 h2 => ?_
    simp [capW, List.getElem?_eq_getElem h2]
  rw [this]

theorem ovR_caps : ∀ {d c c' : List Int}, leR c c' → ovR d c' ≤ ovR d c
  | [], _, _, _ => by simp [ovR]
  | _ :: _, [], [], _ => by simp [ovR]
  | _ :: _, [], _ :: _, h => by have := h.1; simp at this
  | _ :: _, _ :: _, [], h => by have := h.1; simp at this
  | d :: ds, x :: c, y :: c', h => by
    have h0 := h.2 0
    have := ovR_caps (d := ds) (c := c) (c' := c') ⟨by have := h.1; simpa using this, fun n => by have := h.2 (n + 1); simpa using this⟩
    simp only [List.getD_cons_zero] at h0
    simp only [ovR]
    have : mx (d - y) 0 ≤ mx (d - x) 0 := by unfold mx; split <;> split <;> omega
    omega
theorem ovL_caps {p q : Prob} {a : List Int} (hd : ∀ leaf, dem q a leaf = dem p a leaf) : ∀ {cs cs' : List (List Int)} {k : Nat}, cs.length = cs'.length → (∀ (i : Nat) (h : i < cs.length) (h' : i < cs'.length), leR cs[i] cs'[i]) → ovL q a k cs' ≤ ovL p a k cs
  | [], [], _, _, _ => by simp [ovL]
  | [], _ :: _, _, h, _ => by simp at h
  | _ :: _, [], _, h, _ => by simp at h
  | x :: cs, y :: cs', k, h, hl => by
    have h0 := hl 0 (by simp) (by simp)
    have := ovL_caps hd (cs := cs) (cs' := cs') (k := k + 1) (by simpa using h) fun i h1 h2 => by
      have := hl (i + 1) (by simp; omega) (by simp; omega)
      simpa using this
    simp only [List.getElem_cons_zero] at h0
    simp only [ovL, hd]
    have := ovR_caps (d := dem p a k) h0
    omega
/-- with fewer causes there is more room -/
theorem withP_roomy {p : Prob} {c : List Cause} (ok : OkP p) (C : OkC p c) {a b : Nat} (h : a ≤ b) : Roomy (withP p c b) (withP p c a) := by
  refine ⟨rfl, rfl, fun x _ => ?_⟩
  unfold ov
  refine ovL_caps (p := withP p c b) (q := withP p c a) (fun leaf => rfl) (by simp [withP]) fun i h1 h2 => ?_
  simp only [withP, List.length_map, List.length_range] at h1
  simp only [withP, List.getElem_map, List.getElem_range]
  have e : c.drop a = (c.take b).drop a ++ c.drop b := by
    have h3 := congrArg (List.drop a) (List.take_append_drop b c)
    rw [← h3, List.drop_append]
    by_cases hb : b ≤ c.length
    · have : a - (c.take b).length = 0 := by simp; omega
      rw [this, List.drop_zero]
    · rw [List.drop_of_length_le (show c.length ≤ b by omega)]; simp
  unfold capW
  rw [e, List.map_append, List.foldl_append]
  have C1 : OkC p ((c.take b).drop a) := dropC (takeC' C)
  have h4 := cap_ok ok C h1
  exact leR_fold h4.1 (leR_foldS h4 (rows_ok ok C1 h1)) (rows_ok ok (dropC C) h1)

/-! the delays and the shares -/

/-- the delays of the best solution -/
def dlyL (p : Prob) : List Int := (p.vars.zip (solveS p).best).map fun x => (x.1.choices.getD x.2.toNat ⟨0, 0, 0, []⟩).delay
theorem dlyL_len {p : Prob} (S : Small p) (ok : OkP p) : (dlyL p).length = p.vars.length := by
  have := (solve_best S ok).1.2.2
  simp [dlyL, this]

structure Share where
  cause : Int
  vr : Int
  minutes : Int
deriving DecidableEq

/-- what changes from one list of delays to the next one -/
def chg (cause : Int) : Nat → List Int → List Int → List Share
  | i, b :: bs, n :: ns => (if n ≠ b then [⟨cause, i, n - b⟩] else []) ++ chg cause (i + 1) bs ns
  | _, _, _ => []
/-- the shares of stages, the first of which has a number -/
def shr : Nat → List Int → List (List Int) → List Share
  | _, _, [] => []
  | k, before, now :: r => chg ((k : Int) - 1) 0 before now ++ shr (k + 1) now r
def stages (p : Prob) (c : List Cause) : List (List Int) := (List.range (c.length + 1)).map fun k => dlyL (withP p c k)
def sharesL (p : Prob) (c : List Cause) : List Share := shr 0 (List.replicate p.vars.length 0) (stages p c)

end Dv

/- Causes, plain: the order of the shares, the first causes, a cause that takes nothing. -/
namespace Dv

theorem shr_app : ∀ {l r : List (List Int)} {k : Nat} {b : List Int}, shr k b (l ++ r) = shr k b l ++ shr (k + l.length) (l.getLastD b) r
  | [], r, k, b => by simp [shr]
  | n :: l, r, k, b => by
    simp only [List.cons_append, shr, shr_app (l := l), List.getLastD_cons, List.length_cons, List.append_assoc]
    rw [show k + 1 + l.length = k + (l.length + 1) from by omega]
end Dv

namespace Dv
attribute [local simp] wT_skip wK wT_ret wT_exit wR wRp wT_seq wC wT_block rTS_nil rTS_asg rTS_eff rTS_effk rTS_effg gdV_b binD_and binD_or binD_xor stepOp_call3 closed_bool closed_int closed_tup flatB_bool flatB_int frzX_tup frzX_exact frz1_exact frz1_none frz1_int ob_some obP_some iteD_b condP_b xv_v xv_c xv_ite xv_bin_tt xv_bin_tc xv_bin_ct xv_bin_cc xv_un_t xv_conv_t xv_load xv_len xv_faddr xv_field xv_iaddr_tt xv_iaddr_tc xv_index_tt xv_index_tc xv_lookup_tt xv_max_tt xv_max_tc xv_max_ct xv_min_tt xv_min_tc xv_min_ct xv_slice_lo_t xv_slice_lo_c xv_slice_hi_t xv_slice_all xv_call xv_bslice bsliceV xv_build buildV xv_mkfn zeroE fillE buildD fillD List.replicate xvs_nil xvs_cons callV_fn frz_bool frz_int frz_imm frz_agg frz_tup frz_fn frz_iptr frzL_nil frzL_one frzL_dI frzL_cell frzL_use frzL_ints frzL_choice frzL_var depth dCell dUse dInts dChoice dVar dProb tStart addO Ret flat_dI flat_rep chunk_dI
 binD_add binD_sub binD_mul binD_eql binD_neq binD_lss binD_leq binD_gtr binD_geq binD_quo binD_rem binD_beql binD_bneq binD_aeql binD_aneq unD_not unD_neg lenD_imm lenD_sl lenD_str readO_cells readO_frozen loadD_loc loadD_iptr iaddrD_imm iaddrD_sl iaddrD_loc faddrD_loc faddrD_iptr fieldD_agg indexD_agg indexD_str cellsL_bool stor_bool atom_bool cellsL_int stor_int atom_int cellsL_str stor_str atom_str cellsL_imm stor_imm atom_imm cellsL_sl stor_sl atom_sl cellsL_loc stor_loc atom_loc cellsL_iptr stor_iptr atom_iptr cellsL_map stor_map atom_map cellsL_fn stor_fn atom_fn cellsL_agg stor_agg cellsL_nilfn stor_nilfn atom_nilfn cellsL_nilp stor_nilp atom_nilp takeC_z takeC_s ofCells_ag ofCells_one ag_bool ag_int ag_str ag_slice ag_struct ag_arr ag_map ag_ptr ag_func gOf_t gOf_c gOf_f kv_cons putE_some putE_none oneRes_one oneRes_two oneRes_three getAll_nil getAll_v getAll_c maxiD_two miniD_two extV_tup xv_ext stepOp_box stepOp_alloc stepOp_store writeO_cells storeD_loc setCells_nil setCells_cons stepOp_mkmap stepOp_mapset stepOp_call1 stepOp_call2 stepOp_app2 stepOp_app1 stepOp_bslice stepOp_mkslice mapO_map lookupD_some lookupD_ok mapsetD_some keyOk_agg kindsL_nil kindsL_bool kindsL_int eqL_nil eqL_cons atomEq_bool atomEq_int frz_sl tokO_tok app0_step app0_exact app0_tok frz_loc oneRes_nil listOf_imm
  ty_0 ty_1 ty_2 ty_3 ty_4 ty_6 ty_7 ty_9 ty_10 ty_11 ty_13 ty_14 ty_15 ty_16 ty_17 ty_18 ty_19 ty_20 ty_21 ty_22 ty_26 ty_28 ty_29 ty_31 ty_32 ty_33 ty_35 ty_36 ty_37 ty_38 ty_39 ty_40
attribute [local congr] wT_congr ob_congr obP_congr iteD_congr condP_congr gdV_congr


abbrev dCause (c : Cause) : D := .agg [dI c.index, .imm .none (c.less.map dInts)]
abbrev dShare (s : Share) : D := .agg [dI s.cause, dI s.vr, dI s.minutes]

theorem frzL_cause {hp : List Obj} {n : Nat} {l : List Cause} : frzL (frz hp (n + 4)) (l.map dCause) = some (l.map dCause) := frzL_map fun x _ => by
  rw [frz_agg]
  simp only [frzL_one, frz_int, ob_some, frz_imm, frzL_ints, frzL_dI, Option.map_some, frzL_nil]
theorem frzL_share {hp : List Obj} {n : Nat} {l : List Share} : frzL (frz hp (n + 4)) (l.map dShare) = some (l.map dShare) := frzL_map fun x _ => by
  rw [frz_agg]
  simp only [frzL_one, frz_int, ob_some, frzL_nil, Option.map_some]

/-- few causes -/
structure SmC (c : List Cause) : Prop where
  len : c.length ≤ 100
  less : ∀ a, a ∈ c → a.less.length ≤ 1000
  rows : ∀ a, a ∈ c → ∀ r, r ∈ a.less → r.length ≤ 1000

def offC (n : Int) : Bool := decide (n < 0) || decide (4096 < n)
def wrongR (p : Prob) (l : List Int) : Bool := !decide (l.length = p.cells.length) || l.any offC
def wrongC (p : Prob) (a : Cause) : Bool := decide (a.index < 0) || decide (1048576 < a.index) || !decide (a.less.length = p.capacity.length) || a.less.any (wrongR p)

theorem r200 (n : Int) : runP E (dL E) 200 [dI n] = some (.bool (offC n)) := by
  refine runP_T c200 (by simp) ?_
  unfold offC
  by_cases h : n < 0 <;> simp [t200, n200, h]

theorem r199 (p : Prob) (l : List Int) (hl : l.length ≤ 1000) (hc : p.cells.length ≤ 1000) : runP E (dL E) 199 [dInts l, .iptr (dProb p).cellsL] = some (.bool (wrongR p l)) := by
  refine runP_T c199 (by simp) ?_
  have h71 := r71 l 200 offC r200 (by omega)
  simp only [dInts] at h71
  unfold wrongR
  by_cases h : l.length = p.cells.length
  · simp [t199, n199, h, h71]
  · have h' : ¬ (l.length : Int) = p.cells.length := by omega
    simp [t199, n199, h, h']

set_option maxHeartbeats 4000000 in
theorem g113 (p : Prob) (L : List (List Int)) (k : Nat) (f : List Int → Bool) (hf : ∀ l, l ∈ L → runP E (dL E) k [dInts l, .iptr (dProb p).cellsL] = some (.bool (f l))) (hL : L.length ≤ 1000000) :
    runP E (dL E) 113 [.imm .none (L.map dInts), .fn k [.iptr (dProb p).cellsL]] = some (dI (idxI f L 0)) := by
  refine runP_T c113 (by simp) ?_
  generalize hB : idxI f L 0 = B
  simp [t113, n113]
  refine wT_up L.length (fun i env hp => ∃ (x3 x6 x7 : D) , env = [.imm .none (L.map dInts), .fn k [.iptr (dProb p).cellsL], dI 0, x3, dI L.length, dI i, x6, x7] ∧ idxI f (L.drop i) i = B) 0 (by omega) ⟨_, _, _, rfl, by simpa using hB⟩ ?_
  rintro i env hp hi ⟨x3, x6, x7, rfl, hm⟩
  by_cases hlt : i < L.length
  · rw [drop_cons hlt] at hm
    have hk := hf L[i] (List.getElem_mem hlt)
    simp only [dInts] at hk
    simp at hk
    simp only [idxI] at hm
    by_cases h : f L[i] = true
    · rw [if_pos h] at hm
      clear hB
      subst hm
      simp [hlt, hk, h]
    · rw [if_neg h] at hm
      have h' : f L[i] = false := by simpa using h
      simp [hlt, hk, h', hm, wrap_up hlt (by omega)]
  · have : i = L.length := by omega
    subst this
    rw [List.drop_length] at hm
    simp only [idxI] at hm
    simp [hm]

theorem g94 (p : Prob) (L : List (List Int)) (k : Nat) (f : List Int → Bool) (hf : ∀ l, l ∈ L → runP E (dL E) k [dInts l, .iptr (dProb p).cellsL] = some (.bool (f l))) (hL : L.length ≤ 1000000) :
    runP E (dL E) 94 [.imm .none (L.map dInts), .fn k [.iptr (dProb p).cellsL]] = some (.bool (L.any f)) := by
  refine runP_T c94 (by simp) ?_
  have h := g113 p L k f hf hL
  simp at h
  simp [t94, n94, h, idxI_any]

theorem r193 (p : Prob) (a : Cause) (S : Small p) (h1 : a.less.length ≤ 1000) (h2 : ∀ r, r ∈ a.less → r.length ≤ 1000) : runP E (dL E) 193 [dCause a, .iptr (dProb p).cellsL] = some (.bool (wrongC p a)) := by
  refine runP_T c193 (by simp) ?_
  have s1 := S.cells
  have s2 := S.cap
  have h94 := g94 p a.less 199 (wrongR p) (fun l hl => r199 p l (h2 l hl) (by omega)) (by omega)
  simp only [dProb, dInts, cellsL_agg] at h94
  unfold wrongC
  by_cases q1 : a.index < 0
  · simp [t193, n193, q1]
  by_cases q2 : 1048576 < a.index
  · simp [t193, n193, q1, q2]
  by_cases q3 : a.less.length = p.capacity.length
  · simp [t193, n193, q1, q2, q3, h94, frzL_leaf, frzL_cause]
  · have q3' : ¬ (a.less.length : Int) = p.capacity.length := by omega
    simp [t193, n193, q1, q2, q3, q3']

set_option maxHeartbeats 4000000 in
theorem r201 (p : Prob) (c : List Cause) (S : Small p) (M : SmC c) : runP E (dL E) 201 [.imm .none (c.map dCause), .fn 193 [.iptr (dProb p).cellsL]] = some (dI (idxI (wrongC p) c 0)) := by
  refine runP_T c201 (by simp) ?_
  have m1 := M.len
  generalize hB : idxI (wrongC p) c 0 = B
  simp [t201, n201]
  refine wT_up c.length (fun i env hp => ∃ (x3 x6 x7 : D) , env = [.imm .none (c.map dCause), .fn 193 [.iptr (dProb p).cellsL], dI 0, x3, dI c.length, dI i, x6, x7] ∧ idxI (wrongC p) (c.drop i) i = B) 0 (by omega) ⟨_, _, _, rfl, by simpa using hB⟩ ?_
  rintro i env hp hi ⟨x3, x6, x7, rfl, hm⟩
  by_cases hlt : i < c.length
  · rw [drop_cons hlt] at hm
    have hk := r193 p c[i] S (M.less _ (List.getElem_mem hlt)) (M.rows _ (List.getElem_mem hlt))
    simp only [dCause, dProb, dInts, cellsL_agg] at hk
    simp only [idxI] at hm
    by_cases h : wrongC p c[i] = true
    · rw [if_pos h] at hm
      clear hB
      subst hm
      simp [hlt, hk, h, frzL_leaf, frzL_cause]
    · rw [if_neg h] at hm
      have h' : wrongC p c[i] = false := by simpa using h
      simp [hlt, hk, h', hm, wrap_up hlt (by omega), frzL_leaf, frzL_cause]
  · have : i = c.length := by omega
    subst this
    rw [List.drop_length] at hm
    simp only [idxI] at hm
    simp [hm]

theorem r194 (p : Prob) (c : List Cause) (S : Small p) (M : SmC c) : runP E (dL E) 194 [.imm .none (c.map dCause), .fn 193 [.iptr (dProb p).cellsL]] = some (.bool (c.any (wrongC p))) := by
  refine runP_T c194 (by simp) ?_
  have h := r201 p c S M
  simp only [dCause, dProb, dInts, cellsL_agg] at h
  simp [t194, n194, h, idxI_any, frzL_leaf, frzL_cause]

theorem wrongR_iff {p : Prob} {l : List Int} : wrongR p l = false ↔ l.length = p.cells.length ∧ ∀ n, n ∈ l → 0 ≤ n ∧ n ≤ 4096 := by
  unfold wrongR offC
  simp only [Bool.or_eq_false_iff, Bool.not_eq_false', decide_eq_true_eq, List.any_eq_false, Bool.or_eq_true, not_or]
  refine ⟨fun h => ⟨h.1, fun n hn => ?_⟩, fun h => ⟨h.1, fun n hn => ?_⟩⟩
  · have := h.2 n hn; omega
  · have := h.2 n hn; omega
theorem okC_iff {p : Prob} {c : List Cause} : OkC p c ↔ c.length ≤ 8 ∧ c.any (wrongC p) = false := by
  rw [List.any_eq_false]
  constructor
  · intro C
    refine ⟨C.len, fun a ha => ?_⟩
    have h1 := C.idx a ha
    have h2 := C.rows a ha
    have h3 := C.wid a ha
    have e : a.less.any (wrongR p) = false := by
      rw [List.any_eq_false]
      intro r hr
      rw [Bool.not_eq_true]
      exact wrongR_iff.2 (h3 r hr)
    have q1 : ¬ a.index < 0 := by omega
    have q2 : ¬ 1048576 < a.index := by omega
    simp [wrongC, e, h2, q1, q2]
  · rintro ⟨h0, h⟩
    have key : ∀ a, a ∈ c → (0 ≤ a.index ∧ a.index ≤ 1048576) ∧ a.less.length = p.capacity.length ∧ ∀ r, r ∈ a.less → wrongR p r = false := fun a ha => by
      have := h a ha
      unfold wrongC at this
      rw [Bool.not_eq_true] at this
      simp only [Bool.or_eq_false_iff, Bool.not_eq_false', decide_eq_true_eq, decide_eq_false_iff_not] at this
      obtain ⟨⟨⟨a1, a2⟩, a3⟩, a4⟩ := this
      rw [List.any_eq_false] at a4
      exact ⟨⟨by omega, by omega⟩, a3, fun r hr => by simpa using a4 r hr⟩
    exact ⟨h0, fun a ha => (key a ha).1, fun a ha => (key a ha).2.1, fun a ha r hr => wrongR_iff.1 ((key a ha).2.2 r hr)⟩

open Classical in
/-- the error of causes -/
noncomputable def ckC (p : Prob) (c : List Cause) : Int := if OkP p then (if OkC p c then 0 else 420) else 270

set_option maxHeartbeats 4000000 in
theorem r181 (p : Prob) (c : List Cause) (S : Small p) (M : SmC c) : runP E (dL E) 181 [dProb p, .imm .none (c.map dCause)] = some (dI (ckC p c)) := by
  refine runP_T c181 (by simp) ?_
  have h15 := r15 p S
  have m1 := M.len
  simp only [dProb] at h15
  by_cases h0 : OkP p
  rotate_left
  · have e : ck p = 270 := by simp [ck, h0]
    simp [t181, n181, h15, e, ckC, h0]
  have e : ck p = 0 := by simp [ck, h0]
  by_cases h8 : 8 < c.length
  · have hn : ¬ OkC p c := fun h => by have := h.len; omega
    have h8' : (8 : Int) < c.length := by omega
    simp [t181, n181, h15, e, ckC, h0, hn, h8', rTS_effh, gdD_b]
  have h8' : ¬ (8 : Int) < c.length := by omega
  have h194 := r194 p c S M
  simp only [dCause, dProb, dInts, cellsL_agg] at h194
  by_cases h2 : c.any (wrongC p) = true
  · have hn : ¬ OkC p c := fun h => by have := (okC_iff.1 h).2; rw [h2] at this; cases this
    rw [h2] at h194
    simp [t181, n181, h15, e, ckC, h0, hn, h8', rTS_effh, gdD_b, h194, frzL_leaf, frzL_cause]
  · have h2' : c.any (wrongC p) = false := by simpa using h2
    have hn : OkC p c := okC_iff.2 ⟨by omega, h2'⟩
    rw [h2'] at h194
    simp [t181, n181, h15, e, ckC, h0, hn, h8', rTS_effh, gdD_b, h194, frzL_leaf, frzL_cause]

/-- valid multipliers -/
structure OkM (p : Prob) (m : List (List Int)) : Prop where
  len : m.length = p.capacity.length
  rows : ∀ l, l ∈ m → l.length = p.cells.length ∧ ∀ n, n ∈ l → 0 ≤ n ∧ n ≤ 65536

open Classical in
noncomputable def mk (p : Prob) (m : List (List Int)) : Int := if OkP p then (if OkM p m then 0 else 290) else 270

def mu (m : List (List Int)) (leaf : Int) (k : Nat) : Int := (m.getD leaf.toNat []).getD k 0

end Dv

/- Plain facts: the order of the variables does not matter, and without one of them nothing becomes greater. -/
namespace Dv

/-- the same problem with other variables -/
def other (p : Prob) (vs : List Var) : Prob := { p with vars := vs }

end Dv

/- Better multipliers: what is meant. -/
namespace Dv

/-! rows in the heap, each at a place of its own -/

/-- the head of a row -/
def hd (n id : Nat) : D := if n = 0 then .imm .exact [] else .sl id 0 n 1 false true
end Dv

namespace Dv
attribute [local simp] wT_skip wK wT_ret wT_exit wR wRp wT_seq wC wT_block rTS_nil rTS_asg rTS_eff rTS_effk rTS_effg gdV_b binD_and binD_or binD_xor stepOp_call3 closed_bool closed_int closed_tup flatB_bool flatB_int frzX_tup frzX_exact frz1_exact frz1_none frz1_int ob_some obP_some iteD_b condP_b xv_v xv_c xv_ite xv_bin_tt xv_bin_tc xv_bin_ct xv_bin_cc xv_un_t xv_conv_t xv_load xv_len xv_faddr xv_field xv_iaddr_tt xv_iaddr_tc xv_index_tt xv_index_tc xv_lookup_tt xv_max_tt xv_max_tc xv_max_ct xv_min_tt xv_min_tc xv_min_ct xv_slice_lo_t xv_slice_lo_c xv_slice_hi_t xv_slice_all xv_call xv_bslice bsliceV xv_build buildV xv_mkfn zeroE fillE buildD fillD List.replicate xvs_nil xvs_cons callV_fn frz_bool frz_int frz_imm frz_agg frz_tup frz_fn frz_iptr frzL_nil frzL_one frzL_dI frzL_cell frzL_use frzL_ints frzL_choice frzL_var depth dCell dUse dInts dChoice dVar dProb tStart addO Ret flat_dI flat_rep chunk_dI
 binD_add binD_sub binD_mul binD_eql binD_neq binD_lss binD_leq binD_gtr binD_geq binD_quo binD_rem binD_beql binD_bneq binD_aeql binD_aneq unD_not unD_neg lenD_imm lenD_sl lenD_str readO_cells readO_frozen loadD_loc loadD_iptr iaddrD_imm iaddrD_sl iaddrD_loc faddrD_loc faddrD_iptr fieldD_agg indexD_agg indexD_str cellsL_bool stor_bool atom_bool cellsL_int stor_int atom_int cellsL_str stor_str atom_str cellsL_imm stor_imm atom_imm cellsL_sl stor_sl atom_sl cellsL_loc stor_loc atom_loc cellsL_iptr stor_iptr atom_iptr cellsL_map stor_map atom_map cellsL_fn stor_fn atom_fn cellsL_agg stor_agg cellsL_nilfn stor_nilfn atom_nilfn cellsL_nilp stor_nilp atom_nilp takeC_z takeC_s ofCells_ag ofCells_one ag_bool ag_int ag_str ag_slice ag_struct ag_arr ag_map ag_ptr ag_func gOf_t gOf_c gOf_f kv_cons putE_some putE_none oneRes_one oneRes_two oneRes_three getAll_nil getAll_v getAll_c maxiD_two miniD_two extV_tup xv_ext stepOp_box stepOp_alloc stepOp_store writeO_cells storeD_loc setCells_nil setCells_cons stepOp_mkmap stepOp_mapset stepOp_call1 stepOp_call2 stepOp_app2 stepOp_app1 stepOp_bslice stepOp_mkslice mapO_map lookupD_some lookupD_ok mapsetD_some keyOk_agg kindsL_nil kindsL_bool kindsL_int eqL_nil eqL_cons atomEq_bool atomEq_int frz_sl tokO_tok app0_step app0_exact app0_tok frz_loc oneRes_nil listOf_imm
  ty_0 ty_1 ty_2 ty_3 ty_4 ty_6 ty_7 ty_9 ty_10 ty_11 ty_13 ty_14 ty_15 ty_16 ty_17 ty_18 ty_19 ty_20 ty_21 ty_22 ty_26 ty_28 ty_29 ty_31 ty_32 ty_33 ty_35 ty_36 ty_37 ty_38 ty_39 ty_40
attribute [local congr] wT_congr ob_congr obP_congr iteD_congr condP_congr gdV_congr


theorem s96 (r : List Int) (h : r.length ≤ 1000) (hp : List Obj) : ∃ t, runS E (dL E) 96 [dInts r] hp = some (hd r.length hp.length, hp ++ t) ∧ (r.length ≠ 0 → t = [.cells (r.map dI)]) := by
  obtain ⟨d, hp', h1, h2, h3⟩ := runS_T c96 (args := [dInts r]) (hp := hp) (R := fun d hp' => d = hd r.length hp.length ∧ ∃ t, hp' = hp ++ t ∧ (r.length ≠ 0 → t = [.cells (r.map dI)])) (by simp) (by
    by_cases h0 : r.length = 0
    · have : r = [] := List.eq_nil_of_length_eq_zero h0
      subst this
      simp [t96, n96, hd, appendM]
      exact ⟨[], by simp [applyEf]⟩
    · have h4 : ¬ r = [] := fun e => h0 (by rw [e]; rfl)
      have a := fun hp id => app1_nums (hp := hp) (id := id) (cs := r) (by omega) (by omega)
      simp [t96, n96, hd, a, applyEf, h0, h4])
  subst h2
  obtain ⟨t, rfl, h4⟩ := h3
  exact ⟨t, h1, h4⟩

theorem slice_lo {t e : Nat} (hk : (E.ty t).k = .slice e) {l : List D} (hf : headFits (E.ty e).size l = true) {n : Nat} (h : n ≤ l.length) : sliceD E t (.imm .none l) (some (.int .i64 (n : Int))) none none = some (.imm .none (l.drop n)) := by
  simp only [sliceD, hk, bnd, Int.toNat_natCast, Option.map_none, sliceSpare, hf]
  have h0 : (0 : Int) ≤ n := by omega
  simp only [h0, h, if_true, Nat.le_refl, and_self]
  rw [List.take_of_length_le (by simp)]

/-- a row while places are added -/
def mixA (x y : List Int) (k : Nat) : List Int := (addR x y).take k ++ x.drop k
theorem mixA_len {n : Nat} {x y : List Int} (hx : x.length = n) (hy : y.length = n) {k : Nat} : (mixA x y k).length = n := by
  have := addR_len (hx.trans hy.symm)
  simp [mixA, this, hx]; omega
theorem mixA_get {n : Nat} {x y : List Int} (hx : x.length = n) (hy : y.length = n) {k : Nat} (hk : k < x.length) : (mixA x y k)[k]? = some x[k] := by
  have := addR_len (hx.trans hy.symm)
  unfold mixA
  rw [List.getElem?_append_right (by simp; omega)]
  simp [this, Nat.min_eq_left (Nat.le_of_lt hk), hk]
theorem mixA_set {n : Nat} {x y : List Int} (hx : x.length = n) (hy : y.length = n) {k : Nat} (hk : k < x.length) (hk' : k < y.length) : (mixA x y k).set k (mn (x[k] + y[k]) 4096) = mixA x y (k + 1) := by
  have h0 := addR_len (hx.trans hy.symm)
  have hk2 : k < (addR x y).length := by omega
  have e : (addR x y)[k] = mn (x[k] + y[k]) 4096 := by simp [addR]
  unfold mixA
  rw [List.set_append_right _ _ (by simp; omega), List.take_succ_eq_append_getElem hk2, e]
  have : k - ((addR x y).take k).length = 0 := by simp; omega
  rw [this, List.drop_eq_getElem_cons hk, List.set_cons_zero, List.append_assoc]
  rfl
theorem mixA_zero {x y : List Int} : mixA x y 0 = x := by simp [mixA]
theorem mixA_all {n : Nat} {x y : List Int} (hx : x.length = n) (hy : y.length = n) : mixA x y n = addR x y := by
  have h0 := addR_len (hx.trans hy.symm)
  unfold mixA
  rw [List.take_of_length_le (by omega), List.drop_of_length_le (by omega), List.append_nil]

theorem slice_rest {x : List Int} {ys : List (List Int)} : sliceD E 9 (.imm .none (.imm .none (x.map dI) :: ys.map dInts)) (some (.int .i64 1)) none none = some (.imm .none (ys.map dInts)) := by
  have := slice_lo (t := 9) (e := 6) rfl (l := .imm .none (x.map dI) :: ys.map dInts) (by simp [headFits, E, tyTab, D.cellsL]) (n := 1) (by simp)
  simpa using this

theorem r202z (ys : List (List Int)) (hy : ∀ y, y ∈ ys → y = []) (hl : ys.length ≤ 1000) : runP E (dL E) 202 [.imm .none (([] :: ys).map dInts)] = some (dInts []) := by
  refine runP_T c202 (by simp) ?_
  obtain ⟨t, h96, _⟩ := s96 [] (by simp) []
  simp [hd] at h96
  have hs := slice_rest (x := []) (ys := ys)
  simp only [List.map_nil] at hs
  simp [t202, n202, h96, hs]
  refine wT_up ys.length (fun i env hp => ∃ (x3 x4 x5 x6 x10 x11 x12 x13 x14 : D) , env = [.imm .none (([] :: ys).map dInts), .imm .exact [], .imm .exact [], x3, x4, x5, x6, .imm .none (ys.map dInts), dI ys.length, dI i, x10, x11, x12, x13, x14]) 0 (by omega) ⟨_, _, _, _, _, _, _, _, _, rfl⟩ ?_
  rintro i env hp hi ⟨x3, x4, x5, x6, x10, x11, x12, x13, x14, rfl⟩
  by_cases hlt : i < ys.length
  · have h0 := hy _ (List.getElem_mem hlt)
    simp [hlt, h0]
    refine wT_up 0 (fun j env hp => ∃ (x3 x4 x5 x6 x10 x11 x14 : D) , env = [.imm .none (([] :: ys).map dInts), .imm .exact [], .imm .exact [], x3, x4, x5, x6, .imm .none (ys.map dInts), dI ys.length, dI i, x10, x11, dI (0 : Nat), dI j, x14]) 0 (by omega) ⟨_, _, _, _, _, _, _, rfl⟩ ?_
    rintro j env hp hj ⟨x3, x4, x5, x6, x10, x11, x14, rfl⟩
    have : j = 0 := by omega
    subst this
    simp [wrap_up hlt (by omega)]
  · simp [hlt]

set_option maxHeartbeats 8000000 in
theorem r202 (n : Nat) (x : List Int) (ys : List (List Int)) (hx : okR n x) (hy : ∀ y, y ∈ ys → okR n y) (hn : n ≤ 1000) (hl : ys.length ≤ 1000) :
    runP E (dL E) 202 [.imm .none ((x :: ys).map dInts)] = some (dInts (ys.foldl addR x)) := by
  by_cases h0 : n = 0
  · subst h0
    have e : x = [] := List.eq_nil_of_length_eq_zero hx.1
    have e2 : ys.foldl addR x = [] := List.eq_nil_of_length_eq_zero (okR_fold hx hy).1
    rw [e2, e]
    exact r202z ys (fun y h => List.eq_nil_of_length_eq_zero (hy y h).1) hl
  refine runP_T c202 (by simp) ?_
  have hxl := hx.1
  obtain ⟨t, h96, ht⟩ := s96 x (by omega) []
  have ht := ht (by omega)
  subst ht
  rw [hd, if_neg (by omega), hxl] at h96
  simp only [dInts] at h96
  simp at h96
  obtain ⟨R, hR⟩ : ∃ R : Nat → List Int, R = fun i => (ys.take i).foldl addR x := ⟨_, rfl⟩
  have hRk : ∀ i, okR n (R i) := fun i => by rw [hR]; exact okR_fold hx fun y h => hy y (List.mem_of_mem_take h)
  have hR1 : ∀ (i : Nat) (h : i < ys.length), R (i + 1) = addR (R i) ys[i] := fun i h => by
    rw [hR]; simp only []; rw [List.take_succ_eq_append_getElem h, List.foldl_append]; rfl
  have hRn : R ys.length = ys.foldl addR x := by rw [hR]; simp only []; rw [List.take_length]
  have hR0 : R 0 = x := by rw [hR]; simp
  rw [← hRn]
  simp [t202, n202, h96, slice_rest]
  refine wT_up ys.length (fun i env hp => ∃ (x3 x4 x5 x6 x10 x11 x12 x13 x14 : D) , env = [.imm .none ((x :: ys).map dInts), .imm .exact [], .sl 0 0 n 1 false true, x3, x4, x5, x6, .imm .none (ys.map dInts), dI ys.length, dI i, x10, x11, x12, x13, x14] ∧ At hp 0 (.cells ((R i).map dI))) 0 (by omega) ⟨_, _, _, _, _, _, _, _, _, rfl, by rw [hR0]; simp [At]⟩ ?_
  rintro i env hp hi ⟨x3, x4, x5, x6, x10, x11, x12, x13, x14, rfl, g0⟩
  by_cases hlt : i < ys.length
  · obtain ⟨y, hyd⟩ : ∃ y, y = ys[i] := ⟨_, rfl⟩
    have hyk : okR n y := by rw [hyd]; exact hy _ (List.getElem_mem hlt)
    have hyl := hyk.1
    have hRi := hRk i
    have e1 := hR1 i hlt
    rw [← hyd] at e1
    obtain ⟨r, hr⟩ : ∃ r, r = R i := ⟨_, rfl⟩
    rw [← hr] at g0 hRi e1
    have hrl := hRi.1
    simp [hlt, ← hyd]
    refine wT_up n (fun j env hp => ∃ (x3 x4 x5 x6 x10 x14 : D) , env = [.imm .none ((x :: ys).map dInts), .imm .exact [], .sl 0 0 n 1 false true, x3, x4, x5, x6, .imm .none (ys.map dInts), dI ys.length, dI i, x10, dInts y, dI n, dI j, x14] ∧ At hp 0 (.cells ((mixA r y j).map dI))) 0 (by omega) ⟨_, _, _, _, _, _, by rw [hyl]; rfl, by rw [mixA_zero]; exact g0⟩ ?_
    clear g0 hp
    rintro j env hp hj ⟨x3, x4, x5, x6, x10, x14, rfl, g0⟩
    have l0 := g0.lt
    by_cases hjl : j < n
    · have hjr : j < r.length := by omega
      have hjy : j < y.length := by omega
      have m1 := mixA_get hrl hyl hjr
      have m2 := mixA_set hrl hyl hjr hjy
      have m3 := mixA_len hrl hyl (k := j)
      have b1 := hRi.2 _ (List.getElem_mem hjr)
      have b2 := hyk.2 _ (List.getElem_mem hjy)
      have w1 := wrap_i64 (n := r[j] + y[j]) ⟨by omega, by omega⟩
      have m4 : (List.map dI (mixA r y j)).set j (.int .i64 (if 4096 < r[j] + y[j] then 4096 else r[j] + y[j])) = (mixA r y (j + 1)).map dI := by
        rw [← m2, List.map_set]; rfl
      have m5 : j + 1 ≤ (mixA r y j).length := by omega
      simp [hjl, hjy, g0.eq, m1, w1, m4, m5, wrap_up hjl (by omega)]
      exact At.self l0
    · have : j = n := by omega
      subst this
      rw [mixA_all hrl hyl, ← e1] at g0
      simp [hjl, wrap_up hlt (by omega)]
      exact g0
  · have : i = ys.length := by omega
    subst this
    have hch := chunk_dI (l := R ys.length)
    rw [(hRk _).1] at hch
    simp [hlt, g0.eq, frz_sl, hch]

theorem fitsA_ints {l : List (List Int)} : fitsE 1 (l.map dInts) = true := by
  unfold fitsE
  rw [List.all_eq_true]
  intro x hx
  obtain ⟨r, _, rfl⟩ := List.mem_map.1 hx
  rfl
theorem flat_nil : flat [] = [] := rfl
theorem slice_fullA {l : List (List Int)} {sp : Spare} : sliceD E 35 (.imm sp (l.map dInts)) none (some (dI l.length)) (some (dI l.length)) = some (.imm .exact (l.map dInts)) := by
  have hh : headFits 1 (l.map dInts) = true := by cases l <;> rfl
  have hq : (l.map dInts).take l.length = l.map dInts := List.take_of_length_le (by simp)
  simp [sliceD, bnd, sliceSpare, hh, hq]
theorem slice_fullL {l : List Leaf} {sp : Spare} : sliceD E 31 (.imm sp (l.map dLeaf)) none (some (dI l.length)) (some (dI l.length)) = some (.imm .exact (l.map dLeaf)) := by
  have hh : headFits 3 (l.map dLeaf) = true := by cases l <;> rfl
  have hq : (l.map dLeaf).take l.length = l.map dLeaf := List.take_of_length_le (by simp)
  simp [sliceD, bnd, sliceSpare, hh, hq]

theorem r175 (l : List (List Int)) : runP E (dL E) 175 [.imm .none (l.map dInts)] = some (.imm .exact (l.map dInts)) := by
  refine runP_X c175 (by simp) ?_
  simp [t175, n175, xv_slice3, slice_fullA]

theorem r166 (l : List Leaf) : runP E (dL E) 166 [.imm .none (l.map dLeaf)] = some (.imm .exact (l.map dLeaf)) := by
  refine runP_X c166 (by simp) ?_
  simp [t166, n166, xv_slice3, slice_fullL, frzL_leaf]

theorem r165 (l : List (List Int)) (hl : l.length ≤ 1000000000) : runP E (dL E) 165 [.imm .none (l.map dInts)] = some (.imm .none (l.map dInts)) := by
  refine runP_T c165 (by simp) ?_
  by_cases h0 : l = []
  · subst h0
    simp [t165, n165, appendM, applyEf]
  · have h1 : ¬ l.length = 0 := fun h => h0 (List.eq_nil_of_length_eq_zero h)
    have hb : ((l.map dInts).all fun d => d.storable && d.cellsL.length == 1) = true := fitsA_ints
    have hm : l.length * 25 ≤ maxBytes := by unfold maxBytes; omega
    have hc : chunk 1 false l.length (l.map dInts) = some (l.map dInts) := by
      have := chunk_one (l := l.map dInts)
      rwa [List.length_map] at this
    simp [t165, n165, appendM, applyEf, listOf, hb, h0, hm, fitsE, flat_nil, flat_ints, hc]

theorem r168 (m : List (List Int)) (b : List Int) (hm : m.length ≤ 1000000000) : runP E (dL E) 168 [.imm .none ((m ++ [b]).map dInts)] = some (.tup [dInts b, .imm .exact (m.map dInts)]) := by
  refine runP_X c168 (by simp) ?_
  have h175 := r175 m
  have w := wrap_i64 (n := (m.length : Int) + 1 - 1) ⟨by omega, by omega⟩
  have w2 : (m.length : Int) + 1 - 1 = m.length := by omega
  have hg : (List.map dInts m ++ [D.imm Spare.none (List.map dI b)])[m.length]? = some (D.imm Spare.none (List.map dI b)) := by
    rw [List.getElem?_append_right (by simp)]; simp
  have hh : headFits 1 (List.map dInts m ++ [D.imm Spare.none (List.map dI b)]) = true := by cases m <;> rfl
  have hs : sliceD E 35 (.imm .none (List.map dInts m ++ [D.imm Spare.none (List.map dI b)])) none (some (dI m.length)) none = some (.imm .none (List.map dInts m)) := by
    have ht : (List.map dInts m ++ [D.imm Spare.none (List.map dI b)]).take m.length = List.map dInts m := by
      rw [List.take_append_of_le_length (by simp), List.take_of_length_le (by simp)]
    simp [sliceD, bnd, sliceSpare, hh, ht]
  rw [w2] at w
  simp [t168, n168, w, w2, hg, hs, h175]

theorem r169 (l : List (List Int)) : runP E (dL E) 169 [.imm .none (l.map dInts)] = some (.fn 176 [.iptr [.imm .none (l.map dInts)]]) := by
  refine runP_T c169 (by simp) ?_
  simp [t169, n169]

/-- the branches, the last one first -/
theorem i176 (l : List (List Int)) (hl : l.length ≤ 1000000000) (k : Nat) (J : List (List Int) → List Obj → Prop) (Fin : List Obj → Prop)
    (hy : ∀ x rem hp, J (x :: rem) hp → ∃ t hp', runY (dL E) k [dInts x] hp = some (.bool t, hp') ∧ (t = true → J rem hp') ∧ (t = false → Fin hp')) {hp : List Obj}
    (h0 : J l.reverse hp) :
    ∃ d hp', runS E (dL E) 176 [.yld k, .iptr [.imm .none (l.map dInts)]] hp = some (d, hp') ∧ (J [] hp' ∨ Fin hp') := by
  refine runS_T c176 (R := fun _ hp' => J [] hp' ∨ Fin hp') (by simp) ?_
  have w := wrap_i64 (n := (l.length : Int) - 1) ⟨by omega, by omega⟩
  simp [t176, n176, w]
  refine wT_up l.length (fun i env hp => ∃ (x3 x4 x5 : D) , env = [.yld k, .iptr [.imm .none (l.map dInts)], dI ((l.length : Int) - 1 - i), x3, x4, x5] ∧ J ((l.take (l.length - i)).reverse) hp) 0 (by omega) ⟨.undef, .undef, .undef, by simp, by simpa using h0⟩ ?_
  rintro i env hp hi ⟨x3, x4, x5, rfl, hJ⟩
  by_cases hlt : i < l.length
  rotate_left
  · have : i = l.length := by omega
    subst this
    have e1 : (l.length : Int) - 1 - l.length = -1 := by omega
    simp only [Nat.sub_self, List.take_zero, List.reverse_nil] at hJ
    rw [e1]
    simp [hJ]
  obtain ⟨j, hj⟩ : ∃ j, l.length - i = j + 1 := ⟨l.length - i - 1, by omega⟩
  have hjl : j < l.length := by omega
  have ej : (l.length : Int) - 1 - i = j := by omega
  have e2 : (0 : Int) ≤ j := by omega
  have e3 := wrap_i64 (n := (j : Int) - 1) ⟨by omega, by omega⟩
  rw [hj, List.take_succ_eq_append_getElem hjl, List.reverse_append] at hJ
  simp only [List.reverse_singleton, List.singleton_append] at hJ
  obtain ⟨t, hp2, hy1, hy2, hy3⟩ := hy _ _ _ hJ
  simp only [dInts] at hy1
  have hn : l.length - (i + 1) = j := by omega
  have e4 : (l.length : Int) - 1 - (i + 1) = (j : Int) - 1 := by omega
  rw [ej]
  cases t with
  | true =>
    have hJ2 := hy2 rfl
    simp [hjl, hy1, hn, e3, e4, hlt, hJ2]
  | false =>
    have hF := hy3 rfl
    simp [hjl, hy1, hF]

/-- the room behind a list is its own, or there is none -/
def Room (C : Nat) (hp : List Obj) (sp : Spare) (n sz : Nat) : Prop := sp = .exact ∨ ∃ k, sp = .tok k ∧ C ≤ k ∧ At hp k (.tok (n * sz) sz)
/-- nothing changes but at one place and behind C -/
def Keep (i C : Nat) (hp hp' : List Obj) : Prop := ∀ J : List Obj → Prop, (∀ hp r, J hp → J (hp ++ r)) → (∀ hp j o, J hp → (j = i ∨ C ≤ j) → J (hp.set j o)) → J hp → J hp'
theorem Keep.at {i C : Nat} {hp hp' : List Obj} (h : Keep i C hp hp') {j : Nat} {o : Obj} (hj : j ≠ i) (hC : j < C) (g : At hp j o) : At hp' j o :=
  h (fun hp => At hp j o) (fun _ _ h => h.app) (fun _ k _ h hk => h.ne (by rcases hk with rfl | hk; exact fun e => hj e.symm; omega)) g
theorem Keep.refl {i C : Nat} {hp : List Obj} : Keep i C hp hp := fun _ _ _ h => h
theorem Keep.trans {i C : Nat} {hp hp' hp'' : List Obj} (h : Keep i C hp hp') (h' : Keep i C hp' hp'') : Keep i C hp hp'' := fun J h1 h2 h3 => h' J h1 h2 (h J h1 h2 h3)
theorem Keep.app {i C : Nat} {hp r : List Obj} : Keep i C hp (hp ++ r) := fun _ h1 _ h3 => h1 _ _ h3
theorem Keep.set {i C j : Nat} {o : Obj} {hp : List Obj} (hj : j = i ∨ C ≤ j) : Keep i C hp (hp.set j o) := fun _ _ h2 h3 => h2 _ _ _ h3 hj

abbrev nLeaf (l : Leaf) : D := .agg [dInts l.branch, dI l.kind, .imm .exact []]
def dLs (ls ns : List Leaf) : List D := ls.map dLeaf ++ ns.map nLeaf
theorem dLs_len {ls ns : List Leaf} : (dLs ls ns).length = ls.length + ns.length := by simp [dLs]
theorem dLs_snoc {ls ns : List Leaf} {b : List Int} {kd : Int} : dLs ls ns ++ [.agg [dInts b, dI kd, .imm .exact []]] = dLs ls (ns ++ [⟨b, kd, []⟩]) := by simp [dLs]
theorem fits_dLs {ls ns : List Leaf} : fitsE 3 (dLs ls ns) = true := by
  unfold fitsE
  rw [List.all_eq_true]
  intro x hx
  rcases List.mem_append.1 hx with hx | hx
  · obtain ⟨r, _, rfl⟩ := List.mem_map.1 hx; rfl
  · obtain ⟨r, _, rfl⟩ := List.mem_map.1 hx; rfl
theorem appOk_dLs {ls ns : List Leaf} {x : D} (h : ls.length + ns.length ≤ 1000000000) : appOk E 32 (dLs ls ns) [x] := by
  refine ⟨?_, ?_, ?_, fits_dLs⟩ <;> simp [maxBytes, dLs_len]
  omega
theorem frzL_snd {hp : List Obj} {n : Nat} : ∀ {l r l' r' : List D}, frzL (frz hp n) l = some l' → frzL (frz hp n) r = some r' → frzL (frz hp n) (l ++ r) = some (l' ++ r')
  | [], r, l', r', h, h' => by simp only [frzL_nil, Option.some.injEq] at h; subst h; exact h'
  | x :: l, r, l', r', h, h' => by
    rw [frzL_one] at h
    rw [List.cons_append, frzL_one]
    cases hx : frz hp n x with
    | none => rw [hx] at h; cases h
    | some y =>
      rw [hx, ob_some] at h
      rw [ob_some]
      cases hl : frzL (frz hp n) l with
      | none => rw [hl] at h; cases h
      | some z =>
        rw [hl, ob_some, Option.some.injEq] at h
        subst h
        rw [frzL_snd hl h', ob_some, List.cons_append]
theorem frzL_nLeaf {hp : List Obj} {n : Nat} : ∀ {l : List Leaf}, (∀ x, x ∈ l → x.mult = []) → frzL (frz hp (n + 4)) (l.map nLeaf) = some (l.map dLeaf)
  | [], _ => rfl
  | x :: l, h => by
    rw [List.map_cons, frzL_one, frz_agg]
    simp only [frzL_one, frz_int, ob_some, frz_imm, frzL_dI, Option.map_some, frzL_nil]
    rw [frzL_nLeaf fun y hy => h y (by simp [hy])]
    simp [h x (by simp)]
theorem frzL_dLs {hp : List Obj} {n : Nat} {ls ns : List Leaf} (h : ∀ x, x ∈ ns → x.mult = []) : frzL (frz hp (n + 4)) (dLs ls ns) = some ((ls ++ ns).map dLeaf) := by
  unfold dLs
  rw [frzL_snd frzL_leaf (frzL_nLeaf h), List.map_append]

theorem s167 {i C : Nat} {hp : List Obj} {o be v : D} {sp : Spare} (b : List Int) (kd : Int) (ls ns : List Leaf) (hn : ls.length + ns.length ≤ 1000000000)
    (g : At hp i (.cells [o, be, v, .imm sp (dLs ls ns)])) (R : Room C hp sp (ls.length + ns.length) 3) (hC : C ≤ hp.length) (hi : i < C) :
    ∃ d hp', runS E (dL E) 167 [dInts b, dI kd, .loc i 0] hp = some (d, hp') ∧ ∃ sp', At hp' i (.cells [o, be, v, .imm sp' (dLs ls (ns ++ [⟨b, kd, []⟩]))]) ∧ Room C hp' sp' (ls.length + ns.length + 1) 3 ∧ Keep i C hp hp' ∧ hp.length ≤ hp'.length := by
  refine runS_T c167 (args := [dInts b, dI kd, .loc i 0]) (hp := hp) (R := fun _ hp' => ∃ sp', At hp' i (.cells [o, be, v, .imm sp' (dLs ls (ns ++ [⟨b, kd, []⟩]))]) ∧ Room C hp' sp' (ls.length + ns.length + 1) 3 ∧ Keep i C hp hp' ∧ hp.length ≤ hp'.length) (by simp) ?_
  have ha := fun x => appOk_dLs (ls := ls) (ns := ns) (x := x) hn
  have hl := g.lt
  rcases R with rfl | ⟨k, rfl, hk, hk2⟩
  · simp [t167, n167, g.eq, app0_step, app0_exact, ha, ↓g.appE, dLs_snoc, dLs_len]
    refine ⟨_, At.self (by simp; omega), .inr ⟨hp.length, rfl, hC, At.ne (by simp [At]) (by omega)⟩, Keep.app.trans (Keep.set (.inl rfl))⟩
  · have g2 := g.ne (j := k) (x := .dead) (by omega)
    simp [t167, n167, g.eq, app0_step, app0_tok, ha, hk2.eq, dLs_snoc, dLs_len, ↓g2.appE]
    refine ⟨_, At.self (by simp; omega), .inr ⟨hp.length, rfl, hC, At.ne (by simp [At]) (by omega)⟩, ((Keep.set (.inr hk)).trans Keep.app).trans (Keep.set (.inl rfl))⟩

theorem addO_at {hp : List Obj} {id : Nat} {o : Obj} (h : id ≤ hp.length) : At (addO hp id o) id o ∧ hp.length ≤ (addO hp id o).length ∧ ∀ i q, At hp i q → i ≠ id → At (addO hp id o) i q := by
  unfold addO
  by_cases hl : id < hp.length
  · rw [if_pos hl]
    exact ⟨At.self hl, by simp, fun i q g hne => g.ne (Ne.symm hne)⟩
  · rw [if_neg hl]
    have : id = hp.length := by omega
    subst this
    exact ⟨by simp [At], by simp, fun i q g _ => g.app⟩

/-- a list of lists grows by one -/
theorem push9 {hp : List Obj} {sp : Spare} {els : List D} {x : D} {B id : Nat} (hok : appOk E 6 els [x]) (hx : (x.storable && x.cellsL.length == 1) = true) (R : Room B hp sp els.length 1) (hid : id ≤ hp.length) :
    ∃ hp', app0 E hp id 9 9 (.imm sp els) (.imm .exact [x]) = some (.imm (.tok id) (els ++ [x]), hp') ∧ At hp' id (.tok ((els.length + 1) * 1) 1) ∧ hp.length ≤ hp'.length ∧
      ∀ i o, At hp i o → (∀ k, sp = .tok k → i ≠ k) → i ≠ id → At hp' i o := by
  have k9 : (E.ty 9).k = .slice 6 := rfl
  have s6 : (E.ty 6).size = 1 := rfl
  rcases R with rfl | ⟨k, rfl, _, g⟩
  · obtain ⟨a1, a2, a3⟩ := addO_at (o := .tok ((els.length + 1) * 1) 1) hid
    refine ⟨_, ?_, a1, a2, fun i o g _ hne => a3 i o g hne⟩
    rw [app0_exact, k9]
    simp only [listOf_imm, s6, List.all_cons, List.all_nil, hx, Bool.and_true, if_true, ob_some, if_pos hok, List.length_cons, List.length_nil]
  · have hg := g.eq
    obtain ⟨a1, a2, a3⟩ := addO_at (hp := hp.set k .dead) (id := id) (o := .tok ((els.length + 1) * 1) 1) (by simpa using hid)
    refine ⟨_, ?_, a1, by simpa using a2, fun i o g hk hne => a3 i o (g.ne (Ne.symm (hk k rfl))) hne⟩
    rw [app0_tok, k9]
    simp only [listOf_imm, s6, List.all_cons, List.all_nil, hx, Bool.and_true, if_true, ob_some, if_pos hok, List.length_cons, List.length_nil, hg, tokO_tok, and_self]

theorem appOk_ints {l : List (List Int)} {x : D} (h : l.length ≤ 100000) : appOk E 6 (l.map dInts) [x] := by
  refine ⟨?_, ?_, ?_, ?_⟩
  · simp [maxBytes, E, tyTab]; omega
  · simp [E, tyTab]
  · rfl
  · simp [fitsE, E, tyTab, D.storable, D.atom, D.cellsL]

theorem slice_causes {c : List Cause} {k : Nat} (h : k ≤ c.length) : sliceD E 38 (.imm .none (c.map dCause)) (some (.int .i64 (k : Int))) none none = some (.imm .none ((c.drop k).map dCause)) := by
  have := slice_lo (t := 38) (e := 39) rfl (l := c.map dCause) (by cases c <;> simp [headFits, E, tyTab, D.cellsL]) (n := k) (by simpa using h)
  simpa [List.map_drop] using this

set_option maxHeartbeats 16000000 in
theorem r195 (p : Prob) (c : List Cause) (k : Nat) (S : Small p) (ok : OkP p) (C : OkC p c) (hk : k ≤ c.length) : runP E (dL E) 195 [dProb p, .imm .none (c.map dCause), dI k] = some (dProb (withP p c k)) := by
  refine runP_T c195 (by simp) ?_
  have s1 := S.cells
  have s2 := S.cap
  have c1 := C.len
  have hsl := slice_causes hk
  obtain ⟨W, hW⟩ : ∃ W : Nat → List Int, W = fun i => capW (c.drop k) i (p.capacity.getD i []) := ⟨_, rfl⟩
  have hWW : withP p c k = { p with capacity := (List.range p.capacity.length).map W } := by rw [hW]; rfl
  rw [hWW]
  obtain ⟨L, hL⟩ : ∃ L : Nat → List (List Int), L = fun i => (List.range i).map W := ⟨_, rfl⟩
  have hL0 : L 0 = [] := by rw [hL]; rfl
  have hL1 : ∀ i, L (i + 1) = L i ++ [W i] := fun i => by rw [hL]; simp [List.range_succ]
  have hLl : ∀ i, (L i).length = i := fun i => by rw [hL]; simp
  have hLn : (List.range p.capacity.length).map W = L p.capacity.length := by rw [hL]
  rw [hLn]
  simp [t195, n195]
  refine wT_up p.capacity.length (fun i env hp => ∃ (x6 x7 x8 x9 x10 x14 x15 x16 x17 x18 x19 x20 x21 : D) (sp : Spare), env = [dProb p, .imm .none (c.map dCause), dI k, .loc 0 0, .loc 1 0, .loc 2 0, x6, x7, x8, x9, x10, .imm .none (p.capacity.map dInts), dI p.capacity.length, dI i, x14, x15, x16, x17, x18, x19, x20, x21] ∧
    At hp 0 (.cells (dProb p).cellsL) ∧ At hp 1 (.cells [.imm .exact [], .imm .exact [], .imm .exact []]) ∧ At hp 2 (.cells [.imm .none (p.cells.map dCell), .imm sp ((L i).map dInts), .imm .none (p.vars.map dVar)]) ∧ Room 3 hp sp i 1) 0 (by omega)
    ⟨_, _, _, _, _, _, _, _, _, _, _, _, _, .exact, rfl, by simp [At], by simp [At], by rw [hL0]; simp [At], .inl rfl⟩ ?_
  rintro i env hp hi ⟨x6, x7, x8, x9, x10, x14, x15, x16, x17, x18, x19, x20, x21, sp, rfl, g0, g1, g2, R⟩
  have l2 := g2.lt
  by_cases hlt : i < p.capacity.length
  · obtain ⟨d, hd⟩ : ∃ d, d = c.drop k := ⟨_, rfl⟩
    have Cd : OkC p d := by rw [hd]; exact dropC C
    have hdl : d.length ≤ 8 := Cd.len
    rw [← hd] at hsl
    have hrowi : p.capacity.getD i [] = p.capacity[i] := by rw [List.getD_eq_getElem?_getD, List.getElem?_eq_getElem hlt, Option.getD_some]
    obtain ⟨rws, hrws⟩ : ∃ rws : List (List Int), rws = d.map fun a => a.less.getD i [] := ⟨_, rfl⟩
    have hrl : rws.length = d.length := by rw [hrws]; simp
    have h202 := r202 p.cells.length p.capacity[i] rws (by rw [← hrowi]; exact cap_ok ok C hlt) (by rw [hrws]; exact rows_ok ok Cd hlt) (by omega) (by omega)
    have hWi : rws.foldl addR p.capacity[i] = W i := by rw [hW]; simp only []; rw [hrowi, hrws, hd]; rfl
    rw [hWi] at h202
    obtain ⟨A, hA⟩ : ∃ A : Nat → List D, A = fun j => (p.capacity[i] :: rws.take j).map dInts := ⟨_, rfl⟩
    have hA0 : A 0 = [.imm .none (p.capacity[i].map dI)] := by rw [hA]; rfl
    have hA1 : ∀ (j : Nat) (h : j < rws.length), A j ++ [.imm .none (rws[j].map dI)] = A (j + 1) := fun j h => by
      rw [hA]; simp only []; rw [List.take_succ_eq_append_getElem h, ← List.cons_append, List.map_append]; rfl
    have hAl : ∀ j, j ≤ rws.length → (A j).length = j + 1 := fun j h => by rw [hA]; simp; omega
    have hAok : ∀ j x, j ≤ rws.length → appOk E 6 (A j) [x] := fun j x h => by rw [hA]; exact appOk_ints (by simp; omega)
    have hAn : A rws.length = (p.capacity[i] :: rws).map dInts := by rw [hA]; simp only []; rw [List.take_length]
    have hAf : frzL (frz [] 11) (A rws.length) = some (A rws.length) := by rw [hAn]; exact frzL_ints
    rw [← hAn] at h202
    rw [hrl] at h202 hAf
    simp [hlt, hsl]
    rw [← hA0]
    refine wT_up d.length (fun j env hq => ∃ (x7 x9 x10 x14 x18 x19 x20 x21 : D) (sp2 : Spare), env = [dProb p, .imm .none (c.map dCause), dI k, .loc 0 0, .loc 1 0, .loc 2 0, dI i, x7, .imm sp2 (A j), x9, x10, .imm .none (p.capacity.map dInts), dI p.capacity.length, dI i, x14, .imm .none (d.map dCause), dI d.length, dI j, x18, x19, x20, x21] ∧
      Room hp.length hq sp2 (j + 1) 1 ∧ hp.length ≤ hq.length ∧ ∀ n o, n < hp.length → At hp n o → At hq n o) 0 (by omega) ⟨_, _, _, _, _, _, _, _, .exact, rfl, .inl rfl, Nat.le_refl _, fun n o _ h => h⟩ ?_
    rintro j env hq hj ⟨x7, x9, x10, x14, x18, x19, x20, x21, sp2, rfl, R2, hle, keep⟩
    by_cases hjl : j < d.length
    · have hjr : j < rws.length := by omega
      have hdr := Cd.rows _ (List.getElem_mem hjl)
      have hg : d[j].less[i]? = some rws[j] := by
        have e : rws[j] = d[j].less.getD i [] := by simp [hrws]
        rw [e, List.getD_eq_getElem?_getD, List.getElem?_eq_getElem (show i < d[j].less.length by omega), Option.getD_some]
      have R3 : Room hp.length (hq ++ [Obj.cells [dI d[j].index, D.imm Spare.none (List.map dInts d[j].less)]]) sp2 (A j).length 1 := by
        rw [hAl j (by omega)]
        rcases R2 with h | ⟨k', h1, h2, h3⟩
        · exact .inl h
        · exact .inr ⟨k', h1, h2, h3.app⟩
      obtain ⟨h', e1, e2, e3, e4⟩ := push9 (x := .imm .none (rws[j].map dI)) (id := hq.length + 1) (hAok j _ (by omega)) (by simp [D.storable, D.atom, D.cellsL]) R3 (by simp)
      rw [hA1 j hjr] at e1
      rw [hAl j (by omega)] at e2
      simp only [List.length_append, List.length_cons, List.length_nil] at e3
      simp [hjl, hg, e1, wrap_up hjl (by omega)]
      repeat apply Exists.intro
      refine ⟨by and_intros <;> rfl, .inr ⟨_, rfl, by omega, e2⟩, by omega, fun n o hn g => e4 n o (keep n o hn g).app (fun k' hk' => ?_) (by omega)⟩
      rcases R2 with h | ⟨k2, h1, h2, _⟩
      · rw [h] at hk'; cases hk'
      · rw [h1] at hk'; cases hk'; omega
      
    · have : j = d.length := by omega
      subst this
      have G0 := keep 0 _ g0.lt g0
      have G1 := keep 1 _ g1.lt g1
      have G2 := keep 2 _ g2.lt g2
      obtain ⟨H, hH⟩ : ∃ H, H = hq ++ [Obj.dead, Obj.dead, Obj.dead, Obj.dead, Obj.dead, Obj.dead, Obj.dead, Obj.dead] := ⟨_, rfl⟩
      have K0 : At H 0 (.cells (dProb p).cellsL) := by rw [hH]; exact G0.app
      have K1 : At H 1 (.cells [.imm .exact [], .imm .exact [], .imm .exact []]) := by rw [hH]; exact G1.app
      have K2 : At H 2 (.cells [.imm .none (p.cells.map dCell), .imm sp ((L i).map dInts), .imm .none (p.vars.map dVar)]) := by rw [hH]; exact G2.app
      have R3 : Room 3 H sp ((L i).map dInts).length 1 := by
        rw [List.length_map, hLl]
        rcases R with h | ⟨k', h1, h2, h3⟩
        · exact .inl h
        · exact .inr ⟨k', h1, h2, by rw [hH]; exact (keep k' _ h3.lt h3).app⟩
      obtain ⟨h', e1, e2, e3, e4⟩ := push9 (x := .imm .none ((W i).map dI)) (id := hq.length + 5) (appOk_ints (by rw [hLl]; omega)) (by simp [D.storable, D.atom, D.cellsL]) R3 (by rw [hH]; simp)
      have eL : (L i).map dInts ++ [.imm .none ((W i).map dI)] = (L (i + 1)).map dInts := by rw [hL1]; simp
      rw [eL] at e1
      rw [List.length_map, hLl] at e2
      have hne : ∀ n, n < 3 → ∀ k', sp = .tok k' → n ≠ k' := fun n hn k' hk' => by
        rcases R with h | ⟨k2, h1, h2, _⟩
        · rw [h] at hk'; cases hk'
        · rw [h1] at hk'; cases hk'; omega
      have := g2.lt
      have Q0 := e4 0 _ K0 (hne 0 (by omega)) (by omega)
      have Q1 := e4 1 _ K1 (hne 1 (by omega)) (by omega)
      have Q2 := e4 2 _ K2 (hne 2 (by omega)) (by omega)
      simp only [dInts] at h202
      subst hH
      have lq := Q2.lt
      simp [↓G2.appE, h202, hAf, e1, Q2.eq, wrap_up hlt (by omega)]
      exact ⟨Q0.ne (by omega), Q1.ne (by omega), _, At.self lq, .inr ⟨_, rfl, by omega, e2.ne (by omega)⟩⟩
  · have : i = p.capacity.length := by omega
    subst this
    have q1 : (hp.set 1 (Obj.cells [D.imm Spare.none (List.map dCell p.cells), D.imm sp (List.map dInts (L p.capacity.length)), D.imm Spare.none (List.map dVar p.vars)]))[1]? = some (Obj.cells [D.imm Spare.none (List.map dCell p.cells), D.imm sp (List.map dInts (L p.capacity.length)), D.imm Spare.none (List.map dVar p.vars)]) := List.getElem?_set_self g1.lt
    simp [hlt, g0.eq, g1.eq, g2.eq, ↓q1]

theorem wT_loop {E : Env} {a : TC} {Q : Ex → List D → List Obj → Prop} {env : List D} {hp : List Obj} (I : Nat → List D → List Obj → Prop) (k : Nat) (h0 : I k env hp)
    (step : ∀ k env hp, I k env hp → wT E a (fun ex env' hp' => match ex with
      | .normal => ∃ k', k' < k ∧ I k' env' hp'
      | ex => Q ex env' hp') env hp) : wT E (.loop a) Q env hp := ⟨I, k, h0, step⟩

theorem SmS.exam {p : Prob} {s : Srch} (M : SmS p s) (hs : OkS p s) : SmS p (exam p s) := by
  by_cases hn : s.opn = []
  · rw [exam_nil hn]; exact M
  have h1 := exam_less hn hs.opn
  have h2 := M.most
  have h3 : (Dv.exam p s).leaves.length ≤ s.leaves.length + 1 := by
    obtain ⟨l, b, hl⟩ : ∃ l b, s.opn = l ++ [b] := ⟨s.opn.dropLast, s.opn.getLast hn, (List.dropLast_concat_getLast hn).symm⟩
    rw [exam_snoc hl]
    unfold examB
    split
    · split <;> simp
    · split <;> simp
  exact ⟨by omega⟩
theorem SmS.iter {p : Prob} (ok : OkP p) : ∀ {n : Nat} {s : Srch}, SmS p s → OkS p s → SmS p (iter p n s)
  | 0, _, h, _ => h
  | n + 1, s, h, hs => SmS.iter (n := n) (s := Dv.exam p s) ok (h.exam hs) (hs.exam ok)

set_option maxHeartbeats 16000000 in
theorem s150 (p : Prob) (s : Srch) (S : Small p) (ok : OkP p) (M : SmS p s) (hs : OkS p s) (k : Nat) (caps : List D) (more : Nat → Bool) (hp0 : List Obj) (K : Nat → List Obj → Prop)
    (hm : ∀ n hp, K n hp → ∃ hp', runS E (dL E) k caps hp = some (.bool (more n), hp') ∧ K (n + 1) hp' ∧ ∀ j o, hp0.length ≤ j → At hp j o → At hp' j o)
    (hK1 : ∀ n hp r, K n hp → K n (hp ++ r)) (hK2 : ∀ n hp j o, K n hp → hp0.length ≤ j → K n (hp.set j o)) (h0 : K 0 hp0) :
    ∃ d hp', runS E (dL E) 150 [dProb p, dSrch s, .fn k caps] hp0 = some (d, hp') ∧ ∃ n ns sp1 sp2, (∀ j, j < n → more j = true) ∧ ((iter p n s).opn = [] ∨ more n = false) ∧ (iter p n s).leaves = s.leaves ++ ns ∧ (∀ x, x ∈ ns → x.mult = []) ∧
      d = .agg [.imm sp1 ((iter p n s).opn.map dInts), dInts (iter p n s).best, dInts (iter p n s).value, .imm sp2 (dLs s.leaves ns)] ∧ ∃ m, K m hp' := by
  obtain ⟨R, hR⟩ : ∃ R : D → List Obj → Prop, R = fun d hp' => ∃ n ns sp1 sp2, (∀ j, j < n → more j = true) ∧ ((iter p n s).opn = [] ∨ more n = false) ∧ (iter p n s).leaves = s.leaves ++ ns ∧ (∀ x, x ∈ ns → x.mult = []) ∧
      d = .agg [.imm sp1 ((iter p n s).opn.map dInts), dInts (iter p n s).best, dInts (iter p n s).value, .imm sp2 (dLs s.leaves ns)] ∧ ∃ m, K m hp' := ⟨_, rfl⟩
  have key : ∃ d hp', runS E (dL E) 150 [dProb p, dSrch s, .fn k caps] hp0 = some (d, hp') ∧ R d hp' := by
    refine runS_T c150 (args := [dProb p, dSrch s, .fn k caps]) (hp := hp0) (R := R) (by simp) ?_
    have m1 := M.opn
    have h165 := r165 s.opn m1
    have h166 := r166 s.leaves
    simp [t150, n150, h165, h166, frzL_leaf]
    obtain ⟨B, hB⟩ : ∃ B, B = hp0.length := ⟨_, rfl⟩
    rw [← hB] at hm hK2 ⊢
    refine wT_loop (fun m env hp => ∃ (x8 x9 x10 x11 x12 x13 x14 x15 x16 x17 x18 x19 x20 x21 x22 x23 x24 x25 x26 x27 x28 x29 x30 x31 : D) (i : Nat) (ns : List Leaf) (sp1 sp2 : Spare), env = [dProb p, dSrch s, .fn k caps, .loc B 0, .loc (B + 1) 0, .loc (B + 1 + 1) 0, .loc (B + 3) 0, .fn 167 [.loc (B + 1) 0], x8, x9, x10, x11, x12, x13, x14, x15, x16, x17, x18, x19, x20, x21, x22, x23, x24, x25, x26, x27, x28, x29, x30, x31] ∧
      m = wO p (iter p i s).opn ∧ (∀ j, j < i → more j = true) ∧ (iter p i s).leaves = s.leaves ++ ns ∧ (∀ x, x ∈ ns → x.mult = []) ∧ At hp B (.cells (dProb p).cellsL) ∧
      At hp (B + 1) (.cells [.imm .none (s.opn.map dInts), dInts (iter p i s).best, dInts (iter p i s).value, .imm sp2 (dLs s.leaves ns)]) ∧ At hp (B + 1 + 1) (.cells [.imm .exact [], .imm .exact [], .imm .exact [], .imm .exact []]) ∧
      At hp (B + 3) (.cells [.imm sp1 ((iter p i s).opn.map dInts)]) ∧ Room (B + 4) hp sp2 (s.leaves.length + ns.length) 3 ∧ K i hp) (wO p s.opn)
      ⟨_, _, _, _, _, _, _, _, _, _, _, _, _, _, _, _, _, _, _, _, _, _, _, _, 0, [], .none, .exact, rfl, rfl, fun j h => absurd h (by omega), by simp [iter], fun x h => (by cases h), by rw [hB]; simp [At], by rw [hB]; simp [At, iter, dLs], by rw [hB, Nat.add_assoc]; simp [At], by rw [hB]; simp [At, iter], .inl rfl, hK1 _ _ _ h0⟩ ?_
    rintro m env hp ⟨x8, x9, x10, x11, x12, x13, x14, x15, x16, x17, x18, x19, x20, x21, x22, x23, x24, x25, x26, x27, x28, x29, x30, x31, i, ns, sp1, sp2, rfl, hmm, hmore, hlv, hmu, g0, g1, g2, g3, hr, hK⟩
    have okt : OkS p (iter p i s) := OkS.iter ok hs
    have Mt : SmS p (iter p i s) := SmS.iter ok M hs
    have it1 : iter p (i + 1) s = exam p (iter p i s) := iter_succ
    have hRt : ∀ (hp' : List Obj) (sp1 : Spare), K i hp' ∨ K (i + 1) hp' → ((iter p i s).opn = [] ∨ more i = false) → R (.agg [.imm sp1 ((iter p i s).opn.map dInts), dInts (iter p i s).best, dInts (iter p i s).value, .imm sp2 (dLs s.leaves ns)]) hp' := fun hp' sp1 h h' => by
      rw [hR]
      exact ⟨i, ns, sp1, sp2, hmore, h', hlv, hmu, rfl, h.elim (fun h => ⟨_, h⟩) fun h => ⟨_, h⟩⟩
    obtain ⟨t, ht⟩ : ∃ t, t = iter p i s := ⟨_, rfl⟩
    rw [← ht] at hmm hlv g1 g3 okt Mt it1 hRt
    have hl1 := g1.lt
    have hl2 := g2.lt
    have G : ∀ (hq : List Obj), At hq (B + 1) (.cells [.imm .none (s.opn.map dInts), dInts t.best, dInts t.value, .imm sp2 (dLs s.leaves ns)]) → At hq (B + 1 + 1) (.cells [.imm .exact [], .imm .exact [], .imm .exact [], .imm .exact []]) →
      (∀ x, (hq.set (B + 1) x)[B + 1]? = some x) ∧ (∀ x, (hq.set (B + 1) x)[B + 1 + 1]? = some (.cells [.imm .exact [], .imm .exact [], .imm .exact [], .imm .exact []])) ∧ ∀ x y, ((hq.set (B + 1) x).set (B + 1 + 1) y)[B + 1 + 1]? = some y := fun hq a1 a2 =>
      ⟨fun x => List.getElem?_set_self a1.lt, fun x => (a2.ne (by omega)).eq, fun x y => List.getElem?_set_self (by rw [List.length_set]; exact a2.lt)⟩
    by_cases hno : t.opn = []
    · obtain ⟨q1, q2, q3⟩ := G hp g1 g2
      rw [hno] at g3
      have hRt2 := fun hp' h => hRt hp' sp1 h (.inl hno)
      rw [hno] at hRt2
      simp [g0.eq, g1.eq, g2.eq, g3.eq, rTS_effh, gdD_b, ↓q1, ↓q2, ↓q3]
      exact hRt2 _ (.inl (hK2 _ _ _ _ (hK2 _ _ _ _ hK (by omega)) (by omega)))
    obtain ⟨l, b, hl⟩ : ∃ l b, t.opn = l ++ [b] := ⟨t.opn.dropLast, t.opn.getLast hno, (List.dropLast_concat_getLast hno).symm⟩
    have okb := okt.opn b (by rw [hl]; simp)
    have hll : l.length ≤ 1000000000 := by have := Mt.opn; rw [hl] at this; simp at this; omega
    have h168 := r168 l b hll
    obtain ⟨hp2, e1, e2, e3⟩ := hm i hp hK
    have h0l : (0 : Int) < l.length + 1 := by omega
    have a0 := e3 _ _ (by omega) g0
    have a1 := e3 _ _ (by omega) g1
    have a2 := e3 _ _ (by omega) g2
    have a3 := e3 _ _ (by omega) g3
    cases hmi : more i with
    | false =>
      obtain ⟨q1, q2, q3⟩ := G hp2 a1 a2
      rw [hmi] at e1
      rw [hl] at g3 a3
      have hRt2 := fun hp' h => hRt hp' sp1 h (.inr hmi)
      rw [hl] at hRt2
      simp only [List.map_append, List.map_cons, List.map_nil, dInts] at hRt2
      simp [g0.eq, g1.eq, g2.eq, g3.eq, a0.eq, a1.eq, a2.eq, a3.eq, e1, h0l, rTS_effh, gdD_b, ↓q1, ↓q2, ↓q3]
      exact hRt2 _ (.inr (hK2 _ _ _ _ (hK2 _ _ _ _ e2 (by omega)) (by omega)))
    | true =>
    rw [hmi] at e1
    rw [← hl] at h168
    have h0n : ¬ t.opn.length = 0 := fun h => hno (List.eq_nil_of_length_eq_zero h)
    have h0l : 0 < t.opn.length := by omega
    obtain ⟨hp3, h3⟩ : ∃ hp3, hp3 = hp2.set (B + 3) (.cells [.imm .exact (l.map dInts)]) := ⟨_, rfl⟩
    have b0 := a0.ne (j := B + 3) (x := .cells [.imm .exact (l.map dInts)]) (by omega)
    have b1 := a1.ne (j := B + 3) (x := .cells [.imm .exact (l.map dInts)]) (by omega)
    have b2 := a2.ne (j := B + 3) (x := .cells [.imm .exact (l.map dInts)]) (by omega)
    rw [← h3] at b0 b1 b2
    have b3 : At hp3 (B + 3) (.cells [.imm .exact (l.map dInts)]) := by rw [h3]; exact At.self a3.lt
    have bK : K (i + 1) hp3 := by rw [h3]; exact hK2 _ _ _ _ e2 (by omega)
    have bR : Room (B + 4) hp3 sp2 (s.leaves.length + ns.length) 3 := by
      rcases hr with h | ⟨k, h1, h2, h4⟩
      · exact .inl h
      · refine .inr ⟨k, h1, h2, ?_⟩
        rw [h3]
        exact (e3 _ _ (by omega) h4).ne (by omega)
    clear e3 a0 a1 a2 hK hr
    have hu := exam_snoc (p := p) hl
    have hmore2 : ∀ j, j < i + 1 → more j = true := fun j hj => by
      by_cases e : j = i
      · rw [e]; exact hmi
      · exact hmore j (by omega)
    have hles := exam_less hno okt.opn
    rw [← it1] at hu hles
    have hnl : s.leaves.length + ns.length ≤ 1000000000 := by
      have := Mt.lvs; rw [hlv, List.length_append] at this; exact this
    have hb20 : b.length ≤ 20 := by have := okb.len; have := S.vars; omega
    obtain ⟨V, hV⟩ : ∃ V, V = boundL p b := ⟨_, rfl⟩
    have h87 := r87 V t.value (by rw [hV]; simp [boundL]) (by
      rcases okt.val with ⟨e, _⟩ | ⟨_, e⟩
      · rw [e]; simp
      · rw [e]; simp [boundL])
    by_cases he : b.length = p.vars.length
    · have he' : (b.length : Int) = p.vars.length := by omega
      have h22 := r22 p b S hb20
      have wb : Whole p b := ⟨ok, okb, he⟩
      simp only [resV, if_pos wb, ← hV] at h22
      simp only [examB, if_pos he, bet, ← hV] at hu
      simp only [dProb, dInts] at h22 h87 h168
      by_cases hbt : (decide (t.value.length = 0) || decide (cmpL V t.value < 0)) = true
      · rw [if_pos hbt] at hu
        obtain ⟨hp4, h4⟩ : ∃ hp4, hp4 = hp3.set (B + 1) (.cells [.imm .none (s.opn.map dInts), dInts b, dInts V, .imm sp2 (dLs s.leaves ns)]) := ⟨_, rfl⟩
        obtain ⟨q1, _, _⟩ := G hp3 b1 b2
        have d0 := b0.ne (j := B + 1) (x := .cells [.imm .none (s.opn.map dInts), dInts b, dInts V, .imm sp2 (dLs s.leaves ns)]) (by omega)
        have d1 : At hp4 (B + 1) (.cells [.imm .none (s.opn.map dInts), dInts b, dInts V, .imm sp2 (dLs s.leaves ns)]) := by rw [h4]; exact At.self b1.lt
        have d2 := b2.ne (j := B + 1) (x := .cells [.imm .none (s.opn.map dInts), dInts b, dInts V, .imm sp2 (dLs s.leaves ns)]) (by omega)
        have d3 := b3.ne (j := B + 1) (x := .cells [.imm .none (s.opn.map dInts), dInts b, dInts V, .imm sp2 (dLs s.leaves ns)]) (by omega)
        rw [← h4] at d0 d2 d3
        have dK : K (i + 1) hp4 := by rw [h4]; exact hK2 _ _ _ _ bK (by omega)
        have dR : Room (B + 4) hp4 sp2 (s.leaves.length + ns.length) 3 := by
          rcases bR with h | ⟨k, h1, h2, h5⟩
          · exact .inl h
          · exact .inr ⟨k, h1, h2, by rw [h4]; exact h5.ne (by omega)⟩
        obtain ⟨d, hp5, f1, sp', f2, f3, f4, f5⟩ := s167 (i := B + 1) (C := B + 4) (hp := hp4) b 1 s.leaves ns hnl d1 dR (by have := d3.lt; omega) (by omega)
        simp only [dInts] at f1 h4
        have fin : ∃ k', k' < m ∧
      ∃ x,
        k' = wO p (iter p x s).opn ∧
          (∀ (j : Nat), j < x → more j = true) ∧
            ∃ x_1,
              (iter p x s).leaves = s.leaves ++ x_1 ∧
                (∀ (x : Leaf), x ∈ x_1 → x.mult = []) ∧
                  At hp5 B (.cells (dProb p).cellsL) ∧
                    ∃ x_2 x_3,
                      At hp5 (B + 1) (.cells [.imm .none (s.opn.map dInts), dInts (iter p x s).best, dInts (iter p x s).value, .imm x_3 (dLs s.leaves x_1)]) ∧
                        At hp5 (B + 1 + 1) (.cells [.imm .exact [], .imm .exact [], .imm .exact [], .imm .exact []]) ∧
                          At hp5 (B + 3) (.cells [.imm x_2 ((iter p x s).opn.map dInts)]) ∧
                            Room (B + 4) hp5 x_3 (s.leaves.length + x_1.length) 3 ∧ K x hp5 :=
          ⟨_, by omega, i + 1, rfl, hmore2, ns ++ [⟨b, 1, []⟩], by rw [hu]; simp [hlv], fun x hx => (by
            rcases List.mem_append.1 hx with hx | hx
            · exact hmu x hx
            · rw [List.mem_singleton.1 hx]), f4.at (by omega) (by omega) d0, .exact, sp', by rw [hu]; exact f2, f4.at (by omega) (by omega) d2, by rw [hu]; exact f4.at (by omega) (by omega) d3, by rw [List.length_append]; exact f3, f4 (K (i + 1)) (hK1 _) (fun hp j o h hj => hK2 _ _ _ _ h (by omega)) dK⟩
        by_cases c1 : t.value = []
        · simp [g0.eq, g1.eq, g2.eq, g3.eq, a3.eq, e1, h0l, rTS_effh, gdD_b, h168, ← h3, b0.eq, b1.eq, he', h22, c1, ↓q1, ← h4, f1]
          exact fin
        · have c2 : cmpL V t.value < 0 := by
            have : ¬ t.value.length = 0 := fun h => c1 (List.eq_nil_of_length_eq_zero h)
            simpa [this] using hbt
          simp [g0.eq, g1.eq, g2.eq, g3.eq, a3.eq, e1, h0l, rTS_effh, gdD_b, h168, ← h3, b0.eq, b1.eq, he', h22, h87, c1, c2, ↓q1, ← h4, f1]
          exact fin
      · rw [if_neg hbt] at hu
        have c1 : ¬ t.value = [] := fun h => hbt (by simp [h])
        have c2 : ¬ cmpL V t.value < 0 := fun h => hbt (by simp [h])
        obtain ⟨d, hp5, f1, sp', f2, f3, f4, f5⟩ := s167 (i := B + 1) (C := B + 4) (hp := hp3) b 1 s.leaves ns hnl b1 bR (by have := b3.lt; omega) (by omega)
        simp only [dInts] at f1
        simp [g0.eq, g1.eq, g2.eq, g3.eq, a3.eq, e1, h0l, rTS_effh, gdD_b, h168, ← h3, b0.eq, b1.eq, he', h22, h87, c1, c2, f1]
        exact ⟨_, by omega, i + 1, rfl, hmore2, ns ++ [⟨b, 1, []⟩], by rw [hu]; simp [hlv], fun x hx => (by
            rcases List.mem_append.1 hx with hx | hx
            · exact hmu x hx
            · rw [List.mem_singleton.1 hx]), f4.at (by omega) (by omega) b0, .exact, sp', by rw [hu]; exact f2, f4.at (by omega) (by omega) b2, by rw [hu]; exact f4.at (by omega) (by omega) b3, by rw [List.length_append]; exact f3, f4 (K (i + 1)) (hK1 _) (fun hp j o h hj => hK2 _ _ _ _ h (by omega)) bK⟩
    have he' : ¬ (b.length : Int) = p.vars.length := by omega
    have hlt : b.length < p.vars.length := by have := okb.len; omega
    have h3' := r3 p b S hb20
    simp only [resB, bk_pos ok okb, if_true, ← hV] at h3'
    simp only [examB, if_neg he, shut, ← hV] at hu
    simp only [dProb, dInts] at h3' h87 h168
    by_cases hsh : (decide (0 < t.value.length) && decide (0 ≤ cmpL V t.value)) = true
    · rw [if_pos hsh] at hu
      have c1 : 0 < t.value.length := by simp at hsh; exact hsh.1
      have c2 : 0 ≤ cmpL V t.value := by simp at hsh; exact hsh.2
      obtain ⟨d, hp5, f1, sp', f2, f3, f4, f5⟩ := s167 (i := B + 1) (C := B + 4) (hp := hp3) b 2 s.leaves ns hnl b1 bR (by have := b3.lt; omega) (by omega)
      simp only [dInts] at f1
      simp [g0.eq, g1.eq, g2.eq, g3.eq, a3.eq, e1, h0l, rTS_effh, gdD_b, h168, ← h3, b0.eq, b1.eq, he', h3', h87, c1, c2, f1]
      exact ⟨_, by omega, i + 1, rfl, hmore2, ns ++ [⟨b, 2, []⟩], by rw [hu]; simp [hlv], fun x hx => (by
            rcases List.mem_append.1 hx with hx | hx
            · exact hmu x hx
            · rw [List.mem_singleton.1 hx]), f4.at (by omega) (by omega) b0, .exact, sp', by rw [hu]; exact f2, f4.at (by omega) (by omega) b2, by rw [hu]; exact f4.at (by omega) (by omega) b3, by rw [List.length_append]; exact f3, f4 (K (i + 1)) (hK1 _) (fun hp j o h hj => hK2 _ _ _ _ h (by omega)) bK⟩
    rw [if_neg hsh] at hu
    have h7 := r7 p b S hb20
    have h169 := r169 (nextL p b)
    obtain ⟨N, hN⟩ : ∃ N, N = nextL p b := ⟨_, rfl⟩
    simp only [resN, bk_pos ok okb, if_true, if_neg he, ← hN] at h7
    rw [← hN] at h169 hu
    simp only [dProb, dInts] at h7
    have hc : ¬ 0 < t.value.length ∨ (0 < t.value.length ∧ cmpL V t.value < 0) := by
      by_cases c1 : 0 < t.value.length
      · right
        have : ¬ 0 ≤ cmpL V t.value := fun h => hsh (by simp [c1, h])
        exact ⟨c1, by omega⟩
      · exact .inl c1
    have hNl : N.length ≤ 8 := by
      rw [hN, next_len hlt]
      exact S.choices _ (List.getElem_mem hlt)
    rcases hc with c1 | ⟨c1, c2⟩
    · simp [g0.eq, g1.eq, g2.eq, g3.eq, a3.eq, e1, h0l, rTS_effh, gdD_b, h168, ← h3, b0.eq, b1.eq, he', h3', c1, h7, h169]
      refine ⟨176, _, rfl, ?_⟩
      intro L hL hcb
      obtain ⟨lp, hlp⟩ : ∃ lp, lp = hp3.length := ⟨_, rfl⟩
      rw [← hlp] at hcb ⊢
      obtain ⟨J, hJ⟩ : ∃ J : List (List Int) → List Obj → Prop, J = fun rem hq => ∃ (dn W : List (List Int)) (sp : Spare), N.reverse = dn ++ rem ∧ W = l ++ dn ∧ At hq B (.cells (dProb p).cellsL) ∧
        At hq (B + 1) (.cells [.imm .none (s.opn.map dInts), dInts t.best, dInts t.value, .imm sp2 (dLs s.leaves ns)]) ∧ At hq (B + 1 + 1) (.cells [.imm .exact [], .imm .exact [], .imm .exact [], .imm .exact []]) ∧
        At hq (B + 3) (.cells [.imm sp (W.map dInts)]) ∧ Room (B + 4) hq sp W.length 1 ∧ Room (B + 4) hq sp2 (s.leaves.length + ns.length) 3 ∧ K (i + 1) hq ∧ At hq lp (L false none) := ⟨_, rfl⟩
      have hb3 := b3.lt
      obtain ⟨sl, ps, asg, body, hLe⟩ := hL
      have key2 := i176 N (by omega) lp J (fun _ => False) (by
        intro x rem hq hj
        rw [hJ] at hj
        obtain ⟨dn, W, sp, j1, jW, j2, j3, j4, j5, j6, j7, j8, j9⟩ := hj
        have hWl : W.length ≤ 1000000100 := by
          have := congrArg List.length j1
          rw [List.length_reverse, List.length_append] at this
          rw [jW, List.length_append]; omega
        obtain ⟨W', hW'⟩ : ∃ W', W' = W ++ [x] := ⟨_, rfl⟩
        have hcat : List.map dInts W ++ [D.imm Spare.none (List.map dI x)] = List.map dInts W' := by rw [hW']; simp
        have hlen' : W'.length = W.length + 1 := by rw [hW']; simp
        have hap : ∀ y, appOk E 1 (List.map dInts W) [y] := fun y => by
          refine ⟨?_, ?_, ?_, fitsA_ints⟩ <;> simp [maxBytes]
          omega
        have z5 := j5.ne (j := lp) (x := L true none) (by omega)
        have l9 := j9.lt
        have noTok : ∀ k a b, At hq k (.tok a b) → k ≠ lp := fun k a b h e => by
          subst e
          have := h.eq.symm.trans j9.eq
          rw [hLe] at this
          simp at this
        obtain ⟨t', hp2', y1, y2⟩ := hcb [dInts x] hq (fun t' hp' => t' = true ∧ J rem hp') rfl j9 (by
          rcases j6 with rfl | ⟨k, rfl, jk, jk2⟩
          · obtain ⟨T, hT⟩ : ∃ T, T = (hq.set lp (L true none) ++ [Obj.tok (W.length + 1) 1]).set (B + 3) (.cells [.imm (.tok hq.length) (W'.map dInts)]) := ⟨_, rfl⟩
            have t1 : ∀ {m o}, m ≠ lp → m ≠ B + 3 → At hq m o → At T m o := fun h1 h2 g => by
              rw [hT]; exact ((g.ne (fun e => h1 e.symm)).app).ne (fun e => h2 e.symm)
            have t2 : At T lp (L true none) := by rw [hT]; exact ((At.self l9).app).ne (by omega)
            have t3 : At T (B + 3) (.cells [.imm (.tok hq.length) (W'.map dInts)]) := by rw [hT]; exact At.self (by simp; have := j5.lt; omega)
            have t4 : At T hq.length (Obj.tok (W.length + 1) 1) := by
              rw [hT]
              refine At.ne ?_ (by have := j5.lt; omega)
              have := get_app2 (hp := hq.set lp (L true none)) (r := [Obj.tok (W.length + 1) 1]) (k := 0)
              simpa [At] using this
            have tK : K (i + 1) T := by rw [hT]; exact hK2 _ _ _ _ (hK1 _ _ _ (hK2 _ _ _ _ j8 (by omega))) (by omega)
            have tK2 : K (i + 1) (T.set lp (L false none)) := hK2 _ _ _ _ tK (by omega)
            have hJT : J rem (T.set lp (L false none)) := by
              rw [hJ]
              have n : ∀ {m o}, m ≠ lp → At T m o → At (T.set lp (L false none)) m o := fun h g => g.ne (fun e => h e.symm)
              refine ⟨dn ++ [x], W', .tok hq.length, by rw [j1]; simp, by rw [hW', jW]; simp, n (by omega) (t1 (by omega) (by omega) j2), n (by omega) (t1 (by omega) (by omega) j3), n (by omega) (t1 (by omega) (by omega) j4), n (by omega) t3,
                .inr ⟨_, rfl, by have := j5.lt; omega, by rw [hlen', Nat.mul_one]; exact n (by omega) t4⟩, ?_, tK2, At.self t2.lt⟩
              rcases j7 with h | ⟨k, h1, h2, h5⟩
              · exact .inl h
              · exact .inr ⟨k, h1, h2, n (noTok _ _ _ h5) (t1 (noTok _ _ _ h5) (by omega) h5)⟩
            simp [setAll, j9.eq, ↓z5.eq, ↓z5.appE, app0_step, app0_exact, hap, hcat, ← hT]
            exact ⟨t2.eq, hJT⟩
          · have hkl := noTok _ _ _ jk2
            have z6 := z5.ne (j := k) (x := .dead) (by omega)
            have z7 := jk2.ne (j := lp) (x := L true none) (fun e => hkl e.symm)
            obtain ⟨T, hT⟩ : ∃ T, T = ((hq.set lp (L true none)).set k .dead ++ [Obj.tok (W.length + 1) 1]).set (B + 3) (.cells [.imm (.tok hq.length) (W'.map dInts)]) := ⟨_, rfl⟩
            have t1 : ∀ {m o}, m ≠ lp → m ≠ B + 3 → m ≠ k → At hq m o → At T m o := fun h1 h2 h3 g => by
              rw [hT]; exact (((g.ne (fun e => h1 e.symm)).ne (fun e => h3 e.symm)).app).ne (fun e => h2 e.symm)
            have t2 : At T lp (L true none) := by rw [hT]; exact (((At.self l9).ne hkl).app).ne (by omega)
            have t3 : At T (B + 3) (.cells [.imm (.tok hq.length) (W'.map dInts)]) := by rw [hT]; exact At.self (by simp; have := j5.lt; omega)
            have t4 : At T hq.length (Obj.tok (W.length + 1) 1) := by
              rw [hT]
              refine At.ne ?_ (by have := j5.lt; omega)
              have := get_app2 (hp := (hq.set lp (L true none)).set k .dead) (r := [Obj.tok (W.length + 1) 1]) (k := 0)
              simpa [At] using this
            have tK : K (i + 1) T := by rw [hT]; exact hK2 _ _ _ _ (hK1 _ _ _ (hK2 _ _ _ _ (hK2 _ _ _ _ j8 (by omega)) (by omega))) (by omega)
            have tK2 : K (i + 1) (T.set lp (L false none)) := hK2 _ _ _ _ tK (by omega)
            have hJT : J rem (T.set lp (L false none)) := by
              rw [hJ]
              have n : ∀ {m o}, m ≠ lp → At T m o → At (T.set lp (L false none)) m o := fun h g => g.ne (fun e => h e.symm)
              refine ⟨dn ++ [x], W', .tok hq.length, by rw [j1]; simp, by rw [hW', jW]; simp, n (by omega) (t1 (by omega) (by omega) (by omega) j2), n (by omega) (t1 (by omega) (by omega) (by omega) j3), n (by omega) (t1 (by omega) (by omega) (by omega) j4), n (by omega) t3,
                .inr ⟨_, rfl, by have := j5.lt; omega, by rw [hlen', Nat.mul_one]; exact n (by have := l9; omega) t4⟩, ?_, tK2, At.self t2.lt⟩
              rcases j7 with h | ⟨k2, h1, h2, h5⟩
              · exact .inl h
              · have hkk : k2 ≠ k := fun e => by
                  subst e
                  have := h5.eq.symm.trans jk2.eq
                  simp at this
                exact .inr ⟨k2, h1, h2, n (noTok _ _ _ h5) (t1 (noTok _ _ _ h5) (by omega) hkk h5)⟩
            rw [Nat.mul_one] at z7
            simp [setAll, j9.eq, ↓z5.eq, ↓z6.appE, z7.eq, app0_step, app0_tok, hap, hcat, ← hT]
            exact ⟨t2.eq, hJT⟩)
        refine ⟨t', hp2', y1, fun _ => y2.2, fun h => ?_⟩
        rw [y2.1] at h; cases h) (hp := hp3 ++ [L false none]) (by
        rw [hJ]
        exact ⟨[], l, .exact, by simp, by simp, b0.app, b1.app, b2.app, b3.app, .inl rfl, (by
          rcases bR with h | ⟨k, h1, h2, h5⟩
          · exact .inl h
          · exact .inr ⟨k, h1, h2, h5.app⟩), hK1 _ _ _ bK, by rw [hlp]; simp [At]⟩)
      obtain ⟨d, hp', k1, k2 | k2⟩ := key2
      · rw [hJ] at k2
        obtain ⟨dn, W, sp, j1, jW, j2, j3, j4, j5, j6, j7, j8, j9⟩ := k2
        refine ⟨d, hp', k1, .inl ⟨j9.eq, ?_⟩⟩
        rw [List.append_nil] at j1
        have noTok : ∀ k a b, At hp' k (.tok a b) → k ≠ lp := fun k a b h e => by
          subst e
          have := h.eq.symm.trans j9.eq
          rw [hLe] at this
          simp at this
        have n : ∀ {m o}, m ≠ lp → At hp' m o → At (hp'.set lp .dead) m o := fun h g => g.ne (fun e => h e.symm)
        rw [jW, ← j1] at j5
        simp
        exact ⟨_, by omega, i + 1, rfl, hmore2, ns, by rw [hu]; exact hlv, hmu, n (by omega) j2, sp, sp2, by rw [hu]; exact n (by omega) j3, n (by omega) j4, by rw [hu]; exact n (by omega) j5, (by
          rcases j7 with h | ⟨k, h1, h2, h5⟩
          · exact .inl h
          · exact .inr ⟨k, h1, h2, n (noTok _ _ _ h5) h5⟩), hK2 _ _ _ _ j8 (by omega)⟩
      · exact k2.elim
    · have c3 : ¬ 0 ≤ cmpL V t.value := by omega
      simp [g0.eq, g1.eq, g2.eq, g3.eq, a3.eq, e1, h0l, rTS_effh, gdD_b, h168, ← h3, b0.eq, b1.eq, he', h3', h87, c1, c2, c3, h7, h169]
      refine ⟨176, _, rfl, ?_⟩
      intro L hL hcb
      obtain ⟨lp, hlp⟩ : ∃ lp, lp = hp3.length := ⟨_, rfl⟩
      rw [← hlp] at hcb ⊢
      obtain ⟨J, hJ⟩ : ∃ J : List (List Int) → List Obj → Prop, J = fun rem hq => ∃ (dn W : List (List Int)) (sp : Spare), N.reverse = dn ++ rem ∧ W = l ++ dn ∧ At hq B (.cells (dProb p).cellsL) ∧
        At hq (B + 1) (.cells [.imm .none (s.opn.map dInts), dInts t.best, dInts t.value, .imm sp2 (dLs s.leaves ns)]) ∧ At hq (B + 1 + 1) (.cells [.imm .exact [], .imm .exact [], .imm .exact [], .imm .exact []]) ∧
        At hq (B + 3) (.cells [.imm sp (W.map dInts)]) ∧ Room (B + 4) hq sp W.length 1 ∧ Room (B + 4) hq sp2 (s.leaves.length + ns.length) 3 ∧ K (i + 1) hq ∧ At hq lp (L false none) := ⟨_, rfl⟩
      have hb3 := b3.lt
      obtain ⟨sl, ps, asg, body, hLe⟩ := hL
      have key2 := i176 N (by omega) lp J (fun _ => False) (by
        intro x rem hq hj
        rw [hJ] at hj
        obtain ⟨dn, W, sp, j1, jW, j2, j3, j4, j5, j6, j7, j8, j9⟩ := hj
        have hWl : W.length ≤ 1000000100 := by
          have := congrArg List.length j1
          rw [List.length_reverse, List.length_append] at this
          rw [jW, List.length_append]; omega
        obtain ⟨W', hW'⟩ : ∃ W', W' = W ++ [x] := ⟨_, rfl⟩
        have hcat : List.map dInts W ++ [D.imm Spare.none (List.map dI x)] = List.map dInts W' := by rw [hW']; simp
        have hlen' : W'.length = W.length + 1 := by rw [hW']; simp
        have hap : ∀ y, appOk E 1 (List.map dInts W) [y] := fun y => by
          refine ⟨?_, ?_, ?_, fitsA_ints⟩ <;> simp [maxBytes]
          omega
        have z5 := j5.ne (j := lp) (x := L true none) (by omega)
        have l9 := j9.lt
        have noTok : ∀ k a b, At hq k (.tok a b) → k ≠ lp := fun k a b h e => by
          subst e
          have := h.eq.symm.trans j9.eq
          rw [hLe] at this
          simp at this
        obtain ⟨t', hp2', y1, y2⟩ := hcb [dInts x] hq (fun t' hp' => t' = true ∧ J rem hp') rfl j9 (by
          rcases j6 with rfl | ⟨k, rfl, jk, jk2⟩
          · obtain ⟨T, hT⟩ : ∃ T, T = (hq.set lp (L true none) ++ [Obj.tok (W.length + 1) 1]).set (B + 3) (.cells [.imm (.tok hq.length) (W'.map dInts)]) := ⟨_, rfl⟩
            have t1 : ∀ {m o}, m ≠ lp → m ≠ B + 3 → At hq m o → At T m o := fun h1 h2 g => by
              rw [hT]; exact ((g.ne (fun e => h1 e.symm)).app).ne (fun e => h2 e.symm)
            have t2 : At T lp (L true none) := by rw [hT]; exact ((At.self l9).app).ne (by omega)
            have t3 : At T (B + 3) (.cells [.imm (.tok hq.length) (W'.map dInts)]) := by rw [hT]; exact At.self (by simp; have := j5.lt; omega)
            have t4 : At T hq.length (Obj.tok (W.length + 1) 1) := by
              rw [hT]
              refine At.ne ?_ (by have := j5.lt; omega)
              have := get_app2 (hp := hq.set lp (L true none)) (r := [Obj.tok (W.length + 1) 1]) (k := 0)
              simpa [At] using this
            have tK : K (i + 1) T := by rw [hT]; exact hK2 _ _ _ _ (hK1 _ _ _ (hK2 _ _ _ _ j8 (by omega))) (by omega)
            have tK2 : K (i + 1) (T.set lp (L false none)) := hK2 _ _ _ _ tK (by omega)
            have hJT : J rem (T.set lp (L false none)) := by
              rw [hJ]
              have n : ∀ {m o}, m ≠ lp → At T m o → At (T.set lp (L false none)) m o := fun h g => g.ne (fun e => h e.symm)
              refine ⟨dn ++ [x], W', .tok hq.length, by rw [j1]; simp, by rw [hW', jW]; simp, n (by omega) (t1 (by omega) (by omega) j2), n (by omega) (t1 (by omega) (by omega) j3), n (by omega) (t1 (by omega) (by omega) j4), n (by omega) t3,
                .inr ⟨_, rfl, by have := j5.lt; omega, by rw [hlen', Nat.mul_one]; exact n (by omega) t4⟩, ?_, tK2, At.self t2.lt⟩
              rcases j7 with h | ⟨k, h1, h2, h5⟩
              · exact .inl h
              · exact .inr ⟨k, h1, h2, n (noTok _ _ _ h5) (t1 (noTok _ _ _ h5) (by omega) h5)⟩
            simp [setAll, j9.eq, ↓z5.eq, ↓z5.appE, app0_step, app0_exact, hap, hcat, ← hT]
            exact ⟨t2.eq, hJT⟩
          · have hkl := noTok _ _ _ jk2
            have z6 := z5.ne (j := k) (x := .dead) (by omega)
            have z7 := jk2.ne (j := lp) (x := L true none) (fun e => hkl e.symm)
            obtain ⟨T, hT⟩ : ∃ T, T = ((hq.set lp (L true none)).set k .dead ++ [Obj.tok (W.length + 1) 1]).set (B + 3) (.cells [.imm (.tok hq.length) (W'.map dInts)]) := ⟨_, rfl⟩
            have t1 : ∀ {m o}, m ≠ lp → m ≠ B + 3 → m ≠ k → At hq m o → At T m o := fun h1 h2 h3 g => by
              rw [hT]; exact (((g.ne (fun e => h1 e.symm)).ne (fun e => h3 e.symm)).app).ne (fun e => h2 e.symm)
            have t2 : At T lp (L true none) := by rw [hT]; exact (((At.self l9).ne hkl).app).ne (by omega)
            have t3 : At T (B + 3) (.cells [.imm (.tok hq.length) (W'.map dInts)]) := by rw [hT]; exact At.self (by simp; have := j5.lt; omega)
            have t4 : At T hq.length (Obj.tok (W.length + 1) 1) := by
              rw [hT]
              refine At.ne ?_ (by have := j5.lt; omega)
              have := get_app2 (hp := (hq.set lp (L true none)).set k .dead) (r := [Obj.tok (W.length + 1) 1]) (k := 0)
              simpa [At] using this
            have tK : K (i + 1) T := by rw [hT]; exact hK2 _ _ _ _ (hK1 _ _ _ (hK2 _ _ _ _ (hK2 _ _ _ _ j8 (by omega)) (by omega))) (by omega)
            have tK2 : K (i + 1) (T.set lp (L false none)) := hK2 _ _ _ _ tK (by omega)
            have hJT : J rem (T.set lp (L false none)) := by
              rw [hJ]
              have n : ∀ {m o}, m ≠ lp → At T m o → At (T.set lp (L false none)) m o := fun h g => g.ne (fun e => h e.symm)
              refine ⟨dn ++ [x], W', .tok hq.length, by rw [j1]; simp, by rw [hW', jW]; simp, n (by omega) (t1 (by omega) (by omega) (by omega) j2), n (by omega) (t1 (by omega) (by omega) (by omega) j3), n (by omega) (t1 (by omega) (by omega) (by omega) j4), n (by omega) t3,
                .inr ⟨_, rfl, by have := j5.lt; omega, by rw [hlen', Nat.mul_one]; exact n (by have := l9; omega) t4⟩, ?_, tK2, At.self t2.lt⟩
              rcases j7 with h | ⟨k2, h1, h2, h5⟩
              · exact .inl h
              · have hkk : k2 ≠ k := fun e => by
                  subst e
                  have := h5.eq.symm.trans jk2.eq
                  simp at this
                exact .inr ⟨k2, h1, h2, n (noTok _ _ _ h5) (t1 (noTok _ _ _ h5) (by omega) hkk h5)⟩
            rw [Nat.mul_one] at z7
            simp [setAll, j9.eq, ↓z5.eq, ↓z6.appE, z7.eq, app0_step, app0_tok, hap, hcat, ← hT]
            exact ⟨t2.eq, hJT⟩)
        refine ⟨t', hp2', y1, fun _ => y2.2, fun h => ?_⟩
        rw [y2.1] at h; cases h) (hp := hp3 ++ [L false none]) (by
        rw [hJ]
        exact ⟨[], l, .exact, by simp, by simp, b0.app, b1.app, b2.app, b3.app, .inl rfl, (by
          rcases bR with h | ⟨k, h1, h2, h5⟩
          · exact .inl h
          · exact .inr ⟨k, h1, h2, h5.app⟩), hK1 _ _ _ bK, by rw [hlp]; simp [At]⟩)
      obtain ⟨d, hp', k1, k2 | k2⟩ := key2
      · rw [hJ] at k2
        obtain ⟨dn, W, sp, j1, jW, j2, j3, j4, j5, j6, j7, j8, j9⟩ := k2
        refine ⟨d, hp', k1, .inl ⟨j9.eq, ?_⟩⟩
        rw [List.append_nil] at j1
        have noTok : ∀ k a b, At hp' k (.tok a b) → k ≠ lp := fun k a b h e => by
          subst e
          have := h.eq.symm.trans j9.eq
          rw [hLe] at this
          simp at this
        have n : ∀ {m o}, m ≠ lp → At hp' m o → At (hp'.set lp .dead) m o := fun h g => g.ne (fun e => h e.symm)
        rw [jW, ← j1] at j5
        simp
        exact ⟨_, by omega, i + 1, rfl, hmore2, ns, by rw [hu]; exact hlv, hmu, n (by omega) j2, sp, sp2, by rw [hu]; exact n (by omega) j3, n (by omega) j4, by rw [hu]; exact n (by omega) j5, (by
          rcases j7 with h | ⟨k, h1, h2, h5⟩
          · exact .inl h
          · exact .inr ⟨k, h1, h2, n (noTok _ _ _ h5) h5⟩), hK2 _ _ _ _ j8 (by omega)⟩
      · exact k2.elim
  rw [hR] at key
  exact key

theorem s151 {hp : List Obj} : runS E (dL E) 151 [] hp = some (.bool true, hp) := by
  obtain ⟨d, hp', h1, h2, h3⟩ := runS_T c151 (args := []) (hp := hp) (R := fun d hp' => d = .bool true ∧ hp' = hp) (by simp) (by
    simp [t151, n151])
  rw [h1, h2, h3]

theorem wgt_le : ∀ {vs : List Var}, (∀ v, v ∈ vs → v.choices.length ≤ 8) → wgt vs ≤ 9 ^ vs.length
  | [], _ => by simp [wgt]
  | v :: vs, h => by
    have h1 := wgt_le (vs := vs) fun w hw => h w (by simp [hw])
    have h2 := h v (by simp)
    have h3 := wgt_pos (vs := vs)
    have h4 : v.choices.length * wgt vs ≤ 8 * wgt vs := Nat.mul_le_mul_right _ h2
    simp only [wgt, List.length_cons, Nat.pow_succ]
    omega
theorem wB_le {p : Prob} (S : Small p) {b : List Int} : wB p b ≤ 531441 := by
  unfold wB
  have h1 := wgt_le (vs := p.vars.drop b.length) fun v hv => S.choices v (List.mem_of_mem_drop hv)
  have h2 : (p.vars.drop b.length).length ≤ 6 := by have := S.vars; simp; omega
  exact Nat.le_trans h1 (Nat.le_trans (Nat.pow_le_pow_right (by decide) h2) (by decide))
theorem wO_le {p : Prob} (S : Small p) : ∀ {l : List (List Int)}, wO p l ≤ l.length * 531441
  | [] => by simp [wO]
  | b :: l => by
    have h1 := wB_le S (b := b)
    have h2 := wO_le S (l := l)
    simp only [wO, List.length_cons]; omega
theorem SmS.of {p : Prob} (S : Small p) {s : Srch} (h1 : s.opn.length ≤ 1000) (h2 : s.leaves.length ≤ 100000000) : SmS p s := ⟨by
  have := wO_le S (l := s.opn)
  omega⟩
theorem startS_sm {p : Prob} (S : Small p) : SmS p startS := SmS.of S (by decide) (by decide)

theorem r150 (p : Prob) (s : Srch) (S : Small p) (ok : OkP p) (M : SmS p s) (hs : OkS p s) : ∃ n, (iter p n s).opn = [] ∧ runP E (dL E) 150 [dProb p, dSrch s, .fn 151 []] = some (dSrch (iter p n s)) := by
  obtain ⟨d, hp', f1, c, ns, sp1, sp2, f2, f3, f4, f5, f6, m, f7⟩ := s150 p s S ok M hs 151 [] (fun _ => true) [] (fun _ _ => True)
    (fun m hp _ => ⟨hp, s151, trivial, fun j o _ h => h⟩) (fun m hp r g => trivial) (fun m hp j o g hj => trivial) trivial
  have hz := frzL_dLs (hp := hp') (n := 6) (ls := s.leaves) (ns := ns) f5
  rw [← f4] at hz
  refine ⟨c, by simpa using f3, ?_⟩
  have hk : E.keep 150 = false := rfl
  unfold runP
  simp only [f1, f6, hk, frzK]
  simp [hz]

noncomputable def resSolve (p : Prob) : D := if ck p = 0 then .tup [dCert (certS (solveS p)), dI 0] else .tup [dCert cert0, dI (ck p)]

theorem ck_ok {p : Prob} (h : ck p = 0) : OkP p := by
  unfold ck at h
  split at h
  · assumption
  · cases h
theorem cert_solve {p : Prob} (S : Small p) (ok : OkP p) : resCert p (solveS p) = .tup [dCert (certS (solveS p)), dI 0] := by
  have h1 : OkS p (solveS p) := startS_ok.iter ok
  have h2 := solve_end ok
  obtain ⟨w, e, _⟩ := solve_best S ok
  have h3 : sk p (solveS p) = 0 := by simp [sk, ok, h1]
  unfold resCert
  rw [if_pos h3, if_pos ⟨by rw [h2]; rfl, by rw [e]; simp [boundL]⟩]

theorem r131 (p : Prob) (S : Small p) : runP E (dL E) 131 [dProb p] = some (resSolve p) := by
  refine runP_T c131 (by simp) ?_
  have h139 := r139 p S
  simp only [dProb] at h139
  unfold resStart at h139
  by_cases h : ck p = 0
  rotate_left
  · rw [if_neg h] at h139
    simp [t131, n131, h139, h, resSolve, srch0, cert0]
  have ok := ck_ok h
  rw [if_pos h] at h139
  obtain ⟨n, h1, h2⟩ := r150 p startS S ok (startS_sm S) startS_ok
  rw [iter_all ok h1] at h2
  have h133 := r133 p (solveS p) S ((startS_sm S).iter ok startS_ok)
  rw [cert_solve S ok] at h133
  obtain ⟨V, hV⟩ : ∃ V, V = solveS p := ⟨_, rfl⟩
  rw [← hV] at h2 h133
  simp only [dProb, dSrch, dInts] at h2 h133
  simp only [startS, dInts, List.map_cons, List.map_nil] at h2
  simp [t131, n131, h139, h, resSolve, ← hV, startS, h2, h133, certS, frzL_leaf]

def prob0 : Prob := ⟨[], [], []⟩
noncomputable def resWith (p : Prob) (c : List Cause) (m : Int) : D := if ckC p c = 0 then (if 0 ≤ m ∧ m ≤ c.length then .tup [dProb (withP p c m.toNat), dI 0] else .tup [dProb prob0, dI 1]) else .tup [dProb prob0, dI (ckC p c)]

theorem ckC_ok {p : Prob} {c : List Cause} (h : ckC p c = 0) : OkP p ∧ OkC p c := by
  unfold ckC at h
  by_cases h0 : OkP p
  · rw [if_pos h0] at h
    by_cases h1 : OkC p c
    · exact ⟨h0, h1⟩
    · rw [if_neg h1] at h; omega
  · rw [if_neg h0] at h; omega

set_option maxHeartbeats 4000000 in
theorem r183 (p : Prob) (c : List Cause) (m : Int) (S : Small p) (M : SmC c) : runP E (dL E) 183 [dProb p, .imm .none (c.map dCause), dI m] = some (resWith p c m) := by
  refine runP_T c183 (by simp) ?_
  have h181 := r181 p c S M
  unfold resWith
  by_cases h0 : ckC p c = 0
  rotate_left
  · rw [if_neg h0]
    simp only [dProb, dInts, dCause] at h181
    simp [t183, n183, h181, h0, frzL_cause, prob0]
  obtain ⟨ok, C⟩ := ckC_ok h0
  rw [if_pos h0]
  rw [h0] at h181
  by_cases h1 : m < 0
  · have : ¬ (0 ≤ m ∧ m ≤ c.length) := by omega
    rw [if_neg this]
    simp only [dProb, dInts, dCause] at h181
    simp [t183, n183, h181, h1, frzL_cause, prob0]
  by_cases h2 : (c.length : Int) < m
  · have : ¬ (0 ≤ m ∧ m ≤ c.length) := by omega
    rw [if_neg this]
    simp only [dProb, dInts, dCause] at h181
    simp [t183, n183, h181, h1, h2, frzL_cause, prob0]
  rw [if_pos ⟨by omega, by omega⟩]
  obtain ⟨k, rfl⟩ : ∃ k : Nat, m = k := ⟨m.toNat, by omega⟩
  have h195 := r195 p c k S ok C (by omega)
  rw [Int.toNat_natCast]
  obtain ⟨q, hq⟩ : ∃ q, q = withP p c k := ⟨_, rfl⟩
  rw [← hq] at h195 ⊢
  simp only [dProb, dInts, dCause] at h181 h195
  simp [t183, n183, h181, h1, h2, h195, frzL_cause]

/-- a list of numbers grows by one -/
theorem push6 {hp : List Obj} {sp : Spare} {els : List D} {x : D} {B id : Nat} (hok : appOk E 2 els [x]) (hx : (x.storable && x.cellsL.length == 1) = true) (R : Room B hp sp els.length 1) (hid : id ≤ hp.length) :
    ∃ hp', app0 E hp id 6 6 (.imm sp els) (.imm .exact [x]) = some (.imm (.tok id) (els ++ [x]), hp') ∧ At hp' id (.tok ((els.length + 1) * 1) 1) ∧ hp.length ≤ hp'.length ∧
      ∀ i o, At hp i o → (∀ k, sp = .tok k → i ≠ k) → i ≠ id → At hp' i o := by
  have k9 : (E.ty 6).k = .slice 2 := rfl
  have s6 : (E.ty 2).size = 1 := rfl
  rcases R with rfl | ⟨k, rfl, _, g⟩
  · obtain ⟨a1, a2, a3⟩ := addO_at (o := .tok ((els.length + 1) * 1) 1) hid
    refine ⟨_, ?_, a1, a2, fun i o g _ hne => a3 i o g hne⟩
    rw [app0_exact, k9]
    simp only [listOf_imm, s6, List.all_cons, List.all_nil, hx, Bool.and_true, if_true, ob_some, if_pos hok, List.length_cons, List.length_nil]
  · have hg := g.eq
    obtain ⟨a1, a2, a3⟩ := addO_at (hp := hp.set k .dead) (id := id) (o := .tok ((els.length + 1) * 1) 1) (by simpa using hid)
    refine ⟨_, ?_, a1, by simpa using a2, fun i o g hk hne => a3 i o (g.ne (Ne.symm (hk k rfl))) hne⟩
    rw [app0_tok, k9]
    simp only [listOf_imm, s6, List.all_cons, List.all_nil, hx, Bool.and_true, if_true, ob_some, if_pos hok, List.length_cons, List.length_nil, hg, tokO_tok, and_self]
theorem appOk_nums {l : List Int} {x : D} (h : l.length ≤ 100000) : appOk E 2 (l.map dI) [x] := by
  refine ⟨?_, ?_, ?_, ?_⟩
  · simp [maxBytes, E, tyTab]; omega
  · simp [E, tyTab]
  · rfl
  · simp [fitsE, E, tyTab, D.storable, D.atom, D.cellsL]

noncomputable def resDly (p : Prob) : D := if ck p = 0 then .tup [dInts (dlyL p), dI 0] else .tup [dInts [], dI (ck p)]

set_option maxHeartbeats 4000000 in
theorem r184 (p : Prob) (S : Small p) : runP E (dL E) 184 [dProb p] = some (resDly p) := by
  refine runP_T c184 (by simp) ?_
  have h131 := r131 p S
  unfold resSolve at h131
  unfold resDly
  by_cases h0 : ck p = 0
  rotate_left
  · rw [if_neg h0] at h131 ⊢
    simp only [dProb, dInts, dCert, cert0, List.map_nil] at h131
    simp [t184, n184, h131, h0]
  rw [if_pos h0] at h131 ⊢
  have ok := ck_ok h0
  obtain ⟨w, _, _⟩ := solve_best S ok
  obtain ⟨Bs, hBs⟩ : ∃ Bs, Bs = (solveS p).best := ⟨_, rfl⟩
  have hD : dlyL p = (p.vars.zip Bs).map fun x => (x.1.choices.getD x.2.toNat ⟨0, 0, 0, []⟩).delay := by rw [hBs]; rfl
  rw [← hBs] at w
  have hbl : Bs.length = p.vars.length := w.2.2
  have hDl := dlyL_len S ok
  have s3 := S.vars
  obtain ⟨Ct, hC⟩ : ∃ Ct, Ct = certS (solveS p) := ⟨_, rfl⟩
  have hCb : Ct.best = Bs := by rw [hC, hBs]; rfl
  rw [← hC] at h131
  simp only [dProb, dInts, dCert, hCb] at h131
  obtain ⟨DL, hDL⟩ : ∃ DL, DL = dlyL p := ⟨_, rfl⟩
  rw [← hDL] at hD hDl ⊢
  simp [t184, n184, h131]
  refine wT_up Bs.length (fun i env hp => ∃ (x4 x5 x6 x7 x8 x12 x13 : D) (sp : Spare), env = [dProb p, .loc 0 0, .imm sp ((DL.take i).map dI), dI 0, x4, x5, x6, x7, x8, dInts Bs, dI Bs.length, dI i, x12, x13] ∧ At hp 0 (.cells (dProb p).cellsL) ∧ Room 1 hp sp i 1) 0 (by omega)
    ⟨_, _, _, _, _, _, _, .exact, rfl, by simp [At], .inl rfl⟩ ?_
  rintro i env hp hi ⟨x4, x5, x6, x7, x8, x12, x13, sp, rfl, g0, R⟩
  by_cases hlt : i < Bs.length
  · have hv : i < p.vars.length := by omega
    have hw := w.2.1.each i hlt hv
    unfold wi at hw
    have hd : i < DL.length := by omega
    have hn : Bs[i].toNat < p.vars[i].choices.length := by omega
    have hDi : DL[i] = (p.vars[i].choices[Bs[i].toNat]).delay := by
      simp only [hD, List.getElem_map, List.getElem_zip]
      rw [List.getD_eq_getElem?_getD, List.getElem?_eq_getElem hn, Option.getD_some]
    obtain ⟨b, hb⟩ : ∃ b : Nat, Bs[i] = b := ⟨Bs[i].toNat, by omega⟩
    have hn' : b < p.vars[i].choices.length := by omega
    have hDi' : DL[i] = (p.vars[i].choices[b]).delay := by
      rw [hDi]
      congr 2
      simp [hb]
    have R3 : Room 1 hp sp ((DL.take i).map dI).length 1 := by
      rw [List.length_map, List.length_take, Nat.min_eq_left (by omega)]; exact R
    obtain ⟨h', e1, e2, e3, e4⟩ := push6 (x := dI DL[i]) (id := hp.length) (appOk_nums (by simp; omega)) (by simp [D.storable, D.atom, D.cellsL]) R3 (Nat.le_refl _)
    have eL : (DL.take i).map dI ++ [dI DL[i]] = (DL.take (i + 1)).map dI := by rw [List.take_succ_eq_append_getElem hd, List.map_append]; rfl
    rw [eL] at e1
    rw [List.length_map, List.length_take, Nat.min_eq_left (by omega)] at e2
    have Q0 := e4 0 _ g0 (fun k hk => by
      rcases R with h | ⟨k2, h1, h2, _⟩
      · rw [h] at hk; cases hk
      · rw [h1] at hk; cases hk; omega) (by have := g0.lt; omega)
    obtain ⟨Ls, hLs⟩ : ∃ Ls, Ls = (DL.take i).map dI := ⟨_, rfl⟩
    obtain ⟨Lt, hLt⟩ : ∃ Lt, Lt = (DL.take (i + 1)).map dI := ⟨_, rfl⟩
    rw [← hLs, ← hLt, hDi'] at e1
    rw [← hLs, ← hLt]
    have l0 := g0.lt
    simp only [dI] at e1
    simp [hlt, hb, hv, hn', g0.eq, e1, wrap_up hlt (by omega)]
    repeat apply Exists.intro
    exact ⟨by and_intros <;> rfl, Q0, .inr ⟨_, rfl, by omega, e2⟩⟩
  · have : i = Bs.length := by omega
    subst this
    have e : DL.take Bs.length = DL := List.take_of_length_le (by omega)
    rw [e]
    simp [hlt]

theorem light_small {p : Prob} (h : lightB p = true) : Small p := by
  unfold lightB at h
  simp only [Bool.and_eq_true] at h
  exact few_small h.1

def fewA (a : Cause) : Bool := decide (a.less.length ≤ 8) && a.less.all fun r => decide (r.length ≤ 20)
def fewCB (p : Prob) (c : List Cause) : Bool := c.all fewA && (lightB p && decide (c.length ≤ 4))

theorem fewA_ok {a : Cause} (h : fewA a = true) : a.less.length ≤ 8 ∧ ∀ r, r ∈ a.less → r.length ≤ 20 := by
  simp only [fewA, Bool.and_eq_true, decide_eq_true_eq, List.all_eq_true] at h
  exact h
theorem fewC_sm {p : Prob} {c : List Cause} (h : fewCB p c = true) : Small p ∧ SmC c ∧ c.length ≤ 4 := by
  simp only [fewCB, Bool.and_eq_true, decide_eq_true_eq, List.all_eq_true] at h
  obtain ⟨h1, h2, h3⟩ := h
  exact ⟨light_small h2, ⟨by omega, fun a ha => by have := (fewA_ok (h1 a ha)).1; omega, fun a ha r hr => by have := (fewA_ok (h1 a ha)).2 r hr; omega⟩, h3⟩

set_option maxHeartbeats 4000000 in
theorem r179 (p : Prob) (c : List Cause) (hc : c.length ≤ 9223372036854775807) : runP E (dL E) 179 [dProb p, .imm .none (c.map dCause)] = some (.bool (fewCB p c)) := by
  refine runP_T c179 (by simp) ?_
  have h129 := r129 p
  generalize hB : fewCB p c = B
  have hBf : (∃ a, a ∈ c ∧ fewA a = false) → B = false := fun ⟨a, h1, h2⟩ => by
    rw [← hB]
    cases h : fewCB p c with
    | false => rfl
    | true =>
      simp only [fewCB, Bool.and_eq_true, List.all_eq_true] at h
      have := h.1 a h1
      rw [h2] at this; cases this
  have hBt : (∀ a, a ∈ c → fewA a = true) → B = (lightB p && decide (c.length ≤ 4)) := fun h => by
    rw [← hB]
    have e : c.all fewA = true := by rw [List.all_eq_true]; exact h
    simp [fewCB, e]
  simp [t179, n179]
  refine wT_all c.length (fun i => ∀ h : i < c.length, fewA c[i] = true) (fun i env hp => ∃ (x5 x6 x7 x8 : D) , env = [dProb p, .imm .none (c.map dCause), .loc 0 0, .bool false, dI i, x5, x6, x7, x8] ∧ At hp 0 (.cells (dProb p).cellsL)) ⟨_, _, _, _, rfl, by simp [At]⟩ ?_ ?_
  · rintro i env hp hi ⟨x5, x6, x7, x8, rfl, g0⟩ hall
    obtain ⟨a, ha⟩ : ∃ a, a = c[i] := ⟨_, rfl⟩
    have hmem : a ∈ c := by rw [ha]; exact List.getElem_mem hi
    have hbad : fewA a = false → B = false := fun h => hBf ⟨a, hmem, h⟩
    simp [hi, ← ha]
    refine wT_all a.less.length (fun k => ∀ h : k < a.less.length, k < 8 ∧ a.less[k].length ≤ 20) (fun k env hp => ∃ (x6 x7 x8 : D) , env = [dProb p, .imm .none (c.map dCause), .loc 0 0, .bool false, dI i, dI k, x6, x7, x8] ∧ At hp 0 (.cells (dProb p).cellsL)) ⟨_, _, _, rfl, g0⟩ ?_ ?_
    · clear g0 hp
      rintro k env hp hk ⟨x6, x7, x8, rfl, g0⟩ hk8
      by_cases q1 : k < 8
      rotate_left
      · have q1' : (8 : Int) ≤ k := by omega
        have hF : B = false := hbad (by
          have : ¬ a.less.length ≤ 8 := by omega
          simp [fewA, this])
        simp [hi, ← ha, hk, q1', hF]
      have q1' : ¬ (8 : Int) ≤ k := by omega
      by_cases q2 : (20 : Int) < a.less[k].length
      · have hF : B = false := hbad (by
          have : a.less.all (fun r => decide (r.length ≤ 20)) = false := by
            rw [List.all_eq_false]
            exact ⟨_, List.getElem_mem hk, by simp; omega⟩
          simp [fewA, this])
        simp [hi, ← ha, hk, q1', q2, hF]
      · simp [hi, ← ha, hk, q1', q2, wrap_up q1 (by omega)]
        exact ⟨fun _ => ⟨by omega, by omega⟩, g0⟩
    · clear g0 hp
      rintro env hp ⟨x6, x7, x8, rfl, g0⟩ hk8
      have hl : a.less.length ≤ 8 := by
        rcases Nat.lt_or_ge 8 a.less.length with h | h
        · have := (hk8 8 h h).1; omega
        · exact h
      have hfa : fewA a = true := by
        simp only [fewA, Bool.and_eq_true, decide_eq_true_eq, List.all_eq_true]
        refine ⟨hl, fun r hr => ?_⟩
        obtain ⟨k, hk, rfl⟩ := List.getElem_of_mem hr
        exact (hk8 k hk hk).2
      have w := wrap_i64 (n := (i : Int) + 1) ⟨by omega, by omega⟩
      simp [hi, ← ha, hfa, w]
      exact g0
  · rintro env hp ⟨x5, x6, x7, x8, rfl, g0⟩ hall
    have hall' : ∀ a, a ∈ c → fewA a = true := fun a ha => by
      obtain ⟨i, hi, rfl⟩ := List.getElem_of_mem ha
      exact hall i hi hi
    have hb := hBt hall'
    simp only [dProb, dInts] at h129
    cases hf : lightB p with
    | false => simp [g0.eq, h129, hf, hb]
    | true =>
      simp [g0.eq, h129, hf, hb]
      omega

/-- a list grows by one -/
theorem pushG {t e sz : Nat} (ht : (E.ty t).k = .slice e) (hs : (E.ty e).size = sz) {hp : List Obj} {sp : Spare} {els : List D} {x : D} {B id : Nat} (hok : appOk E e els [x]) (hx : (x.storable && x.cellsL.length == sz) = true) (R : Room B hp sp els.length sz) (hid : id ≤ hp.length) :
    ∃ hp', app0 E hp id t t (.imm sp els) (.imm .exact [x]) = some (.imm (.tok id) (els ++ [x]), hp') ∧ At hp' id (.tok ((els.length + 1) * sz) sz) ∧ hp.length ≤ hp'.length ∧
      ∀ i o, At hp i o → (∀ k, sp = .tok k → i ≠ k) → i ≠ id → At hp' i o := by
  subst hs
  rcases R with rfl | ⟨k, rfl, _, g⟩
  · obtain ⟨a1, a2, a3⟩ := addO_at (o := .tok ((els.length + 1) * (E.ty e).size) (E.ty e).size) hid
    refine ⟨_, ?_, a1, a2, fun i o g _ hne => a3 i o g hne⟩
    rw [app0_exact, ht]
    simp only [listOf_imm, List.all_cons, List.all_nil, hx, Bool.and_true, if_true, ob_some, if_pos hok, List.length_cons, List.length_nil]
  · have hg := g.eq
    obtain ⟨a1, a2, a3⟩ := addO_at (hp := hp.set k .dead) (id := id) (o := .tok ((els.length + 1) * (E.ty e).size) (E.ty e).size) (by simpa using hid)
    refine ⟨_, ?_, a1, by simpa using a2, fun i o g hk hne => a3 i o (g.ne (Ne.symm (hk k rfl))) hne⟩
    rw [app0_tok, ht]
    simp only [listOf_imm, List.all_cons, List.all_nil, hx, Bool.and_true, if_true, ob_some, if_pos hok, List.length_cons, List.length_nil, hg, tokO_tok, and_self]
theorem appOk_share {l : List Share} {x : D} (h : l.length ≤ 100000) : appOk E 37 (l.map dShare) [x] := by
  refine ⟨?_, ?_, ?_, ?_⟩
  · simp [maxBytes, E, tyTab]; omega
  · simp [E, tyTab]
  · rfl
  · simp [fitsE, E, tyTab, D.storable, D.atom, D.cellsL]

theorem chg_step {cause : Int} : ∀ {k : Nat} {bef now : List Int} {i : Nat}, bef.length = now.length → (h : i < now.length) → (h' : i < bef.length) →
    chg cause k (bef.take (i + 1)) (now.take (i + 1)) = chg cause k (bef.take i) (now.take i) ++ (if now[i] ≠ bef[i] then [⟨cause, ((k + i : Nat) : Int), now[i] - bef[i]⟩] else [])
  | k, [], _, i, _, _, h' => by simp at h'
  | k, _ :: _, [], i, _, h, _ => by simp at h
  | k, b :: bef, n :: now, 0, _, _, _ => by simp [chg]
  | k, b :: bef, n :: now, i + 1, hl, h, h' => by
    have := chg_step (cause := cause) (k := k + 1) (bef := bef) (now := now) (i := i) (by simpa using hl) (by simpa using h) (by simpa using h')
    simp only [List.take_succ_cons, chg, this, List.getElem_cons_succ, List.append_assoc]
    rw [show k + 1 + i = k + (i + 1) from by omega]
theorem chg_len {cause : Int} : ∀ {k : Nat} {bef now : List Int}, (chg cause k bef now).length ≤ now.length
  | _, [], _ => by simp [chg]
  | _, _ :: _, [] => by simp [chg]
  | k, b :: bef, n :: now => by
    have := chg_len (cause := cause) (k := k + 1) (bef := bef) (now := now)
    simp only [chg, List.length_append, List.length_cons]
    split <;> simp <;> omega

set_option maxHeartbeats 16000000 in
theorem s191 {cause : Int} {now bef : List Int} {sh : List Share} {sp0 sp : Spare} {b l C : Nat} {hp : List Obj} (hl : bef.length = now.length) (hn : now.length ≤ 1000) (hsh : sh.length ≤ 50000)
    (hd : ∀ n, n ∈ now → 0 ≤ n ∧ n ≤ 1000000000) (hd' : ∀ n, n ∈ bef → 0 ≤ n ∧ n ≤ 1000000000)
    (gb : At hp b (.cells [.imm sp0 (bef.map dI)])) (gl : At hp l (.cells [.imm sp (sh.map dShare)])) (R : Room C hp sp sh.length 3) (hb : b < C) (hl' : l < C) (hbl : b ≠ l) (hC : C ≤ hp.length) :
    ∃ d hp', runS E (dL E) 191 [dI cause, dInts now, .loc b 0, .loc l 0] hp = some (d, hp') ∧ At hp' b (.cells [dInts now]) ∧
      (∃ sp', At hp' l (.cells [.imm sp' ((sh ++ chg cause 0 bef now).map dShare)]) ∧ Room C hp' sp' (sh ++ chg cause 0 bef now).length 3) ∧ hp.length ≤ hp'.length ∧ ∀ i o, i < C → i ≠ b → i ≠ l → At hp i o → At hp' i o := by
  refine runS_T c191 (args := [dI cause, dInts now, .loc b 0, .loc l 0]) (hp := hp) (R := fun _ hp' => At hp' b (.cells [dInts now]) ∧
      (∃ sp', At hp' l (.cells [.imm sp' ((sh ++ chg cause 0 bef now).map dShare)]) ∧ Room C hp' sp' (sh ++ chg cause 0 bef now).length 3) ∧ hp.length ≤ hp'.length ∧ ∀ i o, i < C → i ≠ b → i ≠ l → At hp i o → At hp' i o) (by simp) ?_
  obtain ⟨Z, hZ⟩ : ∃ Z : Nat → List Share, Z = fun i => sh ++ chg cause 0 (bef.take i) (now.take i) := ⟨_, rfl⟩
  have hZ0 : Z 0 = sh := by rw [hZ]; simp [chg]
  have hZn : sh ++ chg cause 0 bef now = Z now.length := by rw [hZ]; simp only []; rw [List.take_length, ← hl, List.take_length]
  have hZl : ∀ i, (Z i).length ≤ 60000 := fun i => by
    rw [hZ]
    have := chg_len (cause := cause) (k := 0) (bef := bef.take i) (now := now.take i)
    simp only [List.length_append]
    rw [List.length_take] at this
    omega
  have hZ1 : ∀ (i : Nat) (h : i < now.length) (h' : i < bef.length), Z (i + 1) = Z i ++ (if now[i] ≠ bef[i] then [⟨cause, (i : Int), now[i] - bef[i]⟩] else []) := fun i h h' => by
    rw [hZ]; simp only []; rw [chg_step hl h h', List.append_assoc]; simp
  rw [hZn]
  simp [t191, n191]
  refine wT_up now.length (fun i env hq => ∃ (x4 x5 x9 x10 x11 : D) (sp' : Spare), env = [dI cause, dInts now, .loc b 0, .loc l 0, x4, x5, dInts now, dI now.length, dI i, x9, x10, x11] ∧ At hq b (.cells [.imm sp0 (bef.map dI)]) ∧ At hq l (.cells [.imm sp' ((Z i).map dShare)]) ∧ Room C hq sp' (Z i).length 3 ∧ hp.length ≤ hq.length ∧ ∀ i o, i < C → i ≠ b → i ≠ l → At hp i o → At hq i o) 0 (by omega)
    ⟨_, _, _, _, _, sp, rfl, gb, by rw [hZ0]; exact gl, by rw [hZ0]; exact R, Nat.le_refl _, fun _ _ _ _ _ h => h⟩ ?_
  rintro i env hq hi ⟨x4, x5, x9, x10, x11, sp', rfl, qb, ql, R1, hle, keep⟩
  have lb := qb.lt
  have ll := ql.lt
  by_cases hlt : i < now.length
  · have hlb : i < bef.length := by omega
    have z1 := hZ1 i hlt hlb
    have d1 := hd _ (List.getElem_mem hlt)
    have d2 := hd' _ (List.getElem_mem hlb)
    have w := wrap_i64 (n := now[i] - bef[i]) ⟨by omega, by omega⟩
    by_cases hne : now[i] = bef[i]
    · rw [if_neg (by simpa using hne), List.append_nil] at z1
      simp [hlt, hlb, qb.eq, hne, wrap_up hlt (by omega)]
      rw [z1]
      exact ⟨qb, sp', ql, R1, hle, keep⟩
    · rw [if_pos hne] at z1
      have R3 : Room C (hq ++ [Obj.dead, Obj.dead, Obj.dead, Obj.dead, Obj.dead, Obj.dead, Obj.dead, Obj.dead, Obj.dead, Obj.dead, Obj.dead, Obj.dead, Obj.dead]) sp' ((Z i).map dShare).length 3 := by
        rw [List.length_map]
        rcases R1 with h | ⟨k', h1, h2, h3⟩
        · exact .inl h
        · exact .inr ⟨k', h1, h2, h3.app⟩
      obtain ⟨h', e1, e2, e3, e4⟩ := pushG (t := 36) (e := 37) (sz := 3) rfl rfl (x := dShare ⟨cause, (i : Int), now[i] - bef[i]⟩) (id := hq.length + 11) (appOk_share (by have := hZl i; omega)) (by simp [D.storable, D.atom, D.cellsL]) R3 (by simp)
      have eL : (Z i).map dShare ++ [dShare ⟨cause, (i : Int), now[i] - bef[i]⟩] = (Z (i + 1)).map dShare := by rw [z1, List.map_append]; rfl
      have eN : (Z (i + 1)).length = (Z i).length + 1 := by rw [z1]; simp
      rw [eL] at e1
      rw [List.length_map, ← eN] at e2
      have hk : ∀ n, n < C → ∀ k', sp' = .tok k' → n ≠ k' := fun n hn k' hk' => by
        rcases R1 with h | ⟨k2, h1, h2, _⟩
        · rw [h] at hk'; cases hk'
        · rw [h1] at hk'; cases hk'; omega
      have Qb := e4 b _ qb.app (hk b hb) (by omega)
      have Ql := e4 l _ ql.app (hk l hl') (by omega)
      simp only [dShare, dI] at e1
      simp only [List.length_append, List.length_cons, List.length_nil] at e3
      have lql := Ql.lt
      simp [hlt, hlb, qb.eq, ql.eq, ↓qb.appE, ↓ql.appE, hne, w, e1, Ql.eq, wrap_up hlt (by omega)]
      exact ⟨Qb.ne (Ne.symm hbl), _, At.self lql, .inr ⟨_, rfl, by omega, e2.ne (by omega)⟩, by omega, fun n o h1 h2 h3 g => (e4 n o (keep n o h1 h2 h3 g).app (hk n h1) (by omega)).ne (Ne.symm h3)⟩
  · have : i = now.length := by omega
    subst this
    simp [hlt, qb.eq]
    refine ⟨At.self lb, ⟨sp', ql.ne hbl, ?_⟩, hle, fun n o h1 h2 h3 g => (keep n o h1 h2 h3 g).ne (Ne.symm h2)⟩
    rcases R1 with h | ⟨k', h1, h2, h3⟩
    · exact .inl h
    · exact .inr ⟨k', h1, h2, h3.ne (by omega)⟩

theorem r192 (p : Prob) (c : List Cause) : runP E (dL E) 192 [dProb p, .imm .none (c.map dCause)] = some (.fn 198 [.iptr [.imm .none (c.map dCause)], .iptr (dProb p).cellsL]) := by
  refine runP_T c192 (by simp) ?_
  simp [t192, n192, frzL_cause]

set_option maxHeartbeats 4000000 in
theorem i198 (p : Prob) (c : List Cause) (S : Small p) (ok : OkP p) (C : OkC p c) (l : Nat) (J : Nat → List Obj → Prop) (Fin : List Obj → Prop)
    (hy : ∀ k hp, k ≤ c.length → J k hp → ∃ t hp', runY (dL E) l [dI ((k : Int) - 1), dProb (withP p c k)] hp = some (.bool t, hp') ∧ (t = true → J (k + 1) hp') ∧ (t = false → Fin hp')) {hp : List Obj}
    (h0 : J 0 hp) :
    ∃ d hp', runS E (dL E) 198 [.yld l, .iptr [.imm .none (c.map dCause)], .iptr (dProb p).cellsL] hp = some (d, hp') ∧ (J (c.length + 1) hp' ∨ Fin hp') := by
  refine runS_T c198 (R := fun _ hp' => J (c.length + 1) hp' ∨ Fin hp') (by simp) ?_
  have c1 := C.len
  have w := wrap_i64 (n := (c.length : Int) + 1) ⟨by omega, by omega⟩
  simp [t198, n198, w]
  refine wT_up (c.length + 1) (fun k env hp => ∃ (x3 x6 x7 x8 : D) , env = [.yld l, .iptr [.imm .none (c.map dCause)], .iptr (dProb p).cellsL, x3, dI ((c.length : Int) + 1), dI k, x6, x7, x8] ∧ J k hp) 0 (by omega) ⟨_, _, _, _, rfl, h0⟩ ?_
  rintro k env hp hk ⟨x3, x6, x7, x8, rfl, hJ⟩
  by_cases hlt : k < c.length + 1
  · have hlt' : (k : Int) < c.length + 1 := by omega
    have h195 := r195 p c k S ok C (by omega)
    have w1 := wrap_i64 (n := (k : Int) - 1) ⟨by omega, by omega⟩
    obtain ⟨t, hp2, y1, y2, y3⟩ := hy k hp (by omega) hJ
    obtain ⟨q, hq⟩ : ∃ q, q = withP p c k := ⟨_, rfl⟩
    rw [← hq] at h195 y1
    simp only [dProb, dInts, dCause] at h195 y1
    cases t with
    | true =>
      have hJ2 := y2 rfl
      simp [hlt, hlt', h195, w1, y1, frzL_cause, wrap_up hlt (by omega), hJ2]
    | false =>
      have hF := y3 rfl
      simp [hlt, hlt', h195, w1, y1, frzL_cause, hF]
  · have : k = c.length + 1 := by omega
    subst this
    simp [hJ]

theorem xv_mkslice {E : Env} {cP : Nat → List D → Option D} {env : List D} {hp : List Obj} {t a c : Nat} {ks : Xs} : xv E cP env hp (.n (.mkslice false t (.t a) (.t c)) ks) = ob (xvs E cP env hp ks) fun vs => mksliceV E t (kv a vs) (kv c vs) := by
  rw [xv_op]
  congr 1
  funext vs
  have e1 : gOf vs (.t a) = kv a vs := rfl
  have e2 : gOf vs (.t c) = kv c vs := rfl
  rw [← e1, ← e2]
  unfold opV mksliceV
  simp only [pureOp]
  generalize gOf vs (.t a) = x
  generalize gOf vs (.t c) = y
  cases (E.ty t).k <;> try rfl
  cases x <;> try rfl
  cases y <;> try rfl
  rename_i e k1 n1 k2 n2
  simp only []
  cases zeroE E e with
  | none => rfl
  | some z =>
    by_cases h : 0 ≤ n1 ∧ n1 = n2 ∧ n2 * (((E.ty e).bytes : Int) + 1) ≤ maxBytes
    · obtain ⟨h1, rfl, h3⟩ := h
      simp [h1, h3]
    · simp [h]

theorem shr_len {m : Nat} : ∀ {l : List (List Int)} {k : Nat} {b : List Int}, (∀ x, x ∈ l → x.length ≤ m) → (shr k b l).length ≤ l.length * m
  | [], _, _, _ => by simp [shr]
  | n :: l, k, b, h => by
    have h1 := chg_len (cause := (k : Int) - 1) (k := 0) (bef := b) (now := n)
    have h2 := shr_len (m := m) (l := l) (k := k + 1) (b := n) fun x hx => h x (by simp [hx])
    have h3 := h n (by simp)
    simp only [shr, List.length_append, List.length_cons, Nat.add_mul, Nat.one_mul]
    omega
theorem dlyL_bd {p : Prob} (ok : OkP p) : ∀ n, n ∈ dlyL p → 0 ≤ n ∧ n ≤ 1000000000 := by
  intro n hn
  obtain ⟨x, hx, rfl⟩ := List.mem_map.1 hn
  have hv := (ok.vars x.1 (List.of_mem_zip hx).1).choices
  rw [List.getD_eq_getElem?_getD]
  cases h : x.1.choices[x.2.toNat]? with
  | none => simp
  | some c =>
    have := (hv c (List.mem_of_getElem? h)).delay
    unfold wi at this
    simp only [Option.getD_some]
    omega

noncomputable def resSh (p : Prob) (c : List Cause) : D := if ckC p c = 0 then .tup [.imm .none ((sharesL p c).map dShare), dI 0] else .tup [.imm .none [], dI (ckC p c)]

set_option maxHeartbeats 16000000 in
theorem r180 (p : Prob) (c : List Cause) (S : Small p) (M : SmC c) : runP E (dL E) 180 [dProb p, .imm .none (c.map dCause)] = some (resSh p c) := by
  refine runP_T c180 (by simp) ?_
  have h181 := r181 p c S M
  have h192 := r192 p c
  have s3 := S.vars
  unfold resSh
  by_cases h0 : ckC p c = 0
  rotate_left
  · rw [if_neg h0]
    simp only [dProb, dInts, dCause] at h181
    simp [t180, n180, h181, h0, frzL_cause]
  obtain ⟨ok, C⟩ := ckC_ok h0
  rw [if_pos h0]
  rw [h0] at h181
  obtain ⟨Z, hZ⟩ : ∃ Z, Z = List.replicate p.vars.length (0 : Int) := ⟨_, rfl⟩
  have hZ2 : List.replicate p.vars.length (D.int .i64 0) = Z.map dI := by rw [hZ]; simp
  have hmk : mksliceV E 6 (dI p.vars.length) (dI p.vars.length) = some (.imm .exact (Z.map dI)) := by
    have hmb : (p.vars.length : Int) * 9 ≤ 17592186044416 := by omega
    rw [← hZ2]
    simp [mksliceV, maxBytes, hmb]
  simp only [dProb, dInts, dCause] at h181 h192
  simp [t180, n180, h181, h192, frzL_cause, xv_mkslice, hmk]
  obtain ⟨Bf, hBf⟩ : ∃ Bf : Nat → List Int, Bf = fun k => if k = 0 then Z else dlyL (withP p c (k - 1)) := ⟨_, rfl⟩
  have hB0 : Bf 0 = Z := by rw [hBf]; rfl
  have hB1 : ∀ k, Bf (k + 1) = dlyL (withP p c k) := fun k => by rw [hBf]; simp
  have hBl : ∀ k, (Bf k).length = p.vars.length := fun k => by
    cases k with
    | zero => rw [hB0, hZ]; simp
    | succ k => rw [hB1, dlyL_len (withP_small ok C S) (withP_ok ok C)]; rfl
  have hBd : ∀ k n, n ∈ Bf k → 0 ≤ n ∧ n ≤ 1000000000 := fun k n h => by
    cases k with
    | zero => rw [hB0, hZ] at h; have := List.eq_of_mem_replicate h; omega
    | succ k => rw [hB1] at h; exact dlyL_bd (withP_ok ok C) n h
  obtain ⟨Sh, hSh⟩ : ∃ Sh : Nat → List Share, Sh = fun k => shr 0 Z ((List.range k).map fun j => Bf (j + 1)) := ⟨_, rfl⟩
  have hS0 : Sh 0 = [] := by rw [hSh]; simp [shr]
  have hS1 : ∀ k, Sh (k + 1) = Sh k ++ chg ((k : Int) - 1) 0 (Bf k) (Bf (k + 1)) := fun k => by
    rw [hSh]
    simp only [List.range_succ, List.map_append, List.map_cons, List.map_nil]
    rw [shr_app]
    simp only [shr, List.append_nil, List.length_map, List.length_range, Nat.zero_add]
    congr 2
    cases k with
    | zero => simp [hB0]
    | succ k => simp [List.range_succ]
  have hSl : ∀ k, k ≤ 9 → (Sh k).length ≤ 50000 := fun k hk => by
    have := shr_len (m := p.vars.length) (l := (List.range k).map fun j => Bf (j + 1)) (k := 0) (b := Z) (fun x hx => by
      obtain ⟨j, _, rfl⟩ := List.mem_map.1 hx
      rw [hBl]; omega)
    rw [hSh]
    simp only [List.length_map, List.length_range] at this
    have h2 : k * p.vars.length ≤ 9 * 1000 := Nat.mul_le_mul hk (by omega)
    simp only []; omega
  have hSn : sharesL p c = Sh (c.length + 1) := by
    rw [hSh]
    unfold sharesL stages
    rw [← hZ]
    congr 1
    refine List.map_congr_left fun j _ => ?_
    rw [hB1]
  rw [hSn]
  have c8 := C.len
  refine ⟨198, _, rfl, ?_⟩
  intro L hL hcb
  obtain ⟨J, hJ⟩ : ∃ J : Nat → List Obj → Prop, J = fun k hq => ∃ sp0 sp, At hq 0 (.cells (dProb p).cellsL) ∧ At hq 1 (.cells [.imm sp ((Sh k).map dShare)]) ∧ At hq 2 (.cells [dI 0]) ∧ At hq 3 (.cells [.imm sp0 ((Bf k).map dI)]) ∧
    At hq 4 (.cells [.fn 191 [.loc 3 0, .loc 1 0]]) ∧ At hq 5 (L false none) ∧ Room 6 hq sp (Sh k).length 3 := ⟨_, rfl⟩
  have key := i198 p c S ok C 5 J (fun _ => False) (by
    intro k hq hk hj
    rw [hJ] at hj
    obtain ⟨sp0, sp, a0, a1, a2, a3, a4, a5, R⟩ := hj
    have l5 := a5.lt
    have h184 := r184 (withP p c k) (withP_small ok C S)
    have hck : ck (withP p c k) = 0 := by simp [ck, withP_ok ok C]
    unfold resDly at h184
    rw [if_pos hck, ← hB1] at h184
    obtain ⟨q, hqd⟩ : ∃ q, q = withP p c k := ⟨_, rfl⟩
    rw [← hqd] at h184 ⊢
    obtain ⟨t, hp2, e1, e2⟩ := hcb [dI ((k : Int) - 1), dProb q] hq (fun t hp' => t = true ∧ J (k + 1) hp') rfl a5 (by
      obtain ⟨X, hX⟩ : ∃ X, X = Obj.cells (dProb q).cellsL := ⟨_, rfl⟩
      obtain ⟨HQ, hHQ⟩ : ∃ HQ, HQ = (hq ++ [X]).set 5 (L true none) := ⟨_, rfl⟩
      have ln : (hq ++ [X]).length = hq.length + 1 := by simp
      have q0 := (a0.app (r := [X])).ne (j := 5) (x := L true none) (by omega)
      rw [← hHQ] at q0
      have q1 := (a1.app (r := [X])).ne (j := 5) (x := L true none) (by omega)
      rw [← hHQ] at q1
      have q2 := (a2.app (r := [X])).ne (j := 5) (x := L true none) (by omega)
      rw [← hHQ] at q2
      have q3 := (a3.app (r := [X])).ne (j := 5) (x := L true none) (by omega)
      rw [← hHQ] at q3
      have q4 := (a4.app (r := [X])).ne (j := 5) (x := L true none) (by omega)
      rw [← hHQ] at q4
      have q5 : At HQ 5 (L true none) := by rw [hHQ]; exact At.self (by omega)
      have qn : At HQ hq.length X := by rw [hHQ]; exact At.ne (by simp [At]) (by omega)
      have RQ : Room 6 HQ sp (Sh k).length 3 := by
        rcases R with h | ⟨k', h1, h2, h3⟩
        · exact .inl h
        · exact .inr ⟨k', h1, h2, by rw [hHQ]; exact h3.app.ne (by omega)⟩
      have lQ : 6 ≤ HQ.length := by rw [hHQ]; simp; omega
      obtain ⟨d1, hp2, f1, f2, ⟨sp', f3, f4⟩, f5, f6⟩ := s191 (cause := (k : Int) - 1) (now := Bf (k + 1)) (bef := Bf k) (sh := Sh k) (by rw [hBl, hBl]) (by rw [hBl]; omega) (hSl k (by omega)) (hBd (k + 1)) (hBd k) q3 q1 RQ (by omega) (by omega) (by omega) lQ
      rw [← hS1] at f3 f4
      have w0 := f6 0 _ (by omega) (by omega) (by omega) q0
      have w2 := f6 2 _ (by omega) (by omega) (by omega) q2
      have w4 := f6 4 _ (by omega) (by omega) (by omega) q4
      have w5 := f6 5 _ (by omega) (by omega) (by omega) q5
      have z5 := w5.lt
      have fin : J (k + 1) (hp2.set 5 (L false none)) := by
        rw [hJ]
        refine ⟨.none, sp', w0.ne (by omega), f3.ne (by omega), w2.ne (by omega), f2.ne (by omega), w4.ne (by omega), At.self z5, ?_⟩
        rcases f4 with h | ⟨k', h1, h2, h3⟩
        · exact .inl h
        · exact .inr ⟨k', h1, h2, h3.ne (by omega)⟩
      have g5 : (hq ++ [X])[5]? = some (L false none) := a5.app.eq
      simp only [dProb, dInts] at h184 f1
      rw [hX] at hHQ g5 qn
      have qn2 := qn.eq
      rw [hHQ] at f1 qn2
      have q4e := q4.eq
      rw [hHQ] at q4e
      simp only [dProb, cellsL_agg] at f1 qn2 g5 q4e
      simp [setAll, h184, ↓g5, ↓qn2, ↓q4e, f1, w5.eq, fin])
    obtain ⟨rfl, e3⟩ := e2
    exact ⟨true, hp2, e1, fun _ => e3, fun h => by cases h⟩) (hp := [.cells (dProb p).cellsL, .cells [.imm .exact []], .cells [dI 0], .cells [.imm .exact (Z.map dI)], .cells [.fn 191 [.loc 3 0, .loc 1 0]], L false none]) (by
      rw [hJ]
      exact ⟨.exact, .exact, by simp [At], by rw [hS0]; simp [At], by simp [At], by rw [hB0]; simp [At], by simp [At], by simp [At], .inl rfl⟩)
  obtain ⟨d, hp', h1, h2⟩ := key
  rcases h2 with h2 | h2
  rotate_left
  · exact h2.elim
  rw [hJ] at h2
  obtain ⟨sp0, sp, a0, a1, a2, a3, a4, a5, R⟩ := h2
  refine ⟨d, _, h1, .inl ⟨a5, ?_⟩⟩
  obtain ⟨H, hH⟩ : ∃ H, H = hp'.set 5 Obj.dead := ⟨_, rfl⟩
  have b1 := a1.ne (j := 5) (x := Obj.dead) (by omega)
  have b2 := a2.ne (j := 5) (x := Obj.dead) (by omega)
  rw [← hH] at b1 b2
  simp
  rw [← hH]
  have t2 : ∀ x, (H.set 1 x)[2]? = some (.cells [dI 0]) := fun x => (b2.ne (by omega)).eq
  have t3 : ∀ x y, ((H.set 1 x).set 2 y)[1]? = some x := fun x y => (At.ne (At.self b1.lt) (by omega)).eq
  have t4 : ∀ x y, ((H.set 1 x).set 2 y)[2]? = some y := fun x y => (At.self (by rw [List.length_set]; exact b2.lt)).eq
  simp [a1.eq, b1.eq, b2.eq, ↓t2, ↓t3, ↓t4, frzL_share]

theorem cmpL_head {x y : Int} {xs ys : List Int} (h : cmpL (x :: xs) (y :: ys) ≤ 0) : x ≤ y := by
  unfold cmpL cmpI at h
  split at h <;> split at h <;> (try split at h) <;> omega

set_option maxHeartbeats 16000000 in
theorem law189 (h1 : runP E (dL E) 178 [] = some (.bool true)) (p : Prob) (c : List Cause) (hc : c.length ≤ 9223372036854775807) (m n : Nat) (hm : m ≤ 255) (hn : n ≤ 255) :
    runP E (dL E) 189 [dProb p, .imm .none (c.map dCause), .int .u8 m, .int .u8 n] = some (.bool true) := by
  refine runP_T c189 (by simp) ?_
  have h179 := r179 p c hc
  simp only [dProb, dInts, dCause] at h179
  cases hf : fewCB p c with
  | false => simp [t189, n189, h1, h179, hf, frzL_cause]
  | true =>
  obtain ⟨S, M, c4⟩ := fewC_sm hf
  have h181 := r181 p c S M
  simp only [dProb, dInts, dCause] at h181
  by_cases h0 : ckC p c = 0
  rotate_left
  · simp [t189, n189, h1, h179, hf, h181, h0, frzL_cause]
  obtain ⟨ok, C⟩ := ckC_ok h0
  have w := wrap_i64 (n := (c.length : Int) + 1) ⟨by omega, by omega⟩
  have w1 := wrap_i64 (n := (m : Int)) ⟨by omega, by omega⟩
  have w2 := wrap_i64 (n := (n : Int)) ⟨by omega, by omega⟩
  obtain ⟨a, ha⟩ : ∃ a, a = m % (c.length + 1) := ⟨_, rfl⟩
  obtain ⟨b, hb⟩ : ∃ b, b = n % (c.length + 1) := ⟨_, rfl⟩
  have e1 : (m : Int).tmod ((c.length : Int) + 1) = a := by rw [ha]; exact (Int.ofNat_tmod m (c.length + 1)).symm
  have e2 : (n : Int).tmod ((c.length : Int) + 1) = b := by rw [hb]; exact (Int.ofNat_tmod n (c.length + 1)).symm
  have ha' : a < c.length + 1 := by rw [ha]; exact Nat.mod_lt _ (by omega)
  have hb' : b < c.length + 1 := by rw [hb]; exact Nat.mod_lt _ (by omega)
  have nz : ¬ (c.length : Int) + 1 = 0 := by omega
  clear ha hb
  have hW : ∀ k : Nat, k ≤ c.length → runP E (dL E) 183 [dProb p, .imm .none (c.map dCause), dI k] = some (.tup [dProb (withP p c k), dI 0]) := fun k hk => by
    rw [r183 p c k S M, resWith, if_pos h0, if_pos ⟨by omega, by omega⟩, Int.toNat_natCast]
  have hS : ∀ k : Nat, runP E (dL E) 131 [dProb (withP p c k)] = some (.tup [dCert (certS (solveS (withP p c k))), dI 0]) := fun k => by
    rw [r131 _ (withP_small ok C S), resSolve, if_pos (by simp [ck, withP_ok ok C])]
  have hV : ∀ k : Nat, ∃ v0 v1 v2 v3, (certS (solveS (withP p c k))).value = [v0, v1, v2, v3] := fun k => by
    obtain ⟨_, e, _⟩ := solve_best (withP_small ok C S (k := k)) (withP_ok ok C)
    have : (certS (solveS (withP p c k))).value = (solveS (withP p c k)).value := rfl
    rw [this, e]; exact ⟨_, _, _, _, rfl⟩
  have hC : ∀ x y : Nat, x ≤ y → cmpL (certS (solveS (withP p c x))).value (certS (solveS (withP p c y))).value ≤ 0 := fun x y h =>
    roomy_solve (withP_roomy ok C h) (withP_small ok C S) (withP_small ok C S) (withP_ok ok C) (withP_ok ok C)
  have fin : ∀ x y : Nat, x ≤ y → y ≤ c.length → ∃ (X Y : Prob) (CX CY : Cert) (x0 x1 x2 x3 y0 y1 y2 y3 : Int), CX.value = [x0, x1, x2, x3] ∧ CY.value = [y0, y1, y2, y3] ∧ x0 ≤ y0 ∧ cmpL CX.value CY.value ≤ 0 ∧
      runP E (dL E) 183 [dProb p, .imm .none (c.map dCause), dI x] = some (.tup [dProb X, dI 0]) ∧ runP E (dL E) 183 [dProb p, .imm .none (c.map dCause), dI y] = some (.tup [dProb Y, dI 0]) ∧
      runP E (dL E) 131 [dProb X] = some (.tup [dCert CX, dI 0]) ∧ runP E (dL E) 131 [dProb Y] = some (.tup [dCert CY, dI 0]) ∧ runP E (dL E) 30 [dInts CX.value, dInts CY.value] = some (.tup [dI (cmpL CX.value CY.value), dI 0]) := fun x y h1 h2 => by
    obtain ⟨x0, x1, x2, x3, hx⟩ := hV x
    obtain ⟨y0, y1, y2, y3, hy⟩ := hV y
    have hcm := hC x y h1
    refine ⟨_, _, _, _, x0, x1, x2, x3, y0, y1, y2, y3, hx, hy, ?_, hcm, hW x (by omega), hW y h2, hS x, hS y, ?_⟩
    · rw [hx, hy] at hcm; exact cmpL_head hcm
    · rw [r30 _ _ (by rw [hx]; simp) (by rw [hy]; simp), resC, if_pos (by rw [hx, hy]; rfl)]
  by_cases hab : b < a
  · obtain ⟨X, Y, CX, CY, x0, x1, x2, x3, y0, y1, y2, y3, hx, hy, h0', hcm, f1, f2, f3, f4, f5⟩ := fin b a (by omega) (by omega)
    rw [hx, hy] at f5 hcm
    simp only [dProb, dInts, dCause, dCert, hx, hy] at f1 f2 f3 f4 f5
    obtain ⟨v, hv⟩ : ∃ v, v = cmpL [x0, x1, x2, x3] [y0, y1, y2, y3] := ⟨_, rfl⟩
    rw [← hv] at f5 hcm
    simp at f3 f4 f5
    have hab' : (b : Int) < a := by omega
    simp [t189, n189, h1, h179, hf, h181, h0, frzL_cause, frzL_leaf, convD, w, w1, w2, e1, e2, nz, hab', f1, f2, f3, f4, f5, hcm, h0']
  · obtain ⟨X, Y, CX, CY, x0, x1, x2, x3, y0, y1, y2, y3, hx, hy, h0', hcm, f1, f2, f3, f4, f5⟩ := fin a b (by omega) (by omega)
    rw [hx, hy] at f5 hcm
    simp only [dProb, dInts, dCause, dCert, hx, hy] at f1 f2 f3 f4 f5
    obtain ⟨v, hv⟩ : ∃ v, v = cmpL [x0, x1, x2, x3] [y0, y1, y2, y3] := ⟨_, rfl⟩
    rw [← hv] at f5 hcm
    simp at f3 f4 f5
    have hab' : ¬ (b : Int) < a := by omega
    simp [t189, n189, h1, h179, hf, h181, h0, frzL_cause, frzL_leaf, convD, w, w1, w2, e1, e2, nz, hab', f1, f2, f3, f4, f5, hcm, h0']

theorem ty_cause {x : D} (h : Typed E 39 x) : ∃ c, x = dCause c ∧ True := by
  obtain ⟨ds, rfl, h1⟩ := typed_agg h rfl
  obtain ⟨hl, hf⟩ := ty_struct h1 (fs := [(0, 2), (1, 9)]) rfl
  have hl2 : ds.length = 2 := hl
  match ds, hl2 with
  | [x, y], _ =>
    obtain ⟨n, h2, _⟩ := ty_int (hf 0 _ rfl) rfl
    obtain ⟨els, h3, _, h4⟩ := ty_slice (hf 1 _ rfl) (e := 6) rfl
    simp [E, tyTab] at h2 h3
    subst h2 h3
    obtain ⟨l, rfl, _⟩ := list_of (f := dInts) (R := fun _ => True) (els := els) fun x hx => by
      obtain ⟨l, h5, _⟩ := ty_ints (typed_one (h4 x hx) rfl) rfl
      simp at h5; exact ⟨l, h5, trivial⟩
    exact ⟨⟨n, l⟩, rfl, trivial⟩
theorem ty_causes {x : D} (h : Typed E 38 x) : ∃ c : List Cause, x = .imm .none (c.map dCause) ∧ c.length ≤ 9223372036854775807 := by
  obtain ⟨els, h3, hl, he⟩ := ty_slice (e := 39) (typed_one h rfl) rfl
  simp only [List.cons.injEq, and_true] at h3
  obtain ⟨c, h4, _⟩ := list_of (f := dCause) (R := fun _ => True) (els := els) fun y hy => ty_cause (he y hy)
  subst h4
  have : Go.maxLen ≤ 9223372036854775807 := by decide
  exact ⟨c, h3, by simp at hl; omega⟩

theorem causesMore (h1 : runP E (dL E) 178 [] = some (.bool true)) : ∀ xs, TypedL E [0, 38, 13, 13] xs → ∃ n, runP E (dC E n) 189 xs = some (.bool true) := by
  intro xs h
  match xs, h with
  | [x, y, z, w], ⟨t1, t2, t3, t4, _⟩ =>
    obtain ⟨p, rfl, _⟩ := ty_prob t1
    obtain ⟨c, rfl, hc⟩ := ty_causes t2
    obtain ⟨m, rfl, hm⟩ := ty_u8 t3 rfl
    obtain ⟨n, rfl, hn⟩ := ty_u8 t4 rfl
    exact runP_ex (law189 h1 p c hc m n hm hn)
  | [], h => exact h.elim
  | [_], h => exact h.2.elim
  | [_, _], h => exact h.2.2.elim
  | [_, _, _], h => exact h.2.2.2.elim
  | _ :: _ :: _ :: _ :: _ :: _, h => exact h.2.2.2.2.elim

end Dv
