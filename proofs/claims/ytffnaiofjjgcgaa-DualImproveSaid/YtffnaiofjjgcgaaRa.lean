/- Texts that a proof of this claim uses, joined: Lw.R20, Lw.W71, Lw.W72, Lw.W73. -/
import Derived.Test.YtffnaiofjjgcgaaWa
import Derived.Test.YtffnaiofjjgcgaaWz
import Derived.Test.YtffnaiofjjgcgaaWq
import Derived.Test.YtffnaiofjjgcgaaWd
set_option linter.all false
/- Walks: SameInts. -/
namespace Dv
attribute [local simp] wT_skip wK wT_ret wT_exit wR wRp wT_seq wC wT_block rTS_nil rTS_asg rTS_eff rTS_effk ob_some obP_some iteD_b condP_b xv_v xv_c xv_ite xv_bin_tt xv_bin_tc xv_bin_ct xv_bin_cc xv_un_t xv_conv_t xv_load xv_len xv_faddr xv_field xv_iaddr_tt xv_iaddr_tc xv_index_tt xv_index_tc xv_lookup_tt xv_max_tt xv_max_tc xv_max_ct xv_min_tt xv_min_tc xv_min_ct xv_slice_lo_t xv_slice_lo_c xv_slice_hi_t xv_slice_all xv_call xv_bslice bsliceV xv_build buildV xv_mkfn zeroE fillE buildD fillD List.replicate xvs_nil xvs_cons callV_fn frz_bool frz_int frz_imm frz_agg frz_tup frz_fn frz_iptr frzL_nil frzL_one frzL_dI frzL_cell frzL_use frzL_ints frzL_choice frzL_var depth dCell dUse dInts dChoice dVar dProb tStart addO Ret flat_dI flat_rep chunk_dI
 binD_add binD_sub binD_mul binD_eql binD_neq binD_lss binD_leq binD_gtr binD_geq binD_quo binD_rem binD_beql binD_bneq binD_aeql binD_aneq unD_not unD_neg lenD_imm lenD_sl lenD_str readO_cells readO_frozen loadD_loc loadD_iptr iaddrD_imm iaddrD_sl iaddrD_loc faddrD_loc faddrD_iptr fieldD_agg indexD_agg indexD_str cellsL_bool stor_bool atom_bool cellsL_int stor_int atom_int cellsL_str stor_str atom_str cellsL_imm stor_imm atom_imm cellsL_sl stor_sl atom_sl cellsL_loc stor_loc atom_loc cellsL_iptr stor_iptr atom_iptr cellsL_map stor_map atom_map cellsL_fn stor_fn atom_fn cellsL_agg stor_agg cellsL_nilfn stor_nilfn atom_nilfn cellsL_nilp stor_nilp atom_nilp takeC_z takeC_s ofCells_ag ofCells_one ag_bool ag_int ag_str ag_slice ag_struct ag_arr ag_map ag_ptr ag_func gOf_t gOf_c gOf_f kv_cons putE_some putE_none oneRes_one oneRes_two oneRes_three getAll_nil getAll_v getAll_c maxiD_two miniD_two extV_tup xv_ext stepOp_box stepOp_alloc stepOp_store writeO_cells storeD_loc setCells_nil setCells_cons stepOp_mkmap stepOp_mapset stepOp_call1 stepOp_call2 stepOp_app2 stepOp_app1 stepOp_bslice stepOp_mkslice mapO_map lookupD_some lookupD_ok mapsetD_some keyOk_agg kindsL_nil kindsL_bool kindsL_int eqL_nil eqL_cons atomEq_bool atomEq_int frz_sl tokO_tok app0_step app0_exact app0_tok frz_loc oneRes_nil listOf_imm
 ty_0 ty_1 ty_2 ty_3 ty_4 ty_5 ty_6 ty_7 ty_8 ty_9 ty_10 ty_11 ty_12 ty_13 ty_14 ty_15 ty_16 ty_17 ty_18 ty_19 ty_20 ty_21 ty_22 ty_23 ty_24 ty_25 ty_26 ty_27
attribute [local congr] wT_congr ob_congr obP_congr iteD_congr condP_congr

set_option maxHeartbeats 4000000 in
theorem r20 (a b : List Int) (hl : a.length ≤ 1000000) : runP E (dL E) 20 [dInts a, dInts b] = some (.bool (decide (a = b))) := by
  refine runP_T c20 (by simp) ?_
  generalize hB : decide (a = b) = B
  have hBf : a ≠ b → B = false := by intro h; rw [← hB]; simp [h]
  have hBt : a = b → B = true := by intro h; rw [← hB]; simp [h]
  simp [t20, n20]
  by_cases h : a.length = b.length
  rotate_left
  · have hi : ¬ (a.length : Int) = b.length := by omega
    simp [h, hi, hBf (fun e => h (by rw [e]))]
  simp [h]
  obtain ⟨P, hP⟩ : ∃ P : Nat → Prop, P = fun i => ∀ (h : i < a.length) (h' : i < b.length), a[i] = b[i] := ⟨_, rfl⟩
  refine wT_all a.length P
    (fun i env hp => ∃ (x4 x5 x6 : D) , env = [dInts a, dInts b, .bool false, dI i, x4, x5, x6])
    ⟨_, _, _, rfl⟩ ?_ ?_
  · rintro i env hp hi ⟨x4, x5, x6, rfl⟩ hall
    have hi' : i < b.length := by omega
    by_cases k1 : a[i] = b[i]
    · have hPi : P i := by rw [hP]; exact fun _ _ => k1
      simp [hi, hi', k1, wrap_up hi (by omega), hPi]
    · have hB' := hBf (fun e => k1 (by subst e; rfl))
      simp [hi, hi', k1, hB']
  · rintro env hp ⟨x4, x5, x6, rfl⟩ hall
    rw [hP] at hall
    have hab : a = b := List.ext_getElem h fun i h1 h2 => hall i h1 h1 h2
    simp [hBt hab]

end Dv

/- Better multipliers: what is meant. -/
namespace Dv

/-- the uses of the best choice -/
def usesB (p : Prob) (b : List Int) (g : Int) (m : List (List Int)) (i : Nat) (v : Var) : List Use := (chOf (bestK (costOf p m v 1) (candL b g i 0 v.choices))).uses

def itA (leaves : List Int) (us : List Use) : List (Int × Use) := us.flatMap fun u => leaves.map fun leaf => (leaf, u)
def itR (leaves : List Int) (us : List Use) : List (Int × Use) := leaves.flatMap fun leaf => us.map fun u => (leaf, u)

def itemsA (p : Prob) (b : List Int) (g : Int) (m : List (List Int)) : Nat → List Var → List (Int × Use)
  | _, [] => []
  | i, v :: vs => itA v.leaves (usesB p b g m i v) ++ itemsA p b g m (i + 1) vs
def itemsR (p : Prob) (b : List Int) (g : Int) (m : List (List Int)) : Nat → List Var → List (Int × Use)
  | _, [] => []
  | i, v :: vs => itR v.leaves (usesB p b g m i v) ++ itemsR p b g m (i + 1) vs

def subR (a c : List Int) : List Int := List.zipWith (fun x y => x - y) a c
/-- the multipliers without the capacities -/
def row0 (p : Prob) (m : List (List Int)) : List (List Int) := List.zipWith subR m p.capacity

def clampI (n : Int) : Int := mn (mx n 0) 65536

def impL (p : Prob) (b : List Int) (g : Int) (m : List (List Int)) : List (List Int) := ((itemsA p b g m 0 p.vars).foldl (addI p) (row0 p m)).map fun r => r.map clampI

/-- the uses of the best choices that count in a leaf -/
def usesK (p : Prob) (b : List Int) (g : Int) (m : List (List Int)) (k : Int) : Nat → List Var → List Use
  | _, [] => []
  | i, v :: vs => (if v.leaves.contains k then usesB p b g m i v else []) ++ usesK p b g m k (i + 1) vs

theorem one_A {u : Use} : ∀ {ls : List Int}, (ls.flatMap fun leaf => [u].map fun u => (leaf, u)) = ls.map fun leaf => (leaf, u)
  | [] => rfl
  | a :: l => by rw [List.flatMap_cons, one_A]; rfl
theorem filter_A {k : Int} {ls : List Int} (hn : ls.Nodup) : ∀ {us : List Use}, ((itA ls us).filter fun x => x.1 == k).map (·.2) = if ls.contains k then us else []
  | [] => by simp [itA]
  | u :: us => by
    have ih := filter_A (k := k) hn (us := us)
    simp only [itA, List.flatMap_cons, List.filter_append, List.map_append] at ih ⊢
    rw [ih]
    have h1 := filter_leaf (k := k) (us := [u]) hn
    have e : (ls.flatMap fun leaf => [u].map fun u => (leaf, u)) = ls.map fun leaf => (leaf, u) := one_A
    rw [e] at h1
    rw [h1]
    split <;> rfl
theorem filter_R {k : Int} {ls : List Int} (hn : ls.Nodup) {us : List Use} : ((itR ls us).filter fun x => x.1 == k).map (·.2) = if ls.contains k then us else [] := filter_leaf hn

theorem items_A {p : Prob} {b : List Int} {g : Int} {m : List (List Int)} {k : Int} : ∀ {vs : List Var} {i : Nat}, (∀ v, v ∈ vs → v.leaves.Nodup) → ((itemsA p b g m i vs).filter fun x => x.1 == k).map (·.2) = usesK p b g m k i vs
  | [], _, _ => rfl
  | v :: vs, i, h => by simp only [itemsA, List.filter_append, List.map_append, filter_A (h v (by simp)), items_A (vs := vs) (i := i + 1) fun w hw => h w (by simp [hw]), usesK]
theorem items_R {p : Prob} {b : List Int} {g : Int} {m : List (List Int)} {k : Int} : ∀ {vs : List Var} {i : Nat}, (∀ v, v ∈ vs → v.leaves.Nodup) → ((itemsR p b g m i vs).filter fun x => x.1 == k).map (·.2) = usesK p b g m k i vs
  | [], _, _ => rfl
  | v :: vs, i, h => by simp only [itemsR, List.filter_append, List.map_append, filter_R (h v (by simp)), items_R (vs := vs) (i := i + 1) fun w hw => h w (by simp [hw]), usesK]

theorem usesB_ok {p : Prob} {b : List Int} {g : Int} {m : List (List Int)} {i : Nat} {v : Var} (okv : OkVar p v) : ∀ u, u ∈ usesB p b g m i v → OkUse p u := by
  intro u hu
  unfold usesB at hu
  cases hb : bestK (costOf p m v 1) (candL b g i 0 v.choices) with
  | none => rw [hb] at hu; simp [chOf] at hu
  | some y =>
    obtain ⟨y, n⟩ := y
    rw [hb] at hu
    exact (okv.choices _ (bestK_mem hb).2.1).uses u hu

theorem itemsA_ok {p : Prob} {b : List Int} {g : Int} {m : List (List Int)} : ∀ {vs : List Var} {i : Nat}, (∀ v, v ∈ vs → OkVar p v) → ∀ x, x ∈ itemsA p b g m i vs → ItemOk p x
  | [], _, _, x, h => by simp [itemsA] at h
  | v :: vs, i, hv, x, h => by
    simp only [itemsA, List.mem_append] at h
    rcases h with h | h
    · simp only [itA, List.mem_flatMap, List.mem_map] at h
      obtain ⟨u, hu, leaf, hl, rfl⟩ := h
      have okv := hv v (by simp)
      have h1 := okv.leaves leaf hl
      unfold wi at h1
      exact ⟨by simp only; omega, (usesB_ok okv u hu).known⟩
    · exact itemsA_ok (fun w hw => hv w (by simp [hw])) x h
theorem itemsR_ok {p : Prob} {b : List Int} {g : Int} {m : List (List Int)} : ∀ {vs : List Var} {i : Nat}, (∀ v, v ∈ vs → OkVar p v) → ∀ x, x ∈ itemsR p b g m i vs → ItemOk p x
  | [], _, _, x, h => by simp [itemsR] at h
  | v :: vs, i, hv, x, h => by
    simp only [itemsR, List.mem_append] at h
    rcases h with h | h
    · simp only [itR, List.mem_flatMap, List.mem_map] at h
      obtain ⟨leaf, hl, u, hu, rfl⟩ := h
      have okv := hv v (by simp)
      have h1 := okv.leaves leaf hl
      unfold wi at h1
      exact ⟨by simp only; omega, (usesB_ok okv u hu).known⟩
    · exact itemsR_ok (fun w hw => hv w (by simp [hw])) x h

theorem row0_len {p : Prob} {m : List (List Int)} (M : OkM p m) : (row0 p m).length = p.capacity.length := by
  simp [row0, M.len]
theorem row0_get {p : Prob} {m : List (List Int)} {k : Nat} (h : k < (row0 p m).length) (h1 : k < m.length) (h2 : k < p.capacity.length) : (row0 p m)[k] = subR m[k] p.capacity[k] := by simp [row0]
theorem addI_len {p : Prob} : ∀ {l : List (Int × Use)} {rows : List (List Int)}, (l.foldl (addI p) rows).length = rows.length
  | [], _ => rfl
  | x :: l, rows => by rw [List.foldl_cons, addI_len]; simp [addI]
theorem addI_wid {p : Prob} {n : Nat} : ∀ {l : List (Int × Use)} {rows : List (List Int)}, (∀ x, x ∈ l → 0 ≤ x.1 ∧ x.1.toNat < rows.length) → (∀ r, r ∈ rows → r.length = n) → ∀ r, r ∈ l.foldl (addI p) rows → r.length = n
  | [], _, _, h, r, hr => h r hr
  | x :: l, rows, hx, h, r, hr => by
    rw [List.foldl_cons] at hr
    have hlt := (hx x (by simp)).2
    refine addI_wid (l := l) (fun y hy => by have := hx y (by simp [hy]); simp only [addI, List.length_set]; exact this) (fun r hr => ?_) r hr
    rcases List.mem_or_eq_of_mem_set hr with hr | hr
    · exact h r hr
    · subst hr
      rw [addU_len, List.getD_eq_getElem?_getD, List.getElem?_eq_getElem hlt, Option.getD_some]
      exact h _ (List.getElem_mem hlt)

/-- a row of the sums -/
theorem sumA_get {p : Prob} {b : List Int} {g : Int} {m : List (List Int)} (ok : OkP p) (M : OkM p m) {k : Nat} (h : k < (row0 p m).length) :
    ((itemsA p b g m 0 p.vars).foldl (addI p) (row0 p m))[k]? = some ((usesK p b g m k 0 p.vars).foldl (addU p) (row0 p m)[k]) := by
  rw [addI_row (fun x hx => by
    have := (itemsA_ok (fun v hv => ok.vars v hv) x hx).1
    rw [row0_len M]; exact this) h, items_A fun v hv => leaves_nodup (ok.vars v hv).incr]
theorem sumR_get {p : Prob} {b : List Int} {g : Int} {m : List (List Int)} (ok : OkP p) (M : OkM p m) {k : Nat} (h : k < (row0 p m).length) :
    ((itemsR p b g m 0 p.vars).foldl (addI p) (row0 p m))[k]? = some ((usesK p b g m k 0 p.vars).foldl (addU p) (row0 p m)[k]) := by
  rw [addI_row (fun x hx => by
    have := (itemsR_ok (fun v hv => ok.vars v hv) x hx).1
    rw [row0_len M]; exact this) h, items_R fun v hv => leaves_nodup (ok.vars v hv).incr]
theorem sum_AR {p : Prob} {b : List Int} {g : Int} {m : List (List Int)} (ok : OkP p) (M : OkM p m) : (itemsR p b g m 0 p.vars).foldl (addI p) (row0 p m) = (itemsA p b g m 0 p.vars).foldl (addI p) (row0 p m) := by
  refine List.ext_getElem? fun k => ?_
  by_cases h : k < (row0 p m).length
  · rw [sumA_get ok M h, sumR_get ok M h]
  · rw [List.getElem?_eq_none (by rw [addI_len]; omega), List.getElem?_eq_none (by rw [addI_len]; omega)]

open Classical in
noncomputable def resI (p : Prob) (b : List Int) (g : Int) (m : List (List Int)) : D := if dk p b m = 0 then .tup [.imm .none ((impL p b g m).map dInts), dI 0] else .tup [.imm .none [], dI (dk p b m)]

/-! rows in the heap, each at a place of its own -/

/-- the head of a row -/
def hd (n id : Nat) : D := if n = 0 then .imm .exact [] else .sl id 0 n 1 false true
structure RowsI (n : Nat) (hp : List Obj) (ids : List Nat) (rows : List (List Int)) : Prop where
  len : ids.length = rows.length
  wid : ∀ r, r ∈ rows → r.length = n
  row : n ≠ 0 → ∀ (j : Nat) (h : j < rows.length) (h' : j < ids.length), hp[ids[j]]? = some (.cells (rows[j].map dI))
  dis : n ≠ 0 → ids.Nodup

theorem RowsI.app {n : Nat} {hp r : List Obj} {ids : List Nat} {rows : List (List Int)} (R : RowsI n hp ids rows) : RowsI n (hp ++ r) ids rows :=
  ⟨R.len, R.wid, fun h0 j h h' => get_app (R.row h0 j h h'), R.dis⟩
theorem RowsI.other {n : Nat} {hp : List Obj} {ids : List Nat} {rows : List (List Int)} {k : Nat} {o : Obj} (R : RowsI n hp ids rows) (h1 : n ≠ 0 → k ∉ ids) : RowsI n (hp.set k o) ids rows :=
  ⟨R.len, R.wid, fun h0 j h h' => get_ne (R.row h0 j h h') fun e => h1 h0 (by rw [e]; exact List.getElem_mem h'), R.dis⟩
theorem RowsI.upd {n : Nat} {hp : List Obj} {ids : List Nat} {rows : List (List Int)} (R : RowsI n hp ids rows) {k : Nat} (h : k < rows.length) (h' : k < ids.length) {r : List Int} (hr : r.length = n) :
    RowsI n (hp.set ids[k] (.cells (r.map dI))) ids (rows.set k r) := by
  refine ⟨by rw [List.length_set]; exact R.len, fun x hx => ?_, fun h0 j hj hj' => ?_, R.dis⟩
  · rcases List.mem_or_eq_of_mem_set hx with hx | hx
    · exact R.wid x hx
    · rw [hx]; exact hr
  · rw [List.length_set] at hj
    by_cases e : k = j
    · subst e
      rw [get_set (lt_get (R.row h0 k h h'))]; simp
    · rw [get_ne (R.row h0 j hj hj') (fun he => e ((List.getElem_inj (R.dis h0)).1 he)), List.getElem_set_ne e]
theorem RowsI.snoc {n : Nat} {hp : List Obj} {ids : List Nat} {rows : List (List Int)} (R : RowsI n hp ids rows) {id : Nat} {r : List Int} (hr : r.length = n) (ha : n ≠ 0 → hp[id]? = some (.cells (r.map dI)) ∧ id ∉ ids) :
    RowsI n hp (ids ++ [id]) (rows ++ [r]) := by
  refine ⟨by simp [R.len], fun x hx => ?_, fun h0 j hj hj' => ?_, fun h0 => ?_⟩
  · rcases List.mem_append.1 hx with hx | hx
    · exact R.wid x hx
    · rw [List.mem_singleton.1 hx]; exact hr
  · by_cases e : j < rows.length
    · rw [List.getElem_append_left (by rw [R.len]; exact e), List.getElem_append_left e]
      exact R.row h0 j e (by rw [R.len]; exact e)
    · have hl := R.len
      simp only [List.length_append, List.length_singleton] at hj
      have e1 : j = rows.length := by omega
      subst e1
      rw [List.getElem_append_right (by omega), List.getElem_append_right (Nat.le_refl _)]
      simp only [Nat.sub_self, hl, List.getElem_cons_zero]
      exact (ha h0).1
  · rw [List.nodup_append]
    exact ⟨R.dis h0, by simp, fun a h1 b h2 e => (ha h0).2 (by rw [List.mem_singleton.1 h2] at e; rw [← e]; exact h1)⟩
theorem frzL_I {n m : Nat} {hp : List Obj} : ∀ {ids : List Nat} {rows : List (List Int)}, RowsI m hp ids rows → frzL (frz hp (n + 2)) (ids.map (hd m)) = some (rows.map dInts)
  | [], [], _ => rfl
  | [], _ :: _, R => by have := R.len; simp at this
  | _ :: _, [], R => by have := R.len; simp at this
  | id :: ids, r :: rows, R => by
    have R' : RowsI m hp ids rows := ⟨by have := R.len; simpa using this, fun x hx => R.wid x (by simp [hx]), fun h0 j h h' => by
      have := R.row h0 (j + 1) (by simp; omega) (by simp; omega)
      simpa using this, fun h0 => (List.nodup_cons.1 (R.dis h0)).2⟩
    rw [List.map_cons, frzL_one, frzL_I R']
    have hw := R.wid r (by simp)
    unfold hd
    by_cases h0 : m = 0
    · have : r = [] := List.eq_nil_of_length_eq_zero (by omega)
      subst this
      rw [if_pos h0, frz_imm]; rfl
    · have h1 := R.row h0 0 (by simp) (by simp)
      simp only [List.getElem_cons_zero] at h1
      rw [if_neg h0, frz_sl, h1]
      simp only [readO_cells, ob_some, List.drop_zero, ← hw, chunk_dI, frzL_dI, Option.map_some, List.map_cons]
theorem cellsL_hd {n id : Nat} : (hd n id).cellsL = [hd n id] := by unfold hd; split <;> rfl
theorem stor_hd {n id : Nat} : (hd n id).storable = true := by unfold hd; split <;> rfl
theorem fits_hd {n : Nat} {ids : List Nat} : fitsE 1 (ids.map (hd n)) = true := by
  unfold fitsE
  rw [List.all_eq_true]
  intro d hd'
  obtain ⟨id, _, rfl⟩ := List.mem_map.1 hd'
  simp [stor_hd, cellsL_hd]

end Dv

/- Walks: whether multipliers are the same. -/
namespace Dv
attribute [local simp] wT_skip wK wT_ret wT_exit wR wRp wT_seq wC wT_block rTS_nil rTS_asg rTS_eff rTS_effk ob_some obP_some iteD_b condP_b xv_v xv_c xv_ite xv_bin_tt xv_bin_tc xv_bin_ct xv_bin_cc xv_un_t xv_conv_t xv_load xv_len xv_faddr xv_field xv_iaddr_tt xv_iaddr_tc xv_index_tt xv_index_tc xv_lookup_tt xv_max_tt xv_max_tc xv_max_ct xv_min_tt xv_min_tc xv_min_ct xv_slice_lo_t xv_slice_lo_c xv_slice_hi_t xv_slice_all xv_call xv_bslice bsliceV xv_build buildV xv_mkfn zeroE fillE buildD fillD List.replicate xvs_nil xvs_cons callV_fn frz_bool frz_int frz_imm frz_agg frz_tup frz_fn frz_iptr frzL_nil frzL_one frzL_dI frzL_cell frzL_use frzL_ints frzL_choice frzL_var depth dCell dUse dInts dChoice dVar dProb tStart addO Ret flat_dI flat_rep chunk_dI
 binD_add binD_sub binD_mul binD_eql binD_neq binD_lss binD_leq binD_gtr binD_geq binD_quo binD_rem binD_beql binD_bneq binD_aeql binD_aneq unD_not unD_neg lenD_imm lenD_sl lenD_str readO_cells readO_frozen loadD_loc loadD_iptr iaddrD_imm iaddrD_sl iaddrD_loc faddrD_loc faddrD_iptr fieldD_agg indexD_agg indexD_str cellsL_bool stor_bool atom_bool cellsL_int stor_int atom_int cellsL_str stor_str atom_str cellsL_imm stor_imm atom_imm cellsL_sl stor_sl atom_sl cellsL_loc stor_loc atom_loc cellsL_iptr stor_iptr atom_iptr cellsL_map stor_map atom_map cellsL_fn stor_fn atom_fn cellsL_agg stor_agg cellsL_nilfn stor_nilfn atom_nilfn cellsL_nilp stor_nilp atom_nilp takeC_z takeC_s ofCells_ag ofCells_one ag_bool ag_int ag_str ag_slice ag_struct ag_arr ag_map ag_ptr ag_func gOf_t gOf_c gOf_f kv_cons putE_some putE_none oneRes_one oneRes_two oneRes_three getAll_nil getAll_v getAll_c maxiD_two miniD_two extV_tup xv_ext stepOp_box stepOp_alloc stepOp_store writeO_cells storeD_loc setCells_nil setCells_cons stepOp_mkmap stepOp_mapset stepOp_call1 stepOp_call2 stepOp_app2 stepOp_app1 stepOp_bslice stepOp_mkslice mapO_map lookupD_some lookupD_ok mapsetD_some keyOk_agg kindsL_nil kindsL_bool kindsL_int eqL_nil eqL_cons atomEq_bool atomEq_int frz_sl tokO_tok app0_step app0_exact app0_tok frz_loc oneRes_nil listOf_imm
 ty_0 ty_1 ty_2 ty_3 ty_4 ty_5 ty_6 ty_7 ty_8 ty_9 ty_10 ty_11 ty_12 ty_13 ty_14 ty_15 ty_16 ty_17 ty_18 ty_19 ty_20 ty_21 ty_22 ty_23 ty_24 ty_25 ty_26 ty_27
attribute [local congr] wT_congr ob_congr obP_congr iteD_congr condP_congr

set_option maxHeartbeats 4000000 in
theorem r46 (a b : List (List Int)) (hl : a.length ≤ 1000000) (ha : ∀ x, x ∈ a → x.length ≤ 1000000) : runP E (dL E) 46 [.imm .none (a.map dInts), .imm .none (b.map dInts)] = some (.bool (decide (a = b))) := by
  refine runP_T c46 (by simp) ?_
  generalize hB : decide (a = b) = B
  have hBf : a ≠ b → B = false := by intro h; rw [← hB]; simp [h]
  have hBt : a = b → B = true := by intro h; rw [← hB]; simp [h]
  simp [t46, n46]
  by_cases h : a.length = b.length
  rotate_left
  · have hi : ¬ (a.length : Int) = b.length := by omega
    simp [h, hi, hBf (fun e => h (by rw [e]))]
  have hi : (a.length : Int) = b.length := by omega
  simp [h]
  obtain ⟨P, hP⟩ : ∃ P : Nat → Prop, P = fun i => ∀ (h : i < a.length) (h' : i < b.length), a[i] = b[i] := ⟨_, rfl⟩
  refine wT_all a.length P
    (fun i env hp => ∃ (x4 x5 x6 : D), env = [.imm .none (a.map dInts), .imm .none (b.map dInts), .bool false, dI i, x4, x5, x6])
    ⟨_, _, _, rfl⟩ ?_ ?_
  · rintro i env hp hi ⟨x4, x5, x6, rfl⟩ hall
    have hi' : i < b.length := by omega
    have h5 := r20 a[i] b[i] (ha _ (List.getElem_mem hi))
    simp only [dInts] at h5
    by_cases k1 : a[i] = b[i]
    · have hPi : P i := by rw [hP]; exact fun _ _ => k1
      rw [k1] at h5
      simp only [decide_true] at h5
      simp [hi, hi', h5, k1, wrap_up hi (by omega), hPi]
    · have hB' := hBf (fun e => k1 (by subst e; rfl))
      simp [hi, hi', h5, k1, hB']
  · rintro env hp ⟨x4, x5, x6, rfl⟩ hall
    rw [hP] at hall
    have hab : a = b := List.ext_getElem h fun i h1 h2 => hall i h1 h1 h2
    simp [hBt hab]

end Dv

/- Walks: better multipliers. -/
namespace Dv
attribute [local simp] wT_skip wK wT_ret wT_exit wR wRp wT_seq wC wT_block rTS_nil rTS_asg rTS_eff rTS_effk ob_some obP_some iteD_b condP_b xv_v xv_c xv_ite xv_bin_tt xv_bin_tc xv_bin_ct xv_bin_cc xv_un_t xv_conv_t xv_load xv_len xv_faddr xv_field xv_iaddr_tt xv_iaddr_tc xv_index_tt xv_index_tc xv_lookup_tt xv_max_tt xv_max_tc xv_max_ct xv_min_tt xv_min_tc xv_min_ct xv_slice_lo_t xv_slice_lo_c xv_slice_hi_t xv_slice_all xv_call xv_bslice bsliceV xv_build buildV xv_mkfn zeroE fillE buildD fillD List.replicate xvs_nil xvs_cons callV_fn frz_bool frz_int frz_imm frz_agg frz_tup frz_fn frz_iptr frzL_nil frzL_one frzL_dI frzL_cell frzL_use frzL_ints frzL_choice frzL_var depth dCell dUse dInts dChoice dVar dProb tStart addO Ret flat_dI flat_rep chunk_dI
 binD_add binD_sub binD_mul binD_eql binD_neq binD_lss binD_leq binD_gtr binD_geq binD_quo binD_rem binD_beql binD_bneq binD_aeql binD_aneq unD_not unD_neg lenD_imm lenD_sl lenD_str readO_cells readO_frozen loadD_loc loadD_iptr iaddrD_imm iaddrD_sl iaddrD_loc faddrD_loc faddrD_iptr fieldD_agg indexD_agg indexD_str cellsL_bool stor_bool atom_bool cellsL_int stor_int atom_int cellsL_str stor_str atom_str cellsL_imm stor_imm atom_imm cellsL_sl stor_sl atom_sl cellsL_loc stor_loc atom_loc cellsL_iptr stor_iptr atom_iptr cellsL_map stor_map atom_map cellsL_fn stor_fn atom_fn cellsL_agg stor_agg cellsL_nilfn stor_nilfn atom_nilfn cellsL_nilp stor_nilp atom_nilp takeC_z takeC_s ofCells_ag ofCells_one ag_bool ag_int ag_str ag_slice ag_struct ag_arr ag_map ag_ptr ag_func gOf_t gOf_c gOf_f kv_cons putE_some putE_none oneRes_one oneRes_two oneRes_three getAll_nil getAll_v getAll_c maxiD_two miniD_two extV_tup xv_ext stepOp_box stepOp_alloc stepOp_store writeO_cells storeD_loc setCells_nil setCells_cons stepOp_mkmap stepOp_mapset stepOp_call1 stepOp_call2 stepOp_app2 stepOp_app1 stepOp_bslice stepOp_mkslice mapO_map lookupD_some lookupD_ok mapsetD_some keyOk_agg kindsL_nil kindsL_bool kindsL_int eqL_nil eqL_cons atomEq_bool atomEq_int frz_sl tokO_tok app0_step app0_exact app0_tok frz_loc oneRes_nil listOf_imm
 ty_0 ty_1 ty_2 ty_3 ty_4 ty_5 ty_6 ty_7 ty_8 ty_9 ty_10 ty_11 ty_12 ty_13 ty_14 ty_15 ty_16 ty_17 ty_18 ty_19 ty_20 ty_21 ty_22 ty_23 ty_24 ty_25 ty_26 ty_27
attribute [local congr] wT_congr ob_congr obP_congr iteD_congr condP_congr

theorem s96 (r : List Int) (h : r.length ≤ 1000) (hp : List Obj) : ∃ t, runS E (dL E) 96 [dInts r] hp = some (hd r.length hp.length, hp ++ t) ∧ (r.length ≠ 0 → t = [.cells (r.map dI)]) := by
  obtain ⟨d, hp', h1, h2, h3⟩ := runS_T c96 (args := [dInts r]) (hp := hp) (R := fun d hp' => d = hd r.length hp.length ∧ ∃ t, hp' = hp ++ t ∧ (r.length ≠ 0 → t = [.cells (r.map dI)])) (by simp) (by
    by_cases h0 : r.length = 0
    · have : r = [] := List.eq_nil_of_length_eq_zero h0
      subst this
      simp [t96, n96, hd, appendM]
      exact ⟨[], by simp [applyEf]⟩
    · have h4 : ¬ r = [] := fun e => h0 (by rw [e]; rfl)
      have a := fun hp id => app1_nums (hp := hp) (id := id) (cs := r) (by omega) (by omega)
      simp [t96, n96, hd, a, applyEf, h0, h4])
  subst h2
  obtain ⟨t, rfl, h4⟩ := h3
  exact ⟨t, h1, h4⟩

theorem appOk_hd {n : Nat} {ids : List Nat} {x : D} (h : ids.length ≤ 1000) : appOk E 6 (ids.map (hd n)) [x] := by
  refine ⟨?_, ?_, ?_, fits_hd⟩ <;> simp [maxBytes]
  omega
theorem map_hd {n k : Nat} {ids : List Nat} : ids.map (hd n) ++ [hd n k] = (ids ++ [k]).map (hd n) := by simp

theorem row0_take {p : Prob} {m : List (List Int)} (M : OkM p m) {i : Nat} (h : i < (row0 p m).length) : (row0 p m).take (i + 1) = (row0 p m).take i ++ [(row0 p m)[i]] := List.take_succ_eq_append_getElem h

theorem RowsI.lt {n : Nat} {hp : List Obj} {ids : List Nat} {rows : List (List Int)} (R : RowsI n hp ids rows) (h0 : n ≠ 0) {x : Nat} (hx : x ∈ ids) : x < hp.length := by
  obtain ⟨j, hj, rfl⟩ := List.getElem_of_mem hx
  exact lt_get (R.row h0 j (by rw [← R.len]; exact hj) hj)
/-- a row while the capacities are taken away -/
def mix (a c : List Int) (k : Nat) : List Int := (subR a c).take k ++ a.drop k

theorem mix_len {a c : List Int} (h : a.length = c.length) {k : Nat} : (mix a c k).length = a.length := by
  simp [mix, subR, ← h]; omega
theorem mix_get {a c : List Int} (h : a.length = c.length) {k : Nat} (hk : k < a.length) : (mix a c k)[k]? = some a[k] := by
  unfold mix
  rw [List.getElem?_append_right (by simp; omega)]
  simp [subR, ← h, Nat.min_eq_left (Nat.le_of_lt hk), hk]
theorem mix_set {a c : List Int} (h : a.length = c.length) {k : Nat} (hk : k < a.length) (hc : k < c.length) : (mix a c k).set k (a[k] - c[k]) = mix a c (k + 1) := by
  have hl : (subR a c).length = a.length := by simp [subR, ← h]
  unfold mix
  rw [List.set_append_right _ _ (by simp; omega)]
  have e1 : k - ((subR a c).take k).length = 0 := by rw [List.length_take]; omega
  rw [e1, drop_cons hk, List.set_cons_zero, List.take_succ_eq_append_getElem (by omega), List.append_assoc]
  simp [subR]
theorem mix_all {a c : List Int} (h : a.length = c.length) : mix a c a.length = subR a c := by
  unfold mix
  have hl : (subR a c).length = a.length := by simp [subR, ← h]
  rw [List.drop_length, List.append_nil, List.take_of_length_le (by omega)]

/-- a row while it is clamped -/
def mixC (r : List Int) (k : Nat) : List Int := (r.take k).map clampI ++ r.drop k
theorem mixC_len {r : List Int} {k : Nat} (h : k ≤ r.length) : (mixC r k).length = r.length := by simp [mixC]; omega
theorem mixC_get {r : List Int} {k : Nat} (h : k < r.length) (h' : k < (mixC r k).length) : (mixC r k)[k] = r[k] := by
  have h2 : (mixC r k)[k]? = some r[k] := by
    unfold mixC
    rw [List.getElem?_append_right (by simp; omega)]
    simp [Nat.min_eq_left (Nat.le_of_lt h), h]
  rw [List.getElem?_eq_getElem h'] at h2
  exact Option.some.inj h2
theorem mixC_set {r : List Int} {k : Nat} (h : k < r.length) : (mixC r k).set k (clampI r[k]) = mixC r (k + 1) := by
  unfold mixC
  rw [List.set_append_right _ _ (by simp; omega)]
  have e1 : k - ((r.take k).map clampI).length = 0 := by simp; omega
  rw [e1, drop_cons h, List.set_cons_zero, List.take_succ_eq_append_getElem h, List.map_append, List.append_assoc]
  rfl

set_option maxHeartbeats 16000000 in
theorem r44 (p : Prob) (b : List Int) (g : Int) (m : List (List Int)) (S : Small p) (hb : b.length ≤ 20) (SM : SmallM m) : runP E (dL E) 44 [dProb p, dInts b, dI g, .imm .none (m.map dInts)] = some (resI p b g m) := by
  refine runP_T c44 (by simp) ?_
  have h89 := r89 p b m S hb SM
  simp only [dProb, dInts] at h89
  unfold resI
  by_cases h0 : dk p b m = 0
  rotate_left
  · rw [if_neg h0]
    simp [t44, n44, h89, h0]
  obtain ⟨ok, M, okb⟩ := dk_ok h0
  rw [if_pos h0]
  rw [h0] at h89
  obtain ⟨T, hT⟩ : ∃ T, T = (itemsA p b g m 0 p.vars).foldl (addI p) (row0 p m) := ⟨_, rfl⟩
  unfold impL
  rw [← hT]
  have s1 := S.cells
  have s2 := S.cap
  have s3 := S.vars
  have m1 := M.len
  simp [t44, n44, h89]
  obtain ⟨n, hn⟩ : ∃ n, n = p.cells.length := ⟨_, rfl⟩
  refine wT_up m.length (fun i env hp => ∃ (x7 x9 x10 x11 x12 x13 x14 x15 x16 x17 x18 x19 x20 x21 x25 x26 x27 x28 x29 x30 x31 x32 x33 x34 x35 x36 x37 x38 x39 x40 x41 x42 x43 x44 x45 x46 x47 x48 x49 x50 x51 x52 x53 x54 x55 x56 : D) (sp : Spare) (ids : List Nat), env = [dProb p, dInts b, dI g, .imm .none (m.map dInts), .loc 0 0, .imm sp (ids.map (hd n)), dI 0, x7, .loc 1 0, x9, x10, x11, x12, x13, x14, x15, x16, x17, x18, x19, x20, x21, .imm .none (m.map dInts), dI m.length, dI i, x25, x26, x27, x28, x29, x30, x31, x32, x33, x34, x35, x36, x37, x38, x39, x40, x41, x42, x43, x44, x45, x46, x47, x48, x49, x50, x51, x52, x53, x54, x55, x56] ∧
    At hp 0 (.cells (dProb p).cellsL) ∧ At hp 1 (.cells (dWork p b g m).cellsL) ∧ RowsI n hp ids ((row0 p m).take i) ∧ (∀ x, x ∈ ids → 2 ≤ x) ∧ (i = 0 ∧ sp = .exact ∨ ∃ k, sp = .tok k ∧ At hp k (.tok i 1) ∧ 2 ≤ k ∧ (n ≠ 0 → k ∉ ids))) 0 (by omega)
    ⟨_, _, _, _, _, _, _, _, _, _, _, _, _, _, _, _, _, _, _, _, _, _, _, _, _, _, _, _, _, _, _, _, _, _, _, _, _, _, _, _, _, _, _, _, _, _, .exact, [], rfl, rfl, rfl, ⟨rfl, by simp, by simp, by simp⟩, by simp, .inl ⟨rfl, rfl⟩⟩ ?_
  rintro i env hp hi ⟨x7, x9, x10, x11, x12, x13, x14, x15, x16, x17, x18, x19, x20, x21, x25, x26, x27, x28, x29, x30, x31, x32, x33, x34, x35, x36, x37, x38, x39, x40, x41, x42, x43, x44, x45, x46, x47, x48, x49, x50, x51, x52, x53, x54, x55, x56, sp, ids, rfl, g0, g1, R, hge, hsp⟩
  by_cases hlt : i < m.length
  · have hrow := M.rows _ (List.getElem_mem hlt)
    have hl0 := R.len
    have hil : i < (row0 p m).length := by rw [row0_len M]; omega
    rw [List.length_take, Nat.min_eq_left (by omega)] at hl0
    obtain ⟨t, h96, ht⟩ := s96 m[i] (by omega) hp
    rw [hrow.1, ← hn] at h96
    simp only [dInts] at h96
    have hap : ∀ x, appOk E 6 (ids.map (hd n)) [x] := fun x => appOk_hd (by omega)
    have hx2 := g1.lt
    simp [hlt, h96]
    obtain ⟨ids', hids⟩ : ∃ ids', ids' = ids ++ [hp.length] := ⟨_, rfl⟩
    have hids' : List.map (hd n) ids ++ [hd n hp.length] = List.map (hd n) ids' := by rw [hids, map_hd]
    have hlen' : ids'.length = i + 1 := by rw [hids]; simp [hl0]
    have hge' : ∀ x, x ∈ ids' → 2 ≤ x := fun x hx => by
      rw [hids] at hx
      rcases List.mem_append.1 hx with h | h
      · exact hge x h
      · rw [List.mem_singleton.1 h]; omega
    have hlt' : ∀ x, x ∈ ids → n ≠ 0 → x < hp.length := fun x hx h0 => by
      obtain ⟨j, hj, rfl⟩ := List.getElem_of_mem hx
      have := R.row h0 j (by rw [← R.len]; exact hj) hj
      exact lt_get this
    have R1 : RowsI n (hp ++ t) ids' (List.take i (row0 p m) ++ [m[i]]) := by
      rw [hids]
      refine R.app.snoc (by rw [hn]; exact hrow.1) fun h0 => ⟨?_, fun h => by have := hlt' _ h h0; omega⟩
      rw [ht (by rw [hrow.1, ← hn]; exact h0)]; simp
    have hmix : mix m[i] p.capacity[i] 0 = m[i] := by simp [mix]
    obtain ⟨K, hK⟩ : ∃ K, K = hp.length + t.length := ⟨_, rfl⟩
    have hKn : n ≠ 0 → K ∉ ids' := fun h0 h => by
      have e := ht (by rw [hrow.1, ← hn]; exact h0)
      rw [hids] at h
      rcases List.mem_append.1 h with h | h
      · have := hlt' _ h h0; omega
      · have := List.mem_singleton.1 h
        rw [e] at hK; simp at hK; omega
    rw [← hmix] at R1
    rcases hsp with ⟨hi0, rfl⟩ | ⟨k, rfl, gk, hk2, hki⟩
    obtain ⟨H, hH⟩ : ∃ H, H = hp ++ (t ++ [Obj.tok 1 1]) := ⟨_, rfl⟩
    have G0 : At H 0 (.cells (dProb p).cellsL) := by rw [hH]; exact g0.app
    have G1 : At H 1 (.cells (dWork p b g m).cellsL) := by rw [hH]; exact g1.app
    have GK : At H K (.tok (i + 1) 1) := by rw [hi0, hH, hK, ← List.append_assoc, ← List.length_append]; simp [At]
    have RH : RowsI n H ids' (List.take i (row0 p m) ++ [mix m[i] p.capacity[i] 0]) := by rw [hH, ← List.append_assoc]; exact R1.app
    have e : ids = [] := List.eq_nil_of_length_eq_zero (hl0.trans hi0)
    subst e
    simp only [List.map_nil, List.nil_append] at hap hids'
    simp [app0_step, app0_exact, hap, stor_hd, cellsL_hd]
    rw [hids', ← hH, ← hK]
    rotate_left
    obtain ⟨H, hH⟩ : ∃ H, H = (hp ++ t).set k Obj.dead ++ [Obj.tok (i + 1) 1] := ⟨_, rfl⟩
    have hk0 := gk.lt
    have G0 : At H 0 (.cells (dProb p).cellsL) := by rw [hH]; exact (At.ne (g0.app (r := t)) (by omega)).app
    have G1 : At H 1 (.cells (dWork p b g m).cellsL) := by rw [hH]; exact (At.ne (g1.app (r := t)) (by omega)).app
    have GK : At H K (.tok (i + 1) 1) := by
      have e : K = ((hp ++ t).set k Obj.dead).length := by simp [hK]
      rw [hH, e]; simp [At]
    have RH : RowsI n H ids' (List.take i (row0 p m) ++ [mix m[i] p.capacity[i] 0]) := by
      rw [hH]
      refine (R1.other fun h0 h => ?_).app
      rw [hids] at h
      rcases List.mem_append.1 h with h | h
      · exact hki h0 h
      · have := List.mem_singleton.1 h; omega
    simp [app0_step, app0_tok, hap, ↓gk.appE, stor_hd, cellsL_hd, hids', hl0]
    rw [← hH, ← hK]
    all_goals (
      refine wT_up m[i].length (fun j env hp => ∃ (x7 x11 x12 x13 x14 x15 x16 x17 x18 x19 x20 x21 x25 x26 x27 x30 x31 x32 x33 x34 x35 x36 x37 x38 x39 x40 x41 x42 x43 x44 x45 x46 x47 x48 x49 x50 x51 x52 x53 x54 x55 x56 : D) , env = [dProb p, dInts b, dI g, .imm .none (m.map dInts), .loc 0 0, .imm (.tok K) (ids'.map (hd n)), dI 0, x7, .loc 1 0, dI i, dInts m[i], x11, x12, x13, x14, x15, x16, x17, x18, x19, x20, x21, .imm .none (m.map dInts), dI m.length, dI i, x25, x26, x27, dI m[i].length, dI j, x30, x31, x32, x33, x34, x35, x36, x37, x38, x39, x40, x41, x42, x43, x44, x45, x46, x47, x48, x49, x50, x51, x52, x53, x54, x55, x56] ∧
        At hp 0 (.cells (dProb p).cellsL) ∧ At hp 1 (.cells (dWork p b g m).cellsL) ∧ RowsI n hp ids' ((row0 p m).take i ++ [mix m[i] p.capacity[i] j]) ∧ At hp K (.tok (i + 1) 1)) 0 (by omega)
        ⟨_, _, _, _, _, _, _, _, _, _, _, _, _, _, _, _, _, _, _, _, _, _, _, _, _, _, _, _, _, _, _, _, _, _, _, _, _, _, _, _, _, _, rfl, G0, G1, RH, GK⟩ ?_
      clear G0 G1 RH GK hH
      rintro j env hp2 hj ⟨x7, x11, x12, x13, x14, x15, x16, x17, x18, x19, x20, x21, x25, x26, x27, x30, x31, x32, x33, x34, x35, x36, x37, x38, x39, x40, x41, x42, x43, x44, x45, x46, x47, x48, x49, x50, x51, x52, x53, x54, x55, x56, rfl, g0, g1, R, gK⟩
      by_cases hlt2 : j < m[i].length
      · have hn0 : n ≠ 0 := by omega
        have hhd : ∀ id, hd n id = .sl id 0 n 1 false true := fun id => by unfold hd; rw [if_neg hn0]
        have hic : i < p.capacity.length := by omega
        have hci := ok.cap _ (List.getElem_mem hic)
        have hlc : m[i].length = p.capacity[i].length := by omega
        have hjc : j < p.capacity[i].length := by omega
        have hii : i < ids'.length := by omega
        obtain ⟨id, hid⟩ : ∃ id, id = ids'[i] := ⟨_, rfl⟩
        have hrl : ((row0 p m).take i ++ [mix m[i] p.capacity[i] j]).length = i + 1 := by
          rw [List.length_append, List.length_take, Nat.min_eq_left (by omega)]; rfl
        have gr := R.row hn0 i (by omega) hii
        rw [List.getElem_append_right (by rw [List.length_take]; omega)] at gr
        simp only [List.getElem_singleton] at gr
        rw [← hid] at gr
        have gr' : At hp2 id _ := gr
        have hgl := gr'.lt
        have hmg := mix_get hlc hlt2
        have hmg1 : j < (mix m[i] p.capacity[i] j).length := by rw [mix_len hlc]; exact hlt2
        have hmg2 : (mix m[i] p.capacity[i] j)[j] = m[i][j] := by
          rw [List.getElem?_eq_getElem hmg1] at hmg
          exact Option.some.inj hmg
        have hms := mix_set hlc hlt2 hjc
        have v1 := hrow.2 _ (List.getElem_mem hlt2)
        have v2 := hci.2 _ (List.getElem_mem hjc)
        unfold wi at v2
        have w1 := wrap_i64 (n := m[i][j] - p.capacity[i][j]) ⟨by omega, by omega⟩
        have hsd : ((mix m[i] p.capacity[i] j).map dI).set j (dI (m[i][j] - p.capacity[i][j])) = (mix m[i] p.capacity[i] (j + 1)).map dI := by rw [← hms]; simp
        have hjn : j < n := by omega
        have hj1 : j + 1 ≤ (mix m[i] p.capacity[i] j).length := hmg1
        simp [hlt2, hic, hjc, hii, hjn, ← hid, hhd, ↓g0.appE, ↓gr'.appE, hmg1, hmg2, w1, hsd, hj1, set_app1 hgl, wrap_up hlt2 (by omega)]
        have hid2 : 2 ≤ id := hge' id (by rw [hid]; exact List.getElem_mem hii)
        have hidK : id ≠ K := fun e => hKn hn0 (by rw [← e, hid]; exact List.getElem_mem hii)
        have hll : ((row0 p m).take i).length = i := by rw [List.length_take]; omega
        have R2 := R.upd (k := i) (by omega) hii (r := mix m[i] p.capacity[i] (j + 1)) (by rw [mix_len hlc]; omega)
        rw [← hid, List.set_append_right _ _ (by omega), hll, Nat.sub_self, List.set_cons_zero] at R2
        exact ⟨(g0.ne (by omega)).app, (g1.ne (by omega)).app, R2.app, (gK.ne hidK).app⟩
      have hje : j = m[i].length := by omega
      subst hje
      simp [hlt2, wrap_up hlt (by omega)]
      repeat apply Exists.intro
      have hic : i < p.capacity.length := by omega
      have hci := ok.cap _ (List.getElem_mem hic)
      rw [mix_all (by omega)] at R
      refine ⟨by and_intros <;> rfl, g0, g1, ?_, hge', K, rfl, gK, by omega, hKn⟩
      rw [row0_take M hil, row0_get hil hlt (by omega)]
      exact R)
  have hie : i = m.length := by omega
  subst hie
  have htk : (row0 p m).take m.length = row0 p m := List.take_of_length_le (by rw [row0_len M]; omega)
  rw [htk] at R
  clear hsp
  simp [hlt, g0.eq]
  refine wT_up p.vars.length (fun i env hp => ∃ (x7 x9 x10 x11 x12 x13 x14 x15 x16 x17 x18 x19 x20 x21 x22 x23 x24 x25 x26 x27 x28 x29 x30 x34 x35 x36 x37 x38 x39 x40 x41 x42 x43 x44 x45 x46 x47 x48 x49 x50 x51 x52 x53 x54 x55 x56 : D) (rows : List (List Int)), env = [dProb p, dInts b, dI g, .imm .none (m.map dInts), .loc 0 0, .imm sp (ids.map (hd n)), dI 0, x7, .loc 1 0, x9, x10, x11, x12, x13, x14, x15, x16, x17, x18, x19, x20, x21, x22, x23, x24, x25, x26, x27, x28, x29, x30, .imm .none (p.vars.map dVar), dI p.vars.length, dI i, x34, x35, x36, x37, x38, x39, x40, x41, x42, x43, x44, x45, x46, x47, x48, x49, x50, x51, x52, x53, x54, x55, x56] ∧
    At hp 0 (.cells (dProb p).cellsL) ∧ At hp 1 (.cells (dWork p b g m).cellsL) ∧ RowsI n hp ids rows ∧ rows.length = p.capacity.length ∧ (itemsA p b g m i (p.vars.drop i)).foldl (addI p) rows = T) 0 (by omega)
    ⟨_, _, _, _, _, _, _, _, _, _, _, _, _, _, _, _, _, _, _, _, _, _, _, _, _, _, _, _, _, _, _, _, _, _, _, _, _, _, _, _, _, _, _, _, _, _, _, rfl, g0, g1, R, row0_len M, by simp [hT]⟩ ?_
  clear R g0 g1
  rintro i env hp hi ⟨x7, x9, x10, x11, x12, x13, x14, x15, x16, x17, x18, x19, x20, x21, x22, x23, x24, x25, x26, x27, x28, x29, x30, x34, x35, x36, x37, x38, x39, x40, x41, x42, x43, x44, x45, x46, x47, x48, x49, x50, x51, x52, x53, x54, x55, x56, rows, rfl, g0, g1, R, hrl, hfold⟩
  by_cases hlt : i < p.vars.length
  · have h97 := r97 p b g m true S hb ok M hlt
    simp only [qI, dWork, dProb, dInts, resM] at h97
    obtain ⟨v, hv⟩ : ∃ v, v = p.vars[i] := ⟨_, rfl⟩
    have okv := ok.vars _ (List.getElem_mem hlt)
    have lv := S.leaves _ (List.getElem_mem hlt)
    rw [← hv] at h97 okv lv
    rw [drop_cons hlt, ← hv] at hfold
    simp only [itemsA] at hfold
    have hbe : usesB p b g m i v = (chOf (bestK (costOf p m v 1) (candL b g i 0 v.choices))).uses := rfl
    have hus := usesB_ok (p := p) (b := b) (g := g) (m := m) (i := i) okv
    simp at h97
    obtain ⟨C, hC⟩ : ∃ C, C = bestK (costOf p m v 1) (candL b g i 0 v.choices) := ⟨_, rfl⟩
    rw [← hC] at h97 hbe
    rw [hbe] at hus hfold
    simp [hlt, ↓g0.appE, ↓g1.appE, g0.eq, g1.eq, ← hv, h97]
    obtain ⟨US, hUS⟩ : ∃ US, US = (chOf C).uses := ⟨_, rfl⟩
    rw [← hUS] at hus hfold ⊢
    obtain ⟨l, hl⟩ : ∃ l, l = hp.length := ⟨_, rfl⟩
    have hlid : n ≠ 0 → l ∉ ids := fun h0 h => by have := R.lt h0 h; omega
    have hl1 := g1.lt
    rw [← hl]
    have hus12 : US.length ≤ 12 := by
      rw [hUS, hC]
      cases hb : bestK (costOf p m v 1) (candL b g i 0 v.choices) with
      | none => simp [chOf]
      | some y =>
        obtain ⟨y, k⟩ := y
        have hmem := (bestK_mem hb).2.1
        rw [hv] at hmem
        exact S.uses _ (List.getElem_mem hlt) _ hmem
    refine wT_up US.length (fun j env hp => ∃ (x7 x9 x10 x11 x12 x14 x15 x16 x17 x18 x19 x20 x21 x22 x23 x24 x25 x26 x27 x28 x29 x30 x34 x35 x36 x37 x38 x42 x43 x44 x45 x46 x47 x48 x49 x50 x51 x52 x53 x54 x55 x56 : D) (rows : List (List Int)), env = [dProb p, dInts b, dI g, .imm .none (m.map dInts), .loc 0 0, .imm sp (ids.map (hd n)), dI 0, x7, .loc 1 0, x9, x10, x11, x12, .loc l 0, x14, x15, x16, x17, x18, x19, x20, x21, x22, x23, x24, x25, x26, x27, x28, x29, x30, .imm .none (p.vars.map dVar), dI p.vars.length, dI i, x34, x35, x36, x37, x38, .imm .none (US.map dUse), dI US.length, dI j, x42, x43, x44, x45, x46, x47, x48, x49, x50, x51, x52, x53, x54, x55, x56] ∧
      At hp 0 (.cells (dProb p).cellsL) ∧ At hp 1 (.cells (dWork p b g m).cellsL) ∧ At hp l (.cells (dVar v).cellsL) ∧ RowsI n hp ids rows ∧ rows.length = p.capacity.length ∧ (itA v.leaves (US.drop j) ++ itemsA p b g m (i + 1) (p.vars.drop (i + 1))).foldl (addI p) rows = T) 0 (by omega)
      ⟨_, _, _, _, _, _, _, _, _, _, _, _, _, _, _, _, _, _, _, _, _, _, _, _, _, _, _, _, _, _, _, _, _, _, _, _, _, _, _, _, _, _, _, rfl, g0.app, g1.app, by rw [hl]; simp [At], R.app, hrl, by simpa using hfold⟩ ?_
    clear R g0 g1 hfold
    rintro j env hp2 hj ⟨x7, x9, x10, x11, x12, x14, x15, x16, x17, x18, x19, x20, x21, x22, x23, x24, x25, x26, x27, x28, x29, x30, x34, x35, x36, x37, x38, x42, x43, x44, x45, x46, x47, x48, x49, x50, x51, x52, x53, x54, x55, x56, rows, rfl, g0, g1, gv, R, hrl, hfold⟩
    by_cases hlt2 : j < US.length
    · have hu := hus _ (List.getElem_mem hlt2)
      obtain ⟨u, hu'⟩ : ∃ u, u = US[j] := ⟨_, rfl⟩
      rw [drop_cons hlt2] at hfold
      simp only [itA, List.flatMap_cons] at hfold
      rw [← hu'] at hu hfold
      have h98 := r98 p b g m u.cell S ok hu.known
      simp only [dWork, dProb, dInts, dCell] at h98
      simp [hlt2, ↓g0.appE, ↓g1.appE, ↓gv.appE, g0.eq, g1.eq, gv.eq, ← hu']
      obtain ⟨l2, hl2⟩ : ∃ l2, l2 = hp2.length := ⟨_, rfl⟩
      have hlid2 : n ≠ 0 → l2 ∉ ids := fun h0 h => by have := R.lt h0 h; omega
      rw [← hl2]
      refine wT_up v.leaves.length (fun k env hp => ∃ (x7 x9 x10 x11 x12 x14 x16 x17 x18 x19 x20 x21 x22 x23 x24 x25 x26 x27 x28 x29 x30 x34 x35 x36 x37 x38 x42 x43 x47 x48 x49 x50 x51 x52 x53 x54 x55 x56 : D) (rows : List (List Int)), env = [dProb p, dInts b, dI g, .imm .none (m.map dInts), .loc 0 0, .imm sp (ids.map (hd n)), dI 0, x7, .loc 1 0, x9, x10, x11, x12, .loc l 0, x14, .loc l2 0, x16, x17, x18, x19, x20, x21, x22, x23, x24, x25, x26, x27, x28, x29, x30, .imm .none (p.vars.map dVar), dI p.vars.length, dI i, x34, x35, x36, x37, x38, .imm .none (US.map dUse), dI US.length, dI j, x42, x43, dInts v.leaves, dI v.leaves.length, dI k, x47, x48, x49, x50, x51, x52, x53, x54, x55, x56] ∧
        At hp 0 (.cells (dProb p).cellsL) ∧ At hp 1 (.cells (dWork p b g m).cellsL) ∧ At hp l (.cells (dVar v).cellsL) ∧ At hp l2 (.cells (dUse u).cellsL) ∧ RowsI n hp ids rows ∧ rows.length = p.capacity.length ∧
        ((v.leaves.drop k).map (fun leaf => (leaf, u)) ++ (itA v.leaves (US.drop (j + 1)) ++ itemsA p b g m (i + 1) (p.vars.drop (i + 1)))).foldl (addI p) rows = T) 0 (by omega)
        ⟨_, _, _, _, _, _, _, _, _, _, _, _, _, _, _, _, _, _, _, _, _, _, _, _, _, _, _, _, _, _, _, _, _, _, _, _, _, _, _, rfl, g0.app, g1.app, gv.app, by rw [hl2]; simp [At], R.app, hrl, by simpa [itA] using hfold⟩ ?_
      clear R g0 g1 gv hfold
      rintro k env hp3 hk ⟨x7, x9, x10, x11, x12, x14, x16, x17, x18, x19, x20, x21, x22, x23, x24, x25, x26, x27, x28, x29, x30, x34, x35, x36, x37, x38, x42, x43, x47, x48, x49, x50, x51, x52, x53, x54, x55, x56, rows, rfl, g0, g1, gv, gu, R, hrl, hfold⟩
      by_cases hlt3 : k < v.leaves.length
      · have hleaf := okv.leaves _ (List.getElem_mem hlt3)
        unfold wi at hleaf
        rw [drop_cons hlt3, List.map_cons, List.cons_append, List.foldl_cons] at hfold
        obtain ⟨L, hL⟩ : ∃ L : Nat, v.leaves[k] = L := ⟨v.leaves[k].toNat, by omega⟩
        rw [hL] at hfold hleaf
        have hLr : L < rows.length := by omega
        have hLi : L < ids.length := by rw [R.len]; omega
        have hat := atS_le (i := 0) hu.known
        obtain ⟨N, hN⟩ : ∃ N : Nat, atS u.cell p.cells 0 = N := ⟨(atS u.cell p.cells 0).toNat, by omega⟩
        rw [hN] at h98
        have hNn : N < n := by omega
        have hn0 : n ≠ 0 := by omega
        have hhd : ∀ id, hd n id = .sl id 0 n 1 false true := fun id => by unfold hd; rw [if_neg hn0]
        obtain ⟨id, hid⟩ : ∃ id, id = ids[L] := ⟨_, rfl⟩
        have gr : At hp3 id (.cells (rows[L].map dI)) := by rw [hid]; exact R.row hn0 L hLr hLi
        have hw := R.wid _ (List.getElem_mem hLr)
        have hNr : N < rows[L].length := by omega
        have hN1 : N + 1 ≤ rows[L].length := hNr
        have hgl := gr.lt
        have hadd : (rows[L].map dI).set N (.int .i64 (Go.IntKind.i64.wrap (rows[L][N] + u.places))) = (addU p rows[L] u).map dI := by
          unfold addU
          rw [hN]
          simp [wr, hNr]
        have hidl : id ≠ l := fun e => hlid hn0 (by rw [← e, hid]; exact List.getElem_mem hLi)
        have hidl2 : id ≠ l2 := fun e => hlid2 hn0 (by rw [← e, hid]; exact List.getElem_mem hLi)
        have hid2 : 2 ≤ id := hge id (by rw [hid]; exact List.getElem_mem hLi)
        have R2 := R.upd hLr hLi (r := addU p rows[L] u) (by rw [addU_len, hw])
        rw [← hid] at R2
        simp [hlt3, ↓g0.appE, ↓g1.appE, ↓gv.appE, ↓gu.appE, ↓gr.appE, hL, hLi, ← hid, hhd, hNn, hNr, hN1, h98, hadd, set_app1 hgl, wrap_up hlt3 (by omega)]
        refine ⟨(g0.ne (by omega)).app, (g1.ne (by omega)).app, (gv.ne hidl).app, (gu.ne hidl2).app, rows.set L (addU p rows[L] u), R2.app, by simpa using hrl, ?_⟩
        rw [← hfold]
        simp [addI, hLr, itA]
      have hke : k = v.leaves.length := by omega
      subst hke
      rw [List.drop_length, List.map_nil, List.nil_append] at hfold
      simp [hlt3, wrap_up hlt2 (by omega)]
      exact ⟨g0, g1, gv, rows, R, hrl, by rw [← List.foldl_append]; exact hfold⟩
    have hje : j = US.length := by omega
    subst hje
    rw [List.drop_length] at hfold
    simp only [itA, List.flatMap_nil, List.nil_append] at hfold
    simp [hlt2, wrap_up hlt (by omega)]
    exact ⟨g0, g1, rows, R, hrl, hfold⟩
  have hie : i = p.vars.length := by omega
  subst hie
  rw [List.drop_length] at hfold
  simp only [itemsA, List.foldl_nil] at hfold
  subst hfold
  have hil2 := R.len
  have hhl : ∀ (hp : List Obj) (id : Nat), lenD E hp 6 (hd n id) = some (dI n) := fun hp id => by
    unfold hd
    by_cases h : n = 0
    · subst h; rfl
    · rw [if_neg h]; simp
  simp [hlt]
  refine wT_up ids.length (fun i env hp => ∃ (x7 x9 x10 x11 x12 x13 x14 x15 x16 x17 x18 x19 x20 x21 x22 x23 x24 x25 x26 x27 x28 x29 x30 x31 x32 x33 x34 x35 x36 x37 x38 x39 x40 x41 x42 x43 x44 x45 x46 x47 x48 x52 x53 x54 x55 x56 : D) , env = [dProb p, dInts b, dI g, .imm .none (m.map dInts), .loc 0 0, .imm sp (ids.map (hd n)), dI 0, x7, .loc 1 0, x9, x10, x11, x12, x13, x14, x15, x16, x17, x18, x19, x20, x21, x22, x23, x24, x25, x26, x27, x28, x29, x30, x31, x32, x33, x34, x35, x36, x37, x38, x39, x40, x41, x42, x43, x44, x45, x46, x47, x48, .imm sp (ids.map (hd n)), dI ids.length, dI i, x52, x53, x54, x55, x56] ∧
    RowsI n hp ids ((rows.take i).map (fun r => r.map clampI) ++ rows.drop i)) 0 (by omega) ⟨_, _, _, _, _, _, _, _, _, _, _, _, _, _, _, _, _, _, _, _, _, _, _, _, _, _, _, _, _, _, _, _, _, _, _, _, _, _, _, _, _, _, _, _, _, _, rfl, by simpa using R⟩ ?_
  have hrw := R.wid
  clear R g0 g1
  rintro i env hp hi ⟨x7, x9, x10, x11, x12, x13, x14, x15, x16, x17, x18, x19, x20, x21, x22, x23, x24, x25, x26, x27, x28, x29, x30, x31, x32, x33, x34, x35, x36, x37, x38, x39, x40, x41, x42, x43, x44, x45, x46, x47, x48, x52, x53, x54, x55, x56, rfl, R⟩
  by_cases hii : i < ids.length
  · have hlt : i < rows.length := by omega
    obtain ⟨id, hid⟩ : ∃ id, id = ids[i] := ⟨_, rfl⟩
    have hwi := hrw _ (List.getElem_mem hlt)
    simp [hlt, hii, ← hid, hhl, stor_hd, cellsL_hd]
    refine wT_up n (fun k env hp => ∃ (x7 x9 x10 x11 x12 x13 x14 x15 x16 x18 x19 x20 x21 x22 x23 x24 x25 x26 x27 x28 x29 x30 x31 x32 x33 x34 x35 x36 x37 x38 x39 x40 x41 x42 x43 x44 x45 x46 x47 x48 x52 x56 : D) , env = [dProb p, dInts b, dI g, .imm .none (m.map dInts), .loc 0 0, .imm sp (ids.map (hd n)), dI 0, x7, .loc 1 0, x9, x10, x11, x12, x13, x14, x15, x16, hd n id, x18, x19, x20, x21, x22, x23, x24, x25, x26, x27, x28, x29, x30, x31, x32, x33, x34, x35, x36, x37, x38, x39, x40, x41, x42, x43, x44, x45, x46, x47, x48, .imm sp (ids.map (hd n)), dI ids.length, dI i, x52, hd n id, dI n, dI k, x56] ∧
      RowsI n hp ids ((rows.take i).map (fun r => r.map clampI) ++ mixC rows[i] k :: rows.drop (i + 1))) 0 (by omega) ⟨_, _, _, _, _, _, _, _, _, _, _, _, _, _, _, _, _, _, _, _, _, _, _, _, _, _, _, _, _, _, _, _, _, _, _, _, _, _, _, _, _, _, rfl, by simpa [mixC, ← drop_cons hlt] using R⟩ ?_
    clear R
    rintro k env hp2 hk ⟨x7, x9, x10, x11, x12, x13, x14, x15, x16, x18, x19, x20, x21, x22, x23, x24, x25, x26, x27, x28, x29, x30, x31, x32, x33, x34, x35, x36, x37, x38, x39, x40, x41, x42, x43, x44, x45, x46, x47, x48, x52, x56, rfl, R⟩
    by_cases hlt2 : k < n
    · have hn0 : n ≠ 0 := by omega
      have hhd : ∀ id, hd n id = .sl id 0 n 1 false true := fun id => by unfold hd; rw [if_neg hn0]
      have hkr : k < rows[i].length := by omega
      have hpl : ((rows.take i).map (fun r => r.map clampI)).length = i := by simp; omega
      have hal : i < ((rows.take i).map (fun r => r.map clampI) ++ mixC rows[i] k :: rows.drop (i + 1)).length := by
        rw [List.length_append, hpl, List.length_cons]; omega
      have gr := R.row hn0 i hal hii
      rw [List.getElem_append_right (by omega)] at gr
      simp only [hpl, Nat.sub_self, List.getElem_cons_zero] at gr
      rw [← hid] at gr
      have gr' : At hp2 id _ := gr
      have hgl := gr'.lt
      have c1 : k < (mixC rows[i] k).length := by rw [mixC_len (by omega)]; exact hkr
      have c2 := mixC_get hkr c1
      have c3 := mixC_set hkr
      have c4 : k + 1 ≤ (mixC rows[i] k).length := c1
      have R2 := R.upd hal hii (r := mixC rows[i] (k + 1)) (by rw [mixC_len (by omega)]; exact hwi)
      rw [← hid, List.set_append_right _ _ (by omega), hpl, Nat.sub_self, List.set_cons_zero] at R2
      obtain ⟨Y, hY⟩ : ∃ Y, Y = rows[i][k] := ⟨_, rfl⟩
      rw [← hY] at c2 c3
      have hcl : (if (65536 : Int) < (if Y < 0 then 0 else Y) then 65536 else (if Y < 0 then 0 else Y)) = clampI Y := rfl
      have hsd : ((mixC rows[i] k).map dI).set k (dI (clampI Y)) = (mixC rows[i] (k + 1)).map dI := by rw [← c3]; simp
      simp [hlt2, hii, ← hid, hhd, gr'.eq, c1, c2, c4, hcl, hsd, wrap_up hlt2 (by omega)]
      rw [List.map_take] at R2
      exact R2
    have hke : k = n := by omega
    have hall : mixC rows[i] k = (rows.map fun r => r.map clampI)[i]'(by simpa using hlt) := by
      unfold mixC
      rw [List.take_of_length_le (by omega), List.drop_of_length_le (by omega)]; simp
    subst hke
    simp [hlt2, wrap_up hii (by omega)]
    rw [List.take_succ_eq_append_getElem (by simpa using hlt), ← hall, List.append_assoc]
    rw [List.map_take] at R
    exact R
  have hie : i = ids.length := by omega
  subst hie
  rw [List.drop_of_length_le (by omega), List.append_nil, List.take_of_length_le (by omega)] at R
  have hfz := frzL_I (n := 8) R
  rw [List.map_map] at hfz
  simp [hii, hfz]

end Dv
