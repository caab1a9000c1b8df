/- Texts that a proof of this claim uses, joined: Lw.W36, Lw.W31, Lw.W47, Lw.W65, Lw.W66. -/
import Derived.Test.YtffnaiofjjgcgaaWn
import Derived.Test.YtffnaiofjjgcgaaWx
import Derived.Test.YtffnaiofjjgcgaaWo
set_option linter.all false
/- Walks: Value. -/
namespace Dv
attribute [local simp] wT_skip wK wT_ret wT_exit wR wRp wT_seq wC wT_block rTS_nil rTS_asg rTS_eff rTS_effk ob_some obP_some iteD_b condP_b xv_v xv_c xv_ite xv_bin_tt xv_bin_tc xv_bin_ct xv_bin_cc xv_un_t xv_conv_t xv_load xv_len xv_faddr xv_field xv_iaddr_tt xv_iaddr_tc xv_index_tt xv_index_tc xv_lookup_tt xv_max_tt xv_max_tc xv_max_ct xv_min_tt xv_min_tc xv_min_ct xv_slice_lo_t xv_slice_lo_c xv_slice_hi_t xv_slice_all xv_call xv_bslice bsliceV xv_build buildV xv_mkfn zeroE fillE buildD fillD List.replicate xvs_nil xvs_cons callV_fn frz_bool frz_int frz_imm frz_agg frz_tup frz_fn frz_iptr frzL_nil frzL_one frzL_dI frzL_cell frzL_use frzL_ints frzL_choice frzL_var depth dCell dUse dInts dChoice dVar dProb tStart addO Ret flat_dI flat_rep chunk_dI
 binD_add binD_sub binD_mul binD_eql binD_neq binD_lss binD_leq binD_gtr binD_geq binD_quo binD_rem binD_beql binD_bneq binD_aeql binD_aneq unD_not unD_neg lenD_imm lenD_sl lenD_str readO_cells readO_frozen loadD_loc loadD_iptr iaddrD_imm iaddrD_sl iaddrD_loc faddrD_loc faddrD_iptr fieldD_agg indexD_agg indexD_str cellsL_bool stor_bool atom_bool cellsL_int stor_int atom_int cellsL_str stor_str atom_str cellsL_imm stor_imm atom_imm cellsL_sl stor_sl atom_sl cellsL_loc stor_loc atom_loc cellsL_iptr stor_iptr atom_iptr cellsL_map stor_map atom_map cellsL_fn stor_fn atom_fn cellsL_agg stor_agg cellsL_nilfn stor_nilfn atom_nilfn cellsL_nilp stor_nilp atom_nilp takeC_z takeC_s ofCells_ag ofCells_one ag_bool ag_int ag_str ag_slice ag_struct ag_arr ag_map ag_ptr ag_func gOf_t gOf_c gOf_f kv_cons putE_some putE_none oneRes_one oneRes_two oneRes_three getAll_nil getAll_v getAll_c maxiD_two miniD_two extV_tup xv_ext stepOp_box stepOp_alloc stepOp_store writeO_cells storeD_loc setCells_nil setCells_cons stepOp_mkmap stepOp_mapset stepOp_call1 stepOp_call2 stepOp_app2 stepOp_app1 stepOp_bslice stepOp_mkslice mapO_map lookupD_some lookupD_ok mapsetD_some keyOk_agg kindsL_nil kindsL_bool kindsL_int eqL_nil eqL_cons atomEq_bool atomEq_int frz_sl tokO_tok app0_step app0_exact app0_tok frz_loc oneRes_nil listOf_imm
 ty_0 ty_1 ty_2 ty_3 ty_4 ty_5 ty_6 ty_7 ty_8 ty_9 ty_10 ty_11 ty_12 ty_13 ty_14 ty_15 ty_16 ty_17 ty_18 ty_19 ty_20 ty_21 ty_22 ty_23 ty_24 ty_25 ty_26 ty_27
attribute [local congr] wT_congr ob_congr obP_congr iteD_congr condP_congr

end Dv

/- Plain facts: with one more choice nothing becomes less. -/
namespace Dv

end Dv

/- Plain facts: the order of the variables does not matter, and without one of them nothing becomes greater. -/
namespace Dv

/-- how many places of a cell some uses take -/
def cntU (p : Prob) (n : Nat) : List Use → Int
  | [] => 0
  | u :: l => (if (atS u.cell p.cells 0).toNat = n then u.places else 0) + cntU p n l
theorem cntU_app {p : Prob} {n : Nat} : ∀ {l r : List Use}, cntU p n (l ++ r) = cntU p n l + cntU p n r
  | [], r => by simp [cntU]
  | u :: l, r => by simp only [List.cons_append, cntU, cntU_app]; omega
theorem cntU_pos {p : Prob} {n : Nat} : ∀ {l : List Use}, (∀ u, u ∈ l → 0 ≤ u.places) → 0 ≤ cntU p n l
  | [], _ => by simp [cntU]
  | u :: l, h => by
    have h1 := h u (by simp)
    have h2 := cntU_pos (p := p) (n := n) (l := l) fun v hv => h v (by simp [hv])
    simp only [cntU]
    split <;> omega

theorem foldU_val {p : Prob} : ∀ {l : List Use} {r : List Int} {k : Int}, (∀ u, u ∈ l → 0 ≤ u.places ∧ u.places ≤ 8) → 0 ≤ k → (∀ x, x ∈ r → 0 ≤ x ∧ x ≤ k) → k + 8 * l.length ≤ 1000000 →
    ∀ n, n < r.length → (l.foldl (addU p) r).getD n 0 = r.getD n 0 + cntU p n l
  | [], r, k, _, _, hr, _, n, hn => by simp [cntU]
  | u :: l, r, k, hu, hk, hr, hb, n, hn => by
    simp only [List.length_cons] at hb ⊢
    rw [List.foldl_cons]
    have hu1 := hu u (by simp)
    have h1 : 0 ≤ r.getD (atS u.cell p.cells 0).toNat 0 ∧ r.getD (atS u.cell p.cells 0).toNat 0 ≤ k := by
      rcases getD_or (r := r) (a := (atS u.cell p.cells 0).toNat) with h | h
      · exact hr _ h
      · rw [h]; omega
    have := foldU_val (p := p) (l := l) (r := addU p r u) (k := k + 8) (fun v hv => hu v (by simp [hv])) (by omega) (fun y hy => by
      unfold addU at hy
      rcases List.mem_or_eq_of_mem_set hy with h | h
      · have := hr y h; omega
      · rw [h, wr_id ⟨by omega, by omega⟩]; omega) (by omega) n (by rw [addU_len]; exact hn)
    rw [this]
    unfold addU
    rw [wr_id ⟨by omega, by omega⟩]
    simp only [cntU]
    by_cases e : (atS u.cell p.cells 0).toNat = n
    · rw [if_pos e]
      subst e
      rw [List.getD_eq_getElem?_getD, List.getD_eq_getElem?_getD, List.getElem?_set_self hn, Option.getD_some, List.getElem?_eq_getElem hn, Option.getD_some]; omega
    · rw [if_neg e, List.getD_eq_getElem?_getD (l := List.set _ _ _), List.getElem?_set_ne e, ← List.getD_eq_getElem?_getD]; omega

theorem dem_val {p : Prob} (S : Small p) (ok : OkP p) {b : List Int} {leaf : Int} {n : Nat} (hn : n < p.cells.length) : (dem p b leaf).getD n 0 = cntU p n (usesIn p.vars b leaf) := by
  have h1 := usesIn_len (leaf := leaf) (vs := p.vars) (b := b) S.uses
  have s3 := S.vars
  have := foldU_val (p := p) (l := usesIn p.vars b leaf) (r := List.replicate p.cells.length 0) (k := 0) (fun u hu => (usesIn_ok ok.vars u hu).places |> fun h => by unfold wi at h; omega) (by omega)
    (fun y hy => by rw [(List.mem_replicate.1 hy).2]; omega) (by omega) n (by simpa using hn)
  unfold dem
  rw [this]
  simp [List.getD_eq_getElem?_getD, List.getElem?_replicate, hn]

/-- the same problem with other variables -/
def other (p : Prob) (vs : List Var) : Prob := { p with vars := vs }

end Dv

/- Plain facts: weak duality. -/
namespace Dv

/-- a sum over the first numbers -/
def smI : Nat → (Nat → Int) → Int
  | 0, _ => 0
  | n + 1, f => f 0 + smI n (fun i => f (i + 1))
theorem smI_add : ∀ {n : Nat} {f g : Nat → Int}, smI n (fun i => f i + g i) = smI n f + smI n g
  | 0, _, _ => by simp [smI]
  | n + 1, f, g => by
    have := smI_add (n := n) (f := fun i => f (i + 1)) (g := fun i => g (i + 1))
    simp only [smI]; omega
theorem smI_le : ∀ {n : Nat} {f g : Nat → Int}, (∀ i, i < n → f i ≤ g i) → smI n f ≤ smI n g
  | 0, _, _, _ => by simp [smI]
  | n + 1, f, g, h => by
    have h1 := smI_le (n := n) (f := fun i => f (i + 1)) (g := fun i => g (i + 1)) fun i hi => h (i + 1) (by omega)
    have h2 := h 0 (by omega)
    simp only [smI]; omega
theorem smI_eq {n : Nat} {f g : Nat → Int} (h : ∀ i, i < n → f i = g i) : smI n f = smI n g :=
  Int.le_antisymm (smI_le fun i hi => by rw [h i hi]; omega) (smI_le fun i hi => by rw [h i hi]; omega)
theorem smI_zero : ∀ {n : Nat}, smI n (fun _ => 0) = 0
  | 0 => rfl
  | n + 1 => by simp only [smI, smI_zero]; omega
theorem smI_one : ∀ {n a : Nat} {v : Int}, a < n → smI n (fun i => if i = a then v else 0) = v
  | 0, _, _, h => by omega
  | n + 1, 0, v, _ => by
    have : smI n (fun i => if i + 1 = 0 then v else 0) = 0 := (smI_eq fun i _ => by simp).trans smI_zero
    simp only [smI, if_true, this]; omega
  | n + 1, a + 1, v, h => by
    have h1 := smI_one (n := n) (a := a) (v := v) (by omega)
    have : smI n (fun i => if i + 1 = a + 1 then v else 0) = v := (smI_eq fun i _ => by simp).trans h1
    simp only [smI, this]
    have h0 : ¬ (0 = a + 1) := by omega
    rw [if_neg h0]; omega

/-- a sum over a list -/
def sL (f : Int → Int) : List Int → Int
  | [] => 0
  | a :: l => f a + sL f l
theorem sL_add {f g : Int → Int} : ∀ {l : List Int}, sL (fun a => f a + g a) l = sL f l + sL g l
  | [] => by simp [sL]
  | a :: l => by simp only [sL, sL_add]; omega
theorem sL_zero : ∀ {l : List Int}, sL (fun _ => 0) l = 0
  | [] => rfl
  | a :: l => by simp only [sL, sL_zero]; omega

/-- a sum over a set of small numbers -/
theorem smI_set {f : Int → Int} {n : Nat} : ∀ {l : List Int}, l.Nodup → (∀ a, a ∈ l → 0 ≤ a ∧ a < n) → smI n (fun i => if l.contains (i : Int) then f i else 0) = sL f l
  | [], _, _ => by simp [sL, smI_zero]
  | a :: l, hd, hb => by
    rw [List.nodup_cons] at hd
    have h1 := smI_set (f := f) (n := n) hd.2 fun x hx => hb x (by simp [hx])
    have h2 := hb a (by simp)
    obtain ⟨k, rfl⟩ : ∃ k : Nat, a = k := ⟨a.toNat, by omega⟩
    have h3 := smI_one (n := n) (a := k) (v := f k) (by omega)
    simp only [sL]
    rw [← h1, ← h3, ← smI_add]
    refine smI_eq fun i _ => ?_
    by_cases e : i = k
    · subst e
      have : ¬ l.contains (i : Int) = true := by simpa using hd.1
      simp [this, hd.1]
    · have e' : ¬ ((i : Int) = (k : Int)) := by omega
      simp [e, e']

/-- what some uses cost in one leaf -/
def rowP (p : Prob) (m : List (List Int)) (leaf : Int) : List Use → Int
  | [] => 0
  | u :: r => mu m leaf (atS u.cell p.cells 0).toNat * u.places + rowP p m leaf r
theorem rowP_app {p : Prob} {m : List (List Int)} {leaf : Int} : ∀ {a b : List Use}, rowP p m leaf (a ++ b) = rowP p m leaf a + rowP p m leaf b
  | [], b => by simp [rowP]
  | u :: a, b => by simp only [List.cons_append, rowP, rowP_app]; omega
theorem prL_sum {m : List (List Int)} {k : Nat} {pl : Int} : ∀ {l : List Int}, prL m k pl l = sL (fun a => mu m a k * pl) l
  | [] => rfl
  | a :: l => by simp only [prL, sL, prL_sum]
theorem prC_sum {p : Prob} {m : List (List Int)} {l : List Int} : ∀ {us : List Use}, prC p m l us = sL (fun a => rowP p m a us) l
  | [] => by simp [prC, rowP, sL_zero]
  | u :: us => by simp only [prC, rowP, prL_sum, prC_sum, ← sL_add]

theorem incr_nodup {l : List Int} (h : ∀ (i : Nat) (h : i + 1 < l.length), l[i] < l[i + 1]) : l.Nodup := by
  have key : ∀ (d i : Nat) (hi : i + d + 1 < l.length), l[i]'(by omega) < l[i + d + 1] := by
    intro d
    induction d with
    | zero => intro i hi; exact h i hi
    | succ d ih => intro i hi; exact Int.lt_trans (ih i (by omega)) (h (i + d + 1) hi)
  rw [List.nodup_iff_pairwise_ne, List.pairwise_iff_getElem]
  intro i j hi hj hij e
  have := key (j - i - 1) i (by omega)
  have e2 : i + (j - i - 1) + 1 = j := by omega
  simp only [e2] at this
  omega

/-- the prices of what the variables chose -/
def prA (p : Prob) (m : List (List Int)) : List Var → List Int → Int
  | v :: vs, n :: ns => prC p m v.leaves (usesAt v n) + prA p m vs ns
  | _, _ => 0
theorem prA_sum {p : Prob} {m : List (List Int)} : ∀ {vs : List Var} {xs : List Int}, (∀ v, v ∈ vs → OkVar p v) → prA p m vs xs = smI p.capacity.length (fun i => rowP p m i (usesIn vs xs i))
  | [], xs, _ => by
    have : ∀ (i : Int), usesIn [] xs i = [] := fun i => by cases xs <;> rfl
    simp only [this, rowP, smI_zero, prA]
  | v :: vs, [], _ => by simp only [usesIn, rowP, smI_zero, prA]
  | v :: vs, n :: ns, h => by
    have h1 := prA_sum (p := p) (m := m) (vs := vs) (xs := ns) fun w hw => h w (by simp [hw])
    have hv := h v (by simp)
    have h2 := smI_set (f := fun a => rowP p m a (usesAt v n)) (n := p.capacity.length) (incr_nodup hv.incr) (fun a ha => by have := hv.leaves a ha; unfold wi at this; omega)
    simp only [prA]
    rw [h1, prC_sum, ← h2, ← smI_add]
    refine smI_eq fun i _ => ?_
    simp only [usesIn, rowP_app]
    by_cases hc : v.leaves.contains (i : Int) = true
    · rw [if_pos hc, if_pos hc]
    · rw [if_neg hc, if_neg hc]; simp [rowP]

theorem rowP_cnt {p : Prob} {m : List (List Int)} {leaf : Int} : ∀ {us : List Use}, (∀ u, u ∈ us → u.cell ∈ p.cells) → rowP p m leaf us = smI p.cells.length (fun n => mu m leaf n * cntU p n us)
  | [], _ => by simp [rowP, cntU, smI_zero]
  | u :: us, h => by
    have h1 := rowP_cnt (p := p) (m := m) (leaf := leaf) (us := us) fun w hw => h w (by simp [hw])
    have h2 := atS_le (i := 0) (h u (by simp))
    have h3 := smI_one (n := p.cells.length) (a := (atS u.cell p.cells 0).toNat) (v := mu m leaf (atS u.cell p.cells 0).toNat * u.places) (by omega)
    simp only [rowP]
    rw [h1, ← h3, ← smI_add]
    refine smI_eq fun i _ => ?_
    simp only [cntU, Int.mul_add]
    by_cases e : i = (atS u.cell p.cells 0).toNat
    · rw [if_pos e, if_pos e.symm, e]
    · rw [if_neg e, if_neg (Ne.symm e)]; simp

theorem dotR_sum : ∀ {a b : List Int} {n : Nat}, a.length = n → b.length = n → dotR a b = smI n (fun i => a.getD i 0 * b.getD i 0)
  | [], b, n, h, _ => by simp at h; subst h; simp [dotR, smI]
  | x :: a, [], n, h, h' => by simp at h h'; omega
  | x :: a, y :: b, 0, h, _ => by simp at h
  | x :: a, y :: b, n + 1, h, h' => by
    have := dotR_sum (a := a) (b := b) (n := n) (by simpa using h) (by simpa using h')
    simp only [dotR, smI, this, List.getD_cons_zero, List.getD_cons_succ]
theorem dotL_sum : ∀ {a b : List (List Int)} {n : Nat}, a.length = n → b.length = n → dotL a b = smI n (fun i => dotR (a.getD i []) (b.getD i []))
  | [], b, n, h, _ => by simp at h; subst h; simp [dotL, smI]
  | x :: a, [], n, h, h' => by simp at h h'; omega
  | x :: a, y :: b, 0, h, _ => by simp at h
  | x :: a, y :: b, n + 1, h, h' => by
    have := dotL_sum (a := a) (b := b) (n := n) (by simpa using h) (by simpa using h')
    simp only [dotL, smI, this, List.getD_cons_zero, List.getD_cons_succ]

theorem ovR_none : ∀ {d c : List Int}, d.length = c.length → ovR d c = 0 → ∀ n, d.getD n 0 ≤ c.getD n 0
  | [], [], _, _, n => by simp
  | [], _ :: _, h, _, _ => by simp at h
  | _ :: _, [], h, _, _ => by simp at h
  | d :: ds, c :: cs, h, h0, n => by
    simp only [ovR] at h0
    have h1 := ovR_pos (d := ds) (c := cs)
    have h2 := mx0 (a := d - c)
    cases n with
    | zero =>
      have : mx (d - c) 0 = 0 := by omega
      unfold mx at this
      simp only [List.getD_cons_zero]
      split at this <;> omega
    | succ n =>
      simp only [List.getD_cons_succ]
      exact ovR_none (by simpa using h) (by omega) n
theorem ovL_none {p : Prob} {x : List Int} : ∀ {cs : List (List Int)} {k : Nat}, (∀ l, l ∈ cs → l.length = p.cells.length) → ovL p x k cs = 0 → ∀ i, i < cs.length → ∀ n, (dem p x ((k + i : Nat) : Int)).getD n 0 ≤ (cs.getD i []).getD n 0
  | [], _, _, _, i, hi => by simp at hi
  | c :: cs, k, hl, h0, i, hi => by
    simp only [ovL] at h0
    have h1 := ovR_pos (d := dem p x k) (c := c)
    have h2 := ovL_pos (p := p) (b := x) (cs := cs) (k := k + 1)
    cases i with
    | zero =>
      simp only [List.getD_cons_zero, Nat.add_zero]
      exact ovR_none (by rw [hl c (by simp)]; simp [dem, foldU_len]) (by omega)
    | succ i =>
      have := ovL_none (x := x) (cs := cs) (k := k + 1) (fun l h => hl l (by simp [h])) (by omega) i (by simpa using hi)
      intro n
      simp only [List.getD_cons_succ]
      have e : k + (i + 1) = k + 1 + i := by omega
      rw [e]
      exact this n

theorem prA_le {p : Prob} {m : List (List Int)} (S : Small p) (ok : OkP p) (M : OkM p m) {x : List Int} (h0 : ov p x = 0) : prA p m p.vars x ≤ dotL m p.capacity := by
  rw [prA_sum ok.vars, dotL_sum M.len rfl]
  refine smI_le fun i hi => ?_
  have him : i < m.length := by rw [M.len]; exact hi
  have e1 : m.getD i [] = m[i] := by rw [List.getD_eq_getElem?_getD, List.getElem?_eq_getElem him, Option.getD_some]
  have e2 : p.capacity.getD i [] = p.capacity[i] := by rw [List.getD_eq_getElem?_getD, List.getElem?_eq_getElem hi, Option.getD_some]
  have l1 := (M.rows _ (List.getElem_mem him)).1
  have l2 := (ok.cap _ (List.getElem_mem hi)).1
  have hle := ovL_none (p := p) (x := x) (cs := p.capacity) (k := 0) (fun l hl => (ok.cap l hl).1) h0 i hi
  rw [e1, e2, rowP_cnt (fun u hu => (usesIn_ok ok.vars u hu).known), dotR_sum l1 l2]
  refine smI_le fun n hn => ?_
  have h1 := hle n
  rw [Nat.zero_add, dem_val S ok hn, e2] at h1
  have h2 := (mu_bd M (leaf := i) (k := n)).1
  have h3 : mu m i n = m[i].getD n 0 := by unfold mu; rw [Int.toNat_natCast, e1]
  rw [h3] at h2 ⊢
  exact Int.mul_le_mul_of_nonneg_left h1 h2

end Dv

/- The least costs are below the costs of what is chosen; the walk of keeps. -/
namespace Dv
attribute [local simp] wT_skip wK wT_ret wT_exit wR wRp wT_seq wC wT_block rTS_nil rTS_asg rTS_eff rTS_effk ob_some obP_some iteD_b condP_b xv_v xv_c xv_ite xv_bin_tt xv_bin_tc xv_bin_ct xv_bin_cc xv_un_t xv_conv_t xv_load xv_len xv_faddr xv_field xv_iaddr_tt xv_iaddr_tc xv_index_tt xv_index_tc xv_lookup_tt xv_max_tt xv_max_tc xv_max_ct xv_min_tt xv_min_tc xv_min_ct xv_slice_lo_t xv_slice_lo_c xv_slice_hi_t xv_slice_all xv_call xv_bslice bsliceV xv_build buildV xv_mkfn zeroE fillE buildD fillD List.replicate xvs_nil xvs_cons callV_fn frz_bool frz_int frz_imm frz_agg frz_tup frz_fn frz_iptr frzL_nil frzL_one frzL_dI frzL_cell frzL_use frzL_ints frzL_choice frzL_var depth dCell dUse dInts dChoice dVar dProb tStart addO Ret flat_dI flat_rep chunk_dI
 binD_add binD_sub binD_mul binD_eql binD_neq binD_lss binD_leq binD_gtr binD_geq binD_quo binD_rem binD_beql binD_bneq binD_aeql binD_aneq unD_not unD_neg lenD_imm lenD_sl lenD_str readO_cells readO_frozen loadD_loc loadD_iptr iaddrD_imm iaddrD_sl iaddrD_loc faddrD_loc faddrD_iptr fieldD_agg indexD_agg indexD_str cellsL_bool stor_bool atom_bool cellsL_int stor_int atom_int cellsL_str stor_str atom_str cellsL_imm stor_imm atom_imm cellsL_sl stor_sl atom_sl cellsL_loc stor_loc atom_loc cellsL_iptr stor_iptr atom_iptr cellsL_map stor_map atom_map cellsL_fn stor_fn atom_fn cellsL_agg stor_agg cellsL_nilfn stor_nilfn atom_nilfn cellsL_nilp stor_nilp atom_nilp takeC_z takeC_s ofCells_ag ofCells_one ag_bool ag_int ag_str ag_slice ag_struct ag_arr ag_map ag_ptr ag_func gOf_t gOf_c gOf_f kv_cons putE_some putE_none oneRes_one oneRes_two oneRes_three getAll_nil getAll_v getAll_c maxiD_two miniD_two extV_tup xv_ext stepOp_box stepOp_alloc stepOp_store writeO_cells storeD_loc setCells_nil setCells_cons stepOp_mkmap stepOp_mapset stepOp_call1 stepOp_call2 stepOp_app2 stepOp_app1 stepOp_bslice stepOp_mkslice mapO_map lookupD_some lookupD_ok mapsetD_some keyOk_agg kindsL_nil kindsL_bool kindsL_int eqL_nil eqL_cons atomEq_bool atomEq_int frz_sl tokO_tok app0_step app0_exact app0_tok frz_loc oneRes_nil listOf_imm
 ty_0 ty_1 ty_2 ty_3 ty_4 ty_5 ty_6 ty_7 ty_8 ty_9 ty_10 ty_11 ty_12 ty_13 ty_14 ty_15 ty_16 ty_17 ty_18 ty_19 ty_20 ty_21 ty_22 ty_23 ty_24 ty_25 ty_26 ty_27
attribute [local congr] wT_congr ob_congr obP_congr iteD_congr condP_congr

theorem foldK_le {f : Choice → Int} : ∀ {l : List (Nat × Choice)} {s : Option ((Nat × Choice) × Int)} {k : Int}, ((∃ y n, s = some (y, n) ∧ n ≤ k) ∨ ∃ x, x ∈ l ∧ f x.2 = k) → ∃ y n, l.foldl (stepK f) s = some (y, n) ∧ n ≤ k
  | [], s, k, h => by
    rcases h with h | ⟨x, hx, _⟩
    · simpa using h
    · cases hx
  | z :: l, s, k, h => by
    rw [List.foldl_cons]
    refine foldK_le (l := l) (k := k) ?_
    rcases h with ⟨y, n, rfl, hn⟩ | ⟨x, hx, he⟩
    · refine .inl ?_
      simp only [stepK]
      split
      · exact ⟨_, _, rfl, by omega⟩
      · exact ⟨_, _, rfl, hn⟩
    · rcases List.mem_cons.1 hx with rfl | hx
      · refine .inl ?_
        cases s with
        | none => exact ⟨_, _, rfl, by omega⟩
        | some t =>
          obtain ⟨t, tn⟩ := t
          simp only [stepK]
          split
          · exact ⟨_, _, rfl, by omega⟩
          · exact ⟨_, _, rfl, by omega⟩
      · exact .inr ⟨x, hx, he⟩

theorem cand_in {b : List Int} {g : Int} {i : Nat} : ∀ {cs : List Choice} {k0 k : Nat} {c : Choice}, cs[k]? = some c → cntB b g i (k0 + k) c = true → (k0 + k, c) ∈ candL b g i k0 cs
  | [], _, _, _, h, _ => by simp at h
  | d :: cs, k0, 0, c, h, hc => by
    simp only [List.getElem?_cons_zero, Option.some.injEq] at h
    subst h
    simp only [Nat.add_zero] at hc ⊢
    simp [candL, hc]
  | d :: cs, k0, k + 1, c, h, hc => by
    rw [List.getElem?_cons_succ] at h
    have e : k0 + (k + 1) = k0 + 1 + k := by omega
    rw [e] at hc ⊢
    have := cand_in h hc
    simp only [candL, List.mem_append]
    exact .inr this

/-- choices that count -/
def goodX (b : List Int) (g : Int) : Nat → List Var → List Int → Prop
  | i, v :: vs, n :: ns => (∃ c, v.choices[n.toNat]? = some c ∧ cntB b g i n.toNat c = true) ∧ goodX b g (i + 1) vs ns
  | _, [], [] => True
  | _, _, _ => False

theorem sumV_le {p : Prob} {b : List Int} {g : Int} {m : List (List Int)} {q : Int} : ∀ {vs : List Var} {xs : List Int} {i : Nat}, goodX b g i vs xs → ∃ N, sumV p b g m q i vs = some N ∧ N ≤ q * sumC (picks vs xs) + prA p m vs xs
  | [], [], _, _ => ⟨0, rfl, by simp [picks, sumC, prA]⟩
  | [], _ :: _, _, h => h.elim
  | _ :: _, [], _, h => h.elim
  | v :: vs, n :: ns, i, ⟨⟨c, h1, h2⟩, h3⟩ => by
    obtain ⟨N, e, hN⟩ := sumV_le (p := p) (m := m) (q := q) h3
    have hm := cand_in (k0 := 0) h1 (by simpa using h2)
    obtain ⟨y, k, e2, hk⟩ := foldK_le (f := costOf p m v q) (s := none) (k := costOf p m v q c) (.inr ⟨_, hm, rfl⟩)
    have hg : v.choices.getD n.toNat ⟨0, 0, 0, []⟩ = c := by rw [List.getD_eq_getElem?_getD, h1, Option.getD_some]
    refine ⟨k + N, ?_, ?_⟩
    · simp only [sumV, bestK, e2, e, Option.map_some]
    · simp only [picks, List.head?_cons, List.tail_cons, sumC, prA, pick, usesAt, hg]
      unfold costOf at hk
      rw [Int.mul_assoc] at hk
      rw [Int.mul_add]
      omega

theorem goodX_of {b : List Int} {g : Int} : ∀ {vs : List Var} {xs : List Int} {i : Nat}, xs.length = vs.length → (∀ (j : Nat) (h : j < vs.length) (h' : j < xs.length), ∃ c, vs[j].choices[xs[j].toNat]? = some c ∧ cntB b g (i + j) xs[j].toNat c = true) → goodX b g i vs xs
  | [], [], _, _, _ => trivial
  | [], _ :: _, _, h, _ => by simp at h
  | _ :: _, [], _, h, _ => by simp at h
  | v :: vs, n :: ns, i, hl, h => by
    refine ⟨h 0 (Nat.zero_lt_succ _) (Nat.zero_lt_succ _), goodX_of (by simpa using hl) fun j hj hj' => ?_⟩
    have := h (j + 1) (by simpa using hj) (by simpa using hj')
    have e : i + 1 + j = i + (j + 1) := by omega
    rw [e]
    simpa using this

/-- a solution without an overload, that begins with a branch and keeps to a longest delay -/
structure Keeps (p : Prob) (b : List Int) (g : Int) (x : List Int) : Prop where
  whole : Whole p x
  none : ov p x = 0
  len : b.length ≤ x.length
  pre : ∀ (i : Nat) (h : i < b.length) (h' : i < x.length), x[i] = b[i]
  del : ∀ (i : Nat) (h : i < p.vars.length) (h' : i < x.length), (p.vars[i].choices.getD x[i].toNat ⟨0, 0, 0, []⟩).delay ≤ g

theorem weak {p : Prob} {b : List Int} {g : Int} {m : List (List Int)} {q : Int} {x : List Int} (S : Small p) (M : OkM p m) (K : Keeps p b g x) : ∃ n, sumD p b g m q = some n ∧ n ≤ q * sumC (picks p.vars x) := by
  obtain ⟨ok, okx, hl⟩ := K.whole
  have hg : goodX b g 0 p.vars x := goodX_of hl fun j hj hj' => by
    have h1 := okx.each j hj' hj
    unfold wi at h1
    have hlt : x[j].toNat < p.vars[j].choices.length := by omega
    have h2 := K.del j hj hj'
    rw [List.getD_eq_getElem?_getD, List.getElem?_eq_getElem hlt, Option.getD_some] at h2
    refine ⟨_, List.getElem?_eq_getElem hlt, ?_⟩
    unfold cntB
    rw [Nat.zero_add]
    by_cases hb : j < b.length
    · have h3 := K.pre j hb hj'
      have e : b.getD j 0 = ((x[j].toNat : Nat) : Int) := by rw [List.getD_eq_getElem?_getD, List.getElem?_eq_getElem hb, Option.getD_some, ← h3]; omega
      rw [e]
      simp [h2]
    · simp [h2, Nat.le_of_not_lt hb]
  obtain ⟨N, e, hN⟩ := sumV_le (p := p) (m := m) (q := q) hg
  have h0 := prA_le S ok M K.none
  refine ⟨-(dotL m p.capacity) + N, by unfold sumD; rw [e]; rfl, by omega⟩

end Dv
