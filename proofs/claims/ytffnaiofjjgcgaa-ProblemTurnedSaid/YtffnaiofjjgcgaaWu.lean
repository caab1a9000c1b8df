/- Texts that a proof of this claim uses, joined: Lw.W46, Lw.W47, Lw.W48. -/
import Derived.Test.YtffnaiofjjgcgaaWx
import Derived.Test.YtffnaiofjjgcgaaWm
import Derived.Test.YtffnaiofjjgcgaaWk
import Derived.Test.YtffnaiofjjgcgaaWt
import Derived.Test.YtffnaiofjjgcgaaRk
set_option linter.all false
/- Walks: vectors, component by component. -/
namespace Dv
attribute [local simp] wT_skip wK wT_ret wT_exit wR wRp wT_seq wC wT_block rTS_nil rTS_asg rTS_eff rTS_effk ob_some obP_some iteD_b condP_b xv_v xv_c xv_ite xv_bin_tt xv_bin_tc xv_bin_ct xv_bin_cc xv_un_t xv_conv_t xv_load xv_len xv_faddr xv_field xv_iaddr_tt xv_iaddr_tc xv_index_tt xv_index_tc xv_lookup_tt xv_max_tt xv_max_tc xv_max_ct xv_min_tt xv_min_tc xv_min_ct xv_slice_lo_t xv_slice_lo_c xv_slice_hi_t xv_slice_all xv_call xv_bslice bsliceV xv_build buildV xv_mkfn zeroE fillE buildD fillD List.replicate xvs_nil xvs_cons callV_fn frz_bool frz_int frz_imm frz_agg frz_tup frz_fn frz_iptr frzL_nil frzL_one frzL_dI frzL_cell frzL_use frzL_ints frzL_choice frzL_var depth dCell dUse dInts dChoice dVar dProb tStart addO Ret flat_dI flat_rep chunk_dI
 binD_add binD_sub binD_mul binD_eql binD_neq binD_lss binD_leq binD_gtr binD_geq binD_quo binD_rem binD_beql binD_bneq binD_aeql binD_aneq unD_not unD_neg lenD_imm lenD_sl lenD_str readO_cells readO_frozen loadD_loc loadD_iptr iaddrD_imm iaddrD_sl iaddrD_loc faddrD_loc faddrD_iptr fieldD_agg indexD_agg indexD_str cellsL_bool stor_bool atom_bool cellsL_int stor_int atom_int cellsL_str stor_str atom_str cellsL_imm stor_imm atom_imm cellsL_sl stor_sl atom_sl cellsL_loc stor_loc atom_loc cellsL_iptr stor_iptr atom_iptr cellsL_map stor_map atom_map cellsL_fn stor_fn atom_fn cellsL_agg stor_agg cellsL_nilfn stor_nilfn atom_nilfn cellsL_nilp stor_nilp atom_nilp takeC_z takeC_s ofCells_ag ofCells_one ag_bool ag_int ag_str ag_slice ag_struct ag_arr ag_map ag_ptr ag_func gOf_t gOf_c gOf_f kv_cons putE_some putE_none oneRes_one oneRes_two oneRes_three getAll_nil getAll_v getAll_c maxiD_two miniD_two extV_tup xv_ext stepOp_box stepOp_alloc stepOp_store writeO_cells storeD_loc setCells_nil setCells_cons stepOp_mkmap stepOp_mapset stepOp_call1 stepOp_call2 stepOp_app2 stepOp_app1 stepOp_bslice stepOp_mkslice mapO_map lookupD_some lookupD_ok mapsetD_some keyOk_agg kindsL_nil kindsL_bool kindsL_int eqL_nil eqL_cons atomEq_bool atomEq_int frz_sl tokO_tok app0_step app0_exact app0_tok frz_loc oneRes_nil listOf_imm
 ty_0 ty_1 ty_2 ty_3 ty_4 ty_5 ty_6 ty_7 ty_8 ty_9 ty_10 ty_11 ty_12 ty_13 ty_14 ty_15 ty_16 ty_17 ty_18 ty_19 ty_20 ty_21 ty_22 ty_23 ty_24 ty_25 ty_26 ty_27
attribute [local congr] wT_congr ob_congr obP_congr iteD_congr condP_congr

theorem r121 (a b : List Int) : runP E (dL E) 121 [dInts a, dInts b] = some (.fn 126 [.iptr [dInts a], .iptr [dInts b]]) := by
  refine runP_T c121 (by simp) ?_
  simp [t121, n121]

set_option maxHeartbeats 4000000 in
theorem i126 (a b : List Int) (ha : a.length ≤ 1000000) (hab : a.length = b.length) (l : Nat) (J : List (Int × Int) → List Obj → Prop) (Fin : List Obj → Prop)
    (hext : ∀ rem hp r, J rem hp → J rem (hp ++ r))
    (hy : ∀ x rem hp, J (x :: rem) hp → ∃ t hp', runY (dL E) l [dI x.1, dI x.2] hp = some (.bool t, hp') ∧ (t = true → J rem hp') ∧ (t = false → Fin hp')) {hp : List Obj}
    (h0 : J (a.zip b) hp) :
    ∃ d hp', runS E (dL E) 126 [.yld l, .iptr [dInts a], .iptr [dInts b]] hp = some (d, hp') ∧ (J [] hp' ∨ Fin hp') := by
  refine runS_T c126 (R := fun _ hp' => J [] hp' ∨ Fin hp') (by simp) ?_
  simp [t126, n126]
  refine wT_up a.length (fun i env hp => ∃ (x3 x6 x7 x8 : D) , env = [.yld l, .iptr [dInts a], .iptr [dInts b], x3, dI a.length, dI i, x6, x7, x8] ∧
    J ((a.drop i).zip (b.drop i)) hp) 0 (by omega) ⟨_, _, _, _, rfl, by simpa using h0⟩ ?_
  rintro i env hp hi ⟨x3, x6, x7, x8, rfl, hJ⟩
  by_cases hlt : i < a.length
  rotate_left
  · have : i = a.length := by omega
    subst this
    rw [List.drop_length, List.zip_nil_left] at hJ
    simp [hJ]
  have hlb : i < b.length := by omega
  rw [drop_cons hlt, drop_cons hlb, List.zip_cons_cons] at hJ
  simp [hlt, hlb]
  generalize hH : hp ++ _ = H
  have hJH := ext_to hext hH hJ
  obtain ⟨t, hp2, hy1, hy2, hy3⟩ := hy _ _ _ hJH
  simp at hy1
  cases t with
  | true =>
    have hJ2 := hy2 rfl
    simp [hy1, wrap_up hlt (by omega), hJ2]
  | false =>
    have hF := hy3 rfl
    simp [hy1, hF]

def allLe (l : List (Int × Int)) : Bool := l.all fun p => decide (p.1 ≤ p.2)

set_option maxHeartbeats 4000000 in
theorem r101 (a b : List Int) (ha : a.length ≤ 1000000) (hab : a.length = b.length) : runP E (dL E) 101 [dInts a, dInts b] = some (.bool (allLe (a.zip b))) := by
  refine runP_T c101 (by simp) ?_
  have h121 := r121 a b
  simp only [dInts] at h121
  generalize hB : allLe (a.zip b) = B
  simp [t101, n101, h121]
  refine ⟨126, _, rfl, ?_⟩
  intro L hL hcb
  obtain ⟨J, hJ⟩ : ∃ J : List (Int × Int) → List Obj → Prop, J = fun rem hp' => ∃ (c : Bool) (h' : List Obj), hp' = .cells [.bool c] :: h' ∧ At h' 0 (L false none) ∧ allLe rem = B := ⟨_, rfl⟩
  obtain ⟨Fi, hFi⟩ : ∃ Fi : List Obj → Prop, Fi = fun hp' => ∃ (h' : List Obj), hp' = .cells [.bool false] :: h' ∧ At h' 0 (L false (some .ret)) ∧ B = false := ⟨_, rfl⟩
  have key := i126 a b ha hab 1 J Fi (by
      rw [hJ]
      rintro rem hp' r ⟨c, h', rfl, a1, a2⟩
      exact ⟨c, h' ++ r, rfl, a1.app, a2⟩) (by
      intro x rem hp1 hj
      rw [hJ] at hj
      obtain ⟨c, h', rfl, a1, a2⟩ := hj
      have hl1 := a1.lt
      have T1 := At.self (o := L true none) hl1
      obtain ⟨t, hp2, e1, e2⟩ := hcb [dI x.1, dI x.2] (.cells [.bool c] :: h') (fun t hp' => (t = true ∧ J rem hp') ∨ (t = false ∧ Fi hp')) rfl (by simpa [At] using a1) (by
        by_cases hx : x.2 < x.1
        · have hx' : ¬ x.1 ≤ x.2 := by omega
          simp [setAll, hx, a1.eq, T1.eq]
          rw [hFi]
          exact ⟨_, rfl, At.self hl1, by rw [← a2]; simp [allLe, hx']⟩
        · have hx' : x.1 ≤ x.2 := by omega
          simp [setAll, hx, a1.eq, T1.eq]
          rw [hJ]
          exact ⟨c, _, rfl, At.self hl1, by rw [← a2]; simp [allLe, hx']⟩)
      refine ⟨t, hp2, e1, fun ht => ?_, fun ht => ?_⟩
      · rcases e2 with ⟨_, e3⟩ | ⟨e3, _⟩
        · exact e3
        · rw [ht] at e3; cases e3
      · rcases e2 with ⟨e3, _⟩ | ⟨_, e3⟩
        · rw [ht] at e3; cases e3
        · exact e3) (hp := [.cells [.bool false], L false none]) (by
      rw [hJ]
      exact ⟨false, _, rfl, rfl, hB⟩)
  obtain ⟨d, hp', h1, h2⟩ := key
  rcases h2 with h2 | h2
  · rw [hJ] at h2
    obtain ⟨c, h', rfl, a1, a2⟩ := h2
    have : B = true := by rw [← a2]; rfl
    subst this
    refine ⟨d, _, h1, .inl ⟨a1, ?_⟩⟩
    simp
  · rw [hFi] at h2
    obtain ⟨h', rfl, a1, a2⟩ := h2
    subst a2
    refine ⟨d, _, h1, .inr ⟨.ret, a1, ?_⟩⟩
    simp

theorem r52 (a b : List Int) (ha : a.length ≤ 1000000) (hab : a.length = b.length) : runP E (dL E) 52 [dInts a, dInts b] = some (.tup [.bool (allLe (a.zip b)), dI 0]) := by
  refine runP_T c52 (by simp) ?_
  have h101 := r101 a b ha hab
  simp only [dInts] at h101
  simp [t52, n52, hab, h101]

end Dv

/- Plain facts: the order of the variables does not matter, and without one of them nothing becomes greater. -/
namespace Dv

/-- how many places of a cell some uses take -/
def cntU (p : Prob) (n : Nat) : List Use → Int
  | [] => 0
  | u :: l => (if (atS u.cell p.cells 0).toNat = n then u.places else 0) + cntU p n l
theorem cntU_app {p : Prob} {n : Nat} : ∀ {l r : List Use}, cntU p n (l ++ r) = cntU p n l + cntU p n r
  | [], r => by simp [cntU]
  | u :: l, r => by simp only [List.cons_append, cntU, cntU_app]; omega
theorem cntU_pos {p : Prob} {n : Nat} : ∀ {l : List Use}, (∀ u, u ∈ l → 0 ≤ u.places) → 0 ≤ cntU p n l
  | [], _ => by simp [cntU]
  | u :: l, h => by
    have h1 := h u (by simp)
    have h2 := cntU_pos (p := p) (n := n) (l := l) fun v hv => h v (by simp [hv])
    simp only [cntU]
    split <;> omega

theorem foldU_val {p : Prob} : ∀ {l : List Use} {r : List Int} {k : Int}, (∀ u, u ∈ l → 0 ≤ u.places ∧ u.places ≤ 8) → 0 ≤ k → (∀ x, x ∈ r → 0 ≤ x ∧ x ≤ k) → k + 8 * l.length ≤ 1000000 →
    ∀ n, n < r.length → (l.foldl (addU p) r).getD n 0 = r.getD n 0 + cntU p n l
  | [], r, k, _, _, hr, _, n, hn => by simp [cntU]
  | u :: l, r, k, hu, hk, hr, hb, n, hn => by
    simp only [List.length_cons] at hb ⊢
    rw [List.foldl_cons]
    have hu1 := hu u (by simp)
    have h1 : 0 ≤ r.getD (atS u.cell p.cells 0).toNat 0 ∧ r.getD (atS u.cell p.cells 0).toNat 0 ≤ k := by
      rcases getD_or (r := r) (a := (atS u.cell p.cells 0).toNat) with h | h
      · exact hr _ h
      · rw [h]; omega
    have := foldU_val (p := p) (l := l) (r := addU p r u) (k := k + 8) (fun v hv => hu v (by simp [hv])) (by omega) (fun y hy => by
      unfold addU at hy
      rcases List.mem_or_eq_of_mem_set hy with h | h
      · have := hr y h; omega
      · rw [h, wr_id ⟨by omega, by omega⟩]; omega) (by omega) n (by rw [addU_len]; exact hn)
    rw [this]
    unfold addU
    rw [wr_id ⟨by omega, by omega⟩]
    simp only [cntU]
    by_cases e : (atS u.cell p.cells 0).toNat = n
    · rw [if_pos e]
      subst e
      rw [List.getD_eq_getElem?_getD, List.getD_eq_getElem?_getD, List.getElem?_set_self hn, Option.getD_some, List.getElem?_eq_getElem hn, Option.getD_some]; omega
    · rw [if_neg e, List.getD_eq_getElem?_getD (l := List.set _ _ _), List.getElem?_set_ne e, ← List.getD_eq_getElem?_getD]; omega

theorem dem_val {p : Prob} (S : Small p) (ok : OkP p) {b : List Int} {leaf : Int} {n : Nat} (hn : n < p.cells.length) : (dem p b leaf).getD n 0 = cntU p n (usesIn p.vars b leaf) := by
  have h1 := usesIn_len (leaf := leaf) (vs := p.vars) (b := b) S.uses
  have s3 := S.vars
  have := foldU_val (p := p) (l := usesIn p.vars b leaf) (r := List.replicate p.cells.length 0) (k := 0) (fun u hu => (usesIn_ok ok.vars u hu).places |> fun h => by unfold wi at h; omega) (by omega)
    (fun y hy => by rw [(List.mem_replicate.1 hy).2]; omega) (by omega) n (by simpa using hn)
  unfold dem
  rw [this]
  simp [List.getD_eq_getElem?_getD, List.getElem?_replicate, hn]

theorem usesIn_app {leaf : Int} : ∀ {vs ws : List Var} {b c : List Int}, vs.length = b.length → usesIn (vs ++ ws) (b ++ c) leaf = usesIn vs b leaf ++ usesIn ws c leaf
  | [], ws, [], c, _ => by simp [usesIn]
  | v :: vs, ws, n :: b, c, h => by
    simp only [List.cons_append, usesIn, List.append_assoc, usesIn_app (vs := vs) (ws := ws) (b := b) (c := c) (by simpa using h)]
  | [], _, _ :: _, _, h => by simp at h
  | _ :: _, _, [], _, h => by simp at h

theorem picks_app : ∀ {vs ws : List Var} {b c : List Int}, vs.length = b.length → picks (vs ++ ws) (b ++ c) = picks vs b ++ picks ws c
  | [], ws, [], c, _ => by simp [picks]
  | v :: vs, ws, n :: b, c, h => by
    simp only [List.cons_append, picks, List.head?_cons, List.tail_cons, picks_app (vs := vs) (ws := ws) (b := b) (c := c) (by simpa using h)]
  | [], _, _ :: _, _, h => by simp at h
  | _ :: _, _, [], _, h => by simp at h

/-- the same problem with other variables -/
def other (p : Prob) (vs : List Var) : Prob := { p with vars := vs }

theorem cntU_other {p : Prob} {vs : List Var} {n : Nat} : ∀ {l : List Use}, cntU (other p vs) n l = cntU p n l
  | [] => rfl
  | u :: l => by
    simp only [cntU, cntU_other (l := l)]
    rfl

theorem other_small {p : Prob} (S : Small p) {vs : List Var} (h : ∀ v, v ∈ vs → v ∈ p.vars) (hl : vs.length ≤ 6) : Small (other p vs) :=
  ⟨S.cells, S.cap, S.rows, hl, fun v hv => S.leaves v (h v hv), fun v hv => S.choices v (h v hv), fun v hv => S.uses v (h v hv)⟩
theorem other_ok {p : Prob} (ok : OkP p) {vs : List Var} (h : ∀ v, v ∈ vs → v ∈ p.vars) : OkP (other p vs) :=
  ⟨ok.some, ok.nonneg, ok.incr, ok.cap, fun v hv => by
    obtain ⟨h1, h2, h3, h4, h5, h6⟩ := ok.vars v (h v hv)
    exact ⟨h1, h2, h3, h4, h5, fun c hc => by
      obtain ⟨a1, a2, a3, a4, a5⟩ := h6 c hc
      exact ⟨a1, a2, a3, fun u hu => ⟨(a4 u hu).known, (a4 u hu).places⟩, a5⟩⟩⟩

/-- the fit of a branch, variable by variable -/
theorem okb_zip {p : Prob} {b : List Int} (h : b.length = p.vars.length) : OkB p b ↔ ∀ x, x ∈ p.vars.zip b → wi x.2 0 (x.1.choices.length - 1) := by
  constructor
  · intro okb x hx
    obtain ⟨i, hi, e⟩ := List.mem_iff_getElem.1 hx
    simp only [List.length_zip] at hi
    rw [List.getElem_zip] at e
    rw [← e]
    exact okb.each i (by omega) (by omega)
  · intro hz
    refine ⟨by omega, fun i hi hi' => ?_⟩
    have := hz (p.vars[i], b[i]) (by
      rw [List.mem_iff_getElem]
      exact ⟨i, by simp only [List.length_zip]; omega, by rw [List.getElem_zip]⟩)
    exact this

theorem ovL_le2 {p q : Prob} {b b' : List Int} (hl : p.cells.length = q.cells.length) (h : ∀ (leaf : Int) n, (dem q b' leaf).getD n 0 ≤ (dem p b leaf).getD n 0) : ∀ {cs : List (List Int)} {k : Nat}, ovL q b' k cs ≤ ovL p b k cs
  | [], _ => by simp [ovL]
  | c :: cs, k => by
    have h1 := ovL_le2 hl h (cs := cs) (k := k + 1)
    have h2 := ovR_mono (d := dem q b' k) (d' := dem p b k) (c := c) (by simp [dem, foldU_len, hl]) (h k)
    simp only [ovL]; omega

theorem maxD_comm {a : Int} {l r : List (Int × Choice)} : maxD a (l ++ r) = maxD a (r ++ l) := by
  unfold maxD
  refine List.Perm.foldl_eq' List.perm_append_comm ?_ a
  intro x _ y _ z
  unfold mx
  repeat' split
  all_goals omega

theorem turn_vars {p : Prob} {a : List Int} (hl : a.length = p.vars.length) (k : Nat) : p.vars = p.vars.take k ++ p.vars.drop k ∧ a = a.take k ++ a.drop k ∧ (p.vars.take k).length = (a.take k).length ∧ (p.vars.drop k).length = (a.drop k).length :=
  ⟨(List.take_append_drop k _).symm, (List.take_append_drop k _).symm, by simp [hl], by simp [hl]⟩

/-- turned, the value is the same -/
theorem turn_bound {p : Prob} (S : Small p) {a : List Int} (h : Whole p a) (k : Nat) :
    Whole (other p (p.vars.drop k ++ p.vars.take k)) (a.drop k ++ a.take k) ∧ boundL (other p (p.vars.drop k ++ p.vars.take k)) (a.drop k ++ a.take k) = boundL p a := by
  obtain ⟨ok, okb, hl⟩ := h
  obtain ⟨e1, e2, l1, l2⟩ := turn_vars hl k
  have hmem : ∀ v, v ∈ p.vars.drop k ++ p.vars.take k → v ∈ p.vars := fun v hv => by
    rcases List.mem_append.1 hv with h | h
    · exact List.mem_of_mem_drop h
    · exact List.mem_of_mem_take h
  have hlen : (p.vars.drop k ++ p.vars.take k).length = p.vars.length := by simp; omega
  have S2 := other_small S hmem (by rw [hlen]; exact S.vars)
  have ok2 := other_ok ok hmem
  have hl2 : (a.drop k ++ a.take k).length = (other p (p.vars.drop k ++ p.vars.take k)).vars.length := by simp [other]; omega
  refine ⟨⟨ok2, (okb_zip hl2).2 fun x hx => ?_, hl2⟩, ?_⟩
  · have hz := (okb_zip hl).1 okb
    refine hz x ?_
    simp only [other] at hx
    rw [List.zip_append l2] at hx
    rw [e1, e2, List.zip_append l1]
    rcases List.mem_append.1 hx with h | h
    · exact List.mem_append_right _ (by simpa using h)
    · exact List.mem_append_left _ (by simpa using h)
  · have hd : ∀ (leaf : Int) n, (dem (other p (p.vars.drop k ++ p.vars.take k)) (a.drop k ++ a.take k) leaf).getD n 0 = (dem p a leaf).getD n 0 := by
      intro leaf n
      by_cases hn : n < p.cells.length
      · rw [dem_val S ok hn, dem_val S2 ok2 hn]
        have h1 : usesIn p.vars a leaf = usesIn (p.vars.take k) (a.take k) leaf ++ usesIn (p.vars.drop k) (a.drop k) leaf := by
          conv => lhs; rw [e1, e2]
          exact usesIn_app l1
        rw [h1]
        rw [cntU_other]
        show cntU p n (usesIn (p.vars.drop k ++ p.vars.take k) (a.drop k ++ a.take k) leaf) = _
        rw [usesIn_app l2, cntU_app, cntU_app]; omega
      · rw [List.getD_eq_getElem?_getD, List.getD_eq_getElem?_getD, List.getElem?_eq_none (by simp only [dem, foldU_len, List.length_replicate, other]; omega), List.getElem?_eq_none (by simp only [dem, foldU_len, List.length_replicate]; omega)]
    have hov : ov (other p (p.vars.drop k ++ p.vars.take k)) (a.drop k ++ a.take k) = ov p a := by
      have g1 := ovL_le2 (p := p) (q := other p (p.vars.drop k ++ p.vars.take k)) (b := a) (b' := a.drop k ++ a.take k) rfl (fun leaf n => Int.le_of_eq (hd leaf n)) (cs := p.capacity) (k := 0)
      have g2 := ovL_le2 (p := other p (p.vars.drop k ++ p.vars.take k)) (q := p) (b := a.drop k ++ a.take k) (b' := a) rfl (fun leaf n => Int.le_of_eq (hd leaf n).symm) (cs := p.capacity) (k := 0)
      exact Int.le_antisymm g1 g2
    have hp1 : picks p.vars a = picks (p.vars.take k) (a.take k) ++ picks (p.vars.drop k) (a.drop k) := by
      conv => lhs; rw [e1, e2]
      exact picks_app l1
    have hp2 : picks (other p (p.vars.drop k ++ p.vars.take k)).vars (a.drop k ++ a.take k) = picks (p.vars.drop k) (a.drop k) ++ picks (p.vars.take k) (a.take k) := picks_app l2
    unfold boundL
    rw [hov, hp1, hp2, sumC_app, sumC_app, sumG_app, sumG_app, maxD_comm]
    congr 3
    · exact Int.add_comm _ _
    · congr 1; exact Int.add_comm _ _

/-- without a variable no component is greater -/
theorem less_bound {p : Prob} (S : Small p) {a : List Int} (h : Whole p a) {k : Nat} (hk : k < p.vars.length) :
    Whole (other p (p.vars.take k ++ p.vars.drop (k + 1))) (a.take k ++ a.drop (k + 1)) ∧ ∀ n, (boundL (other p (p.vars.take k ++ p.vars.drop (k + 1))) (a.take k ++ a.drop (k + 1))).getD n 0 ≤ (boundL p a).getD n 0 := by
  obtain ⟨ok, okb, hl⟩ := h
  have hka : k < a.length := by omega
  obtain ⟨e1, e2, l1, l2⟩ := turn_vars hl k
  rw [drop_cons hk] at e1
  rw [drop_cons hka] at e2
  have l3 : (p.vars.drop (k + 1)).length = (a.drop (k + 1)).length := by simp [hl]
  have hmem : ∀ v, v ∈ p.vars.take k ++ p.vars.drop (k + 1) → v ∈ p.vars := fun v hv => by
    rcases List.mem_append.1 hv with h | h
    · exact List.mem_of_mem_take h
    · exact List.mem_of_mem_drop h
  have s3 := S.vars
  have S2 := other_small S hmem (by simp; omega)
  have ok2 := other_ok ok hmem
  have hl2 : (a.take k ++ a.drop (k + 1)).length = (other p (p.vars.take k ++ p.vars.drop (k + 1))).vars.length := by simp [other]; omega
  have okv := ok.vars _ (List.getElem_mem hk)
  refine ⟨⟨ok2, (okb_zip hl2).2 fun x hx => ?_, hl2⟩, fun n => ?_⟩
  · have hz := (okb_zip hl).1 okb
    refine hz x ?_
    simp only [other] at hx
    rw [List.zip_append l1] at hx
    rw [e1, e2, List.zip_append l1, List.zip_cons_cons]
    rcases List.mem_append.1 hx with h | h
    · exact List.mem_append_left _ (by simpa using h)
    · exact List.mem_append_right _ (List.mem_cons_of_mem _ (by simpa using h))
  · have hp1 : picks p.vars a = picks (p.vars.take k) (a.take k) ++ ((p.vars[k].leaves.length : Int), pick p.vars[k] (some a[k])) :: picks (p.vars.drop (k + 1)) (a.drop (k + 1)) := by
      conv => lhs; rw [e1, e2]
      rw [picks_app l1]
      rfl
    have hp2 : picks (other p (p.vars.take k ++ p.vars.drop (k + 1))).vars (a.take k ++ a.drop (k + 1)) = picks (p.vars.take k) (a.take k) ++ picks (p.vars.drop (k + 1)) (a.drop (k + 1)) := picks_app l1
    have hbp := bd_pick okv (n := some a[k])
    obtain ⟨⟨d1, _⟩, ⟨c1, _⟩, ⟨g1, _⟩⟩ := hbp
    unfold boundL
    rw [hp1, hp2]
    match n with
    | 0 =>
      simp only [List.getD_cons_zero]
      refine ovL_le2 (p := p) (q := other p (p.vars.take k ++ p.vars.drop (k + 1))) (b := a) (b' := a.take k ++ a.drop (k + 1)) (cs := p.capacity) (k := 0) rfl fun leaf n => ?_
      by_cases hn : n < p.cells.length
      · rw [dem_val S ok hn, dem_val S2 ok2 hn]
        have h1 : usesIn p.vars a leaf = usesIn (p.vars.take k) (a.take k) leaf ++ usesIn (p.vars[k] :: p.vars.drop (k + 1)) (a[k] :: a.drop (k + 1)) leaf := by
          conv => lhs; rw [e1, e2]
          exact usesIn_app l1
        rw [h1]
        rw [cntU_other]
        show cntU p n (usesIn (p.vars.take k ++ p.vars.drop (k + 1)) (a.take k ++ a.drop (k + 1)) leaf) ≤ _
        rw [usesIn_app l1, cntU_app, cntU_app]
        simp only [usesIn, cntU_app]
        have : 0 ≤ cntU p n (if p.vars[k].leaves.contains leaf then usesAt p.vars[k] a[k] else []) := by
          refine cntU_pos fun u hu => ?_
          by_cases hc : p.vars[k].leaves.contains leaf = true
          · rw [if_pos hc] at hu
            have := (usesAt_ok okv u hu).places
            unfold wi at this; omega
          · rw [if_neg hc] at hu; cases hu
        omega
      · rw [List.getD_eq_getElem?_getD, List.getD_eq_getElem?_getD, List.getElem?_eq_none (by simp only [dem, foldU_len, List.length_replicate, other]; omega), List.getElem?_eq_none (by simp only [dem, foldU_len, List.length_replicate]; omega)]
        exact Int.le_refl _
    | 1 =>
      simp only [List.getD_cons_succ, List.getD_cons_zero, maxD_app, maxD_cons]
      exact maxD_mono (by unfold mx; split <;> omega)
    | 2 =>
      simp only [List.getD_cons_succ, List.getD_cons_zero, sumC_app, sumC]
      have := Int.mul_nonneg c1 (show (0 : Int) ≤ p.vars[k].leaves.length by omega)
      omega
    | 3 =>
      simp only [List.getD_cons_succ, List.getD_cons_zero, sumG_app, sumG]
      have := Int.mul_nonneg g1 (show (0 : Int) ≤ p.vars[k].leaves.length by omega)
      omega
    | n + 4 => simp

end Dv

/- The law ProblemTurned. -/
namespace Dv
attribute [local simp] wT_skip wK wT_ret wT_exit wR wRp wT_seq wC wT_block rTS_nil rTS_asg rTS_eff rTS_effk ob_some obP_some iteD_b condP_b xv_v xv_c xv_ite xv_bin_tt xv_bin_tc xv_bin_ct xv_bin_cc xv_un_t xv_conv_t xv_load xv_len xv_faddr xv_field xv_iaddr_tt xv_iaddr_tc xv_index_tt xv_index_tc xv_lookup_tt xv_max_tt xv_max_tc xv_max_ct xv_min_tt xv_min_tc xv_min_ct xv_slice_lo_t xv_slice_lo_c xv_slice_hi_t xv_slice_all xv_call xv_bslice bsliceV xv_build buildV xv_mkfn zeroE fillE buildD fillD List.replicate xvs_nil xvs_cons callV_fn frz_bool frz_int frz_imm frz_agg frz_tup frz_fn frz_iptr frzL_nil frzL_one frzL_dI frzL_cell frzL_use frzL_ints frzL_choice frzL_var depth dCell dUse dInts dChoice dVar dProb tStart addO Ret flat_dI flat_rep chunk_dI
 binD_add binD_sub binD_mul binD_eql binD_neq binD_lss binD_leq binD_gtr binD_geq binD_quo binD_rem binD_beql binD_bneq binD_aeql binD_aneq unD_not unD_neg lenD_imm lenD_sl lenD_str readO_cells readO_frozen loadD_loc loadD_iptr iaddrD_imm iaddrD_sl iaddrD_loc faddrD_loc faddrD_iptr fieldD_agg indexD_agg indexD_str cellsL_bool stor_bool atom_bool cellsL_int stor_int atom_int cellsL_str stor_str atom_str cellsL_imm stor_imm atom_imm cellsL_sl stor_sl atom_sl cellsL_loc stor_loc atom_loc cellsL_iptr stor_iptr atom_iptr cellsL_map stor_map atom_map cellsL_fn stor_fn atom_fn cellsL_agg stor_agg cellsL_nilfn stor_nilfn atom_nilfn cellsL_nilp stor_nilp atom_nilp takeC_z takeC_s ofCells_ag ofCells_one ag_bool ag_int ag_str ag_slice ag_struct ag_arr ag_map ag_ptr ag_func gOf_t gOf_c gOf_f kv_cons putE_some putE_none oneRes_one oneRes_two oneRes_three getAll_nil getAll_v getAll_c maxiD_two miniD_two extV_tup xv_ext stepOp_box stepOp_alloc stepOp_store writeO_cells storeD_loc setCells_nil setCells_cons stepOp_mkmap stepOp_mapset stepOp_call1 stepOp_call2 stepOp_app2 stepOp_app1 stepOp_bslice stepOp_mkslice mapO_map lookupD_some lookupD_ok mapsetD_some keyOk_agg kindsL_nil kindsL_bool kindsL_int eqL_nil eqL_cons atomEq_bool atomEq_int frz_sl tokO_tok app0_step app0_exact app0_tok frz_loc oneRes_nil listOf_imm
 ty_0 ty_1 ty_2 ty_3 ty_4 ty_5 ty_6 ty_7 ty_8 ty_9 ty_10 ty_11 ty_12 ty_13 ty_14 ty_15 ty_16 ty_17 ty_18 ty_19 ty_20 ty_21 ty_22 ty_23 ty_24 ty_25 ty_26 ty_27
attribute [local congr] wT_congr ob_congr obP_congr iteD_congr condP_congr

theorem frzL_app {f : D → Option D} : ∀ {a b : List D}, frzL f (a ++ b) = ob (frzL f a) fun x => ob (frzL f b) fun y => some (x ++ y)
  | [], b => by
    simp only [List.nil_append, frzL_nil, ob_some]
    cases frzL f b <;> rfl
  | x :: a, b => by
    simp only [List.cons_append, frzL_one, frzL_app (a := a) (b := b)]
    cases f x with
    | none => rfl
    | some x' =>
      simp only [ob_some]
      cases frzL f a with
      | none => rfl
      | some a' =>
        simp only [ob_some]
        cases frzL f b <;> rfl

theorem slice_lo {t e : Nat} (hk : (E.ty t).k = .slice e) {l : List D} (hf : headFits (E.ty e).size l = true) {n : Nat} (h : n ≤ l.length) : sliceD E t (.imm .none l) (some (.int .i64 (n : Int))) none none = some (.imm .none (l.drop n)) := by
  simp only [sliceD, hk, bnd, Int.toNat_natCast, Option.map_none, sliceSpare, hf]
  have h0 : (0 : Int) ≤ n := by omega
  simp only [h0, h, if_true, Nat.le_refl, and_self]
  rw [List.take_of_length_le (by simp)]
theorem slice_hi {t e : Nat} (hk : (E.ty t).k = .slice e) {l : List D} (hf : headFits (E.ty e).size l = true) {n : Nat} (h : n ≤ l.length) : sliceD E t (.imm .none l) none (some (.int .i64 (n : Int))) none = some (.imm .none (l.take n)) := by
  simp only [sliceD, hk, bnd, Int.toNat_natCast, Option.map_none, sliceSpare, hf]
  have h0 : (0 : Int) ≤ n := by omega
  simp only [h0, h, if_true, Nat.le_refl, and_self, Nat.zero_le, List.drop_zero, Nat.sub_zero]
  by_cases e : n = l.length
  · simp [e]
  · simp [e]

theorem fits_var {l : List Var} : fitsE 4 (l.map dVar) = true := by
  unfold fitsE
  rw [List.all_eq_true]
  intro d hd
  obtain ⟨n, _, rfl⟩ := List.mem_map.1 hd
  rfl
theorem all_var {l : List Var} : ((l.map dVar).all fun d => d.storable && d.cellsL.length == 4) = true := fits_var
theorem fits_num {l : List Int} : fitsE 1 (l.map dI) = true := by
  unfold fitsE
  rw [List.all_eq_true]
  intro d hd
  obtain ⟨n, _, rfl⟩ := List.mem_map.1 hd
  rfl
theorem all_num {l : List Int} : ((l.map dI).all fun d => d.storable && d.cellsL.length == 1) = true := fits_num
theorem tmodM {m k : Nat} : Int.tmod (m : Int) (k : Int) = ((m % k : Nat) : Int) := by
  rw [Int.tmod_eq_emod_of_nonneg (by omega)]; omega
theorem wrapU {n : Nat} (h : n < 18446744073709551616) : Go.IntKind.u64.wrap (n : Int) = n := by
  have : Go.IntKind.u64.wrap (n : Int) = (n : Int) % 18446744073709551616 := by
    first | rfl | simp [Go.IntKind.wrap, Go.IntKind.bits, Go.IntKind.signed]
  rw [this]; omega

set_option maxHeartbeats 16000000 in
theorem law51 (h1 : runP E (dL E) 17 [] = some (.bool true)) (p : Prob) (a : List Int) (turn : Nat) (hlf : turn < 18446744073709551616) :
    runP E (dL E) 51 [dProb p, dInts a, .int .u64 turn] = some (.bool true) := by
  refine runP_T c51 (by simp) ?_
  have h2 := r2 p
  simp only [dProb] at h2
  simp [t51, n51, h1, h2]
  cases hf : fewB p with
  | false => simp
  | true =>
  have S := few_small hf
  simp
  by_cases hb : (20 : Int) < a.length
  · have hb2 : ¬ (a.length : Int) ≤ 20 := by omega
    simp [hb, hb2]
  have hb' : a.length ≤ 20 := by omega
  have hb2 : (a.length : Int) ≤ 20 := by omega
  simp [hb, hb2]
  have h22 := r22 p a S hb'
  by_cases h0 : Whole p a
  rotate_left
  · simp only [resV, if_neg h0] at h22
    simp only [dProb, dInts] at h22
    simp [h22]
  simp only [resV, if_pos h0] at h22
  have s3 := S.vars
  have hl := h0.2.2
  by_cases z1 : p.vars.length = 0
  · have z1' : p.vars = [] := List.eq_nil_of_length_eq_zero z1
    obtain ⟨v, hv⟩ : ∃ v, v = boundL p a := ⟨_, rfl⟩
    rw [← hv] at h22
    simp only [dProb, dInts, z1', List.map_nil] at h22
    simp [h22, z1']
  have z1' : ¬ p.vars = [] := fun e => z1 (by rw [e]; rfl)
  have u1 := wrapU (n := p.vars.length) (by omega)
  obtain ⟨k, hk⟩ : ∃ k, k = turn % p.vars.length := ⟨_, rfl⟩
  have hkl : k < p.vars.length := by rw [hk]; exact Nat.mod_lt _ (by omega)
  have t1 : Int.tmod (turn : Int) (p.vars.length : Int) = (k : Int) := by rw [tmodM, ← hk]
  have w1 := wrap_i64 (n := (k : Int)) ⟨by omega, by omega⟩
  have w2 := wrap_i64 (n := (k : Int) + 1) ⟨by omega, by omega⟩
  obtain ⟨wt, et⟩ := turn_bound S h0 k
  obtain ⟨wl, el⟩ := less_bound S h0 hkl
  have S2 := fun vs h => other_small S (vs := vs) h
  have hmT : ∀ v, v ∈ p.vars.drop k ++ p.vars.take k → v ∈ p.vars := fun v hv => by
    rcases List.mem_append.1 hv with h | h
    · exact List.mem_of_mem_drop h
    · exact List.mem_of_mem_take h
  have hmL : ∀ v, v ∈ p.vars.take k ++ p.vars.drop (k + 1) → v ∈ p.vars := fun v hv => by
    rcases List.mem_append.1 hv with h | h
    · exact List.mem_of_mem_take h
    · exact List.mem_of_mem_drop h
  have hvT := r22 (other p (p.vars.drop k ++ p.vars.take k)) (a.drop k ++ a.take k) (other_small S hmT (by simp; omega)) (by simp; omega)
  have hvL := r22 (other p (p.vars.take k ++ p.vars.drop (k + 1))) (a.take k ++ a.drop (k + 1)) (other_small S hmL (by simp; omega)) (by simp; omega)
  simp only [resV, if_pos wt, et] at hvT
  simp only [resV, if_pos wl] at hvL
  have hv1 : headFits 4 (p.vars.map dVar) = true := by cases p.vars <;> rfl
  have hn1 : headFits 1 (a.map dI) = true := by cases a <;> rfl
  have sl1 := slice_lo (t := 14) (e := 15) rfl (l := p.vars.map dVar) hv1 (n := k) (by simp; omega)
  have sl2 := slice_hi (t := 14) (e := 15) rfl (l := p.vars.map dVar) hv1 (n := k) (by simp; omega)
  have sl3 := slice_lo (t := 14) (e := 15) rfl (l := p.vars.map dVar) hv1 (n := k + 1) (by simp; omega)
  have sl4 := slice_lo (t := 6) (e := 2) rfl (l := a.map dI) hn1 (n := k) (by simp; omega)
  have sl5 := slice_hi (t := 6) (e := 2) rfl (l := a.map dI) hn1 (n := k) (by simp; omega)
  have sl6 := slice_lo (t := 6) (e := 2) rfl (l := a.map dI) hn1 (n := k + 1) (by simp; omega)
  rw [← List.map_drop] at sl1 sl3 sl4 sl6
  rw [← List.map_take] at sl2 sl5
  simp only [Int.natCast_add, Int.natCast_one] at sl3 sl6
  have q1 : (p.vars.drop k).length ≤ 6 := by simp; omega
  have q2 : (p.vars.take k).length ≤ 6 := by simp; omega
  have q3 : (p.vars.drop (k + 1)).length ≤ 6 := by simp; omega
  have q4 : (a.drop k).length ≤ 20 := by simp; omega
  have q5 : (a.take k).length ≤ 20 := by simp; omega
  have q6 : (a.drop (k + 1)).length ≤ 20 := by simp; omega
  obtain ⟨V, hV⟩ : ∃ V, V = boundL p a := ⟨_, rfl⟩
  obtain ⟨U, hU⟩ : ∃ U, U = boundL (other p (p.vars.take k ++ p.vars.drop (k + 1))) (a.take k ++ a.drop (k + 1)) := ⟨_, rfl⟩
  have hVl : V.length = 4 := by rw [hV]; rfl
  have hUl : U.length = 4 := by rw [hU]; rfl
  rw [← hV] at h22 hvT el
  rw [← hU] at hvL el
  have h20 := r20 V V (by omega)
  have h52 := r52 U V (by omega) (by omega)
  have hall : allLe (U.zip V) = true := by
    unfold allLe
    rw [List.all_eq_true]
    intro x hx
    obtain ⟨i, hi, e⟩ := List.mem_iff_getElem.1 hx
    simp only [List.length_zip] at hi
    rw [List.getElem_zip] at e
    have := el i
    rw [List.getD_eq_getElem?_getD, List.getD_eq_getElem?_getD, List.getElem?_eq_getElem (by omega), List.getElem?_eq_getElem (by omega)] at this
    simp only [Option.getD_some] at this
    rw [← e]
    simpa using this
  rw [hall] at h52
  clear hV hU et el wl wt
  simp only [other] at hvT hvL
  obtain ⟨vd, hvd⟩ : ∃ vd, vd = p.vars.drop k := ⟨_, rfl⟩
  obtain ⟨vt, hvt⟩ : ∃ vt, vt = p.vars.take k := ⟨_, rfl⟩
  obtain ⟨ve, hve⟩ : ∃ ve, ve = p.vars.drop (k + 1) := ⟨_, rfl⟩
  obtain ⟨ad, had⟩ : ∃ ad, ad = a.drop k := ⟨_, rfl⟩
  obtain ⟨at', hat⟩ : ∃ at', at' = a.take k := ⟨_, rfl⟩
  obtain ⟨ae, hae⟩ : ∃ ae, ae = a.drop (k + 1) := ⟨_, rfl⟩
  rw [← hvd] at hvT sl1 q1
  rw [← hvt] at hvT hvL sl2 q2
  rw [← hve] at hvL sl3 q3
  rw [← had] at hvT sl4 q4
  rw [← hat] at hvT hvL sl5 q5
  rw [← hae] at hvL sl6 q6
  simp only [dProb, dInts, List.map_append] at hvT hvL h22 h20 h52
  have b1 : ∀ {x y : List Var}, x.length ≤ 6 → y.length ≤ 6 → appOk E 15 (x.map dVar) (y.map dVar) := fun hx hy => by
    refine ⟨?_, ?_, ?_, fits_var⟩ <;> simp [maxBytes]
    omega
  have b0 : ∀ {y : List Var}, y.length ≤ 6 → appOk E 15 [] (y.map dVar) := fun hy => b1 (x := []) (by simp) hy
  have b3 : ∀ {x y : List Int}, x.length ≤ 20 → y.length ≤ 20 → appOk E 2 (x.map dI) (y.map dI) := fun hx hy => by
    refine ⟨?_, ?_, ?_, fits_num⟩ <;> simp [maxBytes]
    omega
  have b4 : ∀ {y : List Int}, y.length ≤ 20 → appOk E 2 [] (y.map dI) := fun hy => b3 (x := []) (by simp) hy
  simp [h22, z1, z1', u1, t1, convD, w1, w2, chkT_cons, chkT_nil, chk1, did, idsNe, sl1, sl2, sl3, sl4, sl5, sl6, app0_step, app0_exact, app0_tok, all_var, all_num, b0 q1, b0 q2, b1 q1 q2, b1 q2 q3, b4 q4, b4 q5, b3 q4 q5, b3 q5 q6,
    frzL_app, hvT, hvL, h20, h52]

theorem problemTurned : ∀ xs, TypedL E [0, 6, 12] xs → ∃ n, runP E (dC E n) 51 xs = some (.bool true) := by
  intro xs h
  match xs, h with
  | [x, y, z], ⟨h1, h2, h3, _⟩ =>
    obtain ⟨p, rfl, _⟩ := ty_prob h1
    obtain ⟨a, rfl, _⟩ := ty_nums h2 rfl
    obtain ⟨l, rfl, hl⟩ := ty_u64 h3 rfl
    exact runP_ex (law51 sane17' p a l hl)
  | [], h => exact h.elim
  | [_], h => exact h.2.elim
  | [_, _], h => exact h.2.2.elim
  | _ :: _ :: _ :: _ :: _, h => exact h.2.2.2.elim

end Dv
