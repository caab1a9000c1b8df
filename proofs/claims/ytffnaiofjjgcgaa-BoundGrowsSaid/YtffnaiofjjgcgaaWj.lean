/- Texts that a proof of this claim uses, joined: Lw.W31, Lw.W32. -/
import Derived.Test.YtffnaiofjjgcgaaWg
import Derived.Test.YtffnaiofjjgcgaaWi
import Derived.Test.YtffnaiofjjgcgaaNb
set_option linter.all false
/- Plain facts: with one more choice nothing becomes less. -/
namespace Dv

theorem usesIn_snoc {leaf i : Int} : ∀ {vs : List Var} {b : List Int} (h : b.length < vs.length), usesIn vs (b ++ [i]) leaf = usesIn vs b leaf ++ (if vs[b.length].leaves.contains leaf then usesAt vs[b.length] i else [])
  | v :: vs, [], _ => by
    cases vs <;> simp [usesIn]
  | v :: vs, n :: ns, h => by
    have h' : ns.length < vs.length := by simpa using h
    simp only [List.cons_append, usesIn, usesIn_snoc h', List.append_assoc, List.length_cons, List.getElem_cons_succ]

theorem foldU_ge {p : Prob} : ∀ {l : List Use} {r : List Int} {k : Int}, (∀ u, u ∈ l → 0 ≤ u.places ∧ u.places ≤ 8) → 0 ≤ k → (∀ x, x ∈ r → 0 ≤ x ∧ x ≤ k) → k + 8 * l.length ≤ 1000000 →
    ∀ n, r.getD n 0 ≤ (l.foldl (addU p) r).getD n 0
  | [], r, k, _, _, hr, _, n => by simp
  | u :: l, r, k, hu, hk, hr, hb, n => by
    simp only [List.length_cons] at hb ⊢
    rw [List.foldl_cons]
    have hu1 := hu u (by simp)
    have h1 : 0 ≤ r.getD (atS u.cell p.cells 0).toNat 0 ∧ r.getD (atS u.cell p.cells 0).toNat 0 ≤ k := by
      rcases getD_or (r := r) (a := (atS u.cell p.cells 0).toNat) with h | h
      · exact hr _ h
      · rw [h]; omega
    have := foldU_ge (p := p) (l := l) (r := addU p r u) (k := k + 8) (fun v hv => hu v (by simp [hv])) (by omega) (fun y hy => by
      unfold addU at hy
      rcases List.mem_or_eq_of_mem_set hy with h | h
      · have := hr y h; omega
      · rw [h, wr_id ⟨by omega, by omega⟩]; omega) (by omega) n
    refine Int.le_trans ?_ this
    unfold addU
    rw [wr_id ⟨by omega, by omega⟩]
    by_cases e : (atS u.cell p.cells 0).toNat = n
    · subst e
      by_cases hn : (atS u.cell p.cells 0).toNat < r.length
      · rw [List.getD_eq_getElem?_getD, List.getD_eq_getElem?_getD, List.getElem?_set_self hn, Option.getD_some, List.getElem?_eq_getElem hn, Option.getD_some]; omega
      · rw [List.set_eq_of_length_le (by omega)]
        exact Int.le_refl _
    · rw [List.getD_eq_getElem?_getD (l := List.set _ _ _), List.getElem?_set_ne e, ← List.getD_eq_getElem?_getD]
      exact Int.le_refl _

theorem dem_ge {p : Prob} (S : Small p) (ok : OkP p) {b : List Int} {i leaf : Int} (h : b.length < p.vars.length) (n : Nat) : (dem p b leaf).getD n 0 ≤ (dem p (b ++ [i]) leaf).getD n 0 := by
  have e : dem p (b ++ [i]) leaf = (if p.vars[b.length].leaves.contains leaf then usesAt p.vars[b.length] i else []).foldl (addU p) (dem p b leaf) := by
    unfold dem
    rw [usesIn_snoc h, List.foldl_append]
  rw [e]
  have okv := ok.vars _ (List.getElem_mem h)
  have hl := usesAt_len (v := p.vars[b.length]) (n := i) (S.uses _ (List.getElem_mem h))
  by_cases hc : p.vars[b.length].leaves.contains leaf = true
  · rw [if_pos hc]
    exact foldU_ge (k := 576) (fun u hu => (usesAt_ok okv u hu).places |> fun h => by unfold wi at h; omega) (by omega) (dem_bd S ok) (by omega) n
  · rw [if_neg hc]
    exact Int.le_refl _

theorem mx_mono {a b : Int} (h : a ≤ b) : mx a 0 ≤ mx b 0 := by unfold mx; split <;> split <;> omega

theorem ovR_mono : ∀ {d d' c : List Int}, d.length = d'.length → (∀ n, d.getD n 0 ≤ d'.getD n 0) → ovR d c ≤ ovR d' c
  | [], [], _, _, _ => by simp [ovR]
  | [], _ :: _, _, h, _ => by simp at h
  | _ :: _, [], _, h, _ => by simp at h
  | d :: ds, d' :: ds', [], _, _ => by simp [ovR]
  | d :: ds, d' :: ds', c :: cs, h, hn => by
    have h1 := ovR_mono (d := ds) (d' := ds') (c := cs) (by simpa using h) (fun n => by have := hn (n + 1); simpa using this)
    have h2 := hn 0
    simp only [List.getD_cons_zero] at h2
    have h3 := mx_mono (a := d - c) (b := d' - c) (by omega)
    simp only [ovR]; omega

theorem ovL_mono {p : Prob} {b b' : List Int} (h : ∀ (leaf : Int) n, (dem p b leaf).getD n 0 ≤ (dem p b' leaf).getD n 0) : ∀ {cs : List (List Int)} {k : Nat}, ovL p b k cs ≤ ovL p b' k cs
  | [], _ => by simp [ovL]
  | c :: cs, k => by
    have h1 := ovL_mono h (cs := cs) (k := k + 1)
    have h2 := ovR_mono (d := dem p b k) (d' := dem p b' k) (c := c) (by simp [dem, foldU_len]) (h k)
    simp only [ovL]; omega

theorem ov_grows {p : Prob} (S : Small p) (ok : OkP p) {b : List Int} {i : Int} (h : b.length < p.vars.length) : ov p b ≤ ov p (b ++ [i]) :=
  ovL_mono fun leaf n => dem_ge S ok h n

/-- where the numbers of a branch and of one with one more choice differ -/
theorem picks_snoc : ∀ {vs : List Var} {b : List Int} (h : b.length < vs.length), ∃ pre post, picks vs b = pre ++ ((vs[b.length].leaves.length : Int), pick vs[b.length] none) :: post ∧
    ∀ i, picks vs (b ++ [i]) = pre ++ ((vs[b.length].leaves.length : Int), pick vs[b.length] (some i)) :: post
  | v :: vs, [], _ => ⟨[], picks vs [], rfl, fun _ => rfl⟩
  | v :: vs, n :: ns, h => by
    have h' : ns.length < vs.length := by simpa using h
    obtain ⟨pre, post, h1, h2⟩ := picks_snoc h'
    refine ⟨((v.leaves.length : Int), pick v (some n)) :: pre, post, ?_, fun i => ?_⟩
    · simp only [picks, List.head?_cons, List.tail_cons, h1, List.length_cons, List.getElem_cons_succ, List.cons_append]
    · simp only [List.cons_append, picks, List.head?_cons, List.tail_cons, h2 i, List.length_cons, List.getElem_cons_succ]

theorem sumC_app : ∀ {l r : List (Int × Choice)}, sumC (l ++ r) = sumC l + sumC r
  | [], r => by simp [sumC]
  | x :: l, r => by simp only [List.cons_append, sumC, sumC_app]; omega
theorem sumG_app : ∀ {l r : List (Int × Choice)}, sumG (l ++ r) = sumG l + sumG r
  | [], r => by simp [sumG]
  | x :: l, r => by simp only [List.cons_append, sumG, sumG_app]; omega
theorem maxD_app {a : Int} {l r : List (Int × Choice)} : maxD a (l ++ r) = maxD (maxD a l) r := by simp [maxD]
theorem maxD_cons {a : Int} {x : Int × Choice} {r : List (Int × Choice)} : maxD a (x :: r) = maxD (mx a x.2.delay) r := rfl
theorem maxD_mono : ∀ {l : List (Int × Choice)} {a b : Int}, a ≤ b → maxD a l ≤ maxD b l
  | [], _, _, h => h
  | x :: l, a, b, h => by
    rw [maxD_cons, maxD_cons]
    exact maxD_mono (by unfold mx; split <;> split <;> omega)

theorem fold_min (f : Choice → Int) (hf : ∀ a c, f (minC a c) = mn (f a) (f c)) : ∀ (l : List Choice) (a : Choice), f (l.foldl minC a) ≤ f a ∧ (∀ c, c ∈ l → f (l.foldl minC a) ≤ f c) ∧ (f (l.foldl minC a) = f a ∨ ∃ c, c ∈ l ∧ f (l.foldl minC a) = f c)
  | [], a => ⟨Int.le_refl _, fun c h => by simp at h, .inl rfl⟩
  | x :: l, a => by
    obtain ⟨h1, h2, h3⟩ := fold_min f hf l (minC a x)
    rw [List.foldl_cons]
    have h4 := hf a x
    have h5 : mn (f a) (f x) ≤ f a ∧ mn (f a) (f x) ≤ f x ∧ (mn (f a) (f x) = f a ∨ mn (f a) (f x) = f x) := by unfold mn; split <;> omega
    refine ⟨by omega, fun c hc => ?_, ?_⟩
    · rcases List.mem_cons.1 hc with rfl | hc
      · omega
      · exact h2 c hc
    · rcases h3 with h3 | ⟨c, hc, h3⟩
      · rcases h5.2.2 with h6 | h6
        · exact .inl (by omega)
        · exact .inr ⟨x, by simp, by omega⟩
      · exact .inr ⟨c, by simp [hc], h3⟩

theorem pick_min (f : Choice → Int) (hf : ∀ a c, f (minC a c) = mn (f a) (f c)) {v : Var} (h1 : 1 ≤ v.choices.length) :
    (∀ i : Nat, i < v.choices.length → f (pick v none) ≤ f (pick v (some i))) ∧ ∃ i : Nat, i < v.choices.length ∧ f (pick v none) = f (pick v (some i)) := by
  have h0 : 0 < v.choices.length := by omega
  have e0 : v.choices.getD 0 ⟨0, 0, 0, []⟩ = v.choices[0] := by simp [List.getD_eq_getElem?_getD, List.getElem?_eq_getElem h0]
  have es : ∀ (i : Nat) (hi : i < v.choices.length), pick v (some i) = v.choices[i] := fun i hi => by simp [pick, List.getD_eq_getElem?_getD, List.getElem?_eq_getElem hi]
  have en : pick v none = (v.choices.drop 1).foldl minC v.choices[0] := by simp only [pick, e0]
  obtain ⟨g1, g2, g3⟩ := fold_min f hf (v.choices.drop 1) v.choices[0]
  rw [en]
  refine ⟨fun i hi => ?_, ?_⟩
  · rw [es i hi]
    cases i with
    | zero => exact g1
    | succ i =>
      refine g2 _ ?_
      rw [List.mem_iff_getElem]
      exact ⟨i, by simp; omega, by simp [Nat.add_comm]⟩
  · rcases g3 with g3 | ⟨c, hc, g3⟩
    · exact ⟨0, h0, by rw [es 0 h0]; exact g3⟩
    · obtain ⟨i, hi, e⟩ := List.mem_iff_getElem.1 hc
      simp only [List.length_drop] at hi
      refine ⟨i + 1, by omega, ?_⟩
      rw [es (i + 1) (by omega), g3, ← e]
      simp [Nat.add_comm]

/-- with one more choice no component of the bound is less; and the least ones are met -/
theorem bound_grows {p : Prob} (S : Small p) (ok : OkP p) {b : List Int} (h : b.length < p.vars.length) :
    (∀ i : Nat, i < p.vars[b.length].choices.length → ∀ k, (boundL p b).getD k 0 ≤ (boundL p (b ++ [(i : Int)])).getD k 0) ∧
    ∀ k, 1 ≤ k → ∃ i : Nat, i < p.vars[b.length].choices.length ∧ (boundL p (b ++ [(i : Int)])).getD k 0 = (boundL p b).getD k 0 := by
  have okv := ok.vars _ (List.getElem_mem h)
  have hone := okv.one
  obtain ⟨pre, post, e1, e2⟩ := picks_snoc h
  obtain ⟨a1, a2⟩ := pick_min (·.delay) (fun _ _ => rfl) hone
  obtain ⟨b1, b2⟩ := pick_min (·.cost) (fun _ _ => rfl) hone
  obtain ⟨c1, c2⟩ := pick_min (·.changes) (fun _ _ => rfl) hone
  obtain ⟨v, hv⟩ : ∃ v, v = p.vars[b.length] := ⟨_, rfl⟩
  rw [← hv] at e1 e2 a1 a2 b1 b2 c1 c2 ⊢
  have hn : (0 : Int) ≤ v.leaves.length := by omega
  constructor
  · intro i hi k
    unfold boundL
    rw [e1, e2]
    match k with
    | 0 => exact ov_grows S ok h
    | 1 =>
      simp only [List.getD_cons_succ, List.getD_cons_zero, maxD_app, maxD_cons]
      refine maxD_mono ?_
      have := a1 i hi
      unfold mx; split <;> split <;> omega
    | 2 =>
      simp only [List.getD_cons_succ, List.getD_cons_zero, sumC_app, sumC]
      have := Int.mul_le_mul_of_nonneg_right (b1 i hi) hn
      omega
    | 3 =>
      simp only [List.getD_cons_succ, List.getD_cons_zero, sumG_app, sumG]
      have := Int.mul_le_mul_of_nonneg_right (c1 i hi) hn
      omega
    | k + 4 => simp
  · intro k hk
    match k, hk with
    | 1, _ =>
      obtain ⟨i, hi, e⟩ := a2
      refine ⟨i, hi, ?_⟩
      unfold boundL
      rw [e1, e2]
      simp only [List.getD_cons_succ, List.getD_cons_zero, maxD_app, maxD_cons, e]
    | 2, _ =>
      obtain ⟨i, hi, e⟩ := b2
      refine ⟨i, hi, ?_⟩
      unfold boundL
      rw [e1, e2]
      simp only [List.getD_cons_succ, List.getD_cons_zero, sumC_app, sumC, e]
    | 3, _ =>
      obtain ⟨i, hi, e⟩ := c2
      refine ⟨i, hi, ?_⟩
      unfold boundL
      rw [e1, e2]
      simp only [List.getD_cons_succ, List.getD_cons_zero, sumG_app, sumG, e]
    | k + 4, _ => exact ⟨0, by omega, by simp [boundL]⟩

theorem okb_snoc {p : Prob} {b : List Int} (okb : OkB p b) (h : b.length < p.vars.length) {i : Nat} (hi : i < p.vars[b.length].choices.length) : OkB p (b ++ [(i : Int)]) := by
  refine ⟨by simp; omega, fun j hj hj' => ?_⟩
  by_cases e : j < b.length
  · rw [List.getElem_append_left e]
    exact okb.each j e hj'
  · have : j = b.length := by simp at hj; omega
    subst this
    unfold wi
    simp; omega

end Dv

/- The law BoundGrows. -/
namespace Dv
attribute [local simp] wT_skip wT_ret wT_exit wR wRp wT_seq wC wT_block rTS_nil rTS_asg rTS_eff rTS_effk ob_some obP_some iteD_b condP_b xv_v xv_c xv_ite xv_bin_tt xv_bin_tc xv_bin_ct xv_bin_cc xv_un_t xv_conv_t xv_load xv_len xv_faddr xv_field xv_iaddr_tt xv_iaddr_tc xv_index_tt xv_index_tc xv_lookup_tt xv_max_tt xv_max_tc xv_max_ct xv_min_tt xv_min_tc xv_min_ct xv_slice_lo_t xv_slice_lo_c xv_slice_hi_t xv_slice_all xv_call xv_bslice bsliceV xv_build buildV xv_mkfn zeroE fillE buildD fillD List.replicate xvs_nil xvs_cons callV_fn frz_bool frz_int frz_imm frz_agg frz_tup frz_fn frz_iptr frzL_nil frzL_one frzL_dI frzL_cell frzL_use frzL_ints frzL_choice frzL_var depth dCell dUse dInts dChoice dVar dProb tStart addO Ret flat_dI flat_rep chunk_dI
 binD_add binD_sub binD_mul binD_eql binD_neq binD_lss binD_leq binD_gtr binD_geq binD_quo binD_rem binD_beql binD_bneq binD_aeql binD_aneq unD_not unD_neg lenD_imm lenD_sl lenD_str readO_cells readO_frozen loadD_loc loadD_iptr iaddrD_imm iaddrD_sl iaddrD_loc faddrD_loc faddrD_iptr fieldD_agg indexD_agg indexD_str cellsL_bool stor_bool atom_bool cellsL_int stor_int atom_int cellsL_str stor_str atom_str cellsL_imm stor_imm atom_imm cellsL_sl stor_sl atom_sl cellsL_loc stor_loc atom_loc cellsL_iptr stor_iptr atom_iptr cellsL_map stor_map atom_map cellsL_fn stor_fn atom_fn cellsL_agg stor_agg cellsL_nilfn stor_nilfn atom_nilfn cellsL_nilp stor_nilp atom_nilp takeC_z takeC_s ofCells_ag ofCells_one ag_bool ag_int ag_str ag_slice ag_struct ag_arr ag_map ag_ptr ag_func gOf_t gOf_c gOf_f kv_cons putE_some putE_none oneRes_one oneRes_two oneRes_three getAll_nil getAll_v getAll_c maxiD_two miniD_two extV_tup xv_ext stepOp_box stepOp_alloc stepOp_store writeO_cells storeD_loc setCells_nil setCells_cons stepOp_mkmap stepOp_mapset stepOp_call1 stepOp_call2 stepOp_app2 stepOp_app1 stepOp_bslice stepOp_mkslice mapO_map lookupD_some lookupD_ok mapsetD_some keyOk_agg kindsL_nil kindsL_bool kindsL_int eqL_nil eqL_cons atomEq_bool atomEq_int frz_sl tokO_tok app0_step app0_exact app0_tok frz_loc oneRes_nil listOf_imm
 ty_0 ty_1 ty_2 ty_3 ty_4 ty_5 ty_6 ty_7 ty_8 ty_9 ty_10 ty_11 ty_12 ty_13 ty_14 ty_15 ty_16 ty_17 ty_18 ty_19 ty_20 ty_21 ty_22 ty_23 ty_24 ty_25 ty_26 ty_27
attribute [local congr] wT_congr ob_congr obP_congr iteD_congr condP_congr

/-- which components of some lists were met before -/
def met (v : List Int) (W : Nat → List Int) (i k : Nat) : Bool := (List.range i).any fun j => (W j).getD k 0 == v.getD k 0
theorem met_succ {v : List Int} {W : Nat → List Int} {i k : Nat} : met v W (i + 1) k = (met v W i k || (W i).getD k 0 == v.getD k 0) := by
  simp [met, List.range_succ]

theorem wrap1 : Go.IntKind.i64.wrap 1 = 1 := by decide
theorem wrap2 : Go.IntKind.i64.wrap 2 = 2 := by decide
theorem wrap3 : Go.IntKind.i64.wrap 3 = 3 := by decide
theorem wrap4 : Go.IntKind.i64.wrap 4 = 4 := by decide
theorem or_if {x y : Bool} : (if x = true then some (D.bool true) else some (D.bool y)) = some (.bool (x || y)) := by cases x <;> rfl

theorem fourI {ds : List Int} (h : ds.length = 4) : ∃ a b c d, ds = [a, b, c, d] := by
  match ds, h with
  | [a, b, c, d], _ => exact ⟨a, b, c, d, rfl⟩

set_option maxHeartbeats 16000000 in
theorem law12 (h1 : runP E (dL E) 1 [] = some (.bool true)) (p : Prob) (b : List Int) : runP E (dL E) 12 [dProb p, dInts b] = some (.bool true) := by
  refine runP_T c12 (by simp) ?_
  have h2 := r2 p
  simp only [dProb] at h2
  simp [t12, n12, h1, h2]
  cases hf : fewB p with
  | false => simp
  | true =>
  have S := few_small hf
  simp
  by_cases hb : (20 : Int) < b.length
  · have hb2 : ¬ (b.length : Int) ≤ 20 := by omega
    simp [hb, hb2]
  have hb' : b.length ≤ 20 := by omega
  have hb2 : (b.length : Int) ≤ 20 := by omega
  simp [hb, hb2]
  have h3 := r3 p b S hb'
  have h7 := r7 p b S hb'
  by_cases h0 : bk p b 280 = 0
  rotate_left
  · simp only [resB, resN, if_neg h0] at h3 h7
    simp only [dProb, dInts] at h3 h7
    simp [h3, h7, h0]
  obtain ⟨ok, okb⟩ := bk_ok h0 (by decide)
  by_cases he : b.length = p.vars.length
  · simp only [resB, resN, if_pos h0, if_pos he] at h3 h7
    simp only [dProb, dInts] at h3 h7
    simp [h3, h7]
  have hlt0 : b.length < p.vars.length := by have := okb.len; omega
  obtain ⟨g1, g2⟩ := bound_grows S ok hlt0
  have s3 := S.vars
  have l2 := S.choices _ (List.getElem_mem hlt0)
  obtain ⟨n, hn⟩ : ∃ n, n = p.vars[b.length].choices.length := ⟨_, rfl⟩
  rw [← hn] at g1 g2 l2
  have hnl : nextL p b = nextT b n := by simp [nextL, nextT, hlt0, hn]
  simp only [resB, resN, if_pos h0, if_neg he, hnl] at h3 h7
  simp only [dProb, dInts] at h3 h7
  obtain ⟨W, hW⟩ : ∃ W : Nat → List Int, W = fun (i : Nat) => boundL p (b ++ [(i : Int)]) := ⟨_, rfl⟩
  have hWl : ∀ i, (W i).length = 4 := fun i => by rw [hW]; rfl
  obtain ⟨v, hv⟩ : ∃ v, v = boundL p b := ⟨_, rfl⟩
  have hvl : v.length = 4 := by rw [hv]; rfl
  have hrow : ∀ i : Nat, i < n → runP E (dL E) 3 [dProb p, dInts (b ++ [(i : Int)])] = some (.tup [.imm .none ((W i).map dI), dI 0]) := fun i hi => by
    have := r3 p (b ++ [(i : Int)]) S (by simp; omega)
    rw [this, hW]
    have hk := bk_pos (e := 280) ok (okb_snoc okb hlt0 (i := i) (by omega))
    unfold resB
    rw [if_pos hk]
  have g1' : ∀ i : Nat, i < n → ∀ k, v.getD k 0 ≤ (W i).getD k 0 := fun i hi k => by rw [hv, hW]; exact g1 i hi k
  have g2' : ∀ k, 1 ≤ k → met v W n k = true := fun k hk => by
    obtain ⟨i, hi, e⟩ := g2 k hk
    unfold met
    rw [List.any_eq_true]
    exact ⟨i, by simpa using hi, by rw [hv, hW]; simpa using e⟩
  rw [← hv] at h3
  clear hv
  obtain ⟨v0, v1, v2, v3, rfl⟩ := fourI hvl
  simp only [List.map_cons, List.map_nil] at h3
  simp [h3, h7, maxBytes]
  refine wT_up n (fun i env hp => ∃ (x10 x11 x12 x13 x14 x15 x16 x17 x18 x19 x20 x21 x22 x23 : D) (h : List Obj), env = [dProb p, dInts b, .loc 0 0, .bool false, .imm .none [dI v0, dI v1, dI v2, dI v3], dI 0, .imm .none ((nextT b n).map dInts), dI 0, .sl 1 0 4 1 false true, dI i, x10, x11, x12, x13, x14, x15, x16, x17, x18, x19, x20, x21, x22, x23] ∧
    hp = .cells (dProb p).cellsL :: .cells [.bool (met [v0, v1, v2, v3] W i 0), .bool (met [v0, v1, v2, v3] W i 1), .bool (met [v0, v1, v2, v3] W i 2), .bool (met [v0, v1, v2, v3] W i 3)] :: h) 0 (by omega) ⟨_, _, _, _, _, _, _, _, _, _, _, _, _, _, _, rfl, rfl⟩ ?_
  rintro i env hp hi ⟨x10, x11, x12, x13, x14, x15, x16, x17, x18, x19, x20, x21, x22, x23, h, rfl, rfl⟩
  have hnt : (nextT b n).length = n := nextT_len
  by_cases hlt : i < n
  rotate_left
  · have : i = n := by omega
    subst this
    simp [hnt, g2' 1 (by omega), g2' 2 (by omega), g2' 3 (by omega)]
  have hr := hrow i hlt
  obtain ⟨bi, hbi⟩ : ∃ bi, bi = b ++ [(i : Int)] := ⟨_, rfl⟩
  rw [← hbi] at hr
  have hgi : ∀ h : i < (nextT b n).length, (nextT b n)[i]'h = bi := fun h => by simp [nextT, hbi]
  have hg := g1' i hlt
  obtain ⟨w, hw⟩ : ∃ w, w = W i := ⟨_, rfl⟩
  have hwl := hWl i
  have hms : ∀ k, met [v0, v1, v2, v3] W (i + 1) k = (met [v0, v1, v2, v3] W i k || w.getD k 0 == [v0, v1, v2, v3].getD k 0) := fun k => by rw [hw]; exact met_succ
  rw [← hw] at hr hg hwl
  clear hw
  obtain ⟨w0, w1, w2, w3, rfl⟩ := fourI hwl
  have q0 := hg 0
  have q1 := hg 1
  have q2 := hg 2
  have q3 := hg 3
  simp only [List.getD_cons_succ, List.getD_cons_zero] at q0 q1 q2 q3
  simp only [dProb, dInts, List.map_cons, List.map_nil] at hr
  simp [hnt, hlt, hgi, hr]
  obtain ⟨F, hF⟩ : ∃ F : Nat → Nat → Bool, F = fun k k' => if k' < k then met [v0, v1, v2, v3] W (i + 1) k' else met [v0, v1, v2, v3] W i k' := ⟨_, rfl⟩
  have hst : ∀ k, F (k + 1) k = (F k k || [w0, w1, w2, w3].getD k 0 == [v0, v1, v2, v3].getD k 0) := fun k => by rw [hF]; simp only [Nat.lt_succ_self, if_true, Nat.lt_irrefl, if_false, hms]
  have hot : ∀ k k', k' ≠ k → F (k + 1) k' = F k k' := fun k k' h => by
    rw [hF]
    by_cases h1 : k' < k
    · have h2 : k' < k + 1 := by omega
      simp only [h1, h2]
    · have h2 : ¬ k' < k + 1 := by omega
      simp only [h1, h2]
  refine wT_up 4 (fun k env hp => ∃ (x13 x14 x15 x16 x17 x18 x19 x20 x21 x22 x23 : D) (h : List Obj), env = [dProb p, dInts b, .loc 0 0, .bool false, .imm .none [dI v0, dI v1, dI v2, dI v3], dI 0, .imm .none ((nextT b n).map dInts), dI 0, .sl 1 0 4 1 false true, dI i, .imm .none [dI w0, dI w1, dI w2, dI w3], dI 0, dI k, x13, x14, x15, x16, x17, x18, x19, x20, x21, x22, x23] ∧
    hp = .cells (dProb p).cellsL :: .cells [.bool (F k 0), .bool (F k 1), .bool (F k 2), .bool (F k 3)] :: h) 0 (by omega) ⟨_, _, _, _, _, _, _, _, _, _, _, _, rfl, by simp [hF]; rfl⟩ ?_
  rintro k env hp hk ⟨x13, x14, x15, x16, x17, x18, x19, x20, x21, x22, x23, h, rfl, rfl⟩
  have n0 : ¬ w0 < v0 := by omega
  have n1 : ¬ w1 < v1 := by omega
  have n2 : ¬ w2 < v2 := by omega
  have n3 : ¬ w3 < v3 := by omega
  by_cases hk4 : k < 4
  rotate_left
  · have : k = 4 := by omega
    subst this
    simp [wrap_up hlt (by omega), hF]
  obtain rfl | rfl | rfl | rfl : k = 0 ∨ k = 1 ∨ k = 2 ∨ k = 3 := by omega
  · have e : F 1 0 = (F 0 0 || w0 == v0) := hst 0
    have e1 : F 1 1 = F 0 1 := hot 0 1 (by omega)
    have e2 : F 1 2 = F 0 2 := hot 0 2 (by omega)
    have e3 : F 1 3 = F 0 3 := hot 0 3 (by omega)
    simp [n0, or_if, wrap1, wrap2, wrap3, wrap4, e, e1, e2, e3]
  · have e : F 2 1 = (F 1 1 || w1 == v1) := hst 1
    have e0 : F 2 0 = F 1 0 := hot 1 0 (by omega)
    have e2 : F 2 2 = F 1 2 := hot 1 2 (by omega)
    have e3 : F 2 3 = F 1 3 := hot 1 3 (by omega)
    simp [n1, or_if, wrap1, wrap2, wrap3, wrap4, e, e0, e2, e3]
  · have e : F 3 2 = (F 2 2 || w2 == v2) := hst 2
    have e0 : F 3 0 = F 2 0 := hot 2 0 (by omega)
    have e1 : F 3 1 = F 2 1 := hot 2 1 (by omega)
    have e3 : F 3 3 = F 2 3 := hot 2 3 (by omega)
    simp [n2, or_if, wrap1, wrap2, wrap3, wrap4, e, e0, e1, e3]
  · have e : F 4 3 = (F 3 3 || w3 == v3) := hst 3
    have e0 : F 4 0 = F 3 0 := hot 3 0 (by omega)
    have e1 : F 4 1 = F 3 1 := hot 3 1 (by omega)
    have e2 : F 4 2 = F 3 2 := hot 3 2 (by omega)
    simp [n3, or_if, wrap1, wrap2, wrap3, wrap4, e, e0, e1, e2]

theorem boundGrows : ∀ xs, TypedL E [0, 1] xs → ∃ n, runP E (dC E n) 12 xs = some (.bool true) := by
  intro xs h
  match xs, h with
  | [x, y], ⟨h1, h2, _⟩ =>
    obtain ⟨p, rfl, _⟩ := ty_prob h1
    obtain ⟨l, h3, _⟩ := ty_ints (typed_one h2 rfl) rfl
    simp only [List.cons.injEq, and_true] at h3
    subst h3
    exact runP_ex (law12 sane1' p l)
  | [], h => exact h.elim
  | [_], h => exact h.2.elim
  | _ :: _ :: _ :: _, h => exact h.2.2.elim

end Dv
