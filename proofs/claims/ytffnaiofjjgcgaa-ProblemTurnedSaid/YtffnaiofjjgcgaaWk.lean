/- Texts that a proof of this claim uses, joined: Lw.W31. -/
import Derived.Test.YtffnaiofjjgcgaaWx
set_option linter.all false
/- Plain facts: with one more choice nothing becomes less. -/
namespace Dv

theorem usesIn_snoc {leaf i : Int} : ∀ {vs : List Var} {b : List Int} (h : b.length < vs.length), usesIn vs (b ++ [i]) leaf = usesIn vs b leaf ++ (if vs[b.length].leaves.contains leaf then usesAt vs[b.length] i else [])
  | v :: vs, [], _ => by
    cases vs <;> simp [usesIn]
  | v :: vs, n :: ns, h => by
    have h' : ns.length < vs.length := by simpa using h
    simp only [List.cons_append, usesIn, usesIn_snoc h', List.append_assoc, List.length_cons, List.getElem_cons_succ]

theorem foldU_ge {p : Prob} : ∀ {l : List Use} {r : List Int} {k : Int}, (∀ u, u ∈ l → 0 ≤ u.places ∧ u.places ≤ 8) → 0 ≤ k → (∀ x, x ∈ r → 0 ≤ x ∧ x ≤ k) → k + 8 * l.length ≤ 1000000 →
    ∀ n, r.getD n 0 ≤ (l.foldl (addU p) r).getD n 0
  | [], r, k, _, _, hr, _, n => by simp
  | u :: l, r, k, hu, hk, hr, hb, n => by
    simp only [List.length_cons] at hb ⊢
    rw [List.foldl_cons]
    have hu1 := hu u (by simp)
    have h1 : 0 ≤ r.getD (atS u.cell p.cells 0).toNat 0 ∧ r.getD (atS u.cell p.cells 0).toNat 0 ≤ k := by
      rcases getD_or (r := r) (a := (atS u.cell p.cells 0).toNat) with h | h
      · exact hr _ h
      · rw [h]; omega
    have := foldU_ge (p := p) (l := l) (r := addU p r u) (k := k + 8) (fun v hv => hu v (by simp [hv])) (by omega) (fun y hy => by
      unfold addU at hy
      rcases List.mem_or_eq_of_mem_set hy with h | h
      · have := hr y h; omega
      · rw [h, wr_id ⟨by omega, by omega⟩]; omega) (by omega) n
    refine Int.le_trans ?_ this
    unfold addU
    rw [wr_id ⟨by omega, by omega⟩]
    by_cases e : (atS u.cell p.cells 0).toNat = n
    · subst e
      by_cases hn : (atS u.cell p.cells 0).toNat < r.length
      · rw [List.getD_eq_getElem?_getD, List.getD_eq_getElem?_getD, List.getElem?_set_self hn, Option.getD_some, List.getElem?_eq_getElem hn, Option.getD_some]; omega
      · rw [List.set_eq_of_length_le (by omega)]
        exact Int.le_refl _
    · rw [List.getD_eq_getElem?_getD (l := List.set _ _ _), List.getElem?_set_ne e, ← List.getD_eq_getElem?_getD]
      exact Int.le_refl _

theorem dem_ge {p : Prob} (S : Small p) (ok : OkP p) {b : List Int} {i leaf : Int} (h : b.length < p.vars.length) (n : Nat) : (dem p b leaf).getD n 0 ≤ (dem p (b ++ [i]) leaf).getD n 0 := by
  have e : dem p (b ++ [i]) leaf = (if p.vars[b.length].leaves.contains leaf then usesAt p.vars[b.length] i else []).foldl (addU p) (dem p b leaf) := by
    unfold dem
    rw [usesIn_snoc h, List.foldl_append]
  rw [e]
  have okv := ok.vars _ (List.getElem_mem h)
  have hl := usesAt_len (v := p.vars[b.length]) (n := i) (S.uses _ (List.getElem_mem h))
  by_cases hc : p.vars[b.length].leaves.contains leaf = true
  · rw [if_pos hc]
    exact foldU_ge (k := 576) (fun u hu => (usesAt_ok okv u hu).places |> fun h => by unfold wi at h; omega) (by omega) (dem_bd S ok) (by omega) n
  · rw [if_neg hc]
    exact Int.le_refl _

theorem mx_mono {a b : Int} (h : a ≤ b) : mx a 0 ≤ mx b 0 := by unfold mx; split <;> split <;> omega

theorem ovR_mono : ∀ {d d' c : List Int}, d.length = d'.length → (∀ n, d.getD n 0 ≤ d'.getD n 0) → ovR d c ≤ ovR d' c
  | [], [], _, _, _ => by simp [ovR]
  | [], _ :: _, _, h, _ => by simp at h
  | _ :: _, [], _, h, _ => by simp at h
  | d :: ds, d' :: ds', [], _, _ => by simp [ovR]
  | d :: ds, d' :: ds', c :: cs, h, hn => by
    have h1 := ovR_mono (d := ds) (d' := ds') (c := cs) (by simpa using h) (fun n => by have := hn (n + 1); simpa using this)
    have h2 := hn 0
    simp only [List.getD_cons_zero] at h2
    have h3 := mx_mono (a := d - c) (b := d' - c) (by omega)
    simp only [ovR]; omega

theorem ovL_mono {p : Prob} {b b' : List Int} (h : ∀ (leaf : Int) n, (dem p b leaf).getD n 0 ≤ (dem p b' leaf).getD n 0) : ∀ {cs : List (List Int)} {k : Nat}, ovL p b k cs ≤ ovL p b' k cs
  | [], _ => by simp [ovL]
  | c :: cs, k => by
    have h1 := ovL_mono h (cs := cs) (k := k + 1)
    have h2 := ovR_mono (d := dem p b k) (d' := dem p b' k) (c := c) (by simp [dem, foldU_len]) (h k)
    simp only [ovL]; omega

theorem ov_grows {p : Prob} (S : Small p) (ok : OkP p) {b : List Int} {i : Int} (h : b.length < p.vars.length) : ov p b ≤ ov p (b ++ [i]) :=
  ovL_mono fun leaf n => dem_ge S ok h n

/-- where the numbers of a branch and of one with one more choice differ -/
theorem picks_snoc : ∀ {vs : List Var} {b : List Int} (h : b.length < vs.length), ∃ pre post, picks vs b = pre ++ ((vs[b.length].leaves.length : Int), pick vs[b.length] none) :: post ∧
    ∀ i, picks vs (b ++ [i]) = pre ++ ((vs[b.length].leaves.length : Int), pick vs[b.length] (some i)) :: post
  | v :: vs, [], _ => ⟨[], picks vs [], rfl, fun _ => rfl⟩
  | v :: vs, n :: ns, h => by
    have h' : ns.length < vs.length := by simpa using h
    obtain ⟨pre, post, h1, h2⟩ := picks_snoc h'
    refine ⟨((v.leaves.length : Int), pick v (some n)) :: pre, post, ?_, fun i => ?_⟩
    · simp only [picks, List.head?_cons, List.tail_cons, h1, List.length_cons, List.getElem_cons_succ, List.cons_append]
    · simp only [List.cons_append, picks, List.head?_cons, List.tail_cons, h2 i, List.length_cons, List.getElem_cons_succ]

theorem sumC_app : ∀ {l r : List (Int × Choice)}, sumC (l ++ r) = sumC l + sumC r
  | [], r => by simp [sumC]
  | x :: l, r => by simp only [List.cons_append, sumC, sumC_app]; omega
theorem sumG_app : ∀ {l r : List (Int × Choice)}, sumG (l ++ r) = sumG l + sumG r
  | [], r => by simp [sumG]
  | x :: l, r => by simp only [List.cons_append, sumG, sumG_app]; omega
theorem maxD_app {a : Int} {l r : List (Int × Choice)} : maxD a (l ++ r) = maxD (maxD a l) r := by simp [maxD]
theorem maxD_cons {a : Int} {x : Int × Choice} {r : List (Int × Choice)} : maxD a (x :: r) = maxD (mx a x.2.delay) r := rfl
theorem maxD_mono : ∀ {l : List (Int × Choice)} {a b : Int}, a ≤ b → maxD a l ≤ maxD b l
  | [], _, _, h => h
  | x :: l, a, b, h => by
    rw [maxD_cons, maxD_cons]
    exact maxD_mono (by unfold mx; split <;> split <;> omega)

theorem fold_min (f : Choice → Int) (hf : ∀ a c, f (minC a c) = mn (f a) (f c)) : ∀ (l : List Choice) (a : Choice), f (l.foldl minC a) ≤ f a ∧ (∀ c, c ∈ l → f (l.foldl minC a) ≤ f c) ∧ (f (l.foldl minC a) = f a ∨ ∃ c, c ∈ l ∧ f (l.foldl minC a) = f c)
  | [], a => ⟨Int.le_refl _, fun c h => by simp at h, .inl rfl⟩
  | x :: l, a => by
    obtain ⟨h1, h2, h3⟩ := fold_min f hf l (minC a x)
    rw [List.foldl_cons]
    have h4 := hf a x
    have h5 : mn (f a) (f x) ≤ f a ∧ mn (f a) (f x) ≤ f x ∧ (mn (f a) (f x) = f a ∨ mn (f a) (f x) = f x) := by unfold mn; split <;> omega
    refine ⟨by omega, fun c hc => ?_, ?_⟩
    · rcases List.mem_cons.1 hc with rfl | hc
      · omega
      · exact h2 c hc
    · rcases h3 with h3 | ⟨c, hc, h3⟩
      · rcases h5.2.2 with h6 | h6
        · exact .inl (by omega)
        · exact .inr ⟨x, by simp, by omega⟩
      · exact .inr ⟨c, by simp [hc], h3⟩

theorem pick_min (f : Choice → Int) (hf : ∀ a c, f (minC a c) = mn (f a) (f c)) {v : Var} (h1 : 1 ≤ v.choices.length) :
    (∀ i : Nat, i < v.choices.length → f (pick v none) ≤ f (pick v (some i))) ∧ ∃ i : Nat, i < v.choices.length ∧ f (pick v none) = f (pick v (some i)) := by
  have h0 : 0 < v.choices.length := by omega
  have e0 : v.choices.getD 0 ⟨0, 0, 0, []⟩ = v.choices[0] := by simp [List.getD_eq_getElem?_getD, List.getElem?_eq_getElem h0]
  have es : ∀ (i : Nat) (hi : i < v.choices.length), pick v (some i) = v.choices[i] := fun i hi => by simp [pick, List.getD_eq_getElem?_getD, List.getElem?_eq_getElem hi]
  have en : pick v none = (v.choices.drop 1).foldl minC v.choices[0] := by simp only [pick, e0]
  obtain ⟨g1, g2, g3⟩ := fold_min f hf (v.choices.drop 1) v.choices[0]
  rw [en]
  refine ⟨fun i hi => ?_, ?_⟩
  · rw [es i hi]
    cases i with
    | zero => exact g1
    | succ i =>
      refine g2 _ ?_
      rw [List.mem_iff_getElem]
      exact ⟨i, by simp; omega, by simp [Nat.add_comm]⟩
  · rcases g3 with g3 | ⟨c, hc, g3⟩
    · exact ⟨0, h0, by rw [es 0 h0]; exact g3⟩
    · obtain ⟨i, hi, e⟩ := List.mem_iff_getElem.1 hc
      simp only [List.length_drop] at hi
      refine ⟨i + 1, by omega, ?_⟩
      rw [es (i + 1) (by omega), g3, ← e]
      simp [Nat.add_comm]

/-- with one more choice no component of the bound is less; and the least ones are met -/
theorem bound_grows {p : Prob} (S : Small p) (ok : OkP p) {b : List Int} (h : b.length < p.vars.length) :
    (∀ i : Nat, i < p.vars[b.length].choices.length → ∀ k, (boundL p b).getD k 0 ≤ (boundL p (b ++ [(i : Int)])).getD k 0) ∧
    ∀ k, 1 ≤ k → ∃ i : Nat, i < p.vars[b.length].choices.length ∧ (boundL p (b ++ [(i : Int)])).getD k 0 = (boundL p b).getD k 0 := by
  have okv := ok.vars _ (List.getElem_mem h)
  have hone := okv.one
  obtain ⟨pre, post, e1, e2⟩ := picks_snoc h
  obtain ⟨a1, a2⟩ := pick_min (·.delay) (fun _ _ => rfl) hone
  obtain ⟨b1, b2⟩ := pick_min (·.cost) (fun _ _ => rfl) hone
  obtain ⟨c1, c2⟩ := pick_min (·.changes) (fun _ _ => rfl) hone
  obtain ⟨v, hv⟩ : ∃ v, v = p.vars[b.length] := ⟨_, rfl⟩
  rw [← hv] at e1 e2 a1 a2 b1 b2 c1 c2 ⊢
  have hn : (0 : Int) ≤ v.leaves.length := by omega
  constructor
  · intro i hi k
    unfold boundL
    rw [e1, e2]
    match k with
    | 0 => exact ov_grows S ok h
    | 1 =>
      simp only [List.getD_cons_succ, List.getD_cons_zero, maxD_app, maxD_cons]
      refine maxD_mono ?_
      have := a1 i hi
      unfold mx; split <;> split <;> omega
    | 2 =>
      simp only [List.getD_cons_succ, List.getD_cons_zero, sumC_app, sumC]
      have := Int.mul_le_mul_of_nonneg_right (b1 i hi) hn
      omega
    | 3 =>
      simp only [List.getD_cons_succ, List.getD_cons_zero, sumG_app, sumG]
      have := Int.mul_le_mul_of_nonneg_right (c1 i hi) hn
      omega
    | k + 4 => simp
  · intro k hk
    match k, hk with
    | 1, _ =>
      obtain ⟨i, hi, e⟩ := a2
      refine ⟨i, hi, ?_⟩
      unfold boundL
      rw [e1, e2]
      simp only [List.getD_cons_succ, List.getD_cons_zero, maxD_app, maxD_cons, e]
    | 2, _ =>
      obtain ⟨i, hi, e⟩ := b2
      refine ⟨i, hi, ?_⟩
      unfold boundL
      rw [e1, e2]
      simp only [List.getD_cons_succ, List.getD_cons_zero, sumC_app, sumC, e]
    | 3, _ =>
      obtain ⟨i, hi, e⟩ := c2
      refine ⟨i, hi, ?_⟩
      unfold boundL
      rw [e1, e2]
      simp only [List.getD_cons_succ, List.getD_cons_zero, sumG_app, sumG, e]
    | k + 4, _ => exact ⟨0, by omega, by simp [boundL]⟩

theorem okb_snoc {p : Prob} {b : List Int} (okb : OkB p b) (h : b.length < p.vars.length) {i : Nat} (hi : i < p.vars[b.length].choices.length) : OkB p (b ++ [(i : Int)]) := by
  refine ⟨by simp; omega, fun j hj hj' => ?_⟩
  by_cases e : j < b.length
  · rw [List.getElem_append_left e]
    exact okb.each j e hj'
  · have : j = b.length := by simp at hj; omega
    subst this
    unfold wi
    simp; omega

end Dv
