/- Texts that a proof of this claim uses, joined: Lw.Ty. -/
import Derived.Test.YtffnaiofjjgcgaaLwa
set_option linter.all false
/- Typed arguments. -/
namespace Dv

theorem ty_nums {x : D} {c : Nat} (h : Typed E c x) (hk : (E.ty c).k = .slice 2) : ∃ l, x = dInts l ∧ okInts l := by
  have ha : (E.ty c).ag = false := by unfold TI.ag; rw [hk]
  obtain ⟨l, h3, ho⟩ := ty_ints (typed_one h ha) hk
  simp only [List.cons.injEq, and_true] at h3
  exact ⟨l, h3, ho⟩
theorem ty_num {x : D} {c : Nat} (h : Typed E c x) (hk : (E.ty c).k = .int .i64) : ∃ n, x = dI n ∧ i64 n := by
  have ha : (E.ty c).ag = false := by unfold TI.ag; rw [hk]
  obtain ⟨n, h3, ho⟩ := ty_int (typed_one h ha) hk
  simp only [List.cons.injEq, and_true] at h3
  exact ⟨n, h3, ho⟩

theorem ty_u8 {x : D} {c : Nat} (h : Typed E c x) (hk : (E.ty c).k = .int .u8) : ∃ m : Nat, x = .int .u8 m ∧ m ≤ 255 := by
  have ha : (E.ty c).ag = false := by unfold TI.ag; rw [hk]
  have h1 := typed_one h ha
  clear h
  cases h1 with
  | int h' hw =>
    rename_i n
    rw [hk] at h'; cases h'
    simp [Go.Lit.wf] at hw
    obtain ⟨a1, a2⟩ := hw
    have e1 : Go.IntKind.u8.min = 0 := by decide
    have e2 : Go.IntKind.u8.max = 255 := by decide
    have b1 : 0 ≤ n := by first | exact a1 | (rw [e1] at a1; exact a1)
    have b2 : n ≤ 255 := by first | exact a2 | (rw [e2] at a2; exact a2)
    exact ⟨n.toNat, by rw [Int.toNat_of_nonneg b1], by omega⟩
  | bool h' => rw [hk] at h'; cases h'
  | str h' => rw [hk] at h'; cases h'
  | slice h' _ _ _ => rw [hk] at h'; cases h'
  | struct h' _ _ => rw [hk] at h'; cases h'

end Dv
