/- Texts that a proof of this claim uses, joined: Lw.Ty. -/
import Derived.Test.YtffnaiofjjgcgaaLwa
set_option linter.all false
/- Typed arguments. -/
namespace Dv

theorem ty_nums {x : D} {c : Nat} (h : Typed E c x) (hk : (E.ty c).k = .slice 2) : ∃ l, x = dInts l ∧ okInts l := by
  have ha : (E.ty c).ag = false := by unfold TI.ag; rw [hk]
  obtain ⟨l, h3, ho⟩ := ty_ints (typed_one h ha) hk
  simp only [List.cons.injEq, and_true] at h3
  exact ⟨l, h3, ho⟩
theorem ty_num {x : D} {c : Nat} (h : Typed E c x) (hk : (E.ty c).k = .int .i64) : ∃ n, x = dI n ∧ i64 n := by
  have ha : (E.ty c).ag = false := by unfold TI.ag; rw [hk]
  obtain ⟨n, h3, ho⟩ := ty_int (typed_one h ha) hk
  simp only [List.cons.injEq, and_true] at h3
  exact ⟨n, h3, ho⟩

end Dv
