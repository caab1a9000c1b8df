/- Texts that a proof of this claim uses, joined: Lw.S27. -/
import Derived.Test.YtffnaiofjjgcgaaTc
import Derived.Test.YtffnaiofjjgcgaaLwa
import Derived.Test.YtffnaiofjjgcgaaDvb
import Derived.KernelRfl
set_option linter.all false
/- The examples of layer 27; typed arguments. -/
namespace Dv

theorem sane17 : runP E (dC E 200) 17 [] = some (.bool true) := by kernel_rfl
theorem sane17' : runP E (dL E) 17 [] = some (.bool true) := runP_mono (fun _ _ _ h => dC_dL _ _ _ h) sane17

theorem ty_nums {x : D} {c : Nat} (h : Typed E c x) (hk : (E.ty c).k = .slice 2) : ∃ l, x = dInts l ∧ okInts l := by
  have ha : (E.ty c).ag = false := by unfold TI.ag; rw [hk]
  obtain ⟨l, h3, ho⟩ := ty_ints (typed_one h ha) hk
  simp only [List.cons.injEq, and_true] at h3
  exact ⟨l, h3, ho⟩
theorem ty_num {x : D} {c : Nat} (h : Typed E c x) (hk : (E.ty c).k = .int .i64) : ∃ n, x = dI n ∧ i64 n := by
  have ha : (E.ty c).ag = false := by unfold TI.ag; rw [hk]
  obtain ⟨n, h3, ho⟩ := ty_int (typed_one h ha) hk
  simp only [List.cons.injEq, and_true] at h3
  exact ⟨n, h3, ho⟩

end Dv
