/- Texts that a proof of this claim uses, joined: Lw.S29. -/
import Derived.Test.YtffnaiofjjgcgaaTc
import Derived.Test.YtffnaiofjjgcgaaTy
import Derived.Test.YtffnaiofjjgcgaaDvb
import Derived.KernelRfl
set_option linter.all false
/- The examples of layer 29; typed multipliers. -/
namespace Dv

theorem sane35 : runP E (dC E 200) 35 [] = some (.bool true) := by kernel_rfl
theorem sane35' : runP E (dL E) 35 [] = some (.bool true) := runP_mono (fun _ _ _ h => dC_dL _ _ _ h) sane35

theorem all_typed9 : ∀ (els : List D), (∀ x, x ∈ els → Typed E 6 x) → ∃ m : List (List Int), els = m.map dInts
  | [], _ => ⟨[], rfl⟩
  | a :: l, h => by
    obtain ⟨x, rfl, _⟩ := ty_nums (h a (by simp)) rfl
    obtain ⟨m, rfl⟩ := all_typed9 l (fun y hy => h y (by simp [hy]))
    exact ⟨x :: m, rfl⟩

theorem ty_rows {x : D} (h : Typed E 9 x) : ∃ m : List (List Int), x = .imm .none (m.map dInts) ∧ m.length ≤ Go.maxLen := by
  have ha : (E.ty 9).ag = false := rfl
  obtain ⟨els, h3, hl, he⟩ := ty_slice (e := 6) (typed_one h ha) rfl
  simp only [List.cons.injEq, and_true] at h3
  obtain ⟨m, rfl⟩ := all_typed9 els he
  exact ⟨m, h3, by simpa using hl⟩

end Dv
