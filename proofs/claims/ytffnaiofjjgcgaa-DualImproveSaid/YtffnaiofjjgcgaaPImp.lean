/- For every argument within the given bounds, the law DualImprove returns true. -/
import Derived.Test.YtffnaiofjjgcgaaHd
import Derived.Test.YtffnaiofjjgcgaaLink
import Derived.Test.YtffnaiofjjgcgaaDvb
import Derived.Test.YtffnaiofjjgcgaaRc
set_option linter.all false
namespace Go.Proofs.Ytffnaiofjjgcgaa
open Go Go.ChangeShapes Go.WideShapes Go.ChangeAt Go.RowKit

theorem finalC : (Rows.dualImproveRow.lifted == Try.prog.liftsFinal) = true := by rw [final]; rfl
theorem makeC : (Try.prog.make == some Rows.dualImproveRow.make) = true := by rw [make]; rfl
set_option maxRecDepth 100000 in
theorem facts : joinedFacts Try.prog 18 Try.f18 Rows.dualImproveSpec Rows.dualImproveRow = true := by
  delta joinedFacts
  exact andT (andT (andT (andT (andT (andT (andT (andT (andT (andT (andT (andT (andT (andT (andT (andT (andT (andT (andT (andT (andT (andT (andT (andT (andT (andT (andT (andT (andT (andT (andT (by kernel_rfl) (by kernel_rfl)) (by kernel_rfl)) (by kernel_rfl)) (by kernel_rfl)) (by kernel_rfl)) (by kernel_rfl)) (by kernel_rfl)) (by kernel_rfl)) (by kernel_rfl)) (by kernel_rfl)) (by kernel_rfl)) (by kernel_rfl)) (by kernel_rfl)) (by kernel_rfl)) (by kernel_rfl)) (by kernel_rfl)) (by kernel_rfl)) (by kernel_rfl)) (by kernel_rfl)) (by kernel_rfl)) (by kernel_rfl)) (by kernel_rfl)) (by kernel_rfl)) (by kernel_rfl)) enter) finalC) makeC) (by kernel_rfl)) (by kernel_rfl)) (by kernel_rfl)) (by kernel_rfl)

set_option maxRecDepth 100000 in
theorem DualImprove_lifted (os : Os) (started : os.Started) (H : Type) (enc : TypeId × Value → H) :
    ReturnsInHanded {} Try.checked os 18 .any (Rows.dualImproveSpec.pre6 enc Try.prog Try.f18 Rows.dualImproveRow.domain false) (Rows.dualImproveSpec.post enc Try.prog Try.f18 false true false false) := by
  refine returnsInHanded_of_change (C := Try.checked) own started (by kernel_rfl) Try.func18
    (ChangeSpec.witness6 (enc := enc) (C := Try.checked) false ⟨#[], #[.agg #[.slice none 0 0, .slice none 0 0, .slice none 0 0], .slice none 0 0, .int .i64 0, .slice none 0 0], []⟩ 8 (by kernel_rfl) (by kernel_rfl) (by kernel_rfl) (by kernel_rfl)) ?_
  intro W base args ds gs before hval hW _ _
  exact Dv.law_post Dv.Try.tie laidOut (cs := [0, 1, 2, 9]) (tb := 4) rfl (by kernel_rfl) (by kernel_rfl) rfl Try.underlying4 rfl (fun ds hd => by
    match ds, hd with
    | [d0, d1, d2, d3], _ => rfl) Dv.dualImprove hval hW

theorem DualImprove_holds : Rows.DualImproveSaid :=
  OpenClaim.holds_of_wide 18 Try.f18 rfl rfl rfl rfl rfl rfl rfl ⟨rfl, rfl, rfl, rfl, rfl⟩ rfl rfl rfl rfl rfl (by kernel_rfl) Try.func18 facts
    (of_decide_eq_true (by kernel_rfl)) (by unfold Func.isWrapper; first | (rw [if_pos (by decide +kernel)]; kernel_rfl) | (rw [if_neg (by decide +kernel)]; exact ⟨rfl, rfl⟩))
    (fun os started H enc _ => DualImprove_lifted os started H enc)
end Go.Proofs.Ytffnaiofjjgcgaa
