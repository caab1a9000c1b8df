/- For every argument within the given bounds, the law SearchFirst returns true. -/
import Derived.Test.YtbipecbjhiecmaaHd
import Derived.Test.YtbipecbjhiecmaaLink
import Derived.Test.YtbipecbjhiecmaaDvb
import Derived.Test.YtbipecbjhiecmaaGc
set_option linter.all false
namespace Go.Proofs.Ytbipecbjhiecmaa
open Go Go.ChangeShapes Go.WideShapes Go.ChangeAt Go.RowKit

theorem finalC : (Rows.searchFirstRow.lifted == Try.prog.liftsFinal) = true := by rw [final]; rfl
theorem makeC : (Try.prog.make == some Rows.searchFirstRow.make) = true := by rw [make]; rfl
set_option maxRecDepth 100000 in
theorem facts : joinedFacts Try.prog 8 Try.f8 Rows.searchFirstSpec Rows.searchFirstRow = true := by
  delta joinedFacts
  exact andT (andT (andT (andT (andT (andT (andT (andT (andT (andT (andT (andT (andT (andT (andT (andT (andT (andT (andT (andT (andT (andT (andT (andT (andT (andT (andT (andT (andT (andT (andT (by kernel_rfl) (by kernel_rfl)) (by kernel_rfl)) (by kernel_rfl)) (by kernel_rfl)) (by kernel_rfl)) (by kernel_rfl)) (by kernel_rfl)) (by kernel_rfl)) (by kernel_rfl)) (by kernel_rfl)) (by kernel_rfl)) (by kernel_rfl)) (by kernel_rfl)) (by kernel_rfl)) (by kernel_rfl)) (by kernel_rfl)) (by kernel_rfl)) (by kernel_rfl)) (by kernel_rfl)) (by kernel_rfl)) (by kernel_rfl)) (by kernel_rfl)) (by kernel_rfl)) (by kernel_rfl)) enter) finalC) makeC) (by kernel_rfl)) (by kernel_rfl)) (by kernel_rfl)) (by kernel_rfl)

set_option maxRecDepth 100000 in
theorem SearchFirst_lifted (os : Os) (started : os.Started) (H : Type) (enc : TypeId × Value → H) :
    ReturnsInHanded {} Try.checked os 8 .any (Rows.searchFirstSpec.pre6 enc Try.prog Try.f8 Rows.searchFirstRow.domain false) (Rows.searchFirstSpec.post enc Try.prog Try.f8 false true false false) := by
  refine returnsInHanded_of_change (C := Try.checked) own started (by kernel_rfl) Try.func8
    (ChangeSpec.witness6 (enc := enc) (C := Try.checked) false ⟨#[], #[.agg #[.slice none 0 0, .slice none 0 0, .slice none 0 0], .slice none 0 0], []⟩ 8 (by kernel_rfl) (by kernel_rfl) (by kernel_rfl) (by kernel_rfl)) ?_
  intro W base args ds gs before hval hW _ _
  exact Dv.law_post Dv.Try.tie laidOut (cs := [0, 6]) (tb := 4) rfl (by kernel_rfl) (by kernel_rfl) rfl Try.underlying4 rfl (fun ds hd => by
    match ds, hd with
    | [d0, d1], _ => rfl) Dv.searchFirst hval hW

theorem SearchFirst_holds : Rows.SearchFirstSaid :=
  OpenClaim.holds_of_wide 8 Try.f8 rfl rfl rfl rfl rfl rfl rfl ⟨rfl, rfl, rfl, rfl, rfl⟩ rfl rfl rfl rfl rfl (by kernel_rfl) Try.func8 facts
    (of_decide_eq_true (by kernel_rfl)) (by unfold Func.isWrapper; first | (rw [if_pos (by decide +kernel)]; kernel_rfl) | (rw [if_neg (by decide +kernel)]; exact ⟨rfl, rfl⟩))
    (fun os started H enc _ => SearchFirst_lifted os started H enc)
end Go.Proofs.Ytbipecbjhiecmaa
