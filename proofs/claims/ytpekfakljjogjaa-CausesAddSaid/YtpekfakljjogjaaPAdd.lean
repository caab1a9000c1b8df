/- For every argument within the given bounds, the law CausesAdd returns true. -/
import Derived.Test.YtpekfakljjogjaaHd
import Derived.Test.YtpekfakljjogjaaLink
import Derived.Test.YtpekfakljjogjaaDvb
import Derived.Test.YtpekfakljjogjaaGc
set_option linter.all false
namespace Go.Proofs.Ytpekfakljjogjaa
open Go Go.ChangeShapes Go.WideShapes Go.ChangeAt Go.RowKit

theorem finalC : (Rows.causesAddRow.lifted == Try.prog.liftsFinal) = true := by rw [final]; rfl
theorem makeC : (Try.prog.make == some Rows.causesAddRow.make) = true := by rw [make]; rfl
set_option maxRecDepth 100000 in
theorem facts : joinedFacts Try.prog 3 Try.f3 Rows.causesAddSpec Rows.causesAddRow = true := by
  delta joinedFacts
  exact andT (andT (andT (andT (andT (andT (andT (andT (andT (andT (andT (andT (andT (andT (andT (andT (andT (andT (andT (andT (andT (andT (andT (andT (andT (andT (andT (andT (andT (andT (andT (by kernel_rfl) (by kernel_rfl)) (by kernel_rfl)) (by kernel_rfl)) (by kernel_rfl)) (by kernel_rfl)) (by kernel_rfl)) (by kernel_rfl)) (by kernel_rfl)) (by kernel_rfl)) (by kernel_rfl)) (by kernel_rfl)) (by kernel_rfl)) (by kernel_rfl)) (by kernel_rfl)) (by kernel_rfl)) (by kernel_rfl)) (by kernel_rfl)) (by kernel_rfl)) (by kernel_rfl)) (by kernel_rfl)) (by kernel_rfl)) (by kernel_rfl)) (by kernel_rfl)) (by kernel_rfl)) enter) finalC) makeC) (by kernel_rfl)) (by kernel_rfl)) (by kernel_rfl)) (by kernel_rfl)

set_option maxRecDepth 100000 in
theorem CausesAdd_lifted (os : Os) (started : os.Started) (H : Type) (enc : TypeId × Value → H) :
    ReturnsInHanded {} Try.checked os 3 .any (Rows.causesAddSpec.pre6 enc Try.prog Try.f3 Rows.causesAddRow.domain false) (Rows.causesAddSpec.post enc Try.prog Try.f3 false true false false) := by
  refine returnsInHanded_of_change (C := Try.checked) own started (by kernel_rfl) Try.func3
    (ChangeSpec.witness6 (enc := enc) (C := Try.checked) false ⟨#[], #[.agg #[.slice none 0 0, .slice none 0 0, .slice none 0 0], .slice none 0 0], []⟩ 8 (by kernel_rfl) (by kernel_rfl) (by kernel_rfl) (by kernel_rfl)) ?_
  intro W base args ds gs before hval hW _ _
  exact Dv.law_post Dv.Try.tie laidOut (cs := [0, 38]) (tb := 4) rfl (by kernel_rfl) (by kernel_rfl) rfl Try.underlying4 rfl (fun ds hd => by
    match ds, hd with
    | [d0, d1], _ => rfl) Dv.causesAdd hval hW

theorem CausesAdd_holds : Rows.CausesAddSaid :=
  OpenClaim.holds_of_wide 3 Try.f3 rfl rfl rfl rfl rfl rfl rfl ⟨rfl, rfl, rfl, rfl, rfl⟩ rfl rfl rfl rfl rfl (by kernel_rfl) Try.func3 facts
    (of_decide_eq_true (by kernel_rfl)) (by unfold Func.isWrapper; first | (rw [if_pos (by decide +kernel)]; kernel_rfl) | (rw [if_neg (by decide +kernel)]; exact ⟨rfl, rfl⟩))
    (fun os started H enc _ => CausesAdd_lifted os started H enc)
end Go.Proofs.Ytpekfakljjogjaa
