/- For every argument within the given bounds, the law CausesSharesSpec returns true. -/
import Derived.Test.YtpekfakljjogjaaGreatHd
import Derived.Test.YtpekfakljjogjaaGreatLink
import Derived.Test.YtpekfakljjogjaaGreatDvb
import Derived.Test.YtpekfakljjogjaaGreatGc
set_option linter.all false
namespace Go.Proofs.YtpekfakljjogjaaGreat
open Go Go.ChangeShapes Go.WideShapes Go.ChangeAt Go.RowKit

theorem finalC : (Rows.causesSharesSpecRow.lifted == Tryz.prog.liftsFinal) = true := by rw [final]; rfl
theorem makeC : (Tryz.prog.make == some Rows.causesSharesSpecRow.make) = true := by rw [make]; rfl
set_option maxRecDepth 100000 in
theorem facts : joinedFacts Tryz.prog 3 Tryz.f3 Rows.causesSharesSpecSpec Rows.causesSharesSpecRow = true := by
  delta joinedFacts
  exact andT (andT (andT (andT (andT (andT (andT (andT (andT (andT (andT (andT (andT (andT (andT (andT (andT (andT (andT (andT (andT (andT (andT (andT (andT (andT (andT (andT (andT (andT (andT (by kernel_rfl) (by kernel_rfl)) (by kernel_rfl)) (by kernel_rfl)) (by kernel_rfl)) (by kernel_rfl)) (by kernel_rfl)) (by kernel_rfl)) (by kernel_rfl)) (by kernel_rfl)) (by kernel_rfl)) (by kernel_rfl)) (by kernel_rfl)) (by kernel_rfl)) (by kernel_rfl)) (by kernel_rfl)) (by kernel_rfl)) (by kernel_rfl)) (by kernel_rfl)) (by kernel_rfl)) (by kernel_rfl)) (by kernel_rfl)) (by kernel_rfl)) (by kernel_rfl)) (by kernel_rfl)) enter) finalC) makeC) (by kernel_rfl)) (by kernel_rfl)) (by kernel_rfl)) (by kernel_rfl)

set_option maxRecDepth 100000 in
theorem CausesSharesSpec_lifted (os : Os) (started : os.Started) (H : Type) (enc : TypeId × Value → H) :
    ReturnsInHanded {} Tryz.checked os 3 .any (Rows.causesSharesSpecSpec.pre6 enc Tryz.prog Tryz.f3 Rows.causesSharesSpecRow.domain false) (Rows.causesSharesSpecSpec.post enc Tryz.prog Tryz.f3 false true false false) := by
  refine returnsInHanded_of_change (C := Tryz.checked) own started (by kernel_rfl) Tryz.func3
    (ChangeSpec.witness6 (enc := enc) (C := Tryz.checked) false ⟨#[], #[.agg #[.slice none 0 0, .slice none 0 0, .slice none 0 0], .slice none 0 0], []⟩ 8 (by kernel_rfl) (by kernel_rfl) (by kernel_rfl) (by kernel_rfl)) ?_
  intro W base args ds gs before hval hW _ _
  exact Dv.law_post Dv.Tryz.tie laidOut (cs := [0, 38]) (tb := 4) rfl (by kernel_rfl) (by kernel_rfl) rfl Tryz.underlying4 rfl (fun ds hd => by
    match ds, hd with
    | [d0, d1], _ => rfl) Dv.causesSharesSpec hval hW

theorem CausesSharesSpec_holds : Rows.CausesSharesSpecSaid :=
  OpenClaim.holds_of_wide 3 Tryz.f3 rfl rfl rfl rfl rfl rfl rfl ⟨rfl, rfl, rfl, rfl, rfl⟩ rfl rfl rfl rfl rfl (by kernel_rfl) Tryz.func3 facts
    (of_decide_eq_true (by kernel_rfl)) (by unfold Func.isWrapper; first | (rw [if_pos (by decide +kernel)]; kernel_rfl) | (rw [if_neg (by decide +kernel)]; exact ⟨rfl, rfl⟩))
    (fun os started H enc _ => CausesSharesSpec_lifted os started H enc)
end Go.Proofs.YtpekfakljjogjaaGreat
