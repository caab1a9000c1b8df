/- For every argument within the given bounds, the law RepairFewer returns true. -/
import Derived.Test.YtkhdnmaebokedaaHd
import Derived.Test.YtkhdnmaebokedaaLink
import Derived.Test.YtkhdnmaebokedaaDvd
import Derived.Test.YtkhdnmaebokedaaGc
set_option linter.all false
namespace Go.Proofs.Ytkhdnmaebokedaa
open Go Go.ChangeShapes Go.WideShapes Go.ChangeAt Go.RowKit

theorem finalC : (Rows.repairFewerRow.lifted == Try.prog.liftsFinal) = true:=by rw [final]; rfl
theorem makeC : (Try.prog.make == some Rows.repairFewerRow.make) = true:=by rw [make]; rfl
set_option maxRecDepth 100000 in
theorem facts : joinedFacts Try.prog 5 Try.f5 Rows.repairFewerSpec Rows.repairFewerRow = true:=by
 delta joinedFacts
 exact andT (andT (andT (andT (andT (andT (andT (andT (andT (andT (andT (andT (andT (andT (andT (andT (andT (andT (andT (andT (andT (andT (andT (andT (andT (andT (andT (andT (andT (andT (andT (by kernel_rfl) (by kernel_rfl)) (by kernel_rfl)) (by kernel_rfl)) (by kernel_rfl)) (by kernel_rfl)) (by kernel_rfl)) (by kernel_rfl)) (by kernel_rfl)) (by kernel_rfl)) (by kernel_rfl)) (by kernel_rfl)) (by kernel_rfl)) (by kernel_rfl)) (by kernel_rfl)) (by kernel_rfl)) (by kernel_rfl)) (by kernel_rfl)) (by kernel_rfl)) (by kernel_rfl)) (by kernel_rfl)) (by kernel_rfl)) (by kernel_rfl)) (by kernel_rfl)) (by kernel_rfl)) enter) finalC) makeC) (by kernel_rfl)) (by kernel_rfl)) (by kernel_rfl)) (by kernel_rfl)

set_option maxRecDepth 100000 in
theorem RepairFewer_lifted (os : Os) (started : os.Started) (H : Type) (enc : TypeId × Value -> H) :
  ReturnsInHanded {} Try.checked os 5 .any (Rows.repairFewerSpec.pre6 enc Try.prog Try.f5 Rows.repairFewerRow.domain false) (Rows.repairFewerSpec.post enc Try.prog Try.f5 false true false false):=by
 refine returnsInHanded_of_change (C:=Try.checked) own started (by kernel_rfl) Try.func5
  (ChangeSpec.witness6 (enc:=enc) (C:=Try.checked) false ⟨#[],#[.agg #[.slice none 0 0,.slice none 0 0,.slice none 0 0],.int .u8 0],[]⟩ 8 (by kernel_rfl) (by kernel_rfl) (by kernel_rfl) (by kernel_rfl)) ?_
 intro W base args ds gs before hval hW _ _
 exact Dv.law_post Dv.Try.tie laidOut (cs:=[0,13]) (tb:=4) rfl (by kernel_rfl) (by kernel_rfl) rfl Try.underlying4 rfl (fun ds hd=>by
  match ds,hd with
  | [d0,d1],_=>rfl) Dv.repairFewer' hval hW

theorem RepairFewer_holds : Rows.RepairFewerSaid:=
 OpenClaim.holds_of_wide 5 Try.f5 rfl rfl rfl rfl rfl rfl rfl ⟨rfl,rfl,rfl,rfl,rfl⟩ rfl rfl rfl rfl rfl (by kernel_rfl) Try.func5 facts
  (of_decide_eq_true (by kernel_rfl)) (by unfold Func.isWrapper; first | (rw [if_pos (by decide +kernel)]; kernel_rfl) | (rw [if_neg (by decide +kernel)]; exact ⟨rfl,rfl⟩))
  (fun os started H enc _=>RepairFewer_lifted os started H enc)
end Go.Proofs.Ytkhdnmaebokedaa
