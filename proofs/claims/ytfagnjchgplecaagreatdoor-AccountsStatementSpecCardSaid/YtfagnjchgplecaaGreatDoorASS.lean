/- For every argument within the given bounds, the law AccountsStatementSpec returns true. -/
import Derived.Test.YtfagnjchgplecaaGreatDoorHd
import Derived.Test.YtfagnjchgplecaaGreatDoorLink
import Derived.Test.YtfagnjchgplecaaGreatDoorDvd
import Derived.Test.YtfagnjchgplecaaGreatDoorGc
import Derived.Test.YtfagnjchgplecaaGreatDoorCards
import Derived.Test.YtfagnjchgplecaaGreatDoorTie
import Derived.SevenTiedAt
set_option linter.all false
namespace Go.Proofs.YtfagnjchgplecaaGreatDoor
open Go Go.ChangeShapes Go.WideShapes Go.ChangeAt Go.RowKit

theorem finalC : (Rows.accountsStatementSpecRow.lifted == Tryz.prog.liftsFinal) = true:=by rw [final]; rfl
theorem makeC : (Tryz.prog.make == some Rows.accountsStatementSpecRow.make) = true:=by rw [make]; rfl
set_option maxRecDepth 100000 in
theorem facts : joinedFacts Tryz.prog 5 Tryz.f5 Rows.accountsStatementSpecSpec Rows.accountsStatementSpecRow = true:=by
 delta joinedFacts
 exact andT (andT (andT (andT (andT (andT (andT (andT (andT (andT (andT (andT (andT (andT (andT (andT (andT (andT (andT (andT (andT (andT (andT (andT (andT (andT (andT (andT (andT (andT (andT (by kernel_rfl) (by kernel_rfl)) (by kernel_rfl)) (by kernel_rfl)) (by kernel_rfl)) (by kernel_rfl)) (by kernel_rfl)) (by kernel_rfl)) (by kernel_rfl)) (by kernel_rfl)) (by kernel_rfl)) (by kernel_rfl)) (by kernel_rfl)) (by kernel_rfl)) (by kernel_rfl)) (by kernel_rfl)) (by kernel_rfl)) (by kernel_rfl)) (by kernel_rfl)) (by kernel_rfl)) (by kernel_rfl)) (by kernel_rfl)) (by kernel_rfl)) (by kernel_rfl)) (by kernel_rfl)) enter) finalC) makeC) (by kernel_rfl)) (by kernel_rfl)) (by kernel_rfl)) (by kernel_rfl)

set_option maxRecDepth 100000 in
theorem z3d (os : Os) (started : os.Started) (H : Type) (enc : TypeId × Value -> H) :
  ReturnsInHanded {} Tryz.checked os 5 .any (fun w args=>(Rows.accountsStatementSpecSpec.pre enc Tryz.prog Tryz.f5 Rows.accountsStatementSpecRow.domain false w args /\ laidMetH Tryz.prog Rows.accountsStatementSpecRow.laid w) /\ sizedMet enc Tryz.prog Tryz.f5 (OpenSpec.ofChange Rows.accountsStatementSpecSpec) false w args)
   (Rows.accountsStatementSpecSpec.post enc Tryz.prog Tryz.f5 false true false false):=by
 refine returnsInHanded_of_change_and (C:=Tryz.checked) (X:=fun w _=>laidMetH Tryz.prog laidOf w) (fun _ _ _ hh h=>h.of_heap hh) own started (by kernel_rfl) Tryz.func5
  (ChangeSpec.witness_shaped (enc:=enc) (C:=Tryz.checked) (os:=os) (X:=fun w _=>laidMetH Tryz.prog laidOf w) false (World.doorLaid Tryz.prog 19 os) #[.slice none 0 0,.int .i64 0,.int .i64 0] 8 rfl (World.shaped_of_RefB (by kernel_rfl) (by kernel_rfl)) (by kernel_rfl) (by kernel_rfl) (by kernel_rfl) (zjx os _)) ?_
 intro W base args ds gs before hval hW _ _ hL _
 exact Dv.law_post Dv.Tryz.tie laidOut (cs:=[70,2,2]) (tb:=4) rfl (by kernel_rfl) (by kernel_rfl) rfl Tryz.underlying4 rfl (fun ds hd=>by
  match ds,hd with
  | [d0,d1,d2],_=>rfl) Dv.accountsStatementSpec hval hW (zjf hL)

theorem z48 : Rows.AccountsStatementSpecSaid:=
 OpenClaim.holds_of_wide 5 Tryz.f5 rfl rfl rfl rfl rfl rfl rfl ⟨rfl,rfl,rfl,rfl,rfl⟩ rfl rfl rfl rfl rfl (by kernel_rfl) Tryz.func5 facts
  (of_decide_eq_true (by kernel_rfl)) (by unfold Func.isWrapper; first | (rw [if_pos (by decide +kernel)]; kernel_rfl) | (rw [if_neg (by decide +kernel)]; exact ⟨rfl,rfl⟩))
  (fun os started H enc _=>z3d os started H enc)

theorem AccountsStatementSpec_holds : Rows.AccountsStatementSpecCardSaid:=
 Claim7.holds_tied_plain_at .later [] [.data,.data] true (true,"75fc3c8e66d3265df7303947db82a5d0bde45b205fcd4ee59a72cb5cc34690e1") false
  z48 (fun _ h=>by cases h) (by kernel_rfl) (fun _ h=>by cases h) accountsStatementSpec_row_tie rfl ⟨rfl,rfl⟩ (by kernel_rfl) rfl
  (fun f fn hf hfn=>by
   obtain rfl : f = 5:=Option.some.inj ((show Tryz.prog.funcNamed "overflight/overflightlaw43.AccountsStatementSpec" = some 5 by kernel_rfl).symm.trans hf) |>.symm
   obtain rfl : fn = Tryz.f5:=(Option.some.inj (Tryz.func5.symm.trans hfn)).symm
   exact ⟨by kernel_rfl,fun j t ht=>by
    have ht' : (#[39,3,3] : Array Nat)[j]? = some t:=ht
    have hm : t ∈ [39,3,3]:=by simpa using Array.mem_of_getElem? ht'
    have hall : ([39,3,3].all fun u=>!Tryz.prog.wantsStandIn u) = true:=by kernel_rfl
    exact (show Tryz.prog.wantsStandIn t = false by simpa using List.all_eq_true.1 hall t hm)⟩)
  (by kernel_rfl)
end Go.Proofs.YtfagnjchgplecaaGreatDoor
