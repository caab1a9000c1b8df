/- For every argument within the given bounds, the law TopMoney returns true. -/
import Derived.Test.YthcmaiplkbbioaaGreatDoorHd
import Derived.Test.YthcmaiplkbbioaaGreatDoorLink
import Derived.Test.YthcmaiplkbbioaaGreatDoorDvd
import Derived.Test.YthcmaiplkbbioaaGreatDoorGe
import Derived.Test.YthcmaiplkbbioaaGreatDoorCards
import Derived.Test.YthcmaiplkbbioaaGreatDoorTie
import Derived.SevenTiedAt
set_option linter.all false
namespace Go.Proofs.YthcmaiplkbbioaaGreatDoor
open Go Go.ChangeShapes Go.WideShapes Go.ChangeAt Go.RowKit

theorem finalC : (Rows.topMoneyRow.lifted == Tryz.prog.liftsFinal) = true:=by rw [final]; rfl
theorem makeC : (Tryz.prog.make == some Rows.topMoneyRow.make) = true:=by rw [make]; rfl
set_option maxRecDepth 100000 in
theorem facts : joinedFacts Tryz.prog 3 Tryz.f3 Rows.topMoneySpec Rows.topMoneyRow = true:=by
 delta joinedFacts
 exact andT (andT (andT (andT (andT (andT (andT (andT (andT (andT (andT (andT (andT (andT (andT (andT (andT (andT (andT (andT (andT (andT (andT (andT (andT (andT (andT (andT (andT (andT (andT (by kernel_rfl) (by kernel_rfl)) (by kernel_rfl)) (by kernel_rfl)) (by kernel_rfl)) (by kernel_rfl)) (by kernel_rfl)) (by kernel_rfl)) (by kernel_rfl)) (by kernel_rfl)) (by kernel_rfl)) (by kernel_rfl)) (by kernel_rfl)) (by kernel_rfl)) (by kernel_rfl)) (by kernel_rfl)) (by kernel_rfl)) (by kernel_rfl)) (by kernel_rfl)) (by kernel_rfl)) (by kernel_rfl)) (by kernel_rfl)) (by kernel_rfl)) (by kernel_rfl)) (by kernel_rfl)) enter) finalC) makeC) (by kernel_rfl)) (by kernel_rfl)) (by kernel_rfl)) (by kernel_rfl)

set_option maxRecDepth 100000 in
theorem zc8 (os : Os) (started : os.Started) (H : Type) (enc : TypeId × Value -> H) :
  ReturnsInHanded {} Tryz.checked os 3 .any (fun w args=>(Rows.topMoneySpec.pre enc Tryz.prog Tryz.f3 Rows.topMoneyRow.domain false w args /\ laidMetH Tryz.prog Rows.topMoneyRow.laid w) /\ sizedMet enc Tryz.prog Tryz.f3 (OpenSpec.ofChange Rows.topMoneySpec) false w args)
   (Rows.topMoneySpec.post enc Tryz.prog Tryz.f3 false true false false):=by
 refine returnsInHanded_of_change_and (C:=Tryz.checked) (X:=fun w _=>laidMetH Tryz.prog laidOf w) (fun _ _ _ hh h=>h.of_heap hh) own started (by kernel_rfl) Tryz.func3
  (ChangeSpec.witness_shaped (enc:=enc) (C:=Tryz.checked) (os:=os) (X:=fun w _=>laidMetH Tryz.prog laidOf w) false (World.doorLaid Tryz.prog 19 os) #[.agg #[.slice none 0 0,.slice none 0 0,.slice none 0 0],.agg #[.slice none 0 0,.slice none 0 0,.slice none 0 0],.slice none 0 0,.slice none 0 0,.slice none 0 0,.slice none 0 0,.int .i64 0,.int .i64 0] 8 rfl (World.shaped_of_RefB (by kernel_rfl) (by kernel_rfl)) (by kernel_rfl) (by kernel_rfl) (by kernel_rfl) (zxo os _)) ?_
 intro W base args ds gs before hval hW _ _ hL _
 exact Dv.law_post Dv.Tryz.tie laidOut (cs:=[0,0,38,38,6,6,2,2]) (tb:=4) rfl (by kernel_rfl) (by kernel_rfl) rfl Tryz.underlying4 rfl (fun ds hd=>by
  match ds,hd with
  | [d0,d1,d2,d3,d4,d5,d6,d7],_=>rfl) Dv.topMoney hval hW (zwn hL)

theorem zhz : Rows.TopMoneySaid:=
 OpenClaim.holds_of_wide 3 Tryz.f3 rfl rfl rfl rfl rfl rfl rfl ⟨rfl,rfl,rfl,rfl,rfl⟩ rfl rfl rfl rfl rfl (by kernel_rfl) Tryz.func3 facts
  (of_decide_eq_true (by kernel_rfl)) (by unfold Func.isWrapper; first | (rw [if_pos (by decide +kernel)]; kernel_rfl) | (rw [if_neg (by decide +kernel)]; exact ⟨rfl,rfl⟩))
  (fun os started H enc _=>zc8 os started H enc)

theorem TopMoney_holds : Rows.TopMoneyCardSaid:=
 Claim7.holds_tied_plain_at .later [] [.data,.data] true (true,"d1a09e591c81324b9a16dec19576ae3a8af75734eff6f3890e2634681d29445d") false
  zhz (fun _ h=>by cases h) (by kernel_rfl) (fun _ h=>by cases h) topMoney_row_tie rfl ⟨rfl,rfl⟩ (by kernel_rfl) rfl
  (fun f fn hf hfn=>by
   obtain rfl : f = 3:=Option.some.inj ((show Tryz.prog.funcNamed "overflight/overflighttop.TopMoney" = some 3 by kernel_rfl).symm.trans hf) |>.symm
   obtain rfl : fn = Tryz.f3:=(Option.some.inj (Tryz.func3.symm.trans hfn)).symm
   exact ⟨by kernel_rfl,fun j t ht=>by
    have ht' : (#[26,26,27,27,28,28,3,3] : Array Nat)[j]? = some t:=ht
    have hm : t ∈ [26,26,27,27,28,28,3,3]:=by simpa using Array.mem_of_getElem? ht'
    have hall : ([26,26,27,27,28,28,3,3].all fun u=>!Tryz.prog.wantsStandIn u) = true:=by kernel_rfl
    exact (show Tryz.prog.wantsStandIn t = false by simpa using List.all_eq_true.1 hall t hm)⟩)
  (by kernel_rfl)
end Go.Proofs.YthcmaiplkbbioaaGreatDoor
