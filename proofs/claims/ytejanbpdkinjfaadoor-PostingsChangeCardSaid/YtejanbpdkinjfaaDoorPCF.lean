/- For every argument within the given bounds, the law PostingsChange returns true. -/
import Derived.Test.YtejanbpdkinjfaaDoorHd
import Derived.Test.YtejanbpdkinjfaaDoorLink
import Derived.Test.YtejanbpdkinjfaaDoorDvd
import Derived.Test.YtejanbpdkinjfaaDoorGb
import Derived.Test.YtejanbpdkinjfaaDoorCards
import Derived.Test.YtejanbpdkinjfaaDoorTie
import Derived.SevenTiedAt
import Derived.SizedLaws
set_option linter.all false
namespace Go.Proofs.YtejanbpdkinjfaaDoor
open Go Go.ChangeShapes Go.WideShapes Go.ChangeAt Go.RowKit

theorem finalC : (Rows.postingsChangeRow.lifted == Tryd.prog.liftsFinal) = true:=by rw [final]; rfl
theorem makeC : (Tryd.prog.make == some Rows.postingsChangeRow.make) = true:=by rw [make]; rfl
set_option maxRecDepth 100000 in
theorem facts : joinedFacts Tryd.prog 3 Tryd.f3 Rows.postingsChangeSpec Rows.postingsChangeRow = true:=by
 delta joinedFacts
 exact andT (andT (andT (andT (andT (andT (andT (andT (andT (andT (andT (andT (andT (andT (andT (andT (andT (andT (andT (andT (andT (andT (andT (andT (andT (andT (andT (andT (andT (andT (andT (by kernel_rfl) (by kernel_rfl)) (by kernel_rfl)) (by kernel_rfl)) (by kernel_rfl)) (by kernel_rfl)) (by kernel_rfl)) (by kernel_rfl)) (by kernel_rfl)) (by kernel_rfl)) (by kernel_rfl)) (by kernel_rfl)) (by kernel_rfl)) (by kernel_rfl)) (by kernel_rfl)) (by kernel_rfl)) (by kernel_rfl)) (by kernel_rfl)) (by kernel_rfl)) (by kernel_rfl)) (by kernel_rfl)) (by kernel_rfl)) (by kernel_rfl)) (by kernel_rfl)) (by kernel_rfl)) enter) finalC) makeC) (by kernel_rfl)) (by kernel_rfl)) (by kernel_rfl)) (by kernel_rfl)

set_option maxRecDepth 100000 in
theorem z4k (os : Os) (started : os.Started) (H : Type) (enc : TypeId × Value -> H) :
  ReturnsInHanded {} Tryd.checked os 3 .any (fun w args=>(Rows.postingsChangeSpec.pre enc Tryd.prog Tryd.f3 Rows.postingsChangeRow.domain false w args /\ laidMetH Tryd.prog Rows.postingsChangeRow.laid w) /\ sizedMet enc Tryd.prog Tryd.f3 (OpenSpec.ofChange Rows.postingsChangeSpec) false w args)
   (Rows.postingsChangeSpec.post enc Tryd.prog Tryd.f3 false true false false):=by
 refine returnsInHanded_of_change_and (C:=Tryd.checked) (X:=fun w _=>laidMetH Tryd.prog laidOf w) (fun _ _ _ hh h=>h.of_heap hh) own started (by kernel_rfl) Tryd.func3
  (ChangeSpec.witness_shaped (enc:=enc) (C:=Tryd.checked) (os:=os) (X:=fun w _=>laidMetH Tryd.prog laidOf w) false (World.doorLaid Tryd.prog 19 os) #[.slice none 0 0,.agg #[.int .i64 0,.int .i64 0,.slice none 0 0],.agg #[.int .i64 0,.int .i64 0],.int .i64 0] 8 rfl (World.shaped_of_RefB (by kernel_rfl) (by kernel_rfl)) (by kernel_rfl) (by kernel_rfl) (by kernel_rfl) (zop os _)) ?_
 intro W base args ds gs before hval hW _ hz hL _
 have hA:=hW
 obtain ⟨_,_,hA,_,_⟩:=hA
 exact Dv.law_postB (B:=Dv.small1 3518437208780) Dv.Tryd.tie laidOut (cs:=[69,68,65,2]) (tb:=4) rfl (by kernel_rfl) (by kernel_rfl) rfl Tryd.underlying4 rfl (fun ds hd=>by
  match ds,hd with
  | [d0,d1,d2,d3],_=>rfl) Dv.postingsChange hval hW (znx hL) (fun xs hr spr els r hx=>by
  rcases Dv.first_len Tryd.underlying22 hA hr hx with h | ⟨elems,spare,ds',e1,e2⟩
  ·rw [h]; exact Nat.zero_le _
  ·rw [<- e2]
   have h1 : (elems.length + spare.length) * Tryd.prog.bytesOf 25 <= reachBytes:=sized_slice (j:=0) (t:=22) (e:=25) hz rfl (by rw [e1]; rfl) Tryd.underlying22
   have h2 : Tryd.prog.bytesOf 25 = 40:=by kernel_rfl
   have h3 : reachBytes = 140737488351232:=rfl
   rw [h2,h3] at h1
   omega)

theorem z6h : Rows.PostingsChangeSaid:=
 OpenClaim.holds_of_wide 3 Tryd.f3 rfl rfl rfl rfl rfl rfl rfl ⟨rfl,rfl,rfl,rfl,rfl⟩ rfl rfl rfl rfl rfl (by kernel_rfl) Tryd.func3 facts
  (of_decide_eq_true (by kernel_rfl)) (by unfold Func.isWrapper; first | (rw [if_pos (by decide +kernel)]; kernel_rfl) | (rw [if_neg (by decide +kernel)]; exact ⟨rfl,rfl⟩))
  (fun os started H enc _=>z4k os started H enc)

theorem PostingsChange_holds : Rows.PostingsChangeCardSaid:=
 Claim7.holds_tied_plain_at .later [] [.data,.data] true (true,"7d64ca655e007c415da8aca76bc71584fa1a84079e73f9e95d99383626e9c60f") false
  z6h (fun _ h=>by cases h) (by kernel_rfl) (fun _ h=>by cases h) postingsChange_row_tie rfl ⟨rfl,rfl⟩ (by kernel_rfl) rfl
  (fun f fn hf hfn=>by
   obtain rfl : f = 3:=Option.some.inj ((show Tryd.prog.funcNamed "overflight/overflightlaw41.PostingsChange" = some 3 by kernel_rfl).symm.trans hf) |>.symm
   obtain rfl : fn = Tryd.f3:=(Option.some.inj (Tryd.func3.symm.trans hfn)).symm
   exact ⟨by kernel_rfl,fun j t ht=>by
    have ht' : (#[22,25,27,3] : Array Nat)[j]? = some t:=ht
    have hm : t ∈ [22,25,27,3]:=by simpa using Array.mem_of_getElem? ht'
    have hall : ([22,25,27,3].all fun u=>!Tryd.prog.wantsStandIn u) = true:=by kernel_rfl
    exact (show Tryd.prog.wantsStandIn t = false by simpa using List.all_eq_true.1 hall t hm)⟩)
  (by kernel_rfl)
end Go.Proofs.YtejanbpdkinjfaaDoor
