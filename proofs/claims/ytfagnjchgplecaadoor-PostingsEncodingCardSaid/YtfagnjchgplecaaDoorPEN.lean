/- For every argument within the given bounds, the law PostingsEncoding returns true. -/
import Derived.Test.YtfagnjchgplecaaDoorHd
import Derived.Test.YtfagnjchgplecaaDoorLink
import Derived.Test.YtfagnjchgplecaaDoorDvd
import Derived.Test.YtfagnjchgplecaaDoorGb
import Derived.Test.YtfagnjchgplecaaDoorCards
import Derived.Test.YtfagnjchgplecaaDoorTie
import Derived.SevenTiedAt
set_option linter.all false
namespace Go.Proofs.YtfagnjchgplecaaDoor
open Go Go.ChangeShapes Go.WideShapes Go.ChangeAt Go.RowKit

theorem finalC : (Rows.postingsEncodingRow.lifted == Tryd.prog.liftsFinal) = true:=by rw [final]; rfl
theorem makeC : (Tryd.prog.make == some Rows.postingsEncodingRow.make) = true:=by rw [make]; rfl
set_option maxRecDepth 100000 in
theorem facts : joinedFacts Tryd.prog 9 Tryd.f9 Rows.postingsEncodingSpec Rows.postingsEncodingRow = true:=by
 delta joinedFacts
 exact andT (andT (andT (andT (andT (andT (andT (andT (andT (andT (andT (andT (andT (andT (andT (andT (andT (andT (andT (andT (andT (andT (andT (andT (andT (andT (andT (andT (andT (andT (andT (by kernel_rfl) (by kernel_rfl)) (by kernel_rfl)) (by kernel_rfl)) (by kernel_rfl)) (by kernel_rfl)) (by kernel_rfl)) (by kernel_rfl)) (by kernel_rfl)) (by kernel_rfl)) (by kernel_rfl)) (by kernel_rfl)) (by kernel_rfl)) (by kernel_rfl)) (by kernel_rfl)) (by kernel_rfl)) (by kernel_rfl)) (by kernel_rfl)) (by kernel_rfl)) (by kernel_rfl)) (by kernel_rfl)) (by kernel_rfl)) (by kernel_rfl)) (by kernel_rfl)) (by kernel_rfl)) enter) finalC) makeC) (by kernel_rfl)) (by kernel_rfl)) (by kernel_rfl)) (by kernel_rfl)

set_option maxRecDepth 100000 in
theorem z4c (os : Os) (started : os.Started) (H : Type) (enc : TypeId × Value -> H) :
  ReturnsInHanded {} Tryd.checked os 9 .any (fun w args=>(Rows.postingsEncodingSpec.pre enc Tryd.prog Tryd.f9 Rows.postingsEncodingRow.domain false w args /\ laidMetH Tryd.prog Rows.postingsEncodingRow.laid w) /\ sizedMet enc Tryd.prog Tryd.f9 (OpenSpec.ofChange Rows.postingsEncodingSpec) false w args)
   (Rows.postingsEncodingSpec.post enc Tryd.prog Tryd.f9 false true false false):=by
 refine returnsInHanded_of_change_and (C:=Tryd.checked) (X:=fun w _=>laidMetH Tryd.prog laidOf w) (fun _ _ _ hh h=>h.of_heap hh) own started (by kernel_rfl) Tryd.func9
  (ChangeSpec.witness_shaped (enc:=enc) (C:=Tryd.checked) (os:=os) (X:=fun w _=>laidMetH Tryd.prog laidOf w) false (World.doorLaid Tryd.prog 19 os) #[.agg #[.int .i64 0,.int .i64 0,.int .i64 0,.slice none 0 0,.int .u8 0,.int .u8 0,.int .u8 0,.int .u8 0,.int .u8 0,.int .u8 0,.int .u8 0,.int .u8 0,.int .u8 0,.int .u8 0,.int .u8 0,.int .u8 0,.int .u8 0,.int .u8 0,.int .u8 0,.int .u8 0,.int .u8 0,.int .u8 0,.int .u8 0,.int .u8 0,.int .u8 0,.int .u8 0,.int .u8 0,.int .u8 0,.int .u8 0,.int .u8 0,.int .u8 0,.int .u8 0,.int .u8 0,.int .u8 0,.int .u8 0,.int .u8 0],.agg #[.int .i64 0,.int .i64 0,.int .i64 0,.slice none 0 0,.int .u8 0,.int .u8 0,.int .u8 0,.int .u8 0,.int .u8 0,.int .u8 0,.int .u8 0,.int .u8 0,.int .u8 0,.int .u8 0,.int .u8 0,.int .u8 0,.int .u8 0,.int .u8 0,.int .u8 0,.int .u8 0,.int .u8 0,.int .u8 0,.int .u8 0,.int .u8 0,.int .u8 0,.int .u8 0,.int .u8 0,.int .u8 0,.int .u8 0,.int .u8 0,.int .u8 0,.int .u8 0,.int .u8 0,.int .u8 0,.int .u8 0,.int .u8 0]] 8 rfl (World.shaped_of_RefB (by kernel_rfl) (by kernel_rfl)) (by kernel_rfl) (by kernel_rfl) (by kernel_rfl) (zpt os _)) ?_
 intro W base args ds gs before hval hW _ _ hL _
 exact Dv.law_post Dv.Tryd.tie laidOut (cs:=[71,71]) (tb:=4) rfl (by kernel_rfl) (by kernel_rfl) rfl Tryd.underlying4 rfl (fun ds hd=>by
  match ds,hd with
  | [d0,d1],_=>rfl) Dv.postingsEncoding hval hW (zoz hL)

theorem z5c : Rows.PostingsEncodingSaid:=
 OpenClaim.holds_of_wide 9 Tryd.f9 rfl rfl rfl rfl rfl rfl rfl ⟨rfl,rfl,rfl,rfl,rfl⟩ rfl rfl rfl rfl rfl (by kernel_rfl) Tryd.func9 facts
  (of_decide_eq_true (by kernel_rfl)) (by unfold Func.isWrapper; first | (rw [if_pos (by decide +kernel)]; kernel_rfl) | (rw [if_neg (by decide +kernel)]; exact ⟨rfl,rfl⟩))
  (fun os started H enc _=>z4c os started H enc)

theorem PostingsEncoding_holds : Rows.PostingsEncodingCardSaid:=
 Claim7.holds_tied_plain_at .later [] [.data,.data] true (true,"86834af3cc03690d2f391ca61a746150c560058a1a8202c2530688f86c653dbb") true
  z5c (fun _ h=>by cases h) (by kernel_rfl) (fun _ h=>by cases h) postingsEncoding_row_tie rfl ⟨rfl,rfl⟩ (by kernel_rfl) rfl
  (fun f fn hf hfn=>by
   obtain rfl : f = 9:=Option.some.inj ((show Tryd.prog.funcNamed "overflight/overflightlaw41.PostingsEncoding" = some 9 by kernel_rfl).symm.trans hf) |>.symm
   obtain rfl : fn = Tryd.f9:=(Option.some.inj (Tryd.func9.symm.trans hfn)).symm
   exact ⟨by kernel_rfl,fun j t ht=>by
    have ht' : (#[48,48] : Array Nat)[j]? = some t:=ht
    have hm : t ∈ [48,48]:=by simpa using Array.mem_of_getElem? ht'
    have hall : ([48,48].all fun u=>!Tryd.prog.wantsStandIn u) = true:=by kernel_rfl
    exact (show Tryd.prog.wantsStandIn t = false by simpa using List.all_eq_true.1 hall t hm)⟩)
  (by kernel_rfl)
end Go.Proofs.YtfagnjchgplecaaDoor
