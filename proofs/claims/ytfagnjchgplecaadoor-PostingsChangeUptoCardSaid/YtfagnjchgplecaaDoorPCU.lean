/- For every argument of bulk at most 1048576, the law PostingsChange returns true. -/
import Derived.Test.YtfagnjchgplecaaDoorHd
import Derived.Test.YtfagnjchgplecaaDoorLink
import Derived.Test.YtfagnjchgplecaaDoorDvd
import Derived.Test.YtfagnjchgplecaaDoorGc
import Derived.Test.YtfagnjchgplecaaDoorCards
import Derived.Test.YtfagnjchgplecaaDoorTie
import Derived.SevenTiedAt
import Derived.OpenShut
import Derived.Deep.DeepHandedRow
import Derived.JoinedCond
set_option linter.all false
namespace Go.Proofs.YtfagnjchgplecaaDoor
open Go Go.ChangeShapes Go.WideShapes Go.ChangeAt Go.RowKit

theorem finalC : (Rows.postingsChangeUptoRow.lifted == Tryd.prog.liftsFinal) = true:=by rw [final]; rfl
theorem makeC : (Tryd.prog.make == some Rows.postingsChangeUptoRow.make) = true:=by rw [make]; rfl
set_option maxRecDepth 100000 in
theorem facts : joinedFacts Tryd.prog 5 Tryd.f5 (Rows.OpenSpec.upto Rows.postingsChangeSpec).bare Rows.postingsChangeUptoRow = true:=by
 delta joinedFacts
 exact andT (andT (andT (andT (andT (andT (andT (andT (andT (andT (andT (andT (andT (andT (andT (andT (andT (andT (andT (andT (andT (andT (andT (andT (andT (andT (andT (andT (andT (andT (andT (by kernel_rfl) (by kernel_rfl)) (by kernel_rfl)) (by kernel_rfl)) (by kernel_rfl)) (by kernel_rfl)) (by kernel_rfl)) (by kernel_rfl)) (by kernel_rfl)) (by kernel_rfl)) (by kernel_rfl)) (by kernel_rfl)) (by kernel_rfl)) (by kernel_rfl)) (by kernel_rfl)) (by kernel_rfl)) (by kernel_rfl)) (by kernel_rfl)) (by kernel_rfl)) (by kernel_rfl)) (by kernel_rfl)) (by kernel_rfl)) (by kernel_rfl)) (by kernel_rfl)) (by kernel_rfl)) enter) finalC) makeC) (by kernel_rfl)) (by kernel_rfl)) (by kernel_rfl)) (by kernel_rfl)

theorem zpt {H : Type} (l : List (DataW H)) : l.length <= Rows.uptoBulkAll l:=by
 induction l with
 | nil=>simp [Rows.uptoBulkAll]
 | cons x r ih=>
  have : 1 <= Rows.uptoBulk x:=by
   cases x with
   | lit l=>cases l <;> simp [Rows.uptoBulk]
   | nil=>simp [Rows.uptoBulk]
   | ptr d=>simp [Rows.uptoBulk]
   | slice elems spare=>simp [Rows.uptoBulk]
   | agg parts=>simp [Rows.uptoBulk]
   | iface t d=>simp [Rows.uptoBulk]
   | map entries=>simp [Rows.uptoBulk]
   | held h=>simp [Rows.uptoBulk]
  simp only [Rows.uptoBulkAll,List.length_cons]; omega
theorem zjn {H : Type} {elems spare r : List (DataW H)} (h : Rows.uptoSmall H (.slice elems spare :: r) = true) : elems.length <= 1048576:=by
 have h : Rows.uptoBulkAll (.slice elems spare :: r) <= 1048576:=of_decide_eq_true h
 simp only [Rows.uptoBulkAll,Rows.uptoBulk] at h
 have:=zpt elems
 omega

set_option maxRecDepth 100000 in
theorem z4s (os : Os) (started : os.Started) (H : Type) (enc : TypeId × Value -> H) (F : Stop.Interp) :
  ReturnsInHanded {} Tryd.checked os 5 .any ((Rows.OpenSpec.upto Rows.postingsChangeSpec).preRow enc Tryd.prog Tryd.f5 Rows.postingsChangeUptoRow.domain false Rows.postingsChangeUptoRow.laid) (((Rows.OpenSpec.upto Rows.postingsChangeSpec).at F).post enc Tryd.prog Tryd.f5 false true false false):=by
 have hx : ∃ places,DataW.whole enc Tryd.prog ((World.doorLaid Tryd.prog 19 os).forCall (fun _ _=>0) ⟨#[],#[.slice none 0 0,.agg #[.int .i64 0,.int .i64 0,.slice none 0 0],.agg #[.int .i64 0,.int .i64 0],.int .i64 0],[]⟩).memory Tryd.f5.params.toList Rows.postingsChangeSpec.vars false (#[.slice none 0 0,.agg #[.int .i64 0,.int .i64 0,.slice none 0 0],.agg #[.int .i64 0,.int .i64 0],.int .i64 0] : Array Value).toList 8 = some ([.nil,.agg [.lit (.int .i64 0),.lit (.int .i64 0),.nil],.agg [.lit (.int .i64 0),.lit (.int .i64 0)],.lit (.int .i64 0)],[],places):=⟨[],by kernel_rfl⟩
 obtain ⟨places,hx⟩:=hx
 have hok : Input.okWideB Tryd.checked.prog ((World.doorLaid Tryd.prog 19 os).forCall (fun _ _=>0) ⟨#[],#[.slice none 0 0,.agg #[.int .i64 0,.int .i64 0,.slice none 0 0],.agg #[.int .i64 0,.int .i64 0],.int .i64 0],[]⟩) 5 ⟨#[],#[.slice none 0 0,.agg #[.int .i64 0,.int .i64 0,.slice none 0 0],.agg #[.int .i64 0,.int .i64 0],.int .i64 0],[]⟩ = true:=by kernel_rfl
 refine returnsInHanded_of_row (C:=Tryd.checked) (s:=Rows.OpenSpec.upto Rows.postingsChangeSpec) own started (by kernel_rfl) Tryd.func5
  ⟨World.doorLaid Tryd.prog 19 os,fun _ _=>0,⟨#[],#[.slice none 0 0,.agg #[.int .i64 0,.int .i64 0,.slice none 0 0],.agg #[.int .i64 0,.int .i64 0],.int .i64 0],[]⟩,rfl,World.shaped_of_RefB (by kernel_rfl) (by kernel_rfl),rfl,(Input.okWide_of_okWideB hok).2,
   OpenSpec.preRow_of_cond 8 hx (by kernel_rfl) (fun k hk=>by cases hk; kernel_rfl) (by kernel_rfl) (zpk os _),by
   simp only [Assume.holds]
   and_intros <;> simp⟩ ?_
 intro W base args ds gs before hval hW _ hcond _ hL _ _
 have hgs : gs = []:=by
  obtain ⟨_,_,_,hV,_⟩:=hW
  cases gs with
  | nil=>rfl
  | cons _ _=>exact hV.elim
 have hk:=hcond _ rfl
 rw [hgs,List.append_nil] at hk
 have hA:=hW
 obtain ⟨_,_,hA,_,_⟩:=hA
 exact Dv.law_postB (B:=Dv.small1 1048576) Dv.Tryd.tie laidOut (cs:=[69,68,65,2]) (tb:=4) rfl (by kernel_rfl) (by kernel_rfl) rfl Tryd.underlying4 rfl (fun ds hd=>by
  match ds,hd with
  | [d0,d1,d2,d3],_=>rfl) Dv.postingsChange hval hW (zor hL) (fun xs hr spr els r hx=>by
  rcases Dv.first_len Tryd.underlying35 hA hr hx with h | ⟨elems,spare,ds',e1,e2⟩
  ·rw [h]; exact Nat.zero_le _
  ·rw [<- e2]
   rw [e1] at hk
   exact zjn hk)

theorem z6r : Rows.PostingsChangeUptoSaid:=
 OpenClaim.holds_of_cond 5 Tryd.f5 rfl rfl rfl rfl rfl rfl rfl ⟨rfl,rfl,rfl,rfl,rfl⟩ rfl rfl rfl rfl rfl (by kernel_rfl) Tryd.func5 facts
  (of_decide_eq_true (by kernel_rfl)) (by unfold Func.isWrapper; first | (rw [if_pos (by decide +kernel)]; kernel_rfl) | (rw [if_neg (by decide +kernel)]; exact ⟨rfl,rfl⟩))
  (fun os started H enc _ F=>by rw [OpenClaim.pre_eq_preRow]; exact z4s os started H enc F)

theorem PostingsChangeUpto_holds : Rows.PostingsChangeUptoCardSaid:=
 Claim7.holds_tied_plain_at .later [] [.data,.data] true (true,"86834af3cc03690d2f391ca61a746150c560058a1a8202c2530688f86c653dbb") true
  z6r (fun _ h=>by cases h) (by kernel_rfl) (fun _ h=>by cases h) postingsChangeUpto_row_tie rfl ⟨rfl,rfl⟩ (by kernel_rfl) rfl
  (fun f fn hf hfn=>by
   obtain rfl : f = 5:=Option.some.inj ((show Tryd.prog.funcNamed "overflight/overflightlaw41.PostingsChange" = some 5 by kernel_rfl).symm.trans hf) |>.symm
   obtain rfl : fn = Tryd.f5:=(Option.some.inj (Tryd.func5.symm.trans hfn)).symm
   exact ⟨by kernel_rfl,fun j t ht=>by
    have ht' : (#[35,43,25,3] : Array Nat)[j]? = some t:=ht
    have hm : t ∈ [35,43,25,3]:=by simpa using Array.mem_of_getElem? ht'
    have hall : ([35,43,25,3].all fun u=>!Tryd.prog.wantsStandIn u) = true:=by kernel_rfl
    exact (show Tryd.prog.wantsStandIn t = false by simpa using List.all_eq_true.1 hall t hm)⟩)
  (by kernel_rfl)
end Go.Proofs.YtfagnjchgplecaaDoor
