/-
  No cell of these rows narrows 'for every input' (looked for: loops, veiled, ifaces, maps, wideKeys, modest, calm, conditions, laid).
  DERIVED. THE GIVEN ROWS OF THIS SEAT. 5 by the template 'for every input the law returns true; each argument reads behind the call as it read before'; 0 by the template 'total and deterministic' (their statements: YtpekfakljjogjaaTotals.lean).
  GIVEN WITH THE SEED: the statements are not yours to turn. If you find one false, say at which input.
  Laid BY PROGRAM, IN A SANDBOX (cutbox-rows.mjs): the forced cells as the released guide's own fill.sh prints them over the translation 8685aa8f72753221… (all of the seat's roots in one cut). By AI agents, Wed Nov 11 2026. No macro, syntax, notation, axiom, sorry.
-/
import Derived.Test.YtpekfakljjogjaaChecked
import GoSem.Claim
import GoSem.ClaimJoined
import GoSem.ClaimMapViews
import Derived.JoinedTies
import Derived.KernelRfl
namespace Go.Proofs.Ytpekfakljjogjaa
/- THE CELL 'sum', in the pinned program and in every row, IS THE sha256 OF THE DUMP (.gsa) THAT YtpekfakljjogjaaProg.lean LOADS. Nothing in Lean hashes anything: it is a label: what it is worth is what the hold of that sum in a sandbox is worth. -/
noncomputable def Try.pinned : Pinned := { name := "ytpekfakljjogjaa", sum := "8685aa8f72753221772c433c50b49ba3f06b60702d8fbe810d012b492017a0bf", checked := Try.checked }
namespace Rows
def none {H : Type} : Left H := { results := [], args := [] }

/-- 'overflightlaw42.CausesAdd': WHATEVER THE INPUT: true; the input reads as it did. -/
def causesAddSpec : ChangeSpec := { name := "causesAdd", fn := fun _ => fun
  | [d1, d2] => { results := [.lit (.bool true)], args := [d1, d2] }
  | _ => none }
def causesAddRow : OpenClaim := { program := "ytpekfakljjogjaa", sum := "8685aa8f72753221772c433c50b49ba3f06b60702d8fbe810d012b492017a0bf", func := "overflight/overflightlaw42.CausesAdd", spec := "causesAdd", unfollowed := true, recurses := true, plainKeys := false, apart := false }
def CausesAddSaid : Prop := causesAddRow.holds Try.pinned (OpenSpec.ofChange causesAddSpec)

/-- ITS FALSE NEIGHBOUR: 'it returns false'. Refute it at one input. -/
def causesAddWrong : ChangeSpec := { name := "causesAdd", fn := fun _ => fun
  | [d1, d2] => { results := [.lit (.bool false)], args := [d1, d2] }
  | _ => none }
def CausesAddWrongFalsely : Prop := causesAddRow.holds Try.pinned (OpenSpec.ofChange causesAddWrong)

/-- 'overflightlaw42.CausesSteps': WHATEVER THE INPUT: true; the input reads as it did. -/
def causesStepsSpec : ChangeSpec := { name := "causesSteps", fn := fun _ => fun
  | [d1, d2, d3] => { results := [.lit (.bool true)], args := [d1, d2, d3] }
  | _ => none }
def causesStepsRow : OpenClaim := { program := "ytpekfakljjogjaa", sum := "8685aa8f72753221772c433c50b49ba3f06b60702d8fbe810d012b492017a0bf", func := "overflight/overflightlaw42.CausesSteps", spec := "causesSteps", unfollowed := true, recurses := true, plainKeys := false, apart := false }
def CausesStepsSaid : Prop := causesStepsRow.holds Try.pinned (OpenSpec.ofChange causesStepsSpec)

/-- ITS FALSE NEIGHBOUR: 'it returns false'. Refute it at one input. -/
def causesStepsWrong : ChangeSpec := { name := "causesSteps", fn := fun _ => fun
  | [d1, d2, d3] => { results := [.lit (.bool false)], args := [d1, d2, d3] }
  | _ => none }
def CausesStepsWrongFalsely : Prop := causesStepsRow.holds Try.pinned (OpenSpec.ofChange causesStepsWrong)

/-- 'overflightlaw42.CausesNothing': WHATEVER THE INPUT: true; the input reads as it did. -/
def causesNothingSpec : ChangeSpec := { name := "causesNothing", fn := fun _ => fun
  | [d1, d2, d3, d4] => { results := [.lit (.bool true)], args := [d1, d2, d3, d4] }
  | _ => none }
def causesNothingRow : OpenClaim := { program := "ytpekfakljjogjaa", sum := "8685aa8f72753221772c433c50b49ba3f06b60702d8fbe810d012b492017a0bf", func := "overflight/overflightlaw42.CausesNothing", spec := "causesNothing", unfollowed := true, recurses := true, plainKeys := false, apart := false }
def CausesNothingSaid : Prop := causesNothingRow.holds Try.pinned (OpenSpec.ofChange causesNothingSpec)

/-- ITS FALSE NEIGHBOUR: 'it returns false'. Refute it at one input. -/
def causesNothingWrong : ChangeSpec := { name := "causesNothing", fn := fun _ => fun
  | [d1, d2, d3, d4] => { results := [.lit (.bool false)], args := [d1, d2, d3, d4] }
  | _ => none }
def CausesNothingWrongFalsely : Prop := causesNothingRow.holds Try.pinned (OpenSpec.ofChange causesNothingWrong)

/-- 'overflightlaw42.CausesNumbers': WHATEVER THE INPUT: true; the input reads as it did. -/
def causesNumbersSpec : ChangeSpec := { name := "causesNumbers", fn := fun _ => fun
  | [d1, d2, d3] => { results := [.lit (.bool true)], args := [d1, d2, d3] }
  | _ => none }
def causesNumbersRow : OpenClaim := { program := "ytpekfakljjogjaa", sum := "8685aa8f72753221772c433c50b49ba3f06b60702d8fbe810d012b492017a0bf", func := "overflight/overflightlaw42.CausesNumbers", spec := "causesNumbers", unfollowed := true, recurses := true, plainKeys := false, apart := false }
def CausesNumbersSaid : Prop := causesNumbersRow.holds Try.pinned (OpenSpec.ofChange causesNumbersSpec)

/-- ITS FALSE NEIGHBOUR: 'it returns false'. Refute it at one input. -/
def causesNumbersWrong : ChangeSpec := { name := "causesNumbers", fn := fun _ => fun
  | [d1, d2, d3] => { results := [.lit (.bool false)], args := [d1, d2, d3] }
  | _ => none }
def CausesNumbersWrongFalsely : Prop := causesNumbersRow.holds Try.pinned (OpenSpec.ofChange causesNumbersWrong)

/-- 'overflightlaw42.CausesMore': WHATEVER THE INPUT: true; the input reads as it did. -/
def causesMoreSpec : ChangeSpec := { name := "causesMore", fn := fun _ => fun
  | [d1, d2, d3, d4] => { results := [.lit (.bool true)], args := [d1, d2, d3, d4] }
  | _ => none }
def causesMoreRow : OpenClaim := { program := "ytpekfakljjogjaa", sum := "8685aa8f72753221772c433c50b49ba3f06b60702d8fbe810d012b492017a0bf", func := "overflight/overflightlaw42.CausesMore", spec := "causesMore", unfollowed := true, recurses := true, plainKeys := false, apart := false }
def CausesMoreSaid : Prop := causesMoreRow.holds Try.pinned (OpenSpec.ofChange causesMoreSpec)

/-- ITS FALSE NEIGHBOUR: 'it returns false'. Refute it at one input. -/
def causesMoreWrong : ChangeSpec := { name := "causesMore", fn := fun _ => fun
  | [d1, d2, d3, d4] => { results := [.lit (.bool false)], args := [d1, d2, d3, d4] }
  | _ => none }
def CausesMoreWrongFalsely : Prop := causesMoreRow.holds Try.pinned (OpenSpec.ofChange causesMoreWrong)

/- THE SECOND FORM. 'bulk': how many values and letters a reading holds, each counted each time it is reached (what is shared counts as often as it is met; a slice's spare places count too). A statement '..UptoSaid' is the law's where the arguments, and the package variables that the reading takes, are together of bulk at most 1048576: NARROWER than '..Said'. Prove '..Said' where nothing that the law and all that it calls make is longer than what came in: it says more and counts as full. Else prove '..UptoSaid'. A law counts once. -/
mutual
def uptoBulk {H : Type} : DataW H → Nat
  | .lit (.string bytes) => bytes.length + 1
  | .lit _ => 1
  | .nil => 1
  | .ptr d => uptoBulk d + 1
  | .slice elems spare => uptoBulkAll elems + uptoBulkAll spare + 1
  | .agg parts => uptoBulkAll parts + 1
  | .iface _ d => uptoBulk d + 1
  | .map entries => uptoBulkEntries entries + 1
  | .held _ => 1
def uptoBulkAll {H : Type} : List (DataW H) → Nat
  | [] => 0
  | d :: r => uptoBulk d + uptoBulkAll r
def uptoBulkEntries {H : Type} : List (Lit × DataW H) → Nat
  | [] => 0
  | x :: r => uptoBulkEntry x + uptoBulkEntries r
def uptoBulkEntry {H : Type} : Lit × DataW H → Nat
  | (.string bytes, d) => bytes.length + uptoBulk d + 1
  | (_, d) => uptoBulk d + 1
 end
def uptoSmall : (H : Type) → List (DataW H) → Bool := fun _ ds => decide (uptoBulkAll ds ≤ 1048576)
def OpenSpec.upto (s : _root_.Go.ChangeSpec) : _root_.Go.OpenSpec := { _root_.Go.OpenSpec.ofChange s with cond := some uptoSmall }

/-- 'overflightlaw42.CausesAdd', WHERE WHAT IT READS IS OF BULK AT MOST 1048576: true; the input reads as it did. -/
def causesAddUptoRow : OpenClaim := { program := "ytpekfakljjogjaa", sum := "8685aa8f72753221772c433c50b49ba3f06b60702d8fbe810d012b492017a0bf", func := "overflight/overflightlaw42.CausesAdd", spec := "causesAdd", unfollowed := true, recurses := true, plainKeys := false, apart := false, narrowed := true }
def CausesAddUptoSaid : Prop := causesAddUptoRow.holds Try.pinned (OpenSpec.upto causesAddSpec)

/-- 'overflightlaw42.CausesSteps', WHERE WHAT IT READS IS OF BULK AT MOST 1048576: true; the input reads as it did. -/
def causesStepsUptoRow : OpenClaim := { program := "ytpekfakljjogjaa", sum := "8685aa8f72753221772c433c50b49ba3f06b60702d8fbe810d012b492017a0bf", func := "overflight/overflightlaw42.CausesSteps", spec := "causesSteps", unfollowed := true, recurses := true, plainKeys := false, apart := false, narrowed := true }
def CausesStepsUptoSaid : Prop := causesStepsUptoRow.holds Try.pinned (OpenSpec.upto causesStepsSpec)

/-- 'overflightlaw42.CausesNothing', WHERE WHAT IT READS IS OF BULK AT MOST 1048576: true; the input reads as it did. -/
def causesNothingUptoRow : OpenClaim := { program := "ytpekfakljjogjaa", sum := "8685aa8f72753221772c433c50b49ba3f06b60702d8fbe810d012b492017a0bf", func := "overflight/overflightlaw42.CausesNothing", spec := "causesNothing", unfollowed := true, recurses := true, plainKeys := false, apart := false, narrowed := true }
def CausesNothingUptoSaid : Prop := causesNothingUptoRow.holds Try.pinned (OpenSpec.upto causesNothingSpec)

/-- 'overflightlaw42.CausesNumbers', WHERE WHAT IT READS IS OF BULK AT MOST 1048576: true; the input reads as it did. -/
def causesNumbersUptoRow : OpenClaim := { program := "ytpekfakljjogjaa", sum := "8685aa8f72753221772c433c50b49ba3f06b60702d8fbe810d012b492017a0bf", func := "overflight/overflightlaw42.CausesNumbers", spec := "causesNumbers", unfollowed := true, recurses := true, plainKeys := false, apart := false, narrowed := true }
def CausesNumbersUptoSaid : Prop := causesNumbersUptoRow.holds Try.pinned (OpenSpec.upto causesNumbersSpec)

/-- 'overflightlaw42.CausesMore', WHERE WHAT IT READS IS OF BULK AT MOST 1048576: true; the input reads as it did. -/
def causesMoreUptoRow : OpenClaim := { program := "ytpekfakljjogjaa", sum := "8685aa8f72753221772c433c50b49ba3f06b60702d8fbe810d012b492017a0bf", func := "overflight/overflightlaw42.CausesMore", spec := "causesMore", unfollowed := true, recurses := true, plainKeys := false, apart := false, narrowed := true }
def CausesMoreUptoSaid : Prop := causesMoreUptoRow.holds Try.pinned (OpenSpec.upto causesMoreSpec)

end Rows
end Go.Proofs.Ytpekfakljjogjaa
