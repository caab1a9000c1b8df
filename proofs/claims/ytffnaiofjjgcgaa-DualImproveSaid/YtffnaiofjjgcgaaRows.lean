/-
  No cell of these rows narrows 'for every input' (looked for: loops, veiled, ifaces, maps, wideKeys, modest, calm, conditions, laid).
  DERIVED. THE GIVEN ROWS OF THIS SEAT. 21 by the template 'for every input the law returns true; each argument reads behind the call as it read before'; 0 by the template 'total and deterministic' (their statements: YtffnaiofjjgcgaaTotals.lean).
  GIVEN WITH THE SEED: the statements are not yours to turn. If you find one false, say at which input.
  Laid BY PROGRAM, IN A SANDBOX (cutbox-rows.mjs): the forced cells as the released guide's own fill.sh prints them over the translation 71dff7357aae5e88… (all of the seat's roots in one cut). By AI agents, Wed Nov 11 2026. No macro, syntax, notation, axiom, sorry.
-/
import Derived.Test.YtffnaiofjjgcgaaChecked
import GoSem.Claim
import GoSem.ClaimJoined
import GoSem.ClaimMapViews
import Derived.JoinedTies
import Derived.KernelRfl
namespace Go.Proofs.Ytffnaiofjjgcgaa
/- THE CELL 'sum', in the pinned program and in every row, IS THE sha256 OF THE DUMP (.gsa) THAT YtffnaiofjjgcgaaProg.lean LOADS. Nothing in Lean hashes anything: it is a label: what it is worth is what the hold of that sum in a sandbox is worth. -/
noncomputable def Try.pinned : Pinned := { name := "ytffnaiofjjgcgaa", sum := "71dff7357aae5e88f12e5de2ab1b61cab034eb6083e9d17e2639cbe5de9b4f6c", checked := Try.checked }
namespace Rows
def none {H : Type} : Left H := { results := [], args := [] }

/-- 'overflightlaw28.BoundSpec': WHATEVER THE INPUT: true; the input reads as it did. -/
def boundSpecSpec : ChangeSpec := { name := "boundSpec", fn := fun _ => fun
  | [d1, d2] => { results := [.lit (.bool true)], args := [d1, d2] }
  | _ => none }
def boundSpecRow : OpenClaim := { program := "ytffnaiofjjgcgaa", sum := "71dff7357aae5e88f12e5de2ab1b61cab034eb6083e9d17e2639cbe5de9b4f6c", func := "overflight/overflightlaw28.BoundSpec", spec := "boundSpec", unfollowed := true, recurses := true, plainKeys := false, apart := false }
def BoundSpecSaid : Prop := boundSpecRow.holds Try.pinned (OpenSpec.ofChange boundSpecSpec)

/-- ITS FALSE NEIGHBOUR: 'it returns false'. Refute it at one input. -/
def boundSpecWrong : ChangeSpec := { name := "boundSpec", fn := fun _ => fun
  | [d1, d2] => { results := [.lit (.bool false)], args := [d1, d2] }
  | _ => none }
def BoundSpecWrongFalsely : Prop := boundSpecRow.holds Try.pinned (OpenSpec.ofChange boundSpecWrong)

/-- 'overflightlaw28.BoundNextSpec': WHATEVER THE INPUT: true; the input reads as it did. -/
def boundNextSpecSpec : ChangeSpec := { name := "boundNextSpec", fn := fun _ => fun
  | [d1, d2] => { results := [.lit (.bool true)], args := [d1, d2] }
  | _ => none }
def boundNextSpecRow : OpenClaim := { program := "ytffnaiofjjgcgaa", sum := "71dff7357aae5e88f12e5de2ab1b61cab034eb6083e9d17e2639cbe5de9b4f6c", func := "overflight/overflightlaw28.BoundNextSpec", spec := "boundNextSpec", unfollowed := true, recurses := true, plainKeys := false, apart := false }
def BoundNextSpecSaid : Prop := boundNextSpecRow.holds Try.pinned (OpenSpec.ofChange boundNextSpecSpec)

/-- ITS FALSE NEIGHBOUR: 'it returns false'. Refute it at one input. -/
def boundNextSpecWrong : ChangeSpec := { name := "boundNextSpec", fn := fun _ => fun
  | [d1, d2] => { results := [.lit (.bool false)], args := [d1, d2] }
  | _ => none }
def BoundNextSpecWrongFalsely : Prop := boundNextSpecRow.holds Try.pinned (OpenSpec.ofChange boundNextSpecWrong)

/-- 'overflightlaw28.BoundGrows': WHATEVER THE INPUT: true; the input reads as it did. -/
def boundGrowsSpec : ChangeSpec := { name := "boundGrows", fn := fun _ => fun
  | [d1, d2] => { results := [.lit (.bool true)], args := [d1, d2] }
  | _ => none }
def boundGrowsRow : OpenClaim := { program := "ytffnaiofjjgcgaa", sum := "71dff7357aae5e88f12e5de2ab1b61cab034eb6083e9d17e2639cbe5de9b4f6c", func := "overflight/overflightlaw28.BoundGrows", spec := "boundGrows", unfollowed := true, recurses := true, plainKeys := false, apart := false }
def BoundGrowsSaid : Prop := boundGrowsRow.holds Try.pinned (OpenSpec.ofChange boundGrowsSpec)

/-- ITS FALSE NEIGHBOUR: 'it returns false'. Refute it at one input. -/
def boundGrowsWrong : ChangeSpec := { name := "boundGrows", fn := fun _ => fun
  | [d1, d2] => { results := [.lit (.bool false)], args := [d1, d2] }
  | _ => none }
def BoundGrowsWrongFalsely : Prop := boundGrowsRow.holds Try.pinned (OpenSpec.ofChange boundGrowsWrong)

/-- 'overflightlaw28.BoundRefuses': WHATEVER THE INPUT: true; the input reads as it did. -/
def boundRefusesSpec : ChangeSpec := { name := "boundRefuses", fn := fun _ => fun
  | [d1, d2] => { results := [.lit (.bool true)], args := [d1, d2] }
  | _ => none }
def boundRefusesRow : OpenClaim := { program := "ytffnaiofjjgcgaa", sum := "71dff7357aae5e88f12e5de2ab1b61cab034eb6083e9d17e2639cbe5de9b4f6c", func := "overflight/overflightlaw28.BoundRefuses", spec := "boundRefuses", unfollowed := true, recurses := true, plainKeys := false, apart := false }
def BoundRefusesSaid : Prop := boundRefusesRow.holds Try.pinned (OpenSpec.ofChange boundRefusesSpec)

/-- ITS FALSE NEIGHBOUR: 'it returns false'. Refute it at one input. -/
def boundRefusesWrong : ChangeSpec := { name := "boundRefuses", fn := fun _ => fun
  | [d1, d2] => { results := [.lit (.bool false)], args := [d1, d2] }
  | _ => none }
def BoundRefusesWrongFalsely : Prop := boundRefusesRow.holds Try.pinned (OpenSpec.ofChange boundRefusesWrong)

/-- 'overflightlaw27.ProblemDemandSpec': WHATEVER THE INPUT: true; the input reads as it did. -/
def problemDemandSpecSpec : ChangeSpec := { name := "problemDemandSpec", fn := fun _ => fun
  | [d1, d2, d3] => { results := [.lit (.bool true)], args := [d1, d2, d3] }
  | _ => none }
def problemDemandSpecRow : OpenClaim := { program := "ytffnaiofjjgcgaa", sum := "71dff7357aae5e88f12e5de2ab1b61cab034eb6083e9d17e2639cbe5de9b4f6c", func := "overflight/overflightlaw27.ProblemDemandSpec", spec := "problemDemandSpec", unfollowed := true, recurses := true, plainKeys := false, apart := false }
def ProblemDemandSpecSaid : Prop := problemDemandSpecRow.holds Try.pinned (OpenSpec.ofChange problemDemandSpecSpec)

/-- ITS FALSE NEIGHBOUR: 'it returns false'. Refute it at one input. -/
def problemDemandSpecWrong : ChangeSpec := { name := "problemDemandSpec", fn := fun _ => fun
  | [d1, d2, d3] => { results := [.lit (.bool false)], args := [d1, d2, d3] }
  | _ => none }
def ProblemDemandSpecWrongFalsely : Prop := problemDemandSpecRow.holds Try.pinned (OpenSpec.ofChange problemDemandSpecWrong)

/-- 'overflightlaw27.ProblemValueSpec': WHATEVER THE INPUT: true; the input reads as it did. -/
def problemValueSpecSpec : ChangeSpec := { name := "problemValueSpec", fn := fun _ => fun
  | [d1, d2, d3] => { results := [.lit (.bool true)], args := [d1, d2, d3] }
  | _ => none }
def problemValueSpecRow : OpenClaim := { program := "ytffnaiofjjgcgaa", sum := "71dff7357aae5e88f12e5de2ab1b61cab034eb6083e9d17e2639cbe5de9b4f6c", func := "overflight/overflightlaw27.ProblemValueSpec", spec := "problemValueSpec", unfollowed := true, recurses := true, plainKeys := false, apart := false }
def ProblemValueSpecSaid : Prop := problemValueSpecRow.holds Try.pinned (OpenSpec.ofChange problemValueSpecSpec)

/-- ITS FALSE NEIGHBOUR: 'it returns false'. Refute it at one input. -/
def problemValueSpecWrong : ChangeSpec := { name := "problemValueSpec", fn := fun _ => fun
  | [d1, d2, d3] => { results := [.lit (.bool false)], args := [d1, d2, d3] }
  | _ => none }
def ProblemValueSpecWrongFalsely : Prop := problemValueSpecRow.holds Try.pinned (OpenSpec.ofChange problemValueSpecWrong)

/-- 'overflightlaw27.ProblemTotal': WHATEVER THE INPUT: true; the input reads as it did. -/
def problemTotalSpec : ChangeSpec := { name := "problemTotal", fn := fun _ => fun
  | [d1, d2, d3, d4] => { results := [.lit (.bool true)], args := [d1, d2, d3, d4] }
  | _ => none }
def problemTotalRow : OpenClaim := { program := "ytffnaiofjjgcgaa", sum := "71dff7357aae5e88f12e5de2ab1b61cab034eb6083e9d17e2639cbe5de9b4f6c", func := "overflight/overflightlaw27.ProblemTotal", spec := "problemTotal", unfollowed := true, recurses := true, plainKeys := false, apart := false }
def ProblemTotalSaid : Prop := problemTotalRow.holds Try.pinned (OpenSpec.ofChange problemTotalSpec)

/-- ITS FALSE NEIGHBOUR: 'it returns false'. Refute it at one input. -/
def problemTotalWrong : ChangeSpec := { name := "problemTotal", fn := fun _ => fun
  | [d1, d2, d3, d4] => { results := [.lit (.bool false)], args := [d1, d2, d3, d4] }
  | _ => none }
def ProblemTotalWrongFalsely : Prop := problemTotalRow.holds Try.pinned (OpenSpec.ofChange problemTotalWrong)

/-- 'overflightlaw27.ProblemSums': WHATEVER THE INPUT: true; the input reads as it did. -/
def problemSumsSpec : ChangeSpec := { name := "problemSums", fn := fun _ => fun
  | [d1, d2] => { results := [.lit (.bool true)], args := [d1, d2] }
  | _ => none }
def problemSumsRow : OpenClaim := { program := "ytffnaiofjjgcgaa", sum := "71dff7357aae5e88f12e5de2ab1b61cab034eb6083e9d17e2639cbe5de9b4f6c", func := "overflight/overflightlaw27.ProblemSums", spec := "problemSums", unfollowed := true, recurses := true, plainKeys := false, apart := false }
def ProblemSumsSaid : Prop := problemSumsRow.holds Try.pinned (OpenSpec.ofChange problemSumsSpec)

/-- ITS FALSE NEIGHBOUR: 'it returns false'. Refute it at one input. -/
def problemSumsWrong : ChangeSpec := { name := "problemSums", fn := fun _ => fun
  | [d1, d2] => { results := [.lit (.bool false)], args := [d1, d2] }
  | _ => none }
def ProblemSumsWrongFalsely : Prop := problemSumsRow.holds Try.pinned (OpenSpec.ofChange problemSumsWrong)

/-- 'overflightlaw27.ProblemGrows': WHATEVER THE INPUT: true; the input reads as it did. -/
def problemGrowsSpec : ChangeSpec := { name := "problemGrows", fn := fun _ => fun
  | [d1, d2, d3] => { results := [.lit (.bool true)], args := [d1, d2, d3] }
  | _ => none }
def problemGrowsRow : OpenClaim := { program := "ytffnaiofjjgcgaa", sum := "71dff7357aae5e88f12e5de2ab1b61cab034eb6083e9d17e2639cbe5de9b4f6c", func := "overflight/overflightlaw27.ProblemGrows", spec := "problemGrows", unfollowed := true, recurses := true, plainKeys := false, apart := false }
def ProblemGrowsSaid : Prop := problemGrowsRow.holds Try.pinned (OpenSpec.ofChange problemGrowsSpec)

/-- ITS FALSE NEIGHBOUR: 'it returns false'. Refute it at one input. -/
def problemGrowsWrong : ChangeSpec := { name := "problemGrows", fn := fun _ => fun
  | [d1, d2, d3] => { results := [.lit (.bool false)], args := [d1, d2, d3] }
  | _ => none }
def ProblemGrowsWrongFalsely : Prop := problemGrowsRow.holds Try.pinned (OpenSpec.ofChange problemGrowsWrong)

/-- 'overflightlaw27.ProblemRoom': WHATEVER THE INPUT: true; the input reads as it did. -/
def problemRoomSpec : ChangeSpec := { name := "problemRoom", fn := fun _ => fun
  | [d1, d2, d3, d4, d5] => { results := [.lit (.bool true)], args := [d1, d2, d3, d4, d5] }
  | _ => none }
def problemRoomRow : OpenClaim := { program := "ytffnaiofjjgcgaa", sum := "71dff7357aae5e88f12e5de2ab1b61cab034eb6083e9d17e2639cbe5de9b4f6c", func := "overflight/overflightlaw27.ProblemRoom", spec := "problemRoom", unfollowed := true, recurses := true, plainKeys := false, apart := false }
def ProblemRoomSaid : Prop := problemRoomRow.holds Try.pinned (OpenSpec.ofChange problemRoomSpec)

/-- ITS FALSE NEIGHBOUR: 'it returns false'. Refute it at one input. -/
def problemRoomWrong : ChangeSpec := { name := "problemRoom", fn := fun _ => fun
  | [d1, d2, d3, d4, d5] => { results := [.lit (.bool false)], args := [d1, d2, d3, d4, d5] }
  | _ => none }
def ProblemRoomWrongFalsely : Prop := problemRoomRow.holds Try.pinned (OpenSpec.ofChange problemRoomWrong)

/-- 'overflightlaw29.DualSpec': WHATEVER THE INPUT: true; the input reads as it did. -/
def dualSpecSpec : ChangeSpec := { name := "dualSpec", fn := fun _ => fun
  | [d1, d2, d3, d4] => { results := [.lit (.bool true)], args := [d1, d2, d3, d4] }
  | _ => none }
def dualSpecRow : OpenClaim := { program := "ytffnaiofjjgcgaa", sum := "71dff7357aae5e88f12e5de2ab1b61cab034eb6083e9d17e2639cbe5de9b4f6c", func := "overflight/overflightlaw29.DualSpec", spec := "dualSpec", unfollowed := true, recurses := true, plainKeys := false, apart := false }
def DualSpecSaid : Prop := dualSpecRow.holds Try.pinned (OpenSpec.ofChange dualSpecSpec)

/-- ITS FALSE NEIGHBOUR: 'it returns false'. Refute it at one input. -/
def dualSpecWrong : ChangeSpec := { name := "dualSpec", fn := fun _ => fun
  | [d1, d2, d3, d4] => { results := [.lit (.bool false)], args := [d1, d2, d3, d4] }
  | _ => none }
def DualSpecWrongFalsely : Prop := dualSpecRow.holds Try.pinned (OpenSpec.ofChange dualSpecWrong)

/-- 'overflightlaw29.DualImproveSpec': WHATEVER THE INPUT: true; the input reads as it did. -/
def dualImproveSpecSpec : ChangeSpec := { name := "dualImproveSpec", fn := fun _ => fun
  | [d1, d2, d3, d4] => { results := [.lit (.bool true)], args := [d1, d2, d3, d4] }
  | _ => none }
def dualImproveSpecRow : OpenClaim := { program := "ytffnaiofjjgcgaa", sum := "71dff7357aae5e88f12e5de2ab1b61cab034eb6083e9d17e2639cbe5de9b4f6c", func := "overflight/overflightlaw29.DualImproveSpec", spec := "dualImproveSpec", unfollowed := true, recurses := true, plainKeys := false, apart := false }
def DualImproveSpecSaid : Prop := dualImproveSpecRow.holds Try.pinned (OpenSpec.ofChange dualImproveSpecSpec)

/-- ITS FALSE NEIGHBOUR: 'it returns false'. Refute it at one input. -/
def dualImproveSpecWrong : ChangeSpec := { name := "dualImproveSpec", fn := fun _ => fun
  | [d1, d2, d3, d4] => { results := [.lit (.bool false)], args := [d1, d2, d3, d4] }
  | _ => none }
def DualImproveSpecWrongFalsely : Prop := dualImproveSpecRow.holds Try.pinned (OpenSpec.ofChange dualImproveSpecWrong)

/-- 'overflightlaw29.DualBranch': WHATEVER THE INPUT: true; the input reads as it did. -/
def dualBranchSpec : ChangeSpec := { name := "dualBranch", fn := fun _ => fun
  | [d1, d2, d3, d4, d5, d6] => { results := [.lit (.bool true)], args := [d1, d2, d3, d4, d5, d6] }
  | _ => none }
def dualBranchRow : OpenClaim := { program := "ytffnaiofjjgcgaa", sum := "71dff7357aae5e88f12e5de2ab1b61cab034eb6083e9d17e2639cbe5de9b4f6c", func := "overflight/overflightlaw29.DualBranch", spec := "dualBranch", unfollowed := true, recurses := true, plainKeys := false, apart := false }
def DualBranchSaid : Prop := dualBranchRow.holds Try.pinned (OpenSpec.ofChange dualBranchSpec)

/-- ITS FALSE NEIGHBOUR: 'it returns false'. Refute it at one input. -/
def dualBranchWrong : ChangeSpec := { name := "dualBranch", fn := fun _ => fun
  | [d1, d2, d3, d4, d5, d6] => { results := [.lit (.bool false)], args := [d1, d2, d3, d4, d5, d6] }
  | _ => none }
def DualBranchWrongFalsely : Prop := dualBranchRow.holds Try.pinned (OpenSpec.ofChange dualBranchWrong)

/-- 'overflightlaw29.DualFree': WHATEVER THE INPUT: true; the input reads as it did. -/
def dualFreeSpec : ChangeSpec := { name := "dualFree", fn := fun _ => fun
  | [d1, d2, d3] => { results := [.lit (.bool true)], args := [d1, d2, d3] }
  | _ => none }
def dualFreeRow : OpenClaim := { program := "ytffnaiofjjgcgaa", sum := "71dff7357aae5e88f12e5de2ab1b61cab034eb6083e9d17e2639cbe5de9b4f6c", func := "overflight/overflightlaw29.DualFree", spec := "dualFree", unfollowed := true, recurses := true, plainKeys := false, apart := false }
def DualFreeSaid : Prop := dualFreeRow.holds Try.pinned (OpenSpec.ofChange dualFreeSpec)

/-- ITS FALSE NEIGHBOUR: 'it returns false'. Refute it at one input. -/
def dualFreeWrong : ChangeSpec := { name := "dualFree", fn := fun _ => fun
  | [d1, d2, d3] => { results := [.lit (.bool false)], args := [d1, d2, d3] }
  | _ => none }
def DualFreeWrongFalsely : Prop := dualFreeRow.holds Try.pinned (OpenSpec.ofChange dualFreeWrong)

/-- 'overflightlaw29.DualTighter': WHATEVER THE INPUT: true; the input reads as it did. -/
def dualTighterSpec : ChangeSpec := { name := "dualTighter", fn := fun _ => fun
  | [d1, d2, d3, d4, d5, d6] => { results := [.lit (.bool true)], args := [d1, d2, d3, d4, d5, d6] }
  | _ => none }
def dualTighterRow : OpenClaim := { program := "ytffnaiofjjgcgaa", sum := "71dff7357aae5e88f12e5de2ab1b61cab034eb6083e9d17e2639cbe5de9b4f6c", func := "overflight/overflightlaw29.DualTighter", spec := "dualTighter", unfollowed := true, recurses := true, plainKeys := false, apart := false }
def DualTighterSaid : Prop := dualTighterRow.holds Try.pinned (OpenSpec.ofChange dualTighterSpec)

/-- ITS FALSE NEIGHBOUR: 'it returns false'. Refute it at one input. -/
def dualTighterWrong : ChangeSpec := { name := "dualTighter", fn := fun _ => fun
  | [d1, d2, d3, d4, d5, d6] => { results := [.lit (.bool false)], args := [d1, d2, d3, d4, d5, d6] }
  | _ => none }
def DualTighterWrongFalsely : Prop := dualTighterRow.holds Try.pinned (OpenSpec.ofChange dualTighterWrong)

/-- 'overflightlaw29.DualImprove': WHATEVER THE INPUT: true; the input reads as it did. -/
def dualImproveSpec : ChangeSpec := { name := "dualImprove", fn := fun _ => fun
  | [d1, d2, d3, d4] => { results := [.lit (.bool true)], args := [d1, d2, d3, d4] }
  | _ => none }
def dualImproveRow : OpenClaim := { program := "ytffnaiofjjgcgaa", sum := "71dff7357aae5e88f12e5de2ab1b61cab034eb6083e9d17e2639cbe5de9b4f6c", func := "overflight/overflightlaw29.DualImprove", spec := "dualImprove", unfollowed := true, recurses := true, plainKeys := false, apart := false }
def DualImproveSaid : Prop := dualImproveRow.holds Try.pinned (OpenSpec.ofChange dualImproveSpec)

/-- ITS FALSE NEIGHBOUR: 'it returns false'. Refute it at one input. -/
def dualImproveWrong : ChangeSpec := { name := "dualImprove", fn := fun _ => fun
  | [d1, d2, d3, d4] => { results := [.lit (.bool false)], args := [d1, d2, d3, d4] }
  | _ => none }
def DualImproveWrongFalsely : Prop := dualImproveRow.holds Try.pinned (OpenSpec.ofChange dualImproveWrong)

/-- 'overflightlaw27.ProblemTurned': WHATEVER THE INPUT: true; the input reads as it did. -/
def problemTurnedSpec : ChangeSpec := { name := "problemTurned", fn := fun _ => fun
  | [d1, d2, d3] => { results := [.lit (.bool true)], args := [d1, d2, d3] }
  | _ => none }
def problemTurnedRow : OpenClaim := { program := "ytffnaiofjjgcgaa", sum := "71dff7357aae5e88f12e5de2ab1b61cab034eb6083e9d17e2639cbe5de9b4f6c", func := "overflight/overflightlaw27.ProblemTurned", spec := "problemTurned", unfollowed := true, recurses := true, plainKeys := false, apart := false }
def ProblemTurnedSaid : Prop := problemTurnedRow.holds Try.pinned (OpenSpec.ofChange problemTurnedSpec)

/-- ITS FALSE NEIGHBOUR: 'it returns false'. Refute it at one input. -/
def problemTurnedWrong : ChangeSpec := { name := "problemTurned", fn := fun _ => fun
  | [d1, d2, d3] => { results := [.lit (.bool false)], args := [d1, d2, d3] }
  | _ => none }
def ProblemTurnedWrongFalsely : Prop := problemTurnedRow.holds Try.pinned (OpenSpec.ofChange problemTurnedWrong)

/-- 'overflightlaw28.BoundExact': WHATEVER THE INPUT: true; the input reads as it did. -/
def boundExactSpec : ChangeSpec := { name := "boundExact", fn := fun _ => fun
  | [d1, d2] => { results := [.lit (.bool true)], args := [d1, d2] }
  | _ => none }
def boundExactRow : OpenClaim := { program := "ytffnaiofjjgcgaa", sum := "71dff7357aae5e88f12e5de2ab1b61cab034eb6083e9d17e2639cbe5de9b4f6c", func := "overflight/overflightlaw28.BoundExact", spec := "boundExact", unfollowed := true, recurses := true, plainKeys := false, apart := false }
def BoundExactSaid : Prop := boundExactRow.holds Try.pinned (OpenSpec.ofChange boundExactSpec)

/-- ITS FALSE NEIGHBOUR: 'it returns false'. Refute it at one input. -/
def boundExactWrong : ChangeSpec := { name := "boundExact", fn := fun _ => fun
  | [d1, d2] => { results := [.lit (.bool false)], args := [d1, d2] }
  | _ => none }
def BoundExactWrongFalsely : Prop := boundExactRow.holds Try.pinned (OpenSpec.ofChange boundExactWrong)

/-- 'overflightlaw28.BoundBelow': WHATEVER THE INPUT: true; the input reads as it did. -/
def boundBelowSpec : ChangeSpec := { name := "boundBelow", fn := fun _ => fun
  | [d1, d2, d3] => { results := [.lit (.bool true)], args := [d1, d2, d3] }
  | _ => none }
def boundBelowRow : OpenClaim := { program := "ytffnaiofjjgcgaa", sum := "71dff7357aae5e88f12e5de2ab1b61cab034eb6083e9d17e2639cbe5de9b4f6c", func := "overflight/overflightlaw28.BoundBelow", spec := "boundBelow", unfollowed := true, recurses := true, plainKeys := false, apart := false }
def BoundBelowSaid : Prop := boundBelowRow.holds Try.pinned (OpenSpec.ofChange boundBelowSpec)

/-- ITS FALSE NEIGHBOUR: 'it returns false'. Refute it at one input. -/
def boundBelowWrong : ChangeSpec := { name := "boundBelow", fn := fun _ => fun
  | [d1, d2, d3] => { results := [.lit (.bool false)], args := [d1, d2, d3] }
  | _ => none }
def BoundBelowWrongFalsely : Prop := boundBelowRow.holds Try.pinned (OpenSpec.ofChange boundBelowWrong)

/-- 'overflightlaw28.BoundDivides': WHATEVER THE INPUT: true; the input reads as it did. -/
def boundDividesSpec : ChangeSpec := { name := "boundDivides", fn := fun _ => fun
  | [d1, d2, d3] => { results := [.lit (.bool true)], args := [d1, d2, d3] }
  | _ => none }
def boundDividesRow : OpenClaim := { program := "ytffnaiofjjgcgaa", sum := "71dff7357aae5e88f12e5de2ab1b61cab034eb6083e9d17e2639cbe5de9b4f6c", func := "overflight/overflightlaw28.BoundDivides", spec := "boundDivides", unfollowed := true, recurses := true, plainKeys := false, apart := false }
def BoundDividesSaid : Prop := boundDividesRow.holds Try.pinned (OpenSpec.ofChange boundDividesSpec)

/-- ITS FALSE NEIGHBOUR: 'it returns false'. Refute it at one input. -/
def boundDividesWrong : ChangeSpec := { name := "boundDivides", fn := fun _ => fun
  | [d1, d2, d3] => { results := [.lit (.bool false)], args := [d1, d2, d3] }
  | _ => none }
def BoundDividesWrongFalsely : Prop := boundDividesRow.holds Try.pinned (OpenSpec.ofChange boundDividesWrong)

/-- 'overflightlaw29.DualWeak': WHATEVER THE INPUT: true; the input reads as it did. -/
def dualWeakSpec : ChangeSpec := { name := "dualWeak", fn := fun _ => fun
  | [d1, d2, d3, d4, d5] => { results := [.lit (.bool true)], args := [d1, d2, d3, d4, d5] }
  | _ => none }
def dualWeakRow : OpenClaim := { program := "ytffnaiofjjgcgaa", sum := "71dff7357aae5e88f12e5de2ab1b61cab034eb6083e9d17e2639cbe5de9b4f6c", func := "overflight/overflightlaw29.DualWeak", spec := "dualWeak", unfollowed := true, recurses := true, plainKeys := false, apart := false }
def DualWeakSaid : Prop := dualWeakRow.holds Try.pinned (OpenSpec.ofChange dualWeakSpec)

/-- ITS FALSE NEIGHBOUR: 'it returns false'. Refute it at one input. -/
def dualWeakWrong : ChangeSpec := { name := "dualWeak", fn := fun _ => fun
  | [d1, d2, d3, d4, d5] => { results := [.lit (.bool false)], args := [d1, d2, d3, d4, d5] }
  | _ => none }
def DualWeakWrongFalsely : Prop := dualWeakRow.holds Try.pinned (OpenSpec.ofChange dualWeakWrong)

/- THE SECOND FORM. 'bulk': how many values and letters a reading holds, each counted each time it is reached (what is shared counts as often as it is met; a slice's spare places count too). A statement '..UptoSaid' is the law's where the arguments, and the package variables that the reading takes, are together of bulk at most 1048576: NARROWER than '..Said'. Prove '..Said' where nothing that the law and all that it calls make is longer than what came in: it says more and counts as full. Else prove '..UptoSaid'. A law counts once. -/
mutual
def uptoBulk {H : Type} : DataW H → Nat
  | .lit (.string bytes) => bytes.length + 1
  | .lit _ => 1
  | .nil => 1
  | .ptr d => uptoBulk d + 1
  | .slice elems spare => uptoBulkAll elems + uptoBulkAll spare + 1
  | .agg parts => uptoBulkAll parts + 1
  | .iface _ d => uptoBulk d + 1
  | .map entries => uptoBulkEntries entries + 1
  | .held _ => 1
def uptoBulkAll {H : Type} : List (DataW H) → Nat
  | [] => 0
  | d :: r => uptoBulk d + uptoBulkAll r
def uptoBulkEntries {H : Type} : List (Lit × DataW H) → Nat
  | [] => 0
  | x :: r => uptoBulkEntry x + uptoBulkEntries r
def uptoBulkEntry {H : Type} : Lit × DataW H → Nat
  | (.string bytes, d) => bytes.length + uptoBulk d + 1
  | (_, d) => uptoBulk d + 1
 end
def uptoSmall : (H : Type) → List (DataW H) → Bool := fun _ ds => decide (uptoBulkAll ds ≤ 1048576)
def OpenSpec.upto (s : _root_.Go.ChangeSpec) : _root_.Go.OpenSpec := { _root_.Go.OpenSpec.ofChange s with cond := some uptoSmall }

/-- 'overflightlaw28.BoundSpec', WHERE WHAT IT READS IS OF BULK AT MOST 1048576: true; the input reads as it did. -/
def boundSpecUptoRow : OpenClaim := { program := "ytffnaiofjjgcgaa", sum := "71dff7357aae5e88f12e5de2ab1b61cab034eb6083e9d17e2639cbe5de9b4f6c", func := "overflight/overflightlaw28.BoundSpec", spec := "boundSpec", unfollowed := true, recurses := true, plainKeys := false, apart := false, narrowed := true }
def BoundSpecUptoSaid : Prop := boundSpecUptoRow.holds Try.pinned (OpenSpec.upto boundSpecSpec)

/-- 'overflightlaw28.BoundNextSpec', WHERE WHAT IT READS IS OF BULK AT MOST 1048576: true; the input reads as it did. -/
def boundNextSpecUptoRow : OpenClaim := { program := "ytffnaiofjjgcgaa", sum := "71dff7357aae5e88f12e5de2ab1b61cab034eb6083e9d17e2639cbe5de9b4f6c", func := "overflight/overflightlaw28.BoundNextSpec", spec := "boundNextSpec", unfollowed := true, recurses := true, plainKeys := false, apart := false, narrowed := true }
def BoundNextSpecUptoSaid : Prop := boundNextSpecUptoRow.holds Try.pinned (OpenSpec.upto boundNextSpecSpec)

/-- 'overflightlaw28.BoundGrows', WHERE WHAT IT READS IS OF BULK AT MOST 1048576: true; the input reads as it did. -/
def boundGrowsUptoRow : OpenClaim := { program := "ytffnaiofjjgcgaa", sum := "71dff7357aae5e88f12e5de2ab1b61cab034eb6083e9d17e2639cbe5de9b4f6c", func := "overflight/overflightlaw28.BoundGrows", spec := "boundGrows", unfollowed := true, recurses := true, plainKeys := false, apart := false, narrowed := true }
def BoundGrowsUptoSaid : Prop := boundGrowsUptoRow.holds Try.pinned (OpenSpec.upto boundGrowsSpec)

/-- 'overflightlaw28.BoundRefuses', WHERE WHAT IT READS IS OF BULK AT MOST 1048576: true; the input reads as it did. -/
def boundRefusesUptoRow : OpenClaim := { program := "ytffnaiofjjgcgaa", sum := "71dff7357aae5e88f12e5de2ab1b61cab034eb6083e9d17e2639cbe5de9b4f6c", func := "overflight/overflightlaw28.BoundRefuses", spec := "boundRefuses", unfollowed := true, recurses := true, plainKeys := false, apart := false, narrowed := true }
def BoundRefusesUptoSaid : Prop := boundRefusesUptoRow.holds Try.pinned (OpenSpec.upto boundRefusesSpec)

/-- 'overflightlaw27.ProblemDemandSpec', WHERE WHAT IT READS IS OF BULK AT MOST 1048576: true; the input reads as it did. -/
def problemDemandSpecUptoRow : OpenClaim := { program := "ytffnaiofjjgcgaa", sum := "71dff7357aae5e88f12e5de2ab1b61cab034eb6083e9d17e2639cbe5de9b4f6c", func := "overflight/overflightlaw27.ProblemDemandSpec", spec := "problemDemandSpec", unfollowed := true, recurses := true, plainKeys := false, apart := false, narrowed := true }
def ProblemDemandSpecUptoSaid : Prop := problemDemandSpecUptoRow.holds Try.pinned (OpenSpec.upto problemDemandSpecSpec)

/-- 'overflightlaw27.ProblemValueSpec', WHERE WHAT IT READS IS OF BULK AT MOST 1048576: true; the input reads as it did. -/
def problemValueSpecUptoRow : OpenClaim := { program := "ytffnaiofjjgcgaa", sum := "71dff7357aae5e88f12e5de2ab1b61cab034eb6083e9d17e2639cbe5de9b4f6c", func := "overflight/overflightlaw27.ProblemValueSpec", spec := "problemValueSpec", unfollowed := true, recurses := true, plainKeys := false, apart := false, narrowed := true }
def ProblemValueSpecUptoSaid : Prop := problemValueSpecUptoRow.holds Try.pinned (OpenSpec.upto problemValueSpecSpec)

/-- 'overflightlaw27.ProblemTotal', WHERE WHAT IT READS IS OF BULK AT MOST 1048576: true; the input reads as it did. -/
def problemTotalUptoRow : OpenClaim := { program := "ytffnaiofjjgcgaa", sum := "71dff7357aae5e88f12e5de2ab1b61cab034eb6083e9d17e2639cbe5de9b4f6c", func := "overflight/overflightlaw27.ProblemTotal", spec := "problemTotal", unfollowed := true, recurses := true, plainKeys := false, apart := false, narrowed := true }
def ProblemTotalUptoSaid : Prop := problemTotalUptoRow.holds Try.pinned (OpenSpec.upto problemTotalSpec)

/-- 'overflightlaw27.ProblemSums', WHERE WHAT IT READS IS OF BULK AT MOST 1048576: true; the input reads as it did. -/
def problemSumsUptoRow : OpenClaim := { program := "ytffnaiofjjgcgaa", sum := "71dff7357aae5e88f12e5de2ab1b61cab034eb6083e9d17e2639cbe5de9b4f6c", func := "overflight/overflightlaw27.ProblemSums", spec := "problemSums", unfollowed := true, recurses := true, plainKeys := false, apart := false, narrowed := true }
def ProblemSumsUptoSaid : Prop := problemSumsUptoRow.holds Try.pinned (OpenSpec.upto problemSumsSpec)

/-- 'overflightlaw27.ProblemGrows', WHERE WHAT IT READS IS OF BULK AT MOST 1048576: true; the input reads as it did. -/
def problemGrowsUptoRow : OpenClaim := { program := "ytffnaiofjjgcgaa", sum := "71dff7357aae5e88f12e5de2ab1b61cab034eb6083e9d17e2639cbe5de9b4f6c", func := "overflight/overflightlaw27.ProblemGrows", spec := "problemGrows", unfollowed := true, recurses := true, plainKeys := false, apart := false, narrowed := true }
def ProblemGrowsUptoSaid : Prop := problemGrowsUptoRow.holds Try.pinned (OpenSpec.upto problemGrowsSpec)

/-- 'overflightlaw27.ProblemRoom', WHERE WHAT IT READS IS OF BULK AT MOST 1048576: true; the input reads as it did. -/
def problemRoomUptoRow : OpenClaim := { program := "ytffnaiofjjgcgaa", sum := "71dff7357aae5e88f12e5de2ab1b61cab034eb6083e9d17e2639cbe5de9b4f6c", func := "overflight/overflightlaw27.ProblemRoom", spec := "problemRoom", unfollowed := true, recurses := true, plainKeys := false, apart := false, narrowed := true }
def ProblemRoomUptoSaid : Prop := problemRoomUptoRow.holds Try.pinned (OpenSpec.upto problemRoomSpec)

/-- 'overflightlaw29.DualSpec', WHERE WHAT IT READS IS OF BULK AT MOST 1048576: true; the input reads as it did. -/
def dualSpecUptoRow : OpenClaim := { program := "ytffnaiofjjgcgaa", sum := "71dff7357aae5e88f12e5de2ab1b61cab034eb6083e9d17e2639cbe5de9b4f6c", func := "overflight/overflightlaw29.DualSpec", spec := "dualSpec", unfollowed := true, recurses := true, plainKeys := false, apart := false, narrowed := true }
def DualSpecUptoSaid : Prop := dualSpecUptoRow.holds Try.pinned (OpenSpec.upto dualSpecSpec)

/-- 'overflightlaw29.DualImproveSpec', WHERE WHAT IT READS IS OF BULK AT MOST 1048576: true; the input reads as it did. -/
def dualImproveSpecUptoRow : OpenClaim := { program := "ytffnaiofjjgcgaa", sum := "71dff7357aae5e88f12e5de2ab1b61cab034eb6083e9d17e2639cbe5de9b4f6c", func := "overflight/overflightlaw29.DualImproveSpec", spec := "dualImproveSpec", unfollowed := true, recurses := true, plainKeys := false, apart := false, narrowed := true }
def DualImproveSpecUptoSaid : Prop := dualImproveSpecUptoRow.holds Try.pinned (OpenSpec.upto dualImproveSpecSpec)

/-- 'overflightlaw29.DualBranch', WHERE WHAT IT READS IS OF BULK AT MOST 1048576: true; the input reads as it did. -/
def dualBranchUptoRow : OpenClaim := { program := "ytffnaiofjjgcgaa", sum := "71dff7357aae5e88f12e5de2ab1b61cab034eb6083e9d17e2639cbe5de9b4f6c", func := "overflight/overflightlaw29.DualBranch", spec := "dualBranch", unfollowed := true, recurses := true, plainKeys := false, apart := false, narrowed := true }
def DualBranchUptoSaid : Prop := dualBranchUptoRow.holds Try.pinned (OpenSpec.upto dualBranchSpec)

/-- 'overflightlaw29.DualFree', WHERE WHAT IT READS IS OF BULK AT MOST 1048576: true; the input reads as it did. -/
def dualFreeUptoRow : OpenClaim := { program := "ytffnaiofjjgcgaa", sum := "71dff7357aae5e88f12e5de2ab1b61cab034eb6083e9d17e2639cbe5de9b4f6c", func := "overflight/overflightlaw29.DualFree", spec := "dualFree", unfollowed := true, recurses := true, plainKeys := false, apart := false, narrowed := true }
def DualFreeUptoSaid : Prop := dualFreeUptoRow.holds Try.pinned (OpenSpec.upto dualFreeSpec)

/-- 'overflightlaw29.DualTighter', WHERE WHAT IT READS IS OF BULK AT MOST 1048576: true; the input reads as it did. -/
def dualTighterUptoRow : OpenClaim := { program := "ytffnaiofjjgcgaa", sum := "71dff7357aae5e88f12e5de2ab1b61cab034eb6083e9d17e2639cbe5de9b4f6c", func := "overflight/overflightlaw29.DualTighter", spec := "dualTighter", unfollowed := true, recurses := true, plainKeys := false, apart := false, narrowed := true }
def DualTighterUptoSaid : Prop := dualTighterUptoRow.holds Try.pinned (OpenSpec.upto dualTighterSpec)

/-- 'overflightlaw29.DualImprove', WHERE WHAT IT READS IS OF BULK AT MOST 1048576: true; the input reads as it did. -/
def dualImproveUptoRow : OpenClaim := { program := "ytffnaiofjjgcgaa", sum := "71dff7357aae5e88f12e5de2ab1b61cab034eb6083e9d17e2639cbe5de9b4f6c", func := "overflight/overflightlaw29.DualImprove", spec := "dualImprove", unfollowed := true, recurses := true, plainKeys := false, apart := false, narrowed := true }
def DualImproveUptoSaid : Prop := dualImproveUptoRow.holds Try.pinned (OpenSpec.upto dualImproveSpec)

/-- 'overflightlaw27.ProblemTurned', WHERE WHAT IT READS IS OF BULK AT MOST 1048576: true; the input reads as it did. -/
def problemTurnedUptoRow : OpenClaim := { program := "ytffnaiofjjgcgaa", sum := "71dff7357aae5e88f12e5de2ab1b61cab034eb6083e9d17e2639cbe5de9b4f6c", func := "overflight/overflightlaw27.ProblemTurned", spec := "problemTurned", unfollowed := true, recurses := true, plainKeys := false, apart := false, narrowed := true }
def ProblemTurnedUptoSaid : Prop := problemTurnedUptoRow.holds Try.pinned (OpenSpec.upto problemTurnedSpec)

/-- 'overflightlaw28.BoundExact', WHERE WHAT IT READS IS OF BULK AT MOST 1048576: true; the input reads as it did. -/
def boundExactUptoRow : OpenClaim := { program := "ytffnaiofjjgcgaa", sum := "71dff7357aae5e88f12e5de2ab1b61cab034eb6083e9d17e2639cbe5de9b4f6c", func := "overflight/overflightlaw28.BoundExact", spec := "boundExact", unfollowed := true, recurses := true, plainKeys := false, apart := false, narrowed := true }
def BoundExactUptoSaid : Prop := boundExactUptoRow.holds Try.pinned (OpenSpec.upto boundExactSpec)

/-- 'overflightlaw28.BoundBelow', WHERE WHAT IT READS IS OF BULK AT MOST 1048576: true; the input reads as it did. -/
def boundBelowUptoRow : OpenClaim := { program := "ytffnaiofjjgcgaa", sum := "71dff7357aae5e88f12e5de2ab1b61cab034eb6083e9d17e2639cbe5de9b4f6c", func := "overflight/overflightlaw28.BoundBelow", spec := "boundBelow", unfollowed := true, recurses := true, plainKeys := false, apart := false, narrowed := true }
def BoundBelowUptoSaid : Prop := boundBelowUptoRow.holds Try.pinned (OpenSpec.upto boundBelowSpec)

/-- 'overflightlaw28.BoundDivides', WHERE WHAT IT READS IS OF BULK AT MOST 1048576: true; the input reads as it did. -/
def boundDividesUptoRow : OpenClaim := { program := "ytffnaiofjjgcgaa", sum := "71dff7357aae5e88f12e5de2ab1b61cab034eb6083e9d17e2639cbe5de9b4f6c", func := "overflight/overflightlaw28.BoundDivides", spec := "boundDivides", unfollowed := true, recurses := true, plainKeys := false, apart := false, narrowed := true }
def BoundDividesUptoSaid : Prop := boundDividesUptoRow.holds Try.pinned (OpenSpec.upto boundDividesSpec)

/-- 'overflightlaw29.DualWeak', WHERE WHAT IT READS IS OF BULK AT MOST 1048576: true; the input reads as it did. -/
def dualWeakUptoRow : OpenClaim := { program := "ytffnaiofjjgcgaa", sum := "71dff7357aae5e88f12e5de2ab1b61cab034eb6083e9d17e2639cbe5de9b4f6c", func := "overflight/overflightlaw29.DualWeak", spec := "dualWeak", unfollowed := true, recurses := true, plainKeys := false, apart := false, narrowed := true }
def DualWeakUptoSaid : Prop := dualWeakUptoRow.holds Try.pinned (OpenSpec.upto dualWeakSpec)

end Rows
end Go.Proofs.Ytffnaiofjjgcgaa
