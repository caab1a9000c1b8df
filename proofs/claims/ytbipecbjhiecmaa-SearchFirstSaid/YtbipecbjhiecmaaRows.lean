/-
  No cell of these rows narrows 'for every input' (looked for: loops, veiled, ifaces, maps, wideKeys, modest, calm, conditions, laid).
  DERIVED. THE GIVEN ROWS OF THIS SEAT. 7 by the template 'for every input the law returns true; each argument reads behind the call as it read before'; 0 by the template 'total and deterministic' (their statements: YtbipecbjhiecmaaTotals.lean).
  GIVEN WITH THE SEED: the statements are not yours to turn. If you find one false, say at which input.
  Laid BY PROGRAM, IN A SANDBOX (cutbox-rows.mjs): the forced cells as the released guide's own fill.sh prints them over the translation e07c782e8b3f7f1c… (all of the seat's roots in one cut). By AI agents, Wed Nov 11 2026. No macro, syntax, notation, axiom, sorry.
-/
import Derived.Test.YtbipecbjhiecmaaChecked
import GoSem.Claim
import GoSem.ClaimJoined
import GoSem.ClaimMapViews
import Derived.JoinedTies
import Derived.KernelRfl
namespace Go.Proofs.Ytbipecbjhiecmaa
/- THE CELL 'sum', in the pinned program and in every row, IS THE sha256 OF THE DUMP (.gsa) THAT YtbipecbjhiecmaaProg.lean LOADS. Nothing in Lean hashes anything: it is a label: what it is worth is what the hold of that sum in a sandbox is worth. -/
noncomputable def Try.pinned : Pinned := { name := "ytbipecbjhiecmaa", sum := "e07c782e8b3f7f1cdb152dee17d94c89494eda79f98b0169f633b3b341696368", checked := Try.checked }
namespace Rows
def none {H : Type} : Left H := { results := [], args := [] }

/-- 'overflightlaw30.SearchSolveSpec': WHATEVER THE INPUT: true; the input reads as it did. -/
def searchSolveSpecSpec : ChangeSpec := { name := "searchSolveSpec", fn := fun _ => fun
  | [d1, d2] => { results := [.lit (.bool true)], args := [d1, d2] }
  | _ => none }
def searchSolveSpecRow : OpenClaim := { program := "ytbipecbjhiecmaa", sum := "e07c782e8b3f7f1cdb152dee17d94c89494eda79f98b0169f633b3b341696368", func := "overflight/overflightlaw30.SearchSolveSpec", spec := "searchSolveSpec", unfollowed := true, recurses := true, plainKeys := false, apart := false }
def SearchSolveSpecSaid : Prop := searchSolveSpecRow.holds Try.pinned (OpenSpec.ofChange searchSolveSpecSpec)

/-- ITS FALSE NEIGHBOUR: 'it returns false'. Refute it at one input. -/
def searchSolveSpecWrong : ChangeSpec := { name := "searchSolveSpec", fn := fun _ => fun
  | [d1, d2] => { results := [.lit (.bool false)], args := [d1, d2] }
  | _ => none }
def SearchSolveSpecWrongFalsely : Prop := searchSolveSpecRow.holds Try.pinned (OpenSpec.ofChange searchSolveSpecWrong)

/-- 'overflightlaw30.SearchPieces': WHATEVER THE INPUT: true; the input reads as it did. -/
def searchPiecesSpec : ChangeSpec := { name := "searchPieces", fn := fun _ => fun
  | [d1, d2, d3, d4, d5] => { results := [.lit (.bool true)], args := [d1, d2, d3, d4, d5] }
  | _ => none }
def searchPiecesRow : OpenClaim := { program := "ytbipecbjhiecmaa", sum := "e07c782e8b3f7f1cdb152dee17d94c89494eda79f98b0169f633b3b341696368", func := "overflight/overflightlaw30.SearchPieces", spec := "searchPieces", unfollowed := true, recurses := true, plainKeys := false, apart := false }
def SearchPiecesSaid : Prop := searchPiecesRow.holds Try.pinned (OpenSpec.ofChange searchPiecesSpec)

/-- ITS FALSE NEIGHBOUR: 'it returns false'. Refute it at one input. -/
def searchPiecesWrong : ChangeSpec := { name := "searchPieces", fn := fun _ => fun
  | [d1, d2, d3, d4, d5] => { results := [.lit (.bool false)], args := [d1, d2, d3, d4, d5] }
  | _ => none }
def SearchPiecesWrongFalsely : Prop := searchPiecesRow.holds Try.pinned (OpenSpec.ofChange searchPiecesWrong)

/-- 'overflightlaw30.SearchBetter': WHATEVER THE INPUT: true; the input reads as it did. -/
def searchBetterSpec : ChangeSpec := { name := "searchBetter", fn := fun _ => fun
  | [d1, d2, d3] => { results := [.lit (.bool true)], args := [d1, d2, d3] }
  | _ => none }
def searchBetterRow : OpenClaim := { program := "ytbipecbjhiecmaa", sum := "e07c782e8b3f7f1cdb152dee17d94c89494eda79f98b0169f633b3b341696368", func := "overflight/overflightlaw30.SearchBetter", spec := "searchBetter", unfollowed := true, recurses := true, plainKeys := false, apart := false }
def SearchBetterSaid : Prop := searchBetterRow.holds Try.pinned (OpenSpec.ofChange searchBetterSpec)

/-- ITS FALSE NEIGHBOUR: 'it returns false'. Refute it at one input. -/
def searchBetterWrong : ChangeSpec := { name := "searchBetter", fn := fun _ => fun
  | [d1, d2, d3] => { results := [.lit (.bool false)], args := [d1, d2, d3] }
  | _ => none }
def SearchBetterWrongFalsely : Prop := searchBetterRow.holds Try.pinned (OpenSpec.ofChange searchBetterWrong)

/-- 'overflightlaw30.SearchFewer': WHATEVER THE INPUT: true; the input reads as it did. -/
def searchFewerSpec : ChangeSpec := { name := "searchFewer", fn := fun _ => fun
  | [d1, d2] => { results := [.lit (.bool true)], args := [d1, d2] }
  | _ => none }
def searchFewerRow : OpenClaim := { program := "ytbipecbjhiecmaa", sum := "e07c782e8b3f7f1cdb152dee17d94c89494eda79f98b0169f633b3b341696368", func := "overflight/overflightlaw30.SearchFewer", spec := "searchFewer", unfollowed := true, recurses := true, plainKeys := false, apart := false }
def SearchFewerSaid : Prop := searchFewerRow.holds Try.pinned (OpenSpec.ofChange searchFewerSpec)

/-- ITS FALSE NEIGHBOUR: 'it returns false'. Refute it at one input. -/
def searchFewerWrong : ChangeSpec := { name := "searchFewer", fn := fun _ => fun
  | [d1, d2] => { results := [.lit (.bool false)], args := [d1, d2] }
  | _ => none }
def SearchFewerWrongFalsely : Prop := searchFewerRow.holds Try.pinned (OpenSpec.ofChange searchFewerWrong)

/-- 'overflightlaw30.SearchRoom': WHATEVER THE INPUT: true; the input reads as it did. -/
def searchRoomSpec : ChangeSpec := { name := "searchRoom", fn := fun _ => fun
  | [d1, d2, d3, d4] => { results := [.lit (.bool true)], args := [d1, d2, d3, d4] }
  | _ => none }
def searchRoomRow : OpenClaim := { program := "ytbipecbjhiecmaa", sum := "e07c782e8b3f7f1cdb152dee17d94c89494eda79f98b0169f633b3b341696368", func := "overflight/overflightlaw30.SearchRoom", spec := "searchRoom", unfollowed := true, recurses := true, plainKeys := false, apart := false }
def SearchRoomSaid : Prop := searchRoomRow.holds Try.pinned (OpenSpec.ofChange searchRoomSpec)

/-- ITS FALSE NEIGHBOUR: 'it returns false'. Refute it at one input. -/
def searchRoomWrong : ChangeSpec := { name := "searchRoom", fn := fun _ => fun
  | [d1, d2, d3, d4] => { results := [.lit (.bool false)], args := [d1, d2, d3, d4] }
  | _ => none }
def SearchRoomWrongFalsely : Prop := searchRoomRow.holds Try.pinned (OpenSpec.ofChange searchRoomWrong)

/-- 'overflightlaw30.SearchFirst': WHATEVER THE INPUT: true; the input reads as it did. -/
def searchFirstSpec : ChangeSpec := { name := "searchFirst", fn := fun _ => fun
  | [d1, d2] => { results := [.lit (.bool true)], args := [d1, d2] }
  | _ => none }
def searchFirstRow : OpenClaim := { program := "ytbipecbjhiecmaa", sum := "e07c782e8b3f7f1cdb152dee17d94c89494eda79f98b0169f633b3b341696368", func := "overflight/overflightlaw30.SearchFirst", spec := "searchFirst", unfollowed := true, recurses := true, plainKeys := false, apart := false }
def SearchFirstSaid : Prop := searchFirstRow.holds Try.pinned (OpenSpec.ofChange searchFirstSpec)

/-- ITS FALSE NEIGHBOUR: 'it returns false'. Refute it at one input. -/
def searchFirstWrong : ChangeSpec := { name := "searchFirst", fn := fun _ => fun
  | [d1, d2] => { results := [.lit (.bool false)], args := [d1, d2] }
  | _ => none }
def SearchFirstWrongFalsely : Prop := searchFirstRow.holds Try.pinned (OpenSpec.ofChange searchFirstWrong)

/-- 'overflightlaw30.SearchLeaves': WHATEVER THE INPUT: true; the input reads as it did. -/
def searchLeavesSpec : ChangeSpec := { name := "searchLeaves", fn := fun _ => fun
  | [d1, d2] => { results := [.lit (.bool true)], args := [d1, d2] }
  | _ => none }
def searchLeavesRow : OpenClaim := { program := "ytbipecbjhiecmaa", sum := "e07c782e8b3f7f1cdb152dee17d94c89494eda79f98b0169f633b3b341696368", func := "overflight/overflightlaw30.SearchLeaves", spec := "searchLeaves", unfollowed := true, recurses := true, plainKeys := false, apart := false }
def SearchLeavesSaid : Prop := searchLeavesRow.holds Try.pinned (OpenSpec.ofChange searchLeavesSpec)

/-- ITS FALSE NEIGHBOUR: 'it returns false'. Refute it at one input. -/
def searchLeavesWrong : ChangeSpec := { name := "searchLeaves", fn := fun _ => fun
  | [d1, d2] => { results := [.lit (.bool false)], args := [d1, d2] }
  | _ => none }
def SearchLeavesWrongFalsely : Prop := searchLeavesRow.holds Try.pinned (OpenSpec.ofChange searchLeavesWrong)

/- THE SECOND FORM. 'bulk': how many values and letters a reading holds, each counted each time it is reached (what is shared counts as often as it is met; a slice's spare places count too). A statement '..UptoSaid' is the law's where the arguments, and the package variables that the reading takes, are together of bulk at most 1048576: NARROWER than '..Said'. Prove '..Said' where nothing that the law and all that it calls make is longer than what came in: it says more and counts as full. Else prove '..UptoSaid'. A law counts once. -/
mutual
def uptoBulk {H : Type} : DataW H → Nat
  | .lit (.string bytes) => bytes.length + 1
  | .lit _ => 1
  | .nil => 1
  | .ptr d => uptoBulk d + 1
  | .slice elems spare => uptoBulkAll elems + uptoBulkAll spare + 1
  | .agg parts => uptoBulkAll parts + 1
  | .iface _ d => uptoBulk d + 1
  | .map entries => uptoBulkEntries entries + 1
  | .held _ => 1
def uptoBulkAll {H : Type} : List (DataW H) → Nat
  | [] => 0
  | d :: r => uptoBulk d + uptoBulkAll r
def uptoBulkEntries {H : Type} : List (Lit × DataW H) → Nat
  | [] => 0
  | x :: r => uptoBulkEntry x + uptoBulkEntries r
def uptoBulkEntry {H : Type} : Lit × DataW H → Nat
  | (.string bytes, d) => bytes.length + uptoBulk d + 1
  | (_, d) => uptoBulk d + 1
 end
def uptoSmall : (H : Type) → List (DataW H) → Bool := fun _ ds => decide (uptoBulkAll ds ≤ 1048576)
def OpenSpec.upto (s : _root_.Go.ChangeSpec) : _root_.Go.OpenSpec := { _root_.Go.OpenSpec.ofChange s with cond := some uptoSmall }

/-- 'overflightlaw30.SearchSolveSpec', WHERE WHAT IT READS IS OF BULK AT MOST 1048576: true; the input reads as it did. -/
def searchSolveSpecUptoRow : OpenClaim := { program := "ytbipecbjhiecmaa", sum := "e07c782e8b3f7f1cdb152dee17d94c89494eda79f98b0169f633b3b341696368", func := "overflight/overflightlaw30.SearchSolveSpec", spec := "searchSolveSpec", unfollowed := true, recurses := true, plainKeys := false, apart := false, narrowed := true }
def SearchSolveSpecUptoSaid : Prop := searchSolveSpecUptoRow.holds Try.pinned (OpenSpec.upto searchSolveSpecSpec)

/-- 'overflightlaw30.SearchPieces', WHERE WHAT IT READS IS OF BULK AT MOST 1048576: true; the input reads as it did. -/
def searchPiecesUptoRow : OpenClaim := { program := "ytbipecbjhiecmaa", sum := "e07c782e8b3f7f1cdb152dee17d94c89494eda79f98b0169f633b3b341696368", func := "overflight/overflightlaw30.SearchPieces", spec := "searchPieces", unfollowed := true, recurses := true, plainKeys := false, apart := false, narrowed := true }
def SearchPiecesUptoSaid : Prop := searchPiecesUptoRow.holds Try.pinned (OpenSpec.upto searchPiecesSpec)

/-- 'overflightlaw30.SearchBetter', WHERE WHAT IT READS IS OF BULK AT MOST 1048576: true; the input reads as it did. -/
def searchBetterUptoRow : OpenClaim := { program := "ytbipecbjhiecmaa", sum := "e07c782e8b3f7f1cdb152dee17d94c89494eda79f98b0169f633b3b341696368", func := "overflight/overflightlaw30.SearchBetter", spec := "searchBetter", unfollowed := true, recurses := true, plainKeys := false, apart := false, narrowed := true }
def SearchBetterUptoSaid : Prop := searchBetterUptoRow.holds Try.pinned (OpenSpec.upto searchBetterSpec)

/-- 'overflightlaw30.SearchFewer', WHERE WHAT IT READS IS OF BULK AT MOST 1048576: true; the input reads as it did. -/
def searchFewerUptoRow : OpenClaim := { program := "ytbipecbjhiecmaa", sum := "e07c782e8b3f7f1cdb152dee17d94c89494eda79f98b0169f633b3b341696368", func := "overflight/overflightlaw30.SearchFewer", spec := "searchFewer", unfollowed := true, recurses := true, plainKeys := false, apart := false, narrowed := true }
def SearchFewerUptoSaid : Prop := searchFewerUptoRow.holds Try.pinned (OpenSpec.upto searchFewerSpec)

/-- 'overflightlaw30.SearchRoom', WHERE WHAT IT READS IS OF BULK AT MOST 1048576: true; the input reads as it did. -/
def searchRoomUptoRow : OpenClaim := { program := "ytbipecbjhiecmaa", sum := "e07c782e8b3f7f1cdb152dee17d94c89494eda79f98b0169f633b3b341696368", func := "overflight/overflightlaw30.SearchRoom", spec := "searchRoom", unfollowed := true, recurses := true, plainKeys := false, apart := false, narrowed := true }
def SearchRoomUptoSaid : Prop := searchRoomUptoRow.holds Try.pinned (OpenSpec.upto searchRoomSpec)

/-- 'overflightlaw30.SearchFirst', WHERE WHAT IT READS IS OF BULK AT MOST 1048576: true; the input reads as it did. -/
def searchFirstUptoRow : OpenClaim := { program := "ytbipecbjhiecmaa", sum := "e07c782e8b3f7f1cdb152dee17d94c89494eda79f98b0169f633b3b341696368", func := "overflight/overflightlaw30.SearchFirst", spec := "searchFirst", unfollowed := true, recurses := true, plainKeys := false, apart := false, narrowed := true }
def SearchFirstUptoSaid : Prop := searchFirstUptoRow.holds Try.pinned (OpenSpec.upto searchFirstSpec)

/-- 'overflightlaw30.SearchLeaves', WHERE WHAT IT READS IS OF BULK AT MOST 1048576: true; the input reads as it did. -/
def searchLeavesUptoRow : OpenClaim := { program := "ytbipecbjhiecmaa", sum := "e07c782e8b3f7f1cdb152dee17d94c89494eda79f98b0169f633b3b341696368", func := "overflight/overflightlaw30.SearchLeaves", spec := "searchLeaves", unfollowed := true, recurses := true, plainKeys := false, apart := false, narrowed := true }
def SearchLeavesUptoSaid : Prop := searchLeavesUptoRow.holds Try.pinned (OpenSpec.upto searchLeavesSpec)

end Rows
end Go.Proofs.Ytbipecbjhiecmaa
