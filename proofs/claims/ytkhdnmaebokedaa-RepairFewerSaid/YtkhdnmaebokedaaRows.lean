/-
  No cell of these rows narrows 'for every input' (looked for: loops, veiled, ifaces, maps, wideKeys, modest, calm, conditions, laid).
  DERIVED. THE GIVEN ROWS OF THIS SEAT. 3 by the template 'for every input the law returns true; each argument reads behind the call as it read before'; 0 by the template 'total and deterministic' (their statements: YtkhdnmaebokedaaTotals.lean).
  GIVEN WITH THE SEED: the statements are not yours to turn. If you find one false, say at which input.
  Laid BY PROGRAM, IN A SANDBOX (cutbox-rows.mjs): the forced cells as the released guide's own fill.sh prints them over the translation df7b39030f899157… (all of the seat's roots in one cut). By AI agents, Wed Nov 11 2026. No macro, syntax, notation, axiom, sorry.
-/
import Derived.Test.YtkhdnmaebokedaaChecked
import GoSem.Claim
import GoSem.ClaimJoined
import GoSem.ClaimMapViews
import Derived.JoinedTies
import Derived.KernelRfl
namespace Go.Proofs.Ytkhdnmaebokedaa
/- THE CELL 'sum', in the pinned program and in every row, IS THE sha256 OF THE DUMP (.gsa) THAT YtkhdnmaebokedaaProg.lean LOADS. Nothing in Lean hashes anything: it is a label: what it is worth is what the hold of that sum in a sandbox is worth. -/
noncomputable def Try.pinned : Pinned := { name := "ytkhdnmaebokedaa", sum := "df7b39030f899157b4cf324bfc59be851110059d922e1e1a8e79c0b12455313c", checked := Try.checked }
namespace Rows
def none {H : Type} : Left H := { results := [], args := [] }

/-- 'overflightlaw33.RepairFirst': WHATEVER THE INPUT: true; the input reads as it did. -/
def repairFirstSpec : ChangeSpec := { name := "repairFirst", fn := fun _ => fun
  | [d1, d2, d3, d4, d5] => { results := [.lit (.bool true)], args := [d1, d2, d3, d4, d5] }
  | _ => none }
def repairFirstRow : OpenClaim := { program := "ytkhdnmaebokedaa", sum := "df7b39030f899157b4cf324bfc59be851110059d922e1e1a8e79c0b12455313c", func := "overflight/overflightlaw33.RepairFirst", spec := "repairFirst", unfollowed := true, recurses := true, plainKeys := false, apart := false }
def RepairFirstSaid : Prop := repairFirstRow.holds Try.pinned (OpenSpec.ofChange repairFirstSpec)

/-- ITS FALSE NEIGHBOUR: 'it returns false'. Refute it at one input. -/
def repairFirstWrong : ChangeSpec := { name := "repairFirst", fn := fun _ => fun
  | [d1, d2, d3, d4, d5] => { results := [.lit (.bool false)], args := [d1, d2, d3, d4, d5] }
  | _ => none }
def RepairFirstWrongFalsely : Prop := repairFirstRow.holds Try.pinned (OpenSpec.ofChange repairFirstWrong)

/-- 'overflightlaw33.RepairBack': WHATEVER THE INPUT: true; the input reads as it did. -/
def repairBackSpec : ChangeSpec := { name := "repairBack", fn := fun _ => fun
  | [d1, d2, d3] => { results := [.lit (.bool true)], args := [d1, d2, d3] }
  | _ => none }
def repairBackRow : OpenClaim := { program := "ytkhdnmaebokedaa", sum := "df7b39030f899157b4cf324bfc59be851110059d922e1e1a8e79c0b12455313c", func := "overflight/overflightlaw33.RepairBack", spec := "repairBack", unfollowed := true, recurses := true, plainKeys := false, apart := false }
def RepairBackSaid : Prop := repairBackRow.holds Try.pinned (OpenSpec.ofChange repairBackSpec)

/-- ITS FALSE NEIGHBOUR: 'it returns false'. Refute it at one input. -/
def repairBackWrong : ChangeSpec := { name := "repairBack", fn := fun _ => fun
  | [d1, d2, d3] => { results := [.lit (.bool false)], args := [d1, d2, d3] }
  | _ => none }
def RepairBackWrongFalsely : Prop := repairBackRow.holds Try.pinned (OpenSpec.ofChange repairBackWrong)

/-- 'overflightlaw33.RepairFewer': WHATEVER THE INPUT: true; the input reads as it did. -/
def repairFewerSpec : ChangeSpec := { name := "repairFewer", fn := fun _ => fun
  | [d1, d2] => { results := [.lit (.bool true)], args := [d1, d2] }
  | _ => none }
def repairFewerRow : OpenClaim := { program := "ytkhdnmaebokedaa", sum := "df7b39030f899157b4cf324bfc59be851110059d922e1e1a8e79c0b12455313c", func := "overflight/overflightlaw33.RepairFewer", spec := "repairFewer", unfollowed := true, recurses := true, plainKeys := false, apart := false }
def RepairFewerSaid : Prop := repairFewerRow.holds Try.pinned (OpenSpec.ofChange repairFewerSpec)

/-- ITS FALSE NEIGHBOUR: 'it returns false'. Refute it at one input. -/
def repairFewerWrong : ChangeSpec := { name := "repairFewer", fn := fun _ => fun
  | [d1, d2] => { results := [.lit (.bool false)], args := [d1, d2] }
  | _ => none }
def RepairFewerWrongFalsely : Prop := repairFewerRow.holds Try.pinned (OpenSpec.ofChange repairFewerWrong)

/- THE SECOND FORM. 'bulk': how many values and letters a reading holds, each counted each time it is reached (what is shared counts as often as it is met; a slice's spare places count too). A statement '..UptoSaid' is the law's where the arguments, and the package variables that the reading takes, are together of bulk at most 1048576: NARROWER than '..Said'. Prove '..Said' where nothing that the law and all that it calls make is longer than what came in: it says more and counts as full. Else prove '..UptoSaid'. A law counts once. -/
mutual
def uptoBulk {H : Type} : DataW H → Nat
  | .lit (.string bytes) => bytes.length + 1
  | .lit _ => 1
  | .nil => 1
  | .ptr d => uptoBulk d + 1
  | .slice elems spare => uptoBulkAll elems + uptoBulkAll spare + 1
  | .agg parts => uptoBulkAll parts + 1
  | .iface _ d => uptoBulk d + 1
  | .map entries => uptoBulkEntries entries + 1
  | .held _ => 1
def uptoBulkAll {H : Type} : List (DataW H) → Nat
  | [] => 0
  | d :: r => uptoBulk d + uptoBulkAll r
def uptoBulkEntries {H : Type} : List (Lit × DataW H) → Nat
  | [] => 0
  | x :: r => uptoBulkEntry x + uptoBulkEntries r
def uptoBulkEntry {H : Type} : Lit × DataW H → Nat
  | (.string bytes, d) => bytes.length + uptoBulk d + 1
  | (_, d) => uptoBulk d + 1
 end
def uptoSmall : (H : Type) → List (DataW H) → Bool := fun _ ds => decide (uptoBulkAll ds ≤ 1048576)
def OpenSpec.upto (s : _root_.Go.ChangeSpec) : _root_.Go.OpenSpec := { _root_.Go.OpenSpec.ofChange s with cond := some uptoSmall }

/-- 'overflightlaw33.RepairFirst', WHERE WHAT IT READS IS OF BULK AT MOST 1048576: true; the input reads as it did. -/
def repairFirstUptoRow : OpenClaim := { program := "ytkhdnmaebokedaa", sum := "df7b39030f899157b4cf324bfc59be851110059d922e1e1a8e79c0b12455313c", func := "overflight/overflightlaw33.RepairFirst", spec := "repairFirst", unfollowed := true, recurses := true, plainKeys := false, apart := false, narrowed := true }
def RepairFirstUptoSaid : Prop := repairFirstUptoRow.holds Try.pinned (OpenSpec.upto repairFirstSpec)

/-- 'overflightlaw33.RepairBack', WHERE WHAT IT READS IS OF BULK AT MOST 1048576: true; the input reads as it did. -/
def repairBackUptoRow : OpenClaim := { program := "ytkhdnmaebokedaa", sum := "df7b39030f899157b4cf324bfc59be851110059d922e1e1a8e79c0b12455313c", func := "overflight/overflightlaw33.RepairBack", spec := "repairBack", unfollowed := true, recurses := true, plainKeys := false, apart := false, narrowed := true }
def RepairBackUptoSaid : Prop := repairBackUptoRow.holds Try.pinned (OpenSpec.upto repairBackSpec)

/-- 'overflightlaw33.RepairFewer', WHERE WHAT IT READS IS OF BULK AT MOST 1048576: true; the input reads as it did. -/
def repairFewerUptoRow : OpenClaim := { program := "ytkhdnmaebokedaa", sum := "df7b39030f899157b4cf324bfc59be851110059d922e1e1a8e79c0b12455313c", func := "overflight/overflightlaw33.RepairFewer", spec := "repairFewer", unfollowed := true, recurses := true, plainKeys := false, apart := false, narrowed := true }
def RepairFewerUptoSaid : Prop := repairFewerUptoRow.holds Try.pinned (OpenSpec.upto repairFewerSpec)

end Rows
end Go.Proofs.Ytkhdnmaebokedaa
