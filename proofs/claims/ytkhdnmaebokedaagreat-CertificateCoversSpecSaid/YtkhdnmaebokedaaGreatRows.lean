/-
  No cell of these rows narrows 'for every input' (looked for: loops, veiled, ifaces, maps, wideKeys, modest, calm, conditions, laid).
  DERIVED. THE GIVEN ROWS OF THIS SEAT. 8 by the template 'for every input the law returns true; each argument reads behind the call as it read before'; 0 by the template 'total and deterministic' (their statements: YtkhdnmaebokedaaGreatTotals.lean).
  GIVEN WITH THE SEED: the statements are not yours to turn. If you find one false, say at which input.
  Laid BY PROGRAM, IN A SANDBOX (cutbox-rows.mjs): the forced cells as the released guide's own fill.sh prints them over the translation 4c415403c89ac407… (all of the seat's roots in one cut). By AI agents, Wed Nov 11 2026. No macro, syntax, notation, axiom, sorry.
-/
import Derived.Test.YtkhdnmaebokedaaGreatChecked
import GoSem.Claim
import GoSem.ClaimJoined
import GoSem.ClaimMapViews
import Derived.JoinedTies
import Derived.KernelRfl
namespace Go.Proofs.YtkhdnmaebokedaaGreat
/- THE CELL 'sum', in the pinned program and in every row, IS THE sha256 OF THE DUMP (.gsa) THAT YtkhdnmaebokedaaGreatProg.lean LOADS. Nothing in Lean hashes anything: it is a label: what it is worth is what the hold of that sum in a sandbox is worth. -/
noncomputable def Tryz.pinned : Pinned := { name := "ytkhdnmaebokedaagreat", sum := "4c415403c89ac407d93b209e9697ceb1e33150ca5c06b24ead7356c53da612d6", checked := Tryz.checked }
namespace Rows
def none {H : Type} : Left H := { results := [], args := [] }

/-- 'overflightlaw31.CertificateCoversSpec': WHATEVER THE INPUT: true; the input reads as it did. -/
def certificateCoversSpecSpec : ChangeSpec := { name := "certificateCoversSpec", fn := fun _ => fun
  | [d1, d2] => { results := [.lit (.bool true)], args := [d1, d2] }
  | _ => none }
def certificateCoversSpecRow : OpenClaim := { program := "ytkhdnmaebokedaagreat", sum := "4c415403c89ac407d93b209e9697ceb1e33150ca5c06b24ead7356c53da612d6", func := "overflight/overflightlaw31.CertificateCoversSpec", spec := "certificateCoversSpec", unfollowed := true, recurses := true, plainKeys := false, apart := false }
def CertificateCoversSpecSaid : Prop := certificateCoversSpecRow.holds Tryz.pinned (OpenSpec.ofChange certificateCoversSpecSpec)

/-- ITS FALSE NEIGHBOUR: 'it returns false'. Refute it at one input. -/
def certificateCoversSpecWrong : ChangeSpec := { name := "certificateCoversSpec", fn := fun _ => fun
  | [d1, d2] => { results := [.lit (.bool false)], args := [d1, d2] }
  | _ => none }
def CertificateCoversSpecWrongFalsely : Prop := certificateCoversSpecRow.holds Tryz.pinned (OpenSpec.ofChange certificateCoversSpecWrong)

/-- 'overflightlaw31.CertificateCodeSpec': WHATEVER THE INPUT: true; the input reads as it did. -/
def certificateCodeSpecSpec : ChangeSpec := { name := "certificateCodeSpec", fn := fun _ => fun
  | [d1, d2] => { results := [.lit (.bool true)], args := [d1, d2] }
  | _ => none }
def certificateCodeSpecRow : OpenClaim := { program := "ytkhdnmaebokedaagreat", sum := "4c415403c89ac407d93b209e9697ceb1e33150ca5c06b24ead7356c53da612d6", func := "overflight/overflightlaw31.CertificateCodeSpec", spec := "certificateCodeSpec", unfollowed := true, recurses := true, plainKeys := false, apart := false }
def CertificateCodeSpecSaid : Prop := certificateCodeSpecRow.holds Tryz.pinned (OpenSpec.ofChange certificateCodeSpecSpec)

/-- ITS FALSE NEIGHBOUR: 'it returns false'. Refute it at one input. -/
def certificateCodeSpecWrong : ChangeSpec := { name := "certificateCodeSpec", fn := fun _ => fun
  | [d1, d2] => { results := [.lit (.bool false)], args := [d1, d2] }
  | _ => none }
def CertificateCodeSpecWrongFalsely : Prop := certificateCodeSpecRow.holds Tryz.pinned (OpenSpec.ofChange certificateCodeSpecWrong)

/-- 'overflightlaw31.CertificateProves': WHATEVER THE INPUT: true; the input reads as it did. -/
def certificateProvesSpec : ChangeSpec := { name := "certificateProves", fn := fun _ => fun
  | [d1, d2, d3] => { results := [.lit (.bool true)], args := [d1, d2, d3] }
  | _ => none }
def certificateProvesRow : OpenClaim := { program := "ytkhdnmaebokedaagreat", sum := "4c415403c89ac407d93b209e9697ceb1e33150ca5c06b24ead7356c53da612d6", func := "overflight/overflightlaw31.CertificateProves", spec := "certificateProves", unfollowed := true, recurses := true, plainKeys := false, apart := false }
def CertificateProvesSaid : Prop := certificateProvesRow.holds Tryz.pinned (OpenSpec.ofChange certificateProvesSpec)

/-- ITS FALSE NEIGHBOUR: 'it returns false'. Refute it at one input. -/
def certificateProvesWrong : ChangeSpec := { name := "certificateProves", fn := fun _ => fun
  | [d1, d2, d3] => { results := [.lit (.bool false)], args := [d1, d2, d3] }
  | _ => none }
def CertificateProvesWrongFalsely : Prop := certificateProvesRow.holds Tryz.pinned (OpenSpec.ofChange certificateProvesWrong)

/-- 'overflightlaw31.CertificateUnique': WHATEVER THE INPUT: true; the input reads as it did. -/
def certificateUniqueSpec : ChangeSpec := { name := "certificateUnique", fn := fun _ => fun
  | [d1, d2, d3, d4, d5] => { results := [.lit (.bool true)], args := [d1, d2, d3, d4, d5] }
  | _ => none }
def certificateUniqueRow : OpenClaim := { program := "ytkhdnmaebokedaagreat", sum := "4c415403c89ac407d93b209e9697ceb1e33150ca5c06b24ead7356c53da612d6", func := "overflight/overflightlaw31.CertificateUnique", spec := "certificateUnique", unfollowed := true, recurses := true, plainKeys := false, apart := false }
def CertificateUniqueSaid : Prop := certificateUniqueRow.holds Tryz.pinned (OpenSpec.ofChange certificateUniqueSpec)

/-- ITS FALSE NEIGHBOUR: 'it returns false'. Refute it at one input. -/
def certificateUniqueWrong : ChangeSpec := { name := "certificateUnique", fn := fun _ => fun
  | [d1, d2, d3, d4, d5] => { results := [.lit (.bool false)], args := [d1, d2, d3, d4, d5] }
  | _ => none }
def CertificateUniqueWrongFalsely : Prop := certificateUniqueRow.holds Tryz.pinned (OpenSpec.ofChange certificateUniqueWrong)

/-- 'overflightlaw31.CertificateDivides': WHATEVER THE INPUT: true; the input reads as it did. -/
def certificateDividesSpec : ChangeSpec := { name := "certificateDivides", fn := fun _ => fun
  | [d1, d2, d3, d4] => { results := [.lit (.bool true)], args := [d1, d2, d3, d4] }
  | _ => none }
def certificateDividesRow : OpenClaim := { program := "ytkhdnmaebokedaagreat", sum := "4c415403c89ac407d93b209e9697ceb1e33150ca5c06b24ead7356c53da612d6", func := "overflight/overflightlaw31.CertificateDivides", spec := "certificateDivides", unfollowed := true, recurses := true, plainKeys := false, apart := false }
def CertificateDividesSaid : Prop := certificateDividesRow.holds Tryz.pinned (OpenSpec.ofChange certificateDividesSpec)

/-- ITS FALSE NEIGHBOUR: 'it returns false'. Refute it at one input. -/
def certificateDividesWrong : ChangeSpec := { name := "certificateDivides", fn := fun _ => fun
  | [d1, d2, d3, d4] => { results := [.lit (.bool false)], args := [d1, d2, d3, d4] }
  | _ => none }
def CertificateDividesWrongFalsely : Prop := certificateDividesRow.holds Tryz.pinned (OpenSpec.ofChange certificateDividesWrong)

/-- 'overflightlaw31.CertificateLess': WHATEVER THE INPUT: true; the input reads as it did. -/
def certificateLessSpec : ChangeSpec := { name := "certificateLess", fn := fun _ => fun
  | [d1, d2, d3] => { results := [.lit (.bool true)], args := [d1, d2, d3] }
  | _ => none }
def certificateLessRow : OpenClaim := { program := "ytkhdnmaebokedaagreat", sum := "4c415403c89ac407d93b209e9697ceb1e33150ca5c06b24ead7356c53da612d6", func := "overflight/overflightlaw31.CertificateLess", spec := "certificateLess", unfollowed := true, recurses := true, plainKeys := false, apart := false }
def CertificateLessSaid : Prop := certificateLessRow.holds Tryz.pinned (OpenSpec.ofChange certificateLessSpec)

/-- ITS FALSE NEIGHBOUR: 'it returns false'. Refute it at one input. -/
def certificateLessWrong : ChangeSpec := { name := "certificateLess", fn := fun _ => fun
  | [d1, d2, d3] => { results := [.lit (.bool false)], args := [d1, d2, d3] }
  | _ => none }
def CertificateLessWrongFalsely : Prop := certificateLessRow.holds Tryz.pinned (OpenSpec.ofChange certificateLessWrong)

/-- 'overflightlaw33.RepairSearch': WHATEVER THE INPUT: true; the input reads as it did. -/
def repairSearchSpec : ChangeSpec := { name := "repairSearch", fn := fun _ => fun
  | [d1, d2, d3] => { results := [.lit (.bool true)], args := [d1, d2, d3] }
  | _ => none }
def repairSearchRow : OpenClaim := { program := "ytkhdnmaebokedaagreat", sum := "4c415403c89ac407d93b209e9697ceb1e33150ca5c06b24ead7356c53da612d6", func := "overflight/overflightlaw33.RepairSearch", spec := "repairSearch", unfollowed := true, recurses := true, plainKeys := false, apart := false }
def RepairSearchSaid : Prop := repairSearchRow.holds Tryz.pinned (OpenSpec.ofChange repairSearchSpec)

/-- ITS FALSE NEIGHBOUR: 'it returns false'. Refute it at one input. -/
def repairSearchWrong : ChangeSpec := { name := "repairSearch", fn := fun _ => fun
  | [d1, d2, d3] => { results := [.lit (.bool false)], args := [d1, d2, d3] }
  | _ => none }
def RepairSearchWrongFalsely : Prop := repairSearchRow.holds Tryz.pinned (OpenSpec.ofChange repairSearchWrong)

/-- 'overflightlaw33.RepairKeeps': WHATEVER THE INPUT: true; the input reads as it did. -/
def repairKeepsSpec : ChangeSpec := { name := "repairKeeps", fn := fun _ => fun
  | [d1, d2] => { results := [.lit (.bool true)], args := [d1, d2] }
  | _ => none }
def repairKeepsRow : OpenClaim := { program := "ytkhdnmaebokedaagreat", sum := "4c415403c89ac407d93b209e9697ceb1e33150ca5c06b24ead7356c53da612d6", func := "overflight/overflightlaw33.RepairKeeps", spec := "repairKeeps", unfollowed := true, recurses := true, plainKeys := false, apart := false }
def RepairKeepsSaid : Prop := repairKeepsRow.holds Tryz.pinned (OpenSpec.ofChange repairKeepsSpec)

/-- ITS FALSE NEIGHBOUR: 'it returns false'. Refute it at one input. -/
def repairKeepsWrong : ChangeSpec := { name := "repairKeeps", fn := fun _ => fun
  | [d1, d2] => { results := [.lit (.bool false)], args := [d1, d2] }
  | _ => none }
def RepairKeepsWrongFalsely : Prop := repairKeepsRow.holds Tryz.pinned (OpenSpec.ofChange repairKeepsWrong)

/- THE SECOND FORM. 'bulk': how many values and letters a reading holds, each counted each time it is reached (what is shared counts as often as it is met; a slice's spare places count too). A statement '..UptoSaid' is the law's where the arguments, and the package variables that the reading takes, are together of bulk at most 1048576: NARROWER than '..Said'. Prove '..Said' where nothing that the law and all that it calls make is longer than what came in: it says more and counts as full. Else prove '..UptoSaid'. A law counts once. -/
mutual
def uptoBulk {H : Type} : DataW H → Nat
  | .lit (.string bytes) => bytes.length + 1
  | .lit _ => 1
  | .nil => 1
  | .ptr d => uptoBulk d + 1
  | .slice elems spare => uptoBulkAll elems + uptoBulkAll spare + 1
  | .agg parts => uptoBulkAll parts + 1
  | .iface _ d => uptoBulk d + 1
  | .map entries => uptoBulkEntries entries + 1
  | .held _ => 1
def uptoBulkAll {H : Type} : List (DataW H) → Nat
  | [] => 0
  | d :: r => uptoBulk d + uptoBulkAll r
def uptoBulkEntries {H : Type} : List (Lit × DataW H) → Nat
  | [] => 0
  | x :: r => uptoBulkEntry x + uptoBulkEntries r
def uptoBulkEntry {H : Type} : Lit × DataW H → Nat
  | (.string bytes, d) => bytes.length + uptoBulk d + 1
  | (_, d) => uptoBulk d + 1
 end
def uptoSmall : (H : Type) → List (DataW H) → Bool := fun _ ds => decide (uptoBulkAll ds ≤ 1048576)
def OpenSpec.upto (s : _root_.Go.ChangeSpec) : _root_.Go.OpenSpec := { _root_.Go.OpenSpec.ofChange s with cond := some uptoSmall }

/-- 'overflightlaw31.CertificateCoversSpec', WHERE WHAT IT READS IS OF BULK AT MOST 1048576: true; the input reads as it did. -/
def certificateCoversSpecUptoRow : OpenClaim := { program := "ytkhdnmaebokedaagreat", sum := "4c415403c89ac407d93b209e9697ceb1e33150ca5c06b24ead7356c53da612d6", func := "overflight/overflightlaw31.CertificateCoversSpec", spec := "certificateCoversSpec", unfollowed := true, recurses := true, plainKeys := false, apart := false, narrowed := true }
def CertificateCoversSpecUptoSaid : Prop := certificateCoversSpecUptoRow.holds Tryz.pinned (OpenSpec.upto certificateCoversSpecSpec)

/-- 'overflightlaw31.CertificateCodeSpec', WHERE WHAT IT READS IS OF BULK AT MOST 1048576: true; the input reads as it did. -/
def certificateCodeSpecUptoRow : OpenClaim := { program := "ytkhdnmaebokedaagreat", sum := "4c415403c89ac407d93b209e9697ceb1e33150ca5c06b24ead7356c53da612d6", func := "overflight/overflightlaw31.CertificateCodeSpec", spec := "certificateCodeSpec", unfollowed := true, recurses := true, plainKeys := false, apart := false, narrowed := true }
def CertificateCodeSpecUptoSaid : Prop := certificateCodeSpecUptoRow.holds Tryz.pinned (OpenSpec.upto certificateCodeSpecSpec)

/-- 'overflightlaw31.CertificateProves', WHERE WHAT IT READS IS OF BULK AT MOST 1048576: true; the input reads as it did. -/
def certificateProvesUptoRow : OpenClaim := { program := "ytkhdnmaebokedaagreat", sum := "4c415403c89ac407d93b209e9697ceb1e33150ca5c06b24ead7356c53da612d6", func := "overflight/overflightlaw31.CertificateProves", spec := "certificateProves", unfollowed := true, recurses := true, plainKeys := false, apart := false, narrowed := true }
def CertificateProvesUptoSaid : Prop := certificateProvesUptoRow.holds Tryz.pinned (OpenSpec.upto certificateProvesSpec)

/-- 'overflightlaw31.CertificateUnique', WHERE WHAT IT READS IS OF BULK AT MOST 1048576: true; the input reads as it did. -/
def certificateUniqueUptoRow : OpenClaim := { program := "ytkhdnmaebokedaagreat", sum := "4c415403c89ac407d93b209e9697ceb1e33150ca5c06b24ead7356c53da612d6", func := "overflight/overflightlaw31.CertificateUnique", spec := "certificateUnique", unfollowed := true, recurses := true, plainKeys := false, apart := false, narrowed := true }
def CertificateUniqueUptoSaid : Prop := certificateUniqueUptoRow.holds Tryz.pinned (OpenSpec.upto certificateUniqueSpec)

/-- 'overflightlaw31.CertificateDivides', WHERE WHAT IT READS IS OF BULK AT MOST 1048576: true; the input reads as it did. -/
def certificateDividesUptoRow : OpenClaim := { program := "ytkhdnmaebokedaagreat", sum := "4c415403c89ac407d93b209e9697ceb1e33150ca5c06b24ead7356c53da612d6", func := "overflight/overflightlaw31.CertificateDivides", spec := "certificateDivides", unfollowed := true, recurses := true, plainKeys := false, apart := false, narrowed := true }
def CertificateDividesUptoSaid : Prop := certificateDividesUptoRow.holds Tryz.pinned (OpenSpec.upto certificateDividesSpec)

/-- 'overflightlaw31.CertificateLess', WHERE WHAT IT READS IS OF BULK AT MOST 1048576: true; the input reads as it did. -/
def certificateLessUptoRow : OpenClaim := { program := "ytkhdnmaebokedaagreat", sum := "4c415403c89ac407d93b209e9697ceb1e33150ca5c06b24ead7356c53da612d6", func := "overflight/overflightlaw31.CertificateLess", spec := "certificateLess", unfollowed := true, recurses := true, plainKeys := false, apart := false, narrowed := true }
def CertificateLessUptoSaid : Prop := certificateLessUptoRow.holds Tryz.pinned (OpenSpec.upto certificateLessSpec)

/-- 'overflightlaw33.RepairSearch', WHERE WHAT IT READS IS OF BULK AT MOST 1048576: true; the input reads as it did. -/
def repairSearchUptoRow : OpenClaim := { program := "ytkhdnmaebokedaagreat", sum := "4c415403c89ac407d93b209e9697ceb1e33150ca5c06b24ead7356c53da612d6", func := "overflight/overflightlaw33.RepairSearch", spec := "repairSearch", unfollowed := true, recurses := true, plainKeys := false, apart := false, narrowed := true }
def RepairSearchUptoSaid : Prop := repairSearchUptoRow.holds Tryz.pinned (OpenSpec.upto repairSearchSpec)

/-- 'overflightlaw33.RepairKeeps', WHERE WHAT IT READS IS OF BULK AT MOST 1048576: true; the input reads as it did. -/
def repairKeepsUptoRow : OpenClaim := { program := "ytkhdnmaebokedaagreat", sum := "4c415403c89ac407d93b209e9697ceb1e33150ca5c06b24ead7356c53da612d6", func := "overflight/overflightlaw33.RepairKeeps", spec := "repairKeeps", unfollowed := true, recurses := true, plainKeys := false, apart := false, narrowed := true }
def RepairKeepsUptoSaid : Prop := repairKeepsUptoRow.holds Tryz.pinned (OpenSpec.upto repairKeepsSpec)

end Rows
end Go.Proofs.YtkhdnmaebokedaaGreat
