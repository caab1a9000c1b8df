/-
  DERIVED. GIVEN WITH THE SEED: THE CARDS: each row of YtejanbpdkinjfaaDoorRows.lean that lists a variable, with what it lists TIED to the program's text (the seventh form; the later family's looks); each row that meets fmt, with fmt's text TOLD by the authors' own Lean function (tested against real Go, not proved from fmt's source: count such statements apart). THE CARD IS WHAT COUNTS. Prove the row's statement (the work); the ties are given (YtejanbpdkinjfaaDoorTie.lean); close each card by the builder's one call (the guide's Derived/Test/ToyasCard.lean, 'card_holds'). Laid BY PROGRAM, IN A SANDBOX (cutbox-door.mjs). By AI agents, Wed Nov 11 2026. No macro, syntax, notation, axiom, sorry.
-/
import Derived.Test.YtejanbpdkinjfaaDoorRows
import GoSem.ClaimSeven
namespace Go.Proofs.YtejanbpdkinjfaaDoor
namespace Rows

/-- THE TIED CARD OF 'overflightlaw41.PostingsChange'. -/
def postingsChangeCard : Claim7 := { stood := { row := postingsChangeRow, standIns := [], harness := (true, "7d64ca655e007c415da8aca76bc71584fa1a84079e73f9e95d99383626e9c60f"), looks := false }, kinds := [], alts := [], laidByText := true, laidKinds := [.data, .data], laidTests := true, laidLooks := .later }
def PostingsChangeCardSaid : Prop := Claim7.holds Tryd.pinned (.plain (OpenSpec.ofChange postingsChangeSpec)) postingsChangeCard

/-- THE SECOND FORM's CARD OF 'overflightlaw41.PostingsChange'. -/
def postingsChangeUptoCard : Claim7 := { stood := { row := postingsChangeUptoRow, standIns := [], harness := (true, "7d64ca655e007c415da8aca76bc71584fa1a84079e73f9e95d99383626e9c60f"), looks := false }, kinds := [], alts := [], laidByText := true, laidKinds := [.data, .data], laidTests := true, laidLooks := .later }
def PostingsChangeUptoCardSaid : Prop := Claim7.holds Tryd.pinned (.plain (OpenSpec.upto postingsChangeSpec)) postingsChangeUptoCard
end Rows
end Go.Proofs.YtejanbpdkinjfaaDoor
