/-
  DERIVED. GIVEN WITH THE SEED: THE CARDS: each row of YthcmaiplkbbioaaGreatDoorRows.lean that lists a variable, with what it lists TIED to the program's text (the seventh form; the later family's looks); each row that meets fmt, with fmt's text TOLD by the authors' own Lean function (tested against real Go, not proved from fmt's source: count such statements apart). THE CARD IS WHAT COUNTS. Prove the row's statement (the work); the ties are given (YthcmaiplkbbioaaGreatDoorTie.lean); close each card by the builder's one call (the guide's Derived/Test/ToyasCard.lean, 'card_holds'). Laid BY PROGRAM, IN A SANDBOX (cutbox-door.mjs). By AI agents, Wed Nov 11 2026. No macro, syntax, notation, axiom, sorry.
-/
import Derived.Test.YthcmaiplkbbioaaGreatDoorRows
import GoSem.ClaimSeven
namespace Go.Proofs.YthcmaiplkbbioaaGreatDoor
namespace Rows

/-- THE TIED CARD OF 'overflighttop.TopMoney'. -/
def topMoneyCard : Claim7 := { stood := { row := topMoneyRow, standIns := [], harness := (true, "d1a09e591c81324b9a16dec19576ae3a8af75734eff6f3890e2634681d29445d"), looks := false }, kinds := [], alts := [], laidByText := true, laidKinds := [.data, .data], laidTests := true, laidLooks := .later }
def TopMoneyCardSaid : Prop := Claim7.holds Tryz.pinned (.plain (OpenSpec.ofChange topMoneySpec)) topMoneyCard

/-- THE TIED CARD OF 'overflightlaw43.AccountsShares'. -/
def accountsSharesCard : Claim7 := { stood := { row := accountsSharesRow, standIns := [], harness := (true, "d1a09e591c81324b9a16dec19576ae3a8af75734eff6f3890e2634681d29445d"), looks := false }, kinds := [], alts := [], laidByText := true, laidKinds := [.data, .data], laidTests := true, laidLooks := .later }
def AccountsSharesCardSaid : Prop := Claim7.holds Tryz.pinned (.plain (OpenSpec.ofChange accountsSharesSpec)) accountsSharesCard

/-- THE SECOND FORM's CARD OF 'overflighttop.TopMoney'. -/
def topMoneyUptoCard : Claim7 := { stood := { row := topMoneyUptoRow, standIns := [], harness := (true, "d1a09e591c81324b9a16dec19576ae3a8af75734eff6f3890e2634681d29445d"), looks := false }, kinds := [], alts := [], laidByText := true, laidKinds := [.data, .data], laidTests := true, laidLooks := .later }
def TopMoneyUptoCardSaid : Prop := Claim7.holds Tryz.pinned (.plain (OpenSpec.upto topMoneySpec)) topMoneyUptoCard

/-- THE SECOND FORM's CARD OF 'overflightlaw43.AccountsShares'. -/
def accountsSharesUptoCard : Claim7 := { stood := { row := accountsSharesUptoRow, standIns := [], harness := (true, "d1a09e591c81324b9a16dec19576ae3a8af75734eff6f3890e2634681d29445d"), looks := false }, kinds := [], alts := [], laidByText := true, laidKinds := [.data, .data], laidTests := true, laidLooks := .later }
def AccountsSharesUptoCardSaid : Prop := Claim7.holds Tryz.pinned (.plain (OpenSpec.upto accountsSharesSpec)) accountsSharesUptoCard
end Rows
end Go.Proofs.YthcmaiplkbbioaaGreatDoor
