/-
  DERIVED. GIVEN WITH THE SEED: THE CARDS: each row of YtfagnjchgplecaaGreatDoorRows.lean that lists a variable, with what it lists TIED to the program's text (the seventh form; the later family's looks); each row that meets fmt, with fmt's text TOLD by the authors' own Lean function (tested against real Go, not proved from fmt's source: count such statements apart). THE CARD IS WHAT COUNTS. Prove the row's statement (the work); the ties are given (YtfagnjchgplecaaGreatDoorTie.lean); close each card by the builder's one call (the guide's Derived/Test/ToyasCard.lean, 'card_holds'). Laid BY PROGRAM, IN A SANDBOX (cutbox-door.mjs). By AI agents, Wed Nov 11 2026. No macro, syntax, notation, axiom, sorry.
-/
import Derived.Test.YtfagnjchgplecaaGreatDoorRows
import GoSem.ClaimSeven
namespace Go.Proofs.YtfagnjchgplecaaGreatDoor
namespace Rows

/-- THE TIED CARD OF 'overflighttop.TopMoney'. -/
def topMoneyCard : Claim7 := { stood := { row := topMoneyRow, standIns := [], harness := (true, "75fc3c8e66d3265df7303947db82a5d0bde45b205fcd4ee59a72cb5cc34690e1"), looks := false }, kinds := [], alts := [], laidByText := true, laidKinds := [.data, .data], laidTests := true, laidLooks := .later }
def TopMoneyCardSaid : Prop := Claim7.holds Tryz.pinned (.plain (OpenSpec.ofChange topMoneySpec)) topMoneyCard

/-- THE TIED CARD OF 'overflightlaw43.AccountsBookSpec'. -/
def accountsBookSpecCard : Claim7 := { stood := { row := accountsBookSpecRow, standIns := [], harness := (true, "75fc3c8e66d3265df7303947db82a5d0bde45b205fcd4ee59a72cb5cc34690e1"), looks := false }, kinds := [], alts := [], laidByText := true, laidKinds := [.data, .data], laidTests := true, laidLooks := .later }
def AccountsBookSpecCardSaid : Prop := Claim7.holds Tryz.pinned (.plain (OpenSpec.ofChange accountsBookSpecSpec)) accountsBookSpecCard

/-- THE TIED CARD OF 'overflightlaw43.AccountsStatementSpec'. -/
def accountsStatementSpecCard : Claim7 := { stood := { row := accountsStatementSpecRow, standIns := [], harness := (true, "75fc3c8e66d3265df7303947db82a5d0bde45b205fcd4ee59a72cb5cc34690e1"), looks := false }, kinds := [], alts := [], laidByText := true, laidKinds := [.data, .data], laidTests := true, laidLooks := .later }
def AccountsStatementSpecCardSaid : Prop := Claim7.holds Tryz.pinned (.plain (OpenSpec.ofChange accountsStatementSpecSpec)) accountsStatementSpecCard

/-- THE TIED CARD OF 'overflightlaw43.AccountsShares'. -/
def accountsSharesCard : Claim7 := { stood := { row := accountsSharesRow, standIns := [], harness := (true, "75fc3c8e66d3265df7303947db82a5d0bde45b205fcd4ee59a72cb5cc34690e1"), looks := false }, kinds := [], alts := [], laidByText := true, laidKinds := [.data, .data], laidTests := true, laidLooks := .later }
def AccountsSharesCardSaid : Prop := Claim7.holds Tryz.pinned (.plain (OpenSpec.ofChange accountsSharesSpec)) accountsSharesCard

/-- THE SECOND FORM's CARD OF 'overflighttop.TopMoney'. -/
def topMoneyUptoCard : Claim7 := { stood := { row := topMoneyUptoRow, standIns := [], harness := (true, "75fc3c8e66d3265df7303947db82a5d0bde45b205fcd4ee59a72cb5cc34690e1"), looks := false }, kinds := [], alts := [], laidByText := true, laidKinds := [.data, .data], laidTests := true, laidLooks := .later }
def TopMoneyUptoCardSaid : Prop := Claim7.holds Tryz.pinned (.plain (OpenSpec.upto topMoneySpec)) topMoneyUptoCard

/-- THE SECOND FORM's CARD OF 'overflightlaw43.AccountsBookSpec'. -/
def accountsBookSpecUptoCard : Claim7 := { stood := { row := accountsBookSpecUptoRow, standIns := [], harness := (true, "75fc3c8e66d3265df7303947db82a5d0bde45b205fcd4ee59a72cb5cc34690e1"), looks := false }, kinds := [], alts := [], laidByText := true, laidKinds := [.data, .data], laidTests := true, laidLooks := .later }
def AccountsBookSpecUptoCardSaid : Prop := Claim7.holds Tryz.pinned (.plain (OpenSpec.upto accountsBookSpecSpec)) accountsBookSpecUptoCard

/-- THE SECOND FORM's CARD OF 'overflightlaw43.AccountsStatementSpec'. -/
def accountsStatementSpecUptoCard : Claim7 := { stood := { row := accountsStatementSpecUptoRow, standIns := [], harness := (true, "75fc3c8e66d3265df7303947db82a5d0bde45b205fcd4ee59a72cb5cc34690e1"), looks := false }, kinds := [], alts := [], laidByText := true, laidKinds := [.data, .data], laidTests := true, laidLooks := .later }
def AccountsStatementSpecUptoCardSaid : Prop := Claim7.holds Tryz.pinned (.plain (OpenSpec.upto accountsStatementSpecSpec)) accountsStatementSpecUptoCard

/-- THE SECOND FORM's CARD OF 'overflightlaw43.AccountsShares'. -/
def accountsSharesUptoCard : Claim7 := { stood := { row := accountsSharesUptoRow, standIns := [], harness := (true, "75fc3c8e66d3265df7303947db82a5d0bde45b205fcd4ee59a72cb5cc34690e1"), looks := false }, kinds := [], alts := [], laidByText := true, laidKinds := [.data, .data], laidTests := true, laidLooks := .later }
def AccountsSharesUptoCardSaid : Prop := Claim7.holds Tryz.pinned (.plain (OpenSpec.upto accountsSharesSpec)) accountsSharesUptoCard
end Rows
end Go.Proofs.YtfagnjchgplecaaGreatDoor
