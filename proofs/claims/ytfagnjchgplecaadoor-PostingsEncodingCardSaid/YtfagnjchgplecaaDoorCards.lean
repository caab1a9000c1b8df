/-
  DERIVED. GIVEN WITH THE SEED: THE CARDS: each row of YtfagnjchgplecaaDoorRows.lean that lists a variable, with what it lists TIED to the program's text (the seventh form; the later family's looks); each row that meets fmt, with fmt's text TOLD by the authors' own Lean function (tested against real Go, not proved from fmt's source: count such statements apart). THE CARD IS WHAT COUNTS. Prove the row's statement (the work); the ties are given (YtfagnjchgplecaaDoorTie.lean); close each card by the builder's one call (the guide's Derived/Test/ToyasCard.lean, 'card_holds'). Laid BY PROGRAM, IN A SANDBOX (cutbox-door.mjs). By AI agents, Wed Nov 11 2026. No macro, syntax, notation, axiom, sorry.
-/
import Derived.Test.YtfagnjchgplecaaDoorRows
import GoSem.ClaimSeven
namespace Go.Proofs.YtfagnjchgplecaaDoor
namespace Rows

/-- THE TIED CARD OF 'overflightlaw41.PostingsPostSpec'. -/
def postingsPostSpecCard : Claim7 := { stood := { row := postingsPostSpecRow, standIns := [], harness := (true, "86834af3cc03690d2f391ca61a746150c560058a1a8202c2530688f86c653dbb"), looks := true }, kinds := [], alts := [], laidByText := true, laidKinds := [.data, .data], laidTests := true, laidLooks := .later }
def PostingsPostSpecCardSaid : Prop := Claim7.holds Tryd.pinned (.plain (OpenSpec.ofChange postingsPostSpecSpec)) postingsPostSpecCard

/-- THE TIED CARD OF 'overflightlaw41.PostingsZero'. -/
def postingsZeroCard : Claim7 := { stood := { row := postingsZeroRow, standIns := [], harness := (true, "86834af3cc03690d2f391ca61a746150c560058a1a8202c2530688f86c653dbb"), looks := true }, kinds := [], alts := [], laidByText := true, laidKinds := [.data, .data], laidTests := true, laidLooks := .later }
def PostingsZeroCardSaid : Prop := Claim7.holds Tryd.pinned (.plain (OpenSpec.ofChange postingsZeroSpec)) postingsZeroCard

/-- THE TIED CARD OF 'overflightlaw41.PostingsChange'. -/
def postingsChangeCard : Claim7 := { stood := { row := postingsChangeRow, standIns := [], harness := (true, "86834af3cc03690d2f391ca61a746150c560058a1a8202c2530688f86c653dbb"), looks := true }, kinds := [], alts := [], laidByText := true, laidKinds := [.data, .data], laidTests := true, laidLooks := .later }
def PostingsChangeCardSaid : Prop := Claim7.holds Tryd.pinned (.plain (OpenSpec.ofChange postingsChangeSpec)) postingsChangeCard

/-- THE TIED CARD OF 'overflightlaw41.PostingsBeginning'. -/
def postingsBeginningCard : Claim7 := { stood := { row := postingsBeginningRow, standIns := [], harness := (true, "86834af3cc03690d2f391ca61a746150c560058a1a8202c2530688f86c653dbb"), looks := true }, kinds := [], alts := [], laidByText := true, laidKinds := [.data, .data], laidTests := true, laidLooks := .later }
def PostingsBeginningCardSaid : Prop := Claim7.holds Tryd.pinned (.plain (OpenSpec.ofChange postingsBeginningSpec)) postingsBeginningCard

/-- THE TIED CARD OF 'overflightlaw41.PostingsBound'. -/
def postingsBoundCard : Claim7 := { stood := { row := postingsBoundRow, standIns := [], harness := (true, "86834af3cc03690d2f391ca61a746150c560058a1a8202c2530688f86c653dbb"), looks := true }, kinds := [], alts := [], laidByText := true, laidKinds := [.data, .data], laidTests := true, laidLooks := .later }
def PostingsBoundCardSaid : Prop := Claim7.holds Tryd.pinned (.plain (OpenSpec.ofChange postingsBoundSpec)) postingsBoundCard

/-- THE TIED CARD OF 'overflightlaw41.PostingsAltered'. -/
def postingsAlteredCard : Claim7 := { stood := { row := postingsAlteredRow, standIns := [], harness := (true, "86834af3cc03690d2f391ca61a746150c560058a1a8202c2530688f86c653dbb"), looks := true }, kinds := [], alts := [], laidByText := true, laidKinds := [.data, .data], laidTests := true, laidLooks := .later }
def PostingsAlteredCardSaid : Prop := Claim7.holds Tryd.pinned (.plain (OpenSpec.ofChange postingsAlteredSpec)) postingsAlteredCard

/-- THE TIED CARD OF 'overflightlaw41.PostingsEncoding'. -/
def postingsEncodingCard : Claim7 := { stood := { row := postingsEncodingRow, standIns := [], harness := (true, "86834af3cc03690d2f391ca61a746150c560058a1a8202c2530688f86c653dbb"), looks := true }, kinds := [], alts := [], laidByText := true, laidKinds := [.data, .data], laidTests := true, laidLooks := .later }
def PostingsEncodingCardSaid : Prop := Claim7.holds Tryd.pinned (.plain (OpenSpec.ofChange postingsEncodingSpec)) postingsEncodingCard

/-- THE TIED CARD OF 'overflightlaw43.AccountsEntriesSpec'. -/
def accountsEntriesSpecCard : Claim7 := { stood := { row := accountsEntriesSpecRow, standIns := [], harness := (true, "86834af3cc03690d2f391ca61a746150c560058a1a8202c2530688f86c653dbb"), looks := true }, kinds := [], alts := [], laidByText := true, laidKinds := [.data, .data], laidTests := true, laidLooks := .later }
def AccountsEntriesSpecCardSaid : Prop := Claim7.holds Tryd.pinned (.plain (OpenSpec.ofChange accountsEntriesSpecSpec)) accountsEntriesSpecCard

/-- THE TIED CARD OF 'overflightlaw43.AccountsBooked'. -/
def accountsBookedCard : Claim7 := { stood := { row := accountsBookedRow, standIns := [], harness := (true, "86834af3cc03690d2f391ca61a746150c560058a1a8202c2530688f86c653dbb"), looks := true }, kinds := [], alts := [], laidByText := true, laidKinds := [.data, .data], laidTests := true, laidLooks := .later }
def AccountsBookedCardSaid : Prop := Claim7.holds Tryd.pinned (.plain (OpenSpec.ofChange accountsBookedSpec)) accountsBookedCard

/-- THE TIED CARD OF 'overflightlaw43.AccountsAnew'. -/
def accountsAnewCard : Claim7 := { stood := { row := accountsAnewRow, standIns := [], harness := (true, "86834af3cc03690d2f391ca61a746150c560058a1a8202c2530688f86c653dbb"), looks := true }, kinds := [], alts := [], laidByText := true, laidKinds := [.data, .data], laidTests := true, laidLooks := .later }
def AccountsAnewCardSaid : Prop := Claim7.holds Tryd.pinned (.plain (OpenSpec.ofChange accountsAnewSpec)) accountsAnewCard

/-- THE TIED CARD OF 'overflightlaw43.AccountsEvery'. -/
def accountsEveryCard : Claim7 := { stood := { row := accountsEveryRow, standIns := [], harness := (true, "86834af3cc03690d2f391ca61a746150c560058a1a8202c2530688f86c653dbb"), looks := true }, kinds := [], alts := [], laidByText := true, laidKinds := [.data, .data], laidTests := true, laidLooks := .later }
def AccountsEveryCardSaid : Prop := Claim7.holds Tryd.pinned (.plain (OpenSpec.ofChange accountsEverySpec)) accountsEveryCard

/-- THE SECOND FORM's CARD OF 'overflightlaw41.PostingsPostSpec'. -/
def postingsPostSpecUptoCard : Claim7 := { stood := { row := postingsPostSpecUptoRow, standIns := [], harness := (true, "86834af3cc03690d2f391ca61a746150c560058a1a8202c2530688f86c653dbb"), looks := true }, kinds := [], alts := [], laidByText := true, laidKinds := [.data, .data], laidTests := true, laidLooks := .later }
def PostingsPostSpecUptoCardSaid : Prop := Claim7.holds Tryd.pinned (.plain (OpenSpec.upto postingsPostSpecSpec)) postingsPostSpecUptoCard

/-- THE SECOND FORM's CARD OF 'overflightlaw41.PostingsZero'. -/
def postingsZeroUptoCard : Claim7 := { stood := { row := postingsZeroUptoRow, standIns := [], harness := (true, "86834af3cc03690d2f391ca61a746150c560058a1a8202c2530688f86c653dbb"), looks := true }, kinds := [], alts := [], laidByText := true, laidKinds := [.data, .data], laidTests := true, laidLooks := .later }
def PostingsZeroUptoCardSaid : Prop := Claim7.holds Tryd.pinned (.plain (OpenSpec.upto postingsZeroSpec)) postingsZeroUptoCard

/-- THE SECOND FORM's CARD OF 'overflightlaw41.PostingsChange'. -/
def postingsChangeUptoCard : Claim7 := { stood := { row := postingsChangeUptoRow, standIns := [], harness := (true, "86834af3cc03690d2f391ca61a746150c560058a1a8202c2530688f86c653dbb"), looks := true }, kinds := [], alts := [], laidByText := true, laidKinds := [.data, .data], laidTests := true, laidLooks := .later }
def PostingsChangeUptoCardSaid : Prop := Claim7.holds Tryd.pinned (.plain (OpenSpec.upto postingsChangeSpec)) postingsChangeUptoCard

/-- THE SECOND FORM's CARD OF 'overflightlaw41.PostingsBeginning'. -/
def postingsBeginningUptoCard : Claim7 := { stood := { row := postingsBeginningUptoRow, standIns := [], harness := (true, "86834af3cc03690d2f391ca61a746150c560058a1a8202c2530688f86c653dbb"), looks := true }, kinds := [], alts := [], laidByText := true, laidKinds := [.data, .data], laidTests := true, laidLooks := .later }
def PostingsBeginningUptoCardSaid : Prop := Claim7.holds Tryd.pinned (.plain (OpenSpec.upto postingsBeginningSpec)) postingsBeginningUptoCard

/-- THE SECOND FORM's CARD OF 'overflightlaw41.PostingsBound'. -/
def postingsBoundUptoCard : Claim7 := { stood := { row := postingsBoundUptoRow, standIns := [], harness := (true, "86834af3cc03690d2f391ca61a746150c560058a1a8202c2530688f86c653dbb"), looks := true }, kinds := [], alts := [], laidByText := true, laidKinds := [.data, .data], laidTests := true, laidLooks := .later }
def PostingsBoundUptoCardSaid : Prop := Claim7.holds Tryd.pinned (.plain (OpenSpec.upto postingsBoundSpec)) postingsBoundUptoCard

/-- THE SECOND FORM's CARD OF 'overflightlaw41.PostingsAltered'. -/
def postingsAlteredUptoCard : Claim7 := { stood := { row := postingsAlteredUptoRow, standIns := [], harness := (true, "86834af3cc03690d2f391ca61a746150c560058a1a8202c2530688f86c653dbb"), looks := true }, kinds := [], alts := [], laidByText := true, laidKinds := [.data, .data], laidTests := true, laidLooks := .later }
def PostingsAlteredUptoCardSaid : Prop := Claim7.holds Tryd.pinned (.plain (OpenSpec.upto postingsAlteredSpec)) postingsAlteredUptoCard

/-- THE SECOND FORM's CARD OF 'overflightlaw41.PostingsEncoding'. -/
def postingsEncodingUptoCard : Claim7 := { stood := { row := postingsEncodingUptoRow, standIns := [], harness := (true, "86834af3cc03690d2f391ca61a746150c560058a1a8202c2530688f86c653dbb"), looks := true }, kinds := [], alts := [], laidByText := true, laidKinds := [.data, .data], laidTests := true, laidLooks := .later }
def PostingsEncodingUptoCardSaid : Prop := Claim7.holds Tryd.pinned (.plain (OpenSpec.upto postingsEncodingSpec)) postingsEncodingUptoCard

/-- THE SECOND FORM's CARD OF 'overflightlaw43.AccountsEntriesSpec'. -/
def accountsEntriesSpecUptoCard : Claim7 := { stood := { row := accountsEntriesSpecUptoRow, standIns := [], harness := (true, "86834af3cc03690d2f391ca61a746150c560058a1a8202c2530688f86c653dbb"), looks := true }, kinds := [], alts := [], laidByText := true, laidKinds := [.data, .data], laidTests := true, laidLooks := .later }
def AccountsEntriesSpecUptoCardSaid : Prop := Claim7.holds Tryd.pinned (.plain (OpenSpec.upto accountsEntriesSpecSpec)) accountsEntriesSpecUptoCard

/-- THE SECOND FORM's CARD OF 'overflightlaw43.AccountsBooked'. -/
def accountsBookedUptoCard : Claim7 := { stood := { row := accountsBookedUptoRow, standIns := [], harness := (true, "86834af3cc03690d2f391ca61a746150c560058a1a8202c2530688f86c653dbb"), looks := true }, kinds := [], alts := [], laidByText := true, laidKinds := [.data, .data], laidTests := true, laidLooks := .later }
def AccountsBookedUptoCardSaid : Prop := Claim7.holds Tryd.pinned (.plain (OpenSpec.upto accountsBookedSpec)) accountsBookedUptoCard

/-- THE SECOND FORM's CARD OF 'overflightlaw43.AccountsAnew'. -/
def accountsAnewUptoCard : Claim7 := { stood := { row := accountsAnewUptoRow, standIns := [], harness := (true, "86834af3cc03690d2f391ca61a746150c560058a1a8202c2530688f86c653dbb"), looks := true }, kinds := [], alts := [], laidByText := true, laidKinds := [.data, .data], laidTests := true, laidLooks := .later }
def AccountsAnewUptoCardSaid : Prop := Claim7.holds Tryd.pinned (.plain (OpenSpec.upto accountsAnewSpec)) accountsAnewUptoCard

/-- THE SECOND FORM's CARD OF 'overflightlaw43.AccountsEvery'. -/
def accountsEveryUptoCard : Claim7 := { stood := { row := accountsEveryUptoRow, standIns := [], harness := (true, "86834af3cc03690d2f391ca61a746150c560058a1a8202c2530688f86c653dbb"), looks := true }, kinds := [], alts := [], laidByText := true, laidKinds := [.data, .data], laidTests := true, laidLooks := .later }
def AccountsEveryUptoCardSaid : Prop := Claim7.holds Tryd.pinned (.plain (OpenSpec.upto accountsEverySpec)) accountsEveryUptoCard
end Rows
end Go.Proofs.YtfagnjchgplecaaDoor
