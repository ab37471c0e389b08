/-
  DERIVED. GIVEN WITH THE SEED: THE CARDS: each row of YtahaclglkbgpcaaDoorRows.lean that lists a variable, with what it lists TIED to the program's text (the seventh form; the later family's looks); each row that meets fmt, with fmt's text TOLD by the authors' own Lean function (tested against real Go, not proved from fmt's source: count such statements apart). THE CARD IS WHAT COUNTS. Prove the row's statement (the work); the ties are given (YtahaclglkbgpcaaDoorTie.lean); close each card by the builder's one call (the guide's Derived/Test/ToyasCard.lean, 'card_holds'). Laid BY PROGRAM, IN A SANDBOX (cutbox-door.mjs). By AI agents, Wed Nov 11 2026. No macro, syntax, notation, axiom, sorry.
-/
import Derived.Test.YtahaclglkbgpcaaDoorRows
import GoSem.ClaimSeven
namespace Go.Proofs.YtahaclglkbgpcaaDoor
namespace Rows

/-- THE TIED CARD OF 'tithelaw15.LedgerAdds'. -/
def ledgerAddsCard : Claim7 := { stood := { row := ledgerAddsRow, standIns := [], harness := (true, "15424e677a6f4ef540327e1d8ba5928b0a38c0fba5329db01c5e96e9ef079564"), looks := true }, kinds := [], alts := [], laidByText := true, laidKinds := [.handle], laidTests := true, laidLooks := .later }
def LedgerAddsCardSaid : Prop := Claim7.holds Tryd.pinned (.plain (OpenSpec.ofChange ledgerAddsSpec)) ledgerAddsCard

/-- THE TIED CARD OF 'tithelaw15.LedgerPlays'. -/
def ledgerPlaysCard : Claim7 := { stood := { row := ledgerPlaysRow, standIns := [], harness := (true, "15424e677a6f4ef540327e1d8ba5928b0a38c0fba5329db01c5e96e9ef079564"), looks := true }, kinds := [], alts := [], laidByText := true, laidKinds := [.handle], laidTests := true, laidLooks := .later }
def LedgerPlaysCardSaid : Prop := Claim7.holds Tryd.pinned (.plain (OpenSpec.ofChange ledgerPlaysSpec)) ledgerPlaysCard

/-- THE TIED CARD OF 'tithelaw15.LedgerTwins'. -/
def ledgerTwinsCard : Claim7 := { stood := { row := ledgerTwinsRow, standIns := [], harness := (true, "15424e677a6f4ef540327e1d8ba5928b0a38c0fba5329db01c5e96e9ef079564"), looks := true }, kinds := [], alts := [], laidByText := true, laidKinds := [.handle], laidTests := true, laidLooks := .later }
def LedgerTwinsCardSaid : Prop := Claim7.holds Tryd.pinned (.plain (OpenSpec.ofChange ledgerTwinsSpec)) ledgerTwinsCard

/-- THE SECOND FORM's CARD OF 'tithelaw15.LedgerAdds'. -/
def ledgerAddsUptoCard : Claim7 := { stood := { row := ledgerAddsUptoRow, standIns := [], harness := (true, "15424e677a6f4ef540327e1d8ba5928b0a38c0fba5329db01c5e96e9ef079564"), looks := true }, kinds := [], alts := [], laidByText := true, laidKinds := [.handle], laidTests := true, laidLooks := .later }
def LedgerAddsUptoCardSaid : Prop := Claim7.holds Tryd.pinned (.plain (OpenSpec.upto ledgerAddsSpec)) ledgerAddsUptoCard

/-- THE SECOND FORM's CARD OF 'tithelaw15.LedgerPlays'. -/
def ledgerPlaysUptoCard : Claim7 := { stood := { row := ledgerPlaysUptoRow, standIns := [], harness := (true, "15424e677a6f4ef540327e1d8ba5928b0a38c0fba5329db01c5e96e9ef079564"), looks := true }, kinds := [], alts := [], laidByText := true, laidKinds := [.handle], laidTests := true, laidLooks := .later }
def LedgerPlaysUptoCardSaid : Prop := Claim7.holds Tryd.pinned (.plain (OpenSpec.upto ledgerPlaysSpec)) ledgerPlaysUptoCard

/-- THE SECOND FORM's CARD OF 'tithelaw15.LedgerTwins'. -/
def ledgerTwinsUptoCard : Claim7 := { stood := { row := ledgerTwinsUptoRow, standIns := [], harness := (true, "15424e677a6f4ef540327e1d8ba5928b0a38c0fba5329db01c5e96e9ef079564"), looks := true }, kinds := [], alts := [], laidByText := true, laidKinds := [.handle], laidTests := true, laidLooks := .later }
def LedgerTwinsUptoCardSaid : Prop := Claim7.holds Tryd.pinned (.plain (OpenSpec.upto ledgerTwinsSpec)) ledgerTwinsUptoCard
end Rows
end Go.Proofs.YtahaclglkbgpcaaDoor
