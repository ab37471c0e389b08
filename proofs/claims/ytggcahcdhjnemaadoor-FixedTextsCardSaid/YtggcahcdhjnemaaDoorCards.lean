/-
  DERIVED. GIVEN WITH THE SEED: THE CARDS: each row of YtggcahcdhjnemaaDoorRows.lean that lists a variable, with what it lists TIED to the program's text (the seventh form; the later family's looks); each row that meets fmt, with fmt's text TOLD by the authors' own Lean function (tested against real Go, not proved from fmt's source: count such statements apart). THE CARD IS WHAT COUNTS. Prove the row's statement (the work); the ties are given (YtggcahcdhjnemaaDoorTie.lean); close each card by the builder's one call (the guide's Derived/Test/ToyasCard.lean, 'card_holds'). Laid BY PROGRAM, IN A SANDBOX (cutbox-door.mjs). By AI agents, Wed Nov 11 2026. No macro, syntax, notation, axiom, sorry.
-/
import Derived.Test.YtggcahcdhjnemaaDoorRows
import GoSem.ClaimSeven
namespace Go.Proofs.YtggcahcdhjnemaaDoor
namespace Rows

/-- THE TIED CARD OF 'tithelaw07.BudgetNews'. -/
def budgetNewsCard : Claim7 := { stood := { row := budgetNewsRow, standIns := [], harness := (true, "9a948f12ab68e08a11c3bed12e50b022c67cc5824c82a7e29837512a37c48a82"), looks := true }, kinds := [], alts := [], laidByText := true, laidKinds := [.handle], laidTests := true, laidLooks := .later }
def BudgetNewsCardSaid : Prop := Claim7.holds Tryd.pinned (.plain (OpenSpec.ofChange budgetNewsSpec)) budgetNewsCard

/-- THE TIED CARD OF 'tithelaw01.FixedShares'. -/
def fixedSharesCard : Claim7 := { stood := { row := fixedSharesRow, standIns := [], harness := (true, "9a948f12ab68e08a11c3bed12e50b022c67cc5824c82a7e29837512a37c48a82"), looks := true }, kinds := [], alts := [], laidByText := true, laidKinds := [.handle], laidTests := true, laidLooks := .later }
def FixedSharesCardSaid : Prop := Claim7.holds Tryd.pinned (.plain (OpenSpec.ofChange fixedSharesSpec)) fixedSharesCard

/-- THE TIED CARD OF 'tithelaw07.BudgetTakes'. -/
def budgetTakesCard : Claim7 := { stood := { row := budgetTakesRow, standIns := [], harness := (true, "9a948f12ab68e08a11c3bed12e50b022c67cc5824c82a7e29837512a37c48a82"), looks := true }, kinds := [], alts := [], laidByText := true, laidKinds := [.handle], laidTests := true, laidLooks := .later }
def BudgetTakesCardSaid : Prop := Claim7.holds Tryd.pinned (.plain (OpenSpec.ofChange budgetTakesSpec)) budgetTakesCard

/-- THE TIED CARD OF 'tithelaw01.FixedMosts'. -/
def fixedMostsCard : Claim7 := { stood := { row := fixedMostsRow, standIns := [], harness := (true, "9a948f12ab68e08a11c3bed12e50b022c67cc5824c82a7e29837512a37c48a82"), looks := true }, kinds := [], alts := [], laidByText := true, laidKinds := [.handle], laidTests := true, laidLooks := .later }
def FixedMostsCardSaid : Prop := Claim7.holds Tryd.pinned (.plain (OpenSpec.ofChange fixedMostsSpec)) fixedMostsCard

/-- THE TIED CARD OF 'tithelaw01.FixedCompares'. -/
def fixedComparesCard : Claim7 := { stood := { row := fixedComparesRow, standIns := [], harness := (true, "9a948f12ab68e08a11c3bed12e50b022c67cc5824c82a7e29837512a37c48a82"), looks := true }, kinds := [], alts := [], laidByText := true, laidKinds := [.handle], laidTests := true, laidLooks := .later }
def FixedComparesCardSaid : Prop := Claim7.holds Tryd.pinned (.plain (OpenSpec.ofChange fixedComparesSpec)) fixedComparesCard

/-- THE TIED CARD OF 'tithelaw07.BudgetResizes'. -/
def budgetResizesCard : Claim7 := { stood := { row := budgetResizesRow, standIns := [], harness := (true, "9a948f12ab68e08a11c3bed12e50b022c67cc5824c82a7e29837512a37c48a82"), looks := true }, kinds := [], alts := [], laidByText := true, laidKinds := [.handle], laidTests := true, laidLooks := .later }
def BudgetResizesCardSaid : Prop := Claim7.holds Tryd.pinned (.plain (OpenSpec.ofChange budgetResizesSpec)) budgetResizesCard

/-- THE TIED CARD OF 'tithelaw07.BudgetCrosses'. -/
def budgetCrossesCard : Claim7 := { stood := { row := budgetCrossesRow, standIns := [], harness := (true, "9a948f12ab68e08a11c3bed12e50b022c67cc5824c82a7e29837512a37c48a82"), looks := true }, kinds := [], alts := [], laidByText := true, laidKinds := [.handle], laidTests := true, laidLooks := .later }
def BudgetCrossesCardSaid : Prop := Claim7.holds Tryd.pinned (.plain (OpenSpec.ofChange budgetCrossesSpec)) budgetCrossesCard

/-- THE TIED CARD OF 'tithelaw01.FixedSums'. -/
def fixedSumsCard : Claim7 := { stood := { row := fixedSumsRow, standIns := [], harness := (true, "9a948f12ab68e08a11c3bed12e50b022c67cc5824c82a7e29837512a37c48a82"), looks := true }, kinds := [], alts := [], laidByText := true, laidKinds := [.handle], laidTests := true, laidLooks := .later }
def FixedSumsCardSaid : Prop := Claim7.holds Tryd.pinned (.plain (OpenSpec.ofChange fixedSumsSpec)) fixedSumsCard

/-- THE TIED CARD OF 'tithelaw01.FixedTexts'. -/
def fixedTextsCard : Claim7 := { stood := { row := fixedTextsRow, standIns := [], harness := (true, "9a948f12ab68e08a11c3bed12e50b022c67cc5824c82a7e29837512a37c48a82"), looks := true }, kinds := [], alts := [], laidByText := true, laidKinds := [.handle], laidTests := true, laidLooks := .later }
def FixedTextsCardSaid : Prop := Claim7.holds Tryd.pinned (.plain (OpenSpec.ofChange fixedTextsSpec)) fixedTextsCard

/-- THE TIED CARD OF 'tithelaw01.FixedReads'. -/
def fixedReadsCard : Claim7 := { stood := { row := fixedReadsRow, standIns := [], harness := (true, "9a948f12ab68e08a11c3bed12e50b022c67cc5824c82a7e29837512a37c48a82"), looks := true }, kinds := [], alts := [], laidByText := true, laidKinds := [.handle], laidTests := true, laidLooks := .later }
def FixedReadsCardSaid : Prop := Claim7.holds Tryd.pinned (.plain (OpenSpec.ofChange fixedReadsSpec)) fixedReadsCard

/-- THE SECOND FORM's CARD OF 'tithelaw07.BudgetNews'. -/
def budgetNewsUptoCard : Claim7 := { stood := { row := budgetNewsUptoRow, standIns := [], harness := (true, "9a948f12ab68e08a11c3bed12e50b022c67cc5824c82a7e29837512a37c48a82"), looks := true }, kinds := [], alts := [], laidByText := true, laidKinds := [.handle], laidTests := true, laidLooks := .later }
def BudgetNewsUptoCardSaid : Prop := Claim7.holds Tryd.pinned (.plain (OpenSpec.upto budgetNewsSpec)) budgetNewsUptoCard

/-- THE SECOND FORM's CARD OF 'tithelaw01.FixedShares'. -/
def fixedSharesUptoCard : Claim7 := { stood := { row := fixedSharesUptoRow, standIns := [], harness := (true, "9a948f12ab68e08a11c3bed12e50b022c67cc5824c82a7e29837512a37c48a82"), looks := true }, kinds := [], alts := [], laidByText := true, laidKinds := [.handle], laidTests := true, laidLooks := .later }
def FixedSharesUptoCardSaid : Prop := Claim7.holds Tryd.pinned (.plain (OpenSpec.upto fixedSharesSpec)) fixedSharesUptoCard

/-- THE SECOND FORM's CARD OF 'tithelaw07.BudgetTakes'. -/
def budgetTakesUptoCard : Claim7 := { stood := { row := budgetTakesUptoRow, standIns := [], harness := (true, "9a948f12ab68e08a11c3bed12e50b022c67cc5824c82a7e29837512a37c48a82"), looks := true }, kinds := [], alts := [], laidByText := true, laidKinds := [.handle], laidTests := true, laidLooks := .later }
def BudgetTakesUptoCardSaid : Prop := Claim7.holds Tryd.pinned (.plain (OpenSpec.upto budgetTakesSpec)) budgetTakesUptoCard

/-- THE SECOND FORM's CARD OF 'tithelaw01.FixedMosts'. -/
def fixedMostsUptoCard : Claim7 := { stood := { row := fixedMostsUptoRow, standIns := [], harness := (true, "9a948f12ab68e08a11c3bed12e50b022c67cc5824c82a7e29837512a37c48a82"), looks := true }, kinds := [], alts := [], laidByText := true, laidKinds := [.handle], laidTests := true, laidLooks := .later }
def FixedMostsUptoCardSaid : Prop := Claim7.holds Tryd.pinned (.plain (OpenSpec.upto fixedMostsSpec)) fixedMostsUptoCard

/-- THE SECOND FORM's CARD OF 'tithelaw01.FixedCompares'. -/
def fixedComparesUptoCard : Claim7 := { stood := { row := fixedComparesUptoRow, standIns := [], harness := (true, "9a948f12ab68e08a11c3bed12e50b022c67cc5824c82a7e29837512a37c48a82"), looks := true }, kinds := [], alts := [], laidByText := true, laidKinds := [.handle], laidTests := true, laidLooks := .later }
def FixedComparesUptoCardSaid : Prop := Claim7.holds Tryd.pinned (.plain (OpenSpec.upto fixedComparesSpec)) fixedComparesUptoCard

/-- THE SECOND FORM's CARD OF 'tithelaw07.BudgetResizes'. -/
def budgetResizesUptoCard : Claim7 := { stood := { row := budgetResizesUptoRow, standIns := [], harness := (true, "9a948f12ab68e08a11c3bed12e50b022c67cc5824c82a7e29837512a37c48a82"), looks := true }, kinds := [], alts := [], laidByText := true, laidKinds := [.handle], laidTests := true, laidLooks := .later }
def BudgetResizesUptoCardSaid : Prop := Claim7.holds Tryd.pinned (.plain (OpenSpec.upto budgetResizesSpec)) budgetResizesUptoCard

/-- THE SECOND FORM's CARD OF 'tithelaw07.BudgetCrosses'. -/
def budgetCrossesUptoCard : Claim7 := { stood := { row := budgetCrossesUptoRow, standIns := [], harness := (true, "9a948f12ab68e08a11c3bed12e50b022c67cc5824c82a7e29837512a37c48a82"), looks := true }, kinds := [], alts := [], laidByText := true, laidKinds := [.handle], laidTests := true, laidLooks := .later }
def BudgetCrossesUptoCardSaid : Prop := Claim7.holds Tryd.pinned (.plain (OpenSpec.upto budgetCrossesSpec)) budgetCrossesUptoCard

/-- THE SECOND FORM's CARD OF 'tithelaw01.FixedSums'. -/
def fixedSumsUptoCard : Claim7 := { stood := { row := fixedSumsUptoRow, standIns := [], harness := (true, "9a948f12ab68e08a11c3bed12e50b022c67cc5824c82a7e29837512a37c48a82"), looks := true }, kinds := [], alts := [], laidByText := true, laidKinds := [.handle], laidTests := true, laidLooks := .later }
def FixedSumsUptoCardSaid : Prop := Claim7.holds Tryd.pinned (.plain (OpenSpec.upto fixedSumsSpec)) fixedSumsUptoCard

/-- THE SECOND FORM's CARD OF 'tithelaw01.FixedTexts'. -/
def fixedTextsUptoCard : Claim7 := { stood := { row := fixedTextsUptoRow, standIns := [], harness := (true, "9a948f12ab68e08a11c3bed12e50b022c67cc5824c82a7e29837512a37c48a82"), looks := true }, kinds := [], alts := [], laidByText := true, laidKinds := [.handle], laidTests := true, laidLooks := .later }
def FixedTextsUptoCardSaid : Prop := Claim7.holds Tryd.pinned (.plain (OpenSpec.upto fixedTextsSpec)) fixedTextsUptoCard

/-- THE SECOND FORM's CARD OF 'tithelaw01.FixedReads'. -/
def fixedReadsUptoCard : Claim7 := { stood := { row := fixedReadsUptoRow, standIns := [], harness := (true, "9a948f12ab68e08a11c3bed12e50b022c67cc5824c82a7e29837512a37c48a82"), looks := true }, kinds := [], alts := [], laidByText := true, laidKinds := [.handle], laidTests := true, laidLooks := .later }
def FixedReadsUptoCardSaid : Prop := Claim7.holds Tryd.pinned (.plain (OpenSpec.upto fixedReadsSpec)) fixedReadsUptoCard
end Rows
end Go.Proofs.YtggcahcdhjnemaaDoor
