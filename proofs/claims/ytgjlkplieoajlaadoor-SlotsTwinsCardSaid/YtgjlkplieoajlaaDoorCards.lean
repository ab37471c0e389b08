/-
  DERIVED. GIVEN WITH THE SEED: THE CARDS: each row of YtgjlkplieoajlaaDoorRows.lean that lists a variable, with what it lists TIED to the program's text (the seventh form; the later family's looks); each row that meets fmt, with fmt's text TOLD by the authors' own Lean function (tested against real Go, not proved from fmt's source: count such statements apart). THE CARD IS WHAT COUNTS. Prove the row's statement (the work); the ties are given (YtgjlkplieoajlaaDoorTie.lean); close each card by the builder's one call (the guide's Derived/Test/ToyasCard.lean, 'card_holds'). Laid BY PROGRAM, IN A SANDBOX (cutbox-door.mjs). By AI agents, Wed Nov 11 2026. No macro, syntax, notation, axiom, sorry.
-/
import Derived.Test.YtgjlkplieoajlaaDoorRows
import GoSem.ClaimSeven
namespace Go.Proofs.YtgjlkplieoajlaaDoor
namespace Rows

/-- THE TIED CARD OF 'tithelaw03.SlotsNews'. -/
def slotsNewsCard : Claim7 := { stood := { row := slotsNewsRow, standIns := [], harness := (true, "d793035f9c390ebfcc712e8d9b3857fb57cf296fd20077a35ab15725331295ec"), looks := true }, kinds := [], alts := [], laidByText := true, laidKinds := [.handle], laidTests := true, laidLooks := .later }
def SlotsNewsCardSaid : Prop := Claim7.holds Tryd.pinned (.plain (OpenSpec.ofChange slotsNewsSpec)) slotsNewsCard

/-- THE TIED CARD OF 'tithelaw03.SlotsOnce'. -/
def slotsOnceCard : Claim7 := { stood := { row := slotsOnceRow, standIns := [], harness := (true, "d793035f9c390ebfcc712e8d9b3857fb57cf296fd20077a35ab15725331295ec"), looks := true }, kinds := [], alts := [], laidByText := true, laidKinds := [.handle], laidTests := true, laidLooks := .later }
def SlotsOnceCardSaid : Prop := Claim7.holds Tryd.pinned (.plain (OpenSpec.ofChange slotsOnceSpec)) slotsOnceCard

/-- THE TIED CARD OF 'tithelaw03.SlotsPlays'. -/
def slotsPlaysCard : Claim7 := { stood := { row := slotsPlaysRow, standIns := [], harness := (true, "d793035f9c390ebfcc712e8d9b3857fb57cf296fd20077a35ab15725331295ec"), looks := true }, kinds := [], alts := [], laidByText := true, laidKinds := [.handle], laidTests := true, laidLooks := .later }
def SlotsPlaysCardSaid : Prop := Claim7.holds Tryd.pinned (.plain (OpenSpec.ofChange slotsPlaysSpec)) slotsPlaysCard

/-- THE TIED CARD OF 'tithelaw03.SlotsLoads'. -/
def slotsLoadsCard : Claim7 := { stood := { row := slotsLoadsRow, standIns := [], harness := (true, "d793035f9c390ebfcc712e8d9b3857fb57cf296fd20077a35ab15725331295ec"), looks := true }, kinds := [], alts := [], laidByText := true, laidKinds := [.handle], laidTests := true, laidLooks := .later }
def SlotsLoadsCardSaid : Prop := Claim7.holds Tryd.pinned (.plain (OpenSpec.ofChange slotsLoadsSpec)) slotsLoadsCard

/-- THE TIED CARD OF 'tithelaw03.SlotsTwins'. -/
def slotsTwinsCard : Claim7 := { stood := { row := slotsTwinsRow, standIns := [], harness := (true, "d793035f9c390ebfcc712e8d9b3857fb57cf296fd20077a35ab15725331295ec"), looks := true }, kinds := [], alts := [], laidByText := true, laidKinds := [.handle], laidTests := true, laidLooks := .later }
def SlotsTwinsCardSaid : Prop := Claim7.holds Tryd.pinned (.plain (OpenSpec.ofChange slotsTwinsSpec)) slotsTwinsCard

/-- THE TIED CARD OF 'tithelaw09.TreePlays'. -/
def treePlaysCard : Claim7 := { stood := { row := treePlaysRow, standIns := [], harness := (true, "d793035f9c390ebfcc712e8d9b3857fb57cf296fd20077a35ab15725331295ec"), looks := true }, kinds := [], alts := [], laidByText := true, laidKinds := [.handle], laidTests := true, laidLooks := .later }
def TreePlaysCardSaid : Prop := Claim7.holds Tryd.pinned (.plain (OpenSpec.ofChange treePlaysSpec)) treePlaysCard

/-- THE SECOND FORM's CARD OF 'tithelaw03.SlotsNews'. -/
def slotsNewsUptoCard : Claim7 := { stood := { row := slotsNewsUptoRow, standIns := [], harness := (true, "d793035f9c390ebfcc712e8d9b3857fb57cf296fd20077a35ab15725331295ec"), looks := true }, kinds := [], alts := [], laidByText := true, laidKinds := [.handle], laidTests := true, laidLooks := .later }
def SlotsNewsUptoCardSaid : Prop := Claim7.holds Tryd.pinned (.plain (OpenSpec.upto slotsNewsSpec)) slotsNewsUptoCard

/-- THE SECOND FORM's CARD OF 'tithelaw03.SlotsOnce'. -/
def slotsOnceUptoCard : Claim7 := { stood := { row := slotsOnceUptoRow, standIns := [], harness := (true, "d793035f9c390ebfcc712e8d9b3857fb57cf296fd20077a35ab15725331295ec"), looks := true }, kinds := [], alts := [], laidByText := true, laidKinds := [.handle], laidTests := true, laidLooks := .later }
def SlotsOnceUptoCardSaid : Prop := Claim7.holds Tryd.pinned (.plain (OpenSpec.upto slotsOnceSpec)) slotsOnceUptoCard

/-- THE SECOND FORM's CARD OF 'tithelaw03.SlotsPlays'. -/
def slotsPlaysUptoCard : Claim7 := { stood := { row := slotsPlaysUptoRow, standIns := [], harness := (true, "d793035f9c390ebfcc712e8d9b3857fb57cf296fd20077a35ab15725331295ec"), looks := true }, kinds := [], alts := [], laidByText := true, laidKinds := [.handle], laidTests := true, laidLooks := .later }
def SlotsPlaysUptoCardSaid : Prop := Claim7.holds Tryd.pinned (.plain (OpenSpec.upto slotsPlaysSpec)) slotsPlaysUptoCard

/-- THE SECOND FORM's CARD OF 'tithelaw03.SlotsLoads'. -/
def slotsLoadsUptoCard : Claim7 := { stood := { row := slotsLoadsUptoRow, standIns := [], harness := (true, "d793035f9c390ebfcc712e8d9b3857fb57cf296fd20077a35ab15725331295ec"), looks := true }, kinds := [], alts := [], laidByText := true, laidKinds := [.handle], laidTests := true, laidLooks := .later }
def SlotsLoadsUptoCardSaid : Prop := Claim7.holds Tryd.pinned (.plain (OpenSpec.upto slotsLoadsSpec)) slotsLoadsUptoCard

/-- THE SECOND FORM's CARD OF 'tithelaw03.SlotsTwins'. -/
def slotsTwinsUptoCard : Claim7 := { stood := { row := slotsTwinsUptoRow, standIns := [], harness := (true, "d793035f9c390ebfcc712e8d9b3857fb57cf296fd20077a35ab15725331295ec"), looks := true }, kinds := [], alts := [], laidByText := true, laidKinds := [.handle], laidTests := true, laidLooks := .later }
def SlotsTwinsUptoCardSaid : Prop := Claim7.holds Tryd.pinned (.plain (OpenSpec.upto slotsTwinsSpec)) slotsTwinsUptoCard

/-- THE SECOND FORM's CARD OF 'tithelaw09.TreePlays'. -/
def treePlaysUptoCard : Claim7 := { stood := { row := treePlaysUptoRow, standIns := [], harness := (true, "d793035f9c390ebfcc712e8d9b3857fb57cf296fd20077a35ab15725331295ec"), looks := true }, kinds := [], alts := [], laidByText := true, laidKinds := [.handle], laidTests := true, laidLooks := .later }
def TreePlaysUptoCardSaid : Prop := Claim7.holds Tryd.pinned (.plain (OpenSpec.upto treePlaysSpec)) treePlaysUptoCard
end Rows
end Go.Proofs.YtgjlkplieoajlaaDoor
