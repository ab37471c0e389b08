/-
  DERIVED. GIVEN WITH THE SEED: THE CARDS: each row of YtkfjlkpickeobaaDoorRows.lean that lists a variable, with what it lists TIED to the program's text (the seventh form; the later family's looks); each row that meets fmt, with fmt's text TOLD by the authors' own Lean function (tested against real Go, not proved from fmt's source: count such statements apart). THE CARD IS WHAT COUNTS. Prove the row's statement (the work); the ties are given (YtkfjlkpickeobaaDoorTie.lean); close each card by the builder's one call (the guide's Derived/Test/ToyasCard.lean, 'card_holds'). Laid BY PROGRAM, IN A SANDBOX (cutbox-door.mjs). By AI agents, Wed Nov 11 2026. No macro, syntax, notation, axiom, sorry.
-/
import Derived.Test.YtkfjlkpickeobaaDoorRows
import GoSem.ClaimSeven
namespace Go.Proofs.YtkfjlkpickeobaaDoor
namespace Rows

/-- THE TIED CARD OF 'tithelaw12.TaskPushes'. -/
def taskPushesCard : Claim7 := { stood := { row := taskPushesRow, standIns := [], harness := (true, "511aa2a7e85e662038b588ddeecf4cf80b629a186d860d8e764fcde2622c5094"), looks := true }, kinds := [], alts := [], laidByText := true, laidKinds := [.data, .data, .data], laidTests := true, laidLooks := .later }
def TaskPushesCardSaid : Prop := Claim7.holds Tryd.pinned (.plain (OpenSpec.ofChange taskPushesSpec)) taskPushesCard

/-- THE TIED CARD OF 'tithelaw12.TaskRuns'. -/
def taskRunsCard : Claim7 := { stood := { row := taskRunsRow, standIns := [], harness := (true, "511aa2a7e85e662038b588ddeecf4cf80b629a186d860d8e764fcde2622c5094"), looks := true }, kinds := [], alts := [], laidByText := true, laidKinds := [.data, .data, .data], laidTests := true, laidLooks := .later }
def TaskRunsCardSaid : Prop := Claim7.holds Tryd.pinned (.plain (OpenSpec.ofChange taskRunsSpec)) taskRunsCard

/-- THE TIED CARD OF 'tithelaw12.TaskOwn'. -/
def taskOwnCard : Claim7 := { stood := { row := taskOwnRow, standIns := [], harness := (true, "511aa2a7e85e662038b588ddeecf4cf80b629a186d860d8e764fcde2622c5094"), looks := true }, kinds := [], alts := [], laidByText := true, laidKinds := [.data, .data, .data], laidTests := true, laidLooks := .later }
def TaskOwnCardSaid : Prop := Claim7.holds Tryd.pinned (.plain (OpenSpec.ofChange taskOwnSpec)) taskOwnCard

/-- THE TIED CARD OF 'tithelaw12.TaskNext'. -/
def taskNextCard : Claim7 := { stood := { row := taskNextRow, standIns := [], harness := (true, "511aa2a7e85e662038b588ddeecf4cf80b629a186d860d8e764fcde2622c5094"), looks := true }, kinds := [], alts := [], laidByText := true, laidKinds := [.data, .data, .data], laidTests := true, laidLooks := .later }
def TaskNextCardSaid : Prop := Claim7.holds Tryd.pinned (.plain (OpenSpec.ofChange taskNextSpec)) taskNextCard

/-- THE TIED CARD OF 'tithelaw12.TaskEnds'. -/
def taskEndsCard : Claim7 := { stood := { row := taskEndsRow, standIns := [], harness := (true, "511aa2a7e85e662038b588ddeecf4cf80b629a186d860d8e764fcde2622c5094"), looks := true }, kinds := [], alts := [], laidByText := true, laidKinds := [.data, .data, .data], laidTests := true, laidLooks := .later }
def TaskEndsCardSaid : Prop := Claim7.holds Tryd.pinned (.plain (OpenSpec.ofChange taskEndsSpec)) taskEndsCard

/-- THE TIED CARD OF 'tithelaw12.TaskMakes'. -/
def taskMakesCard : Claim7 := { stood := { row := taskMakesRow, standIns := [], harness := (true, "511aa2a7e85e662038b588ddeecf4cf80b629a186d860d8e764fcde2622c5094"), looks := true }, kinds := [], alts := [], laidByText := true, laidKinds := [.data, .data, .data], laidTests := true, laidLooks := .later }
def TaskMakesCardSaid : Prop := Claim7.holds Tryd.pinned (.plain (OpenSpec.ofChange taskMakesSpec)) taskMakesCard

/-- THE TIED CARD OF 'tithelaw12.TaskAsks'. -/
def taskAsksCard : Claim7 := { stood := { row := taskAsksRow, standIns := [], harness := (true, "511aa2a7e85e662038b588ddeecf4cf80b629a186d860d8e764fcde2622c5094"), looks := true }, kinds := [], alts := [], laidByText := true, laidKinds := [.data, .data, .data], laidTests := true, laidLooks := .later }
def TaskAsksCardSaid : Prop := Claim7.holds Tryd.pinned (.plain (OpenSpec.ofChange taskAsksSpec)) taskAsksCard

/-- THE SECOND FORM's CARD OF 'tithelaw12.TaskPushes'. -/
def taskPushesUptoCard : Claim7 := { stood := { row := taskPushesUptoRow, standIns := [], harness := (true, "511aa2a7e85e662038b588ddeecf4cf80b629a186d860d8e764fcde2622c5094"), looks := true }, kinds := [], alts := [], laidByText := true, laidKinds := [.data, .data, .data], laidTests := true, laidLooks := .later }
def TaskPushesUptoCardSaid : Prop := Claim7.holds Tryd.pinned (.plain (OpenSpec.upto taskPushesSpec)) taskPushesUptoCard

/-- THE SECOND FORM's CARD OF 'tithelaw12.TaskRuns'. -/
def taskRunsUptoCard : Claim7 := { stood := { row := taskRunsUptoRow, standIns := [], harness := (true, "511aa2a7e85e662038b588ddeecf4cf80b629a186d860d8e764fcde2622c5094"), looks := true }, kinds := [], alts := [], laidByText := true, laidKinds := [.data, .data, .data], laidTests := true, laidLooks := .later }
def TaskRunsUptoCardSaid : Prop := Claim7.holds Tryd.pinned (.plain (OpenSpec.upto taskRunsSpec)) taskRunsUptoCard

/-- THE SECOND FORM's CARD OF 'tithelaw12.TaskOwn'. -/
def taskOwnUptoCard : Claim7 := { stood := { row := taskOwnUptoRow, standIns := [], harness := (true, "511aa2a7e85e662038b588ddeecf4cf80b629a186d860d8e764fcde2622c5094"), looks := true }, kinds := [], alts := [], laidByText := true, laidKinds := [.data, .data, .data], laidTests := true, laidLooks := .later }
def TaskOwnUptoCardSaid : Prop := Claim7.holds Tryd.pinned (.plain (OpenSpec.upto taskOwnSpec)) taskOwnUptoCard

/-- THE SECOND FORM's CARD OF 'tithelaw12.TaskNext'. -/
def taskNextUptoCard : Claim7 := { stood := { row := taskNextUptoRow, standIns := [], harness := (true, "511aa2a7e85e662038b588ddeecf4cf80b629a186d860d8e764fcde2622c5094"), looks := true }, kinds := [], alts := [], laidByText := true, laidKinds := [.data, .data, .data], laidTests := true, laidLooks := .later }
def TaskNextUptoCardSaid : Prop := Claim7.holds Tryd.pinned (.plain (OpenSpec.upto taskNextSpec)) taskNextUptoCard

/-- THE SECOND FORM's CARD OF 'tithelaw12.TaskEnds'. -/
def taskEndsUptoCard : Claim7 := { stood := { row := taskEndsUptoRow, standIns := [], harness := (true, "511aa2a7e85e662038b588ddeecf4cf80b629a186d860d8e764fcde2622c5094"), looks := true }, kinds := [], alts := [], laidByText := true, laidKinds := [.data, .data, .data], laidTests := true, laidLooks := .later }
def TaskEndsUptoCardSaid : Prop := Claim7.holds Tryd.pinned (.plain (OpenSpec.upto taskEndsSpec)) taskEndsUptoCard

/-- THE SECOND FORM's CARD OF 'tithelaw12.TaskMakes'. -/
def taskMakesUptoCard : Claim7 := { stood := { row := taskMakesUptoRow, standIns := [], harness := (true, "511aa2a7e85e662038b588ddeecf4cf80b629a186d860d8e764fcde2622c5094"), looks := true }, kinds := [], alts := [], laidByText := true, laidKinds := [.data, .data, .data], laidTests := true, laidLooks := .later }
def TaskMakesUptoCardSaid : Prop := Claim7.holds Tryd.pinned (.plain (OpenSpec.upto taskMakesSpec)) taskMakesUptoCard

/-- THE SECOND FORM's CARD OF 'tithelaw12.TaskAsks'. -/
def taskAsksUptoCard : Claim7 := { stood := { row := taskAsksUptoRow, standIns := [], harness := (true, "511aa2a7e85e662038b588ddeecf4cf80b629a186d860d8e764fcde2622c5094"), looks := true }, kinds := [], alts := [], laidByText := true, laidKinds := [.data, .data, .data], laidTests := true, laidLooks := .later }
def TaskAsksUptoCardSaid : Prop := Claim7.holds Tryd.pinned (.plain (OpenSpec.upto taskAsksSpec)) taskAsksUptoCard
end Rows
end Go.Proofs.YtkfjlkpickeobaaDoor
