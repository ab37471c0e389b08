/-
  NARROWER THAN 'FOR EVERY INPUT', by the rows' own cells (each row's printed sentence says how): BudgetNews: laid · FixedShares: laid · BudgetTakes: laid · FixedMosts: laid · FixedCompares: laid · BudgetResizes: laid · BudgetCrosses: laid · FixedSums: laid · FixedTexts: laid · FixedReads: laid.
  DERIVED. THE GIVEN ROWS OF THIS SEAT. 10 by the template 'for every input the law returns true; each argument reads behind the call as it read before'; 0 by the template 'total and deterministic' (their statements: YtggcahcdhjnemaaDoorTotals.lean).
  GIVEN WITH THE SEED: the statements are not yours to turn. If you find one false, say at which input.
  Laid BY PROGRAM, IN A SANDBOX (cutbox-rows.mjs): the forced cells as the released guide's own fill.sh prints them over the translation 893f5f21c353323b… (all of the seat's roots in one cut). By AI agents, Wed Nov 11 2026. No macro, syntax, notation, axiom, sorry.
-/
import Derived.Test.YtggcahcdhjnemaaDoorChecked
import GoSem.Claim
import GoSem.ClaimJoined
import GoSem.ClaimMapViews
import Derived.JoinedTies
import Derived.KernelRfl
namespace Go.Proofs.YtggcahcdhjnemaaDoor
/- THE CELL 'sum', in the pinned program and in every row, IS THE sha256 OF THE DUMP (.gsa) THAT YtggcahcdhjnemaaDoorProg.lean LOADS. Nothing in Lean hashes anything: it is a label: what it is worth is what the hold of that sum in a sandbox is worth. -/
noncomputable def Tryd.pinned : Pinned := { name := "ytggcahcdhjnemaadoor", sum := "893f5f21c353323bba48c7063db042094ec25b2038708502e327420fa1ecbf65", checked := Tryd.checked }
namespace Rows
def none {H : Type} : Left H := { results := [], args := [] }

/- WHAT THE LISTED PACKAGE-LEVEL VARIABLES READ AS WHEN THE CALL BEGINS. Each datum BY PROGRAM (the guide's laid-datum.mjs) off the statement by which the dump's own 'gosem.cut.vars' lays the variable. In a bare row this is a premise. The card (YtggcahcdhjnemaaDoorCards.lean) ties it to the program's text. -/
def laid_errors_errorType {H : Type} : DataW H := .iface "internal/reflectlite.rtype" (.agg [.ptr (.lit (.string [101, 114, 114, 111, 114]))])

/-- 'tithelaw07.BudgetNews': WHATEVER THE INPUT: true; the input reads as it did. -/
def budgetNewsSpec : ChangeSpec := { name := "budgetNews", fn := fun _ => fun
  | [d1, d2] => { results := [.lit (.bool true)], args := [d1, d2] }
  | _ => none }
def budgetNewsRow : OpenClaim := { program := "ytggcahcdhjnemaadoor", sum := "893f5f21c353323bba48c7063db042094ec25b2038708502e327420fa1ecbf65", func := "tithe/tithelaw07.BudgetNews", spec := "budgetNews", inPlace := ["internal/reflectlite.ValueOf", "(internal/reflectlite.Value).Type", "(internal/reflectlite.Value).IsNil", "internal/reflectlite.TypeOf", "(internal/reflectlite.Value).Elem", "(internal/reflectlite.Value).Set"], unfollowed := true, recurses := true, named := ["errors.errorType"], apart := false, laid := [("errors.errorType", laid_errors_errorType)] }
def BudgetNewsSaid : Prop := budgetNewsRow.holds Tryd.pinned (OpenSpec.ofChange budgetNewsSpec)

/-- ITS FALSE NEIGHBOUR: 'it returns false'. Refute it at one input. -/
def budgetNewsWrong : ChangeSpec := { name := "budgetNews", fn := fun _ => fun
  | [d1, d2] => { results := [.lit (.bool false)], args := [d1, d2] }
  | _ => none }
def BudgetNewsWrongFalsely : Prop := budgetNewsRow.holds Tryd.pinned (OpenSpec.ofChange budgetNewsWrong)

/-- 'tithelaw01.FixedShares': WHATEVER THE INPUT: true; the input reads as it did. -/
def fixedSharesSpec : ChangeSpec := { name := "fixedShares", fn := fun _ => fun
  | [d] => { results := [.lit (.bool true)], args := [d] }
  | _ => none }
def fixedSharesRow : OpenClaim := { program := "ytggcahcdhjnemaadoor", sum := "893f5f21c353323bba48c7063db042094ec25b2038708502e327420fa1ecbf65", func := "tithe/tithelaw01.FixedShares", spec := "fixedShares", inPlace := ["internal/reflectlite.ValueOf", "(internal/reflectlite.Value).Type", "(internal/reflectlite.Value).IsNil", "internal/reflectlite.TypeOf", "(internal/reflectlite.Value).Elem", "(internal/reflectlite.Value).Set", "internal/abi.NoEscape"], unfollowed := true, recurses := true, named := ["errors.errorType"], apart := false, laid := [("errors.errorType", laid_errors_errorType)] }
def FixedSharesSaid : Prop := fixedSharesRow.holds Tryd.pinned (OpenSpec.ofChange fixedSharesSpec)

/-- ITS FALSE NEIGHBOUR: 'it returns false'. Refute it at one input. -/
def fixedSharesWrong : ChangeSpec := { name := "fixedShares", fn := fun _ => fun
  | [d] => { results := [.lit (.bool false)], args := [d] }
  | _ => none }
def FixedSharesWrongFalsely : Prop := fixedSharesRow.holds Tryd.pinned (OpenSpec.ofChange fixedSharesWrong)

/-- 'tithelaw07.BudgetTakes': WHATEVER THE INPUT: true; the input reads as it did. -/
def budgetTakesSpec : ChangeSpec := { name := "budgetTakes", fn := fun _ => fun
  | [d] => { results := [.lit (.bool true)], args := [d] }
  | _ => none }
def budgetTakesRow : OpenClaim := { program := "ytggcahcdhjnemaadoor", sum := "893f5f21c353323bba48c7063db042094ec25b2038708502e327420fa1ecbf65", func := "tithe/tithelaw07.BudgetTakes", spec := "budgetTakes", inPlace := ["internal/reflectlite.ValueOf", "(internal/reflectlite.Value).Type", "(internal/reflectlite.Value).IsNil", "internal/reflectlite.TypeOf", "(internal/reflectlite.Value).Elem", "(internal/reflectlite.Value).Set"], unfollowed := true, recurses := true, named := ["errors.errorType"], apart := false, laid := [("errors.errorType", laid_errors_errorType)] }
def BudgetTakesSaid : Prop := budgetTakesRow.holds Tryd.pinned (OpenSpec.ofChange budgetTakesSpec)

/-- ITS FALSE NEIGHBOUR: 'it returns false'. Refute it at one input. -/
def budgetTakesWrong : ChangeSpec := { name := "budgetTakes", fn := fun _ => fun
  | [d] => { results := [.lit (.bool false)], args := [d] }
  | _ => none }
def BudgetTakesWrongFalsely : Prop := budgetTakesRow.holds Tryd.pinned (OpenSpec.ofChange budgetTakesWrong)

/-- 'tithelaw01.FixedMosts': WHATEVER THE INPUT: true; the input reads as it did. -/
def fixedMostsSpec : ChangeSpec := { name := "fixedMosts", fn := fun _ => fun
  | [d1, d2] => { results := [.lit (.bool true)], args := [d1, d2] }
  | _ => none }
def fixedMostsRow : OpenClaim := { program := "ytggcahcdhjnemaadoor", sum := "893f5f21c353323bba48c7063db042094ec25b2038708502e327420fa1ecbf65", func := "tithe/tithelaw01.FixedMosts", spec := "fixedMosts", inPlace := ["internal/reflectlite.ValueOf", "(internal/reflectlite.Value).Type", "(internal/reflectlite.Value).IsNil", "internal/reflectlite.TypeOf", "(internal/reflectlite.Value).Elem", "(internal/reflectlite.Value).Set", "internal/abi.NoEscape"], unfollowed := true, recurses := true, named := ["errors.errorType"], apart := false, laid := [("errors.errorType", laid_errors_errorType)] }
def FixedMostsSaid : Prop := fixedMostsRow.holds Tryd.pinned (OpenSpec.ofChange fixedMostsSpec)

/-- ITS FALSE NEIGHBOUR: 'it returns false'. Refute it at one input. -/
def fixedMostsWrong : ChangeSpec := { name := "fixedMosts", fn := fun _ => fun
  | [d1, d2] => { results := [.lit (.bool false)], args := [d1, d2] }
  | _ => none }
def FixedMostsWrongFalsely : Prop := fixedMostsRow.holds Tryd.pinned (OpenSpec.ofChange fixedMostsWrong)

/-- 'tithelaw01.FixedCompares': WHATEVER THE INPUT: true; the input reads as it did. -/
def fixedComparesSpec : ChangeSpec := { name := "fixedCompares", fn := fun _ => fun
  | [d1, d2] => { results := [.lit (.bool true)], args := [d1, d2] }
  | _ => none }
def fixedComparesRow : OpenClaim := { program := "ytggcahcdhjnemaadoor", sum := "893f5f21c353323bba48c7063db042094ec25b2038708502e327420fa1ecbf65", func := "tithe/tithelaw01.FixedCompares", spec := "fixedCompares", inPlace := ["internal/reflectlite.ValueOf", "(internal/reflectlite.Value).Type", "(internal/reflectlite.Value).IsNil", "internal/reflectlite.TypeOf", "(internal/reflectlite.Value).Elem", "(internal/reflectlite.Value).Set", "internal/abi.NoEscape"], unfollowed := true, recurses := true, named := ["errors.errorType"], apart := false, laid := [("errors.errorType", laid_errors_errorType)] }
def FixedComparesSaid : Prop := fixedComparesRow.holds Tryd.pinned (OpenSpec.ofChange fixedComparesSpec)

/-- ITS FALSE NEIGHBOUR: 'it returns false'. Refute it at one input. -/
def fixedComparesWrong : ChangeSpec := { name := "fixedCompares", fn := fun _ => fun
  | [d1, d2] => { results := [.lit (.bool false)], args := [d1, d2] }
  | _ => none }
def FixedComparesWrongFalsely : Prop := fixedComparesRow.holds Tryd.pinned (OpenSpec.ofChange fixedComparesWrong)

/-- 'tithelaw07.BudgetResizes': WHATEVER THE INPUT: true; the input reads as it did. -/
def budgetResizesSpec : ChangeSpec := { name := "budgetResizes", fn := fun _ => fun
  | [d1, d2] => { results := [.lit (.bool true)], args := [d1, d2] }
  | _ => none }
def budgetResizesRow : OpenClaim := { program := "ytggcahcdhjnemaadoor", sum := "893f5f21c353323bba48c7063db042094ec25b2038708502e327420fa1ecbf65", func := "tithe/tithelaw07.BudgetResizes", spec := "budgetResizes", inPlace := ["internal/reflectlite.ValueOf", "(internal/reflectlite.Value).Type", "(internal/reflectlite.Value).IsNil", "internal/reflectlite.TypeOf", "(internal/reflectlite.Value).Elem", "(internal/reflectlite.Value).Set"], unfollowed := true, recurses := true, named := ["errors.errorType"], apart := false, laid := [("errors.errorType", laid_errors_errorType)] }
def BudgetResizesSaid : Prop := budgetResizesRow.holds Tryd.pinned (OpenSpec.ofChange budgetResizesSpec)

/-- ITS FALSE NEIGHBOUR: 'it returns false'. Refute it at one input. -/
def budgetResizesWrong : ChangeSpec := { name := "budgetResizes", fn := fun _ => fun
  | [d1, d2] => { results := [.lit (.bool false)], args := [d1, d2] }
  | _ => none }
def BudgetResizesWrongFalsely : Prop := budgetResizesRow.holds Tryd.pinned (OpenSpec.ofChange budgetResizesWrong)

/-- 'tithelaw07.BudgetCrosses': WHATEVER THE INPUT: true; the input reads as it did. -/
def budgetCrossesSpec : ChangeSpec := { name := "budgetCrosses", fn := fun _ => fun
  | [d1, d2] => { results := [.lit (.bool true)], args := [d1, d2] }
  | _ => none }
def budgetCrossesRow : OpenClaim := { program := "ytggcahcdhjnemaadoor", sum := "893f5f21c353323bba48c7063db042094ec25b2038708502e327420fa1ecbf65", func := "tithe/tithelaw07.BudgetCrosses", spec := "budgetCrosses", inPlace := ["internal/reflectlite.ValueOf", "(internal/reflectlite.Value).Type", "(internal/reflectlite.Value).IsNil", "internal/reflectlite.TypeOf", "(internal/reflectlite.Value).Elem", "(internal/reflectlite.Value).Set"], unfollowed := true, recurses := true, named := ["errors.errorType"], apart := false, laid := [("errors.errorType", laid_errors_errorType)] }
def BudgetCrossesSaid : Prop := budgetCrossesRow.holds Tryd.pinned (OpenSpec.ofChange budgetCrossesSpec)

/-- ITS FALSE NEIGHBOUR: 'it returns false'. Refute it at one input. -/
def budgetCrossesWrong : ChangeSpec := { name := "budgetCrosses", fn := fun _ => fun
  | [d1, d2] => { results := [.lit (.bool false)], args := [d1, d2] }
  | _ => none }
def BudgetCrossesWrongFalsely : Prop := budgetCrossesRow.holds Tryd.pinned (OpenSpec.ofChange budgetCrossesWrong)

/-- 'tithelaw01.FixedSums': WHATEVER THE INPUT: true; the input reads as it did. -/
def fixedSumsSpec : ChangeSpec := { name := "fixedSums", fn := fun _ => fun
  | [d1, d2] => { results := [.lit (.bool true)], args := [d1, d2] }
  | _ => none }
def fixedSumsRow : OpenClaim := { program := "ytggcahcdhjnemaadoor", sum := "893f5f21c353323bba48c7063db042094ec25b2038708502e327420fa1ecbf65", func := "tithe/tithelaw01.FixedSums", spec := "fixedSums", inPlace := ["internal/reflectlite.ValueOf", "(internal/reflectlite.Value).Type", "(internal/reflectlite.Value).IsNil", "internal/reflectlite.TypeOf", "(internal/reflectlite.Value).Elem", "(internal/reflectlite.Value).Set", "internal/abi.NoEscape"], unfollowed := true, recurses := true, named := ["errors.errorType"], apart := false, laid := [("errors.errorType", laid_errors_errorType)] }
def FixedSumsSaid : Prop := fixedSumsRow.holds Tryd.pinned (OpenSpec.ofChange fixedSumsSpec)

/-- ITS FALSE NEIGHBOUR: 'it returns false'. Refute it at one input. -/
def fixedSumsWrong : ChangeSpec := { name := "fixedSums", fn := fun _ => fun
  | [d1, d2] => { results := [.lit (.bool false)], args := [d1, d2] }
  | _ => none }
def FixedSumsWrongFalsely : Prop := fixedSumsRow.holds Tryd.pinned (OpenSpec.ofChange fixedSumsWrong)

/-- 'tithelaw01.FixedTexts': WHATEVER THE INPUT: true; the input reads as it did. -/
def fixedTextsSpec : ChangeSpec := { name := "fixedTexts", fn := fun _ => fun
  | [d] => { results := [.lit (.bool true)], args := [d] }
  | _ => none }
def fixedTextsRow : OpenClaim := { program := "ytggcahcdhjnemaadoor", sum := "893f5f21c353323bba48c7063db042094ec25b2038708502e327420fa1ecbf65", func := "tithe/tithelaw01.FixedTexts", spec := "fixedTexts", inPlace := ["internal/abi.NoEscape", "internal/reflectlite.ValueOf", "(internal/reflectlite.Value).Type", "(internal/reflectlite.Value).IsNil", "internal/reflectlite.TypeOf", "(internal/reflectlite.Value).Elem", "(internal/reflectlite.Value).Set", "internal/bytealg.IndexByteString", "internal/bytealg.IndexString"], unfollowed := true, recurses := true, named := ["errors.errorType", "internal/bytealg.MaxLen"], apart := false, laid := [("errors.errorType", laid_errors_errorType)] }
def FixedTextsSaid : Prop := fixedTextsRow.holds Tryd.pinned (OpenSpec.ofChange fixedTextsSpec)

/-- ITS FALSE NEIGHBOUR: 'it returns false'. Refute it at one input. -/
def fixedTextsWrong : ChangeSpec := { name := "fixedTexts", fn := fun _ => fun
  | [d] => { results := [.lit (.bool false)], args := [d] }
  | _ => none }
def FixedTextsWrongFalsely : Prop := fixedTextsRow.holds Tryd.pinned (OpenSpec.ofChange fixedTextsWrong)

/-- 'tithelaw01.FixedReads': WHATEVER THE INPUT: true; the input reads as it did. -/
def fixedReadsSpec : ChangeSpec := { name := "fixedReads", fn := fun _ => fun
  | [d] => { results := [.lit (.bool true)], args := [d] }
  | _ => none }
def fixedReadsRow : OpenClaim := { program := "ytggcahcdhjnemaadoor", sum := "893f5f21c353323bba48c7063db042094ec25b2038708502e327420fa1ecbf65", func := "tithe/tithelaw01.FixedReads", spec := "fixedReads", inPlace := ["internal/bytealg.IndexByteString", "internal/bytealg.IndexString", "internal/abi.NoEscape", "internal/reflectlite.ValueOf", "(internal/reflectlite.Value).Type", "(internal/reflectlite.Value).IsNil", "internal/reflectlite.TypeOf", "(internal/reflectlite.Value).Elem", "(internal/reflectlite.Value).Set"], unfollowed := true, recurses := true, named := ["internal/bytealg.MaxLen", "errors.errorType"], apart := false, laid := [("errors.errorType", laid_errors_errorType)] }
def FixedReadsSaid : Prop := fixedReadsRow.holds Tryd.pinned (OpenSpec.ofChange fixedReadsSpec)

/-- ITS FALSE NEIGHBOUR: 'it returns false'. Refute it at one input. -/
def fixedReadsWrong : ChangeSpec := { name := "fixedReads", fn := fun _ => fun
  | [d] => { results := [.lit (.bool false)], args := [d] }
  | _ => none }
def FixedReadsWrongFalsely : Prop := fixedReadsRow.holds Tryd.pinned (OpenSpec.ofChange fixedReadsWrong)

/- THE SECOND FORM. 'bulk': how many values and letters a reading holds, each counted each time it is reached (what is shared counts as often as it is met; a slice's spare places count too). A statement '..UptoSaid' is the law's where the arguments, and the package variables that the reading takes, are together of bulk at most 1048576: NARROWER than '..Said'. Prove '..Said' where nothing that the law and all that it calls make is longer than what came in: it says more and counts as full. Else prove '..UptoSaid'. A law counts once. -/
mutual
def uptoBulk {H : Type} : DataW H → Nat
  | .lit (.string bytes) => bytes.length + 1
  | .lit _ => 1
  | .nil => 1
  | .ptr d => uptoBulk d + 1
  | .slice elems spare => uptoBulkAll elems + uptoBulkAll spare + 1
  | .agg parts => uptoBulkAll parts + 1
  | .iface _ d => uptoBulk d + 1
  | .map entries => uptoBulkEntries entries + 1
  | .held _ => 1
def uptoBulkAll {H : Type} : List (DataW H) → Nat
  | [] => 0
  | d :: r => uptoBulk d + uptoBulkAll r
def uptoBulkEntries {H : Type} : List (Lit × DataW H) → Nat
  | [] => 0
  | x :: r => uptoBulkEntry x + uptoBulkEntries r
def uptoBulkEntry {H : Type} : Lit × DataW H → Nat
  | (.string bytes, d) => bytes.length + uptoBulk d + 1
  | (_, d) => uptoBulk d + 1
 end
def uptoSmall : (H : Type) → List (DataW H) → Bool := fun _ ds => decide (uptoBulkAll ds ≤ 1048576)
def OpenSpec.upto (s : _root_.Go.ChangeSpec) : _root_.Go.OpenSpec := { _root_.Go.OpenSpec.ofChange s with cond := some uptoSmall }

/-- 'tithelaw07.BudgetNews', WHERE WHAT IT READS IS OF BULK AT MOST 1048576: true; the input reads as it did. -/
def budgetNewsUptoRow : OpenClaim := { program := "ytggcahcdhjnemaadoor", sum := "893f5f21c353323bba48c7063db042094ec25b2038708502e327420fa1ecbf65", func := "tithe/tithelaw07.BudgetNews", spec := "budgetNews", inPlace := ["internal/reflectlite.ValueOf", "(internal/reflectlite.Value).Type", "(internal/reflectlite.Value).IsNil", "internal/reflectlite.TypeOf", "(internal/reflectlite.Value).Elem", "(internal/reflectlite.Value).Set"], unfollowed := true, recurses := true, named := ["errors.errorType"], apart := false, laid := [("errors.errorType", laid_errors_errorType)], narrowed := true }
def BudgetNewsUptoSaid : Prop := budgetNewsUptoRow.holds Tryd.pinned (OpenSpec.upto budgetNewsSpec)

/-- 'tithelaw01.FixedShares', WHERE WHAT IT READS IS OF BULK AT MOST 1048576: true; the input reads as it did. -/
def fixedSharesUptoRow : OpenClaim := { program := "ytggcahcdhjnemaadoor", sum := "893f5f21c353323bba48c7063db042094ec25b2038708502e327420fa1ecbf65", func := "tithe/tithelaw01.FixedShares", spec := "fixedShares", inPlace := ["internal/reflectlite.ValueOf", "(internal/reflectlite.Value).Type", "(internal/reflectlite.Value).IsNil", "internal/reflectlite.TypeOf", "(internal/reflectlite.Value).Elem", "(internal/reflectlite.Value).Set", "internal/abi.NoEscape"], unfollowed := true, recurses := true, named := ["errors.errorType"], apart := false, laid := [("errors.errorType", laid_errors_errorType)], narrowed := true }
def FixedSharesUptoSaid : Prop := fixedSharesUptoRow.holds Tryd.pinned (OpenSpec.upto fixedSharesSpec)

/-- 'tithelaw07.BudgetTakes', WHERE WHAT IT READS IS OF BULK AT MOST 1048576: true; the input reads as it did. -/
def budgetTakesUptoRow : OpenClaim := { program := "ytggcahcdhjnemaadoor", sum := "893f5f21c353323bba48c7063db042094ec25b2038708502e327420fa1ecbf65", func := "tithe/tithelaw07.BudgetTakes", spec := "budgetTakes", inPlace := ["internal/reflectlite.ValueOf", "(internal/reflectlite.Value).Type", "(internal/reflectlite.Value).IsNil", "internal/reflectlite.TypeOf", "(internal/reflectlite.Value).Elem", "(internal/reflectlite.Value).Set"], unfollowed := true, recurses := true, named := ["errors.errorType"], apart := false, laid := [("errors.errorType", laid_errors_errorType)], narrowed := true }
def BudgetTakesUptoSaid : Prop := budgetTakesUptoRow.holds Tryd.pinned (OpenSpec.upto budgetTakesSpec)

/-- 'tithelaw01.FixedMosts', WHERE WHAT IT READS IS OF BULK AT MOST 1048576: true; the input reads as it did. -/
def fixedMostsUptoRow : OpenClaim := { program := "ytggcahcdhjnemaadoor", sum := "893f5f21c353323bba48c7063db042094ec25b2038708502e327420fa1ecbf65", func := "tithe/tithelaw01.FixedMosts", spec := "fixedMosts", inPlace := ["internal/reflectlite.ValueOf", "(internal/reflectlite.Value).Type", "(internal/reflectlite.Value).IsNil", "internal/reflectlite.TypeOf", "(internal/reflectlite.Value).Elem", "(internal/reflectlite.Value).Set", "internal/abi.NoEscape"], unfollowed := true, recurses := true, named := ["errors.errorType"], apart := false, laid := [("errors.errorType", laid_errors_errorType)], narrowed := true }
def FixedMostsUptoSaid : Prop := fixedMostsUptoRow.holds Tryd.pinned (OpenSpec.upto fixedMostsSpec)

/-- 'tithelaw01.FixedCompares', WHERE WHAT IT READS IS OF BULK AT MOST 1048576: true; the input reads as it did. -/
def fixedComparesUptoRow : OpenClaim := { program := "ytggcahcdhjnemaadoor", sum := "893f5f21c353323bba48c7063db042094ec25b2038708502e327420fa1ecbf65", func := "tithe/tithelaw01.FixedCompares", spec := "fixedCompares", inPlace := ["internal/reflectlite.ValueOf", "(internal/reflectlite.Value).Type", "(internal/reflectlite.Value).IsNil", "internal/reflectlite.TypeOf", "(internal/reflectlite.Value).Elem", "(internal/reflectlite.Value).Set", "internal/abi.NoEscape"], unfollowed := true, recurses := true, named := ["errors.errorType"], apart := false, laid := [("errors.errorType", laid_errors_errorType)], narrowed := true }
def FixedComparesUptoSaid : Prop := fixedComparesUptoRow.holds Tryd.pinned (OpenSpec.upto fixedComparesSpec)

/-- 'tithelaw07.BudgetResizes', WHERE WHAT IT READS IS OF BULK AT MOST 1048576: true; the input reads as it did. -/
def budgetResizesUptoRow : OpenClaim := { program := "ytggcahcdhjnemaadoor", sum := "893f5f21c353323bba48c7063db042094ec25b2038708502e327420fa1ecbf65", func := "tithe/tithelaw07.BudgetResizes", spec := "budgetResizes", inPlace := ["internal/reflectlite.ValueOf", "(internal/reflectlite.Value).Type", "(internal/reflectlite.Value).IsNil", "internal/reflectlite.TypeOf", "(internal/reflectlite.Value).Elem", "(internal/reflectlite.Value).Set"], unfollowed := true, recurses := true, named := ["errors.errorType"], apart := false, laid := [("errors.errorType", laid_errors_errorType)], narrowed := true }
def BudgetResizesUptoSaid : Prop := budgetResizesUptoRow.holds Tryd.pinned (OpenSpec.upto budgetResizesSpec)

/-- 'tithelaw07.BudgetCrosses', WHERE WHAT IT READS IS OF BULK AT MOST 1048576: true; the input reads as it did. -/
def budgetCrossesUptoRow : OpenClaim := { program := "ytggcahcdhjnemaadoor", sum := "893f5f21c353323bba48c7063db042094ec25b2038708502e327420fa1ecbf65", func := "tithe/tithelaw07.BudgetCrosses", spec := "budgetCrosses", inPlace := ["internal/reflectlite.ValueOf", "(internal/reflectlite.Value).Type", "(internal/reflectlite.Value).IsNil", "internal/reflectlite.TypeOf", "(internal/reflectlite.Value).Elem", "(internal/reflectlite.Value).Set"], unfollowed := true, recurses := true, named := ["errors.errorType"], apart := false, laid := [("errors.errorType", laid_errors_errorType)], narrowed := true }
def BudgetCrossesUptoSaid : Prop := budgetCrossesUptoRow.holds Tryd.pinned (OpenSpec.upto budgetCrossesSpec)

/-- 'tithelaw01.FixedSums', WHERE WHAT IT READS IS OF BULK AT MOST 1048576: true; the input reads as it did. -/
def fixedSumsUptoRow : OpenClaim := { program := "ytggcahcdhjnemaadoor", sum := "893f5f21c353323bba48c7063db042094ec25b2038708502e327420fa1ecbf65", func := "tithe/tithelaw01.FixedSums", spec := "fixedSums", inPlace := ["internal/reflectlite.ValueOf", "(internal/reflectlite.Value).Type", "(internal/reflectlite.Value).IsNil", "internal/reflectlite.TypeOf", "(internal/reflectlite.Value).Elem", "(internal/reflectlite.Value).Set", "internal/abi.NoEscape"], unfollowed := true, recurses := true, named := ["errors.errorType"], apart := false, laid := [("errors.errorType", laid_errors_errorType)], narrowed := true }
def FixedSumsUptoSaid : Prop := fixedSumsUptoRow.holds Tryd.pinned (OpenSpec.upto fixedSumsSpec)

/-- 'tithelaw01.FixedTexts', WHERE WHAT IT READS IS OF BULK AT MOST 1048576: true; the input reads as it did. -/
def fixedTextsUptoRow : OpenClaim := { program := "ytggcahcdhjnemaadoor", sum := "893f5f21c353323bba48c7063db042094ec25b2038708502e327420fa1ecbf65", func := "tithe/tithelaw01.FixedTexts", spec := "fixedTexts", inPlace := ["internal/abi.NoEscape", "internal/reflectlite.ValueOf", "(internal/reflectlite.Value).Type", "(internal/reflectlite.Value).IsNil", "internal/reflectlite.TypeOf", "(internal/reflectlite.Value).Elem", "(internal/reflectlite.Value).Set", "internal/bytealg.IndexByteString", "internal/bytealg.IndexString"], unfollowed := true, recurses := true, named := ["errors.errorType", "internal/bytealg.MaxLen"], apart := false, laid := [("errors.errorType", laid_errors_errorType)], narrowed := true }
def FixedTextsUptoSaid : Prop := fixedTextsUptoRow.holds Tryd.pinned (OpenSpec.upto fixedTextsSpec)

/-- 'tithelaw01.FixedReads', WHERE WHAT IT READS IS OF BULK AT MOST 1048576: true; the input reads as it did. -/
def fixedReadsUptoRow : OpenClaim := { program := "ytggcahcdhjnemaadoor", sum := "893f5f21c353323bba48c7063db042094ec25b2038708502e327420fa1ecbf65", func := "tithe/tithelaw01.FixedReads", spec := "fixedReads", inPlace := ["internal/bytealg.IndexByteString", "internal/bytealg.IndexString", "internal/abi.NoEscape", "internal/reflectlite.ValueOf", "(internal/reflectlite.Value).Type", "(internal/reflectlite.Value).IsNil", "internal/reflectlite.TypeOf", "(internal/reflectlite.Value).Elem", "(internal/reflectlite.Value).Set"], unfollowed := true, recurses := true, named := ["internal/bytealg.MaxLen", "errors.errorType"], apart := false, laid := [("errors.errorType", laid_errors_errorType)], narrowed := true }
def FixedReadsUptoSaid : Prop := fixedReadsUptoRow.holds Tryd.pinned (OpenSpec.upto fixedReadsSpec)

end Rows
end Go.Proofs.YtggcahcdhjnemaaDoor
