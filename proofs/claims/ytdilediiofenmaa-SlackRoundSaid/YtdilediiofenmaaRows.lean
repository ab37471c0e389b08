/-
  No cell of these rows narrows 'for every input' (looked for: loops, veiled, ifaces, maps, wideKeys, modest, calm, conditions, laid).
  DERIVED. THE GIVEN ROWS OF THIS SEAT. 5 by the template 'for every input the law returns true; each argument reads behind the call as it read before'; 0 by the template 'total and deterministic' (their statements: YtdilediiofenmaaTotals.lean).
  GIVEN WITH THE SEED: the statements are not yours to turn. If you find one false, say at which input.
  Laid BY PROGRAM, IN A SANDBOX (cutbox-rows.mjs): the forced cells as the released guide's own fill.sh prints them over the translation 4e458788239b9e18… (all of the seat's roots in one cut). By AI agents, Wed Nov 11 2026. No macro, syntax, notation, axiom, sorry.
-/
import Derived.Test.YtdilediiofenmaaChecked
import GoSem.Claim
import GoSem.ClaimJoined
import GoSem.ClaimMapViews
import Derived.JoinedTies
import Derived.KernelRfl
namespace Go.Proofs.Ytdilediiofenmaa
/- THE CELL 'sum', in the pinned program and in every row, IS THE sha256 OF THE DUMP (.gsa) THAT YtdilediiofenmaaProg.lean LOADS. Nothing in Lean hashes anything: it is a label: what it is worth is what the hold of that sum in a sandbox is worth. -/
noncomputable def Try.pinned : Pinned := { name := "ytdilediiofenmaa", sum := "4e458788239b9e18d79d60d68d1743e4b63deaa0e42ad7bd691abdf6e4d4d8d0", checked := Try.checked }
namespace Rows
def none {H : Type} : Left H := { results := [], args := [] }

/-- 'tithelaw14.SlackRound': WHATEVER THE INPUT: true; the input reads as it did. -/
def slackRoundSpec : ChangeSpec := { name := "slackRound", fn := fun _ => fun
  | [d1, d2, d3] => { results := [.lit (.bool true)], args := [d1, d2, d3] }
  | _ => none }
def slackRoundRow : OpenClaim := { program := "ytdilediiofenmaa", sum := "4e458788239b9e18d79d60d68d1743e4b63deaa0e42ad7bd691abdf6e4d4d8d0", func := "tithe/tithelaw14.SlackRound", spec := "slackRound", apart := false }
def SlackRoundSaid : Prop := slackRoundRow.holds Try.pinned (OpenSpec.ofChange slackRoundSpec)

/-- ITS FALSE NEIGHBOUR: 'it returns false'. Refute it at one input. -/
def slackRoundWrong : ChangeSpec := { name := "slackRound", fn := fun _ => fun
  | [d1, d2, d3] => { results := [.lit (.bool false)], args := [d1, d2, d3] }
  | _ => none }
def SlackRoundWrongFalsely : Prop := slackRoundRow.holds Try.pinned (OpenSpec.ofChange slackRoundWrong)

/-- 'tithelaw14.SlackRuns': WHATEVER THE INPUT: true; the input reads as it did. -/
def slackRunsSpec : ChangeSpec := { name := "slackRuns", fn := fun _ => fun
  | [d] => { results := [.lit (.bool true)], args := [d] }
  | _ => none }
def slackRunsRow : OpenClaim := { program := "ytdilediiofenmaa", sum := "4e458788239b9e18d79d60d68d1743e4b63deaa0e42ad7bd691abdf6e4d4d8d0", func := "tithe/tithelaw14.SlackRuns", spec := "slackRuns", apart := false }
def SlackRunsSaid : Prop := slackRunsRow.holds Try.pinned (OpenSpec.ofChange slackRunsSpec)

/-- ITS FALSE NEIGHBOUR: 'it returns false'. Refute it at one input. -/
def slackRunsWrong : ChangeSpec := { name := "slackRuns", fn := fun _ => fun
  | [d] => { results := [.lit (.bool false)], args := [d] }
  | _ => none }
def SlackRunsWrongFalsely : Prop := slackRunsRow.holds Try.pinned (OpenSpec.ofChange slackRunsWrong)

/-- 'tithelaw14.SlackNone': WHATEVER THE INPUT: true; the input reads as it did. -/
def slackNoneSpec : ChangeSpec := { name := "slackNone", fn := fun _ => fun
  | [d1, d2] => { results := [.lit (.bool true)], args := [d1, d2] }
  | _ => none }
def slackNoneRow : OpenClaim := { program := "ytdilediiofenmaa", sum := "4e458788239b9e18d79d60d68d1743e4b63deaa0e42ad7bd691abdf6e4d4d8d0", func := "tithe/tithelaw14.SlackNone", spec := "slackNone", apart := false }
def SlackNoneSaid : Prop := slackNoneRow.holds Try.pinned (OpenSpec.ofChange slackNoneSpec)

/-- ITS FALSE NEIGHBOUR: 'it returns false'. Refute it at one input. -/
def slackNoneWrong : ChangeSpec := { name := "slackNone", fn := fun _ => fun
  | [d1, d2] => { results := [.lit (.bool false)], args := [d1, d2] }
  | _ => none }
def SlackNoneWrongFalsely : Prop := slackNoneRow.holds Try.pinned (OpenSpec.ofChange slackNoneWrong)

/-- 'tithelaw14.SlackTwins': WHATEVER THE INPUT: true; the input reads as it did. -/
def slackTwinsSpec : ChangeSpec := { name := "slackTwins", fn := fun _ => fun
  | [d1, d2] => { results := [.lit (.bool true)], args := [d1, d2] }
  | _ => none }
def slackTwinsRow : OpenClaim := { program := "ytdilediiofenmaa", sum := "4e458788239b9e18d79d60d68d1743e4b63deaa0e42ad7bd691abdf6e4d4d8d0", func := "tithe/tithelaw14.SlackTwins", spec := "slackTwins", apart := false }
def SlackTwinsSaid : Prop := slackTwinsRow.holds Try.pinned (OpenSpec.ofChange slackTwinsSpec)

/-- ITS FALSE NEIGHBOUR: 'it returns false'. Refute it at one input. -/
def slackTwinsWrong : ChangeSpec := { name := "slackTwins", fn := fun _ => fun
  | [d1, d2] => { results := [.lit (.bool false)], args := [d1, d2] }
  | _ => none }
def SlackTwinsWrongFalsely : Prop := slackTwinsRow.holds Try.pinned (OpenSpec.ofChange slackTwinsWrong)

/-- 'tithelaw14.SlackLoads': WHATEVER THE INPUT: true; the input reads as it did. -/
def slackLoadsSpec : ChangeSpec := { name := "slackLoads", fn := fun _ => fun
  | [d1, d2] => { results := [.lit (.bool true)], args := [d1, d2] }
  | _ => none }
def slackLoadsRow : OpenClaim := { program := "ytdilediiofenmaa", sum := "4e458788239b9e18d79d60d68d1743e4b63deaa0e42ad7bd691abdf6e4d4d8d0", func := "tithe/tithelaw14.SlackLoads", spec := "slackLoads", apart := false }
def SlackLoadsSaid : Prop := slackLoadsRow.holds Try.pinned (OpenSpec.ofChange slackLoadsSpec)

/-- ITS FALSE NEIGHBOUR: 'it returns false'. Refute it at one input. -/
def slackLoadsWrong : ChangeSpec := { name := "slackLoads", fn := fun _ => fun
  | [d1, d2] => { results := [.lit (.bool false)], args := [d1, d2] }
  | _ => none }
def SlackLoadsWrongFalsely : Prop := slackLoadsRow.holds Try.pinned (OpenSpec.ofChange slackLoadsWrong)

/- THE SECOND FORM. 'bulk': how many values and letters a reading holds, each counted each time it is reached (what is shared counts as often as it is met; a slice's spare places count too). A statement '..UptoSaid' is the law's where the arguments, and the package variables that the reading takes, are together of bulk at most 1048576: NARROWER than '..Said'. Prove '..Said' where nothing that the law and all that it calls make is longer than what came in: it says more and counts as full. Else prove '..UptoSaid'. A law counts once. -/
mutual
def uptoBulk {H : Type} : DataW H → Nat
  | .lit (.string bytes) => bytes.length + 1
  | .lit _ => 1
  | .nil => 1
  | .ptr d => uptoBulk d + 1
  | .slice elems spare => uptoBulkAll elems + uptoBulkAll spare + 1
  | .agg parts => uptoBulkAll parts + 1
  | .iface _ d => uptoBulk d + 1
  | .map entries => uptoBulkEntries entries + 1
  | .held _ => 1
def uptoBulkAll {H : Type} : List (DataW H) → Nat
  | [] => 0
  | d :: r => uptoBulk d + uptoBulkAll r
def uptoBulkEntries {H : Type} : List (Lit × DataW H) → Nat
  | [] => 0
  | x :: r => uptoBulkEntry x + uptoBulkEntries r
def uptoBulkEntry {H : Type} : Lit × DataW H → Nat
  | (.string bytes, d) => bytes.length + uptoBulk d + 1
  | (_, d) => uptoBulk d + 1
 end
def uptoSmall : (H : Type) → List (DataW H) → Bool := fun _ ds => decide (uptoBulkAll ds ≤ 1048576)
def OpenSpec.upto (s : _root_.Go.ChangeSpec) : _root_.Go.OpenSpec := { _root_.Go.OpenSpec.ofChange s with cond := some uptoSmall }

/-- 'tithelaw14.SlackRound', WHERE WHAT IT READS IS OF BULK AT MOST 1048576: true; the input reads as it did. -/
def slackRoundUptoRow : OpenClaim := { program := "ytdilediiofenmaa", sum := "4e458788239b9e18d79d60d68d1743e4b63deaa0e42ad7bd691abdf6e4d4d8d0", func := "tithe/tithelaw14.SlackRound", spec := "slackRound", apart := false, narrowed := true }
def SlackRoundUptoSaid : Prop := slackRoundUptoRow.holds Try.pinned (OpenSpec.upto slackRoundSpec)

/-- 'tithelaw14.SlackRuns', WHERE WHAT IT READS IS OF BULK AT MOST 1048576: true; the input reads as it did. -/
def slackRunsUptoRow : OpenClaim := { program := "ytdilediiofenmaa", sum := "4e458788239b9e18d79d60d68d1743e4b63deaa0e42ad7bd691abdf6e4d4d8d0", func := "tithe/tithelaw14.SlackRuns", spec := "slackRuns", apart := false, narrowed := true }
def SlackRunsUptoSaid : Prop := slackRunsUptoRow.holds Try.pinned (OpenSpec.upto slackRunsSpec)

/-- 'tithelaw14.SlackNone', WHERE WHAT IT READS IS OF BULK AT MOST 1048576: true; the input reads as it did. -/
def slackNoneUptoRow : OpenClaim := { program := "ytdilediiofenmaa", sum := "4e458788239b9e18d79d60d68d1743e4b63deaa0e42ad7bd691abdf6e4d4d8d0", func := "tithe/tithelaw14.SlackNone", spec := "slackNone", apart := false, narrowed := true }
def SlackNoneUptoSaid : Prop := slackNoneUptoRow.holds Try.pinned (OpenSpec.upto slackNoneSpec)

/-- 'tithelaw14.SlackTwins', WHERE WHAT IT READS IS OF BULK AT MOST 1048576: true; the input reads as it did. -/
def slackTwinsUptoRow : OpenClaim := { program := "ytdilediiofenmaa", sum := "4e458788239b9e18d79d60d68d1743e4b63deaa0e42ad7bd691abdf6e4d4d8d0", func := "tithe/tithelaw14.SlackTwins", spec := "slackTwins", apart := false, narrowed := true }
def SlackTwinsUptoSaid : Prop := slackTwinsUptoRow.holds Try.pinned (OpenSpec.upto slackTwinsSpec)

/-- 'tithelaw14.SlackLoads', WHERE WHAT IT READS IS OF BULK AT MOST 1048576: true; the input reads as it did. -/
def slackLoadsUptoRow : OpenClaim := { program := "ytdilediiofenmaa", sum := "4e458788239b9e18d79d60d68d1743e4b63deaa0e42ad7bd691abdf6e4d4d8d0", func := "tithe/tithelaw14.SlackLoads", spec := "slackLoads", apart := false, narrowed := true }
def SlackLoadsUptoSaid : Prop := slackLoadsUptoRow.holds Try.pinned (OpenSpec.upto slackLoadsSpec)

end Rows
end Go.Proofs.Ytdilediiofenmaa
