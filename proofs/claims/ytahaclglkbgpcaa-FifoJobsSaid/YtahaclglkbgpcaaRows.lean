/-
  No cell of these rows narrows 'for every input' (looked for: loops, veiled, ifaces, maps, wideKeys, modest, calm, conditions, laid).
  DERIVED. THE GIVEN ROWS OF THIS SEAT. 6 by the template 'for every input the law returns true; each argument reads behind the call as it read before'; 0 by the template 'total and deterministic' (their statements: YtahaclglkbgpcaaTotals.lean).
  GIVEN WITH THE SEED: the statements are not yours to turn. If you find one false, say at which input.
  Laid BY PROGRAM, IN A SANDBOX (cutbox-rows.mjs): the forced cells as the released guide's own fill.sh prints them over the translation 16942028d6bfbab7… (all of the seat's roots in one cut). By AI agents, Wed Nov 11 2026. No macro, syntax, notation, axiom, sorry.
-/
import Derived.Test.YtahaclglkbgpcaaChecked
import GoSem.Claim
import GoSem.ClaimJoined
import GoSem.ClaimMapViews
import Derived.JoinedTies
import Derived.KernelRfl
namespace Go.Proofs.Ytahaclglkbgpcaa
/- THE CELL 'sum', in the pinned program and in every row, IS THE sha256 OF THE DUMP (.gsa) THAT YtahaclglkbgpcaaProg.lean LOADS. Nothing in Lean hashes anything: it is a label: what it is worth is what the hold of that sum in a sandbox is worth. -/
noncomputable def Try.pinned : Pinned := { name := "ytahaclglkbgpcaa", sum := "16942028d6bfbab781e121a18d0429c81313e4b149109dd6bf7a02732e63102a", checked := Try.checked }
namespace Rows
def none {H : Type} : Left H := { results := [], args := [] }

/-- 'tithelaw04.FifoOrder': WHATEVER THE INPUT: true; the input reads as it did. -/
def fifoOrderSpec : ChangeSpec := { name := "fifoOrder", fn := fun _ => fun
  | [d1, d2] => { results := [.lit (.bool true)], args := [d1, d2] }
  | _ => none }
def fifoOrderRow : OpenClaim := { program := "ytahaclglkbgpcaa", sum := "16942028d6bfbab781e121a18d0429c81313e4b149109dd6bf7a02732e63102a", func := "tithe/tithelaw04.FifoOrder", spec := "fifoOrder", apart := false }
def FifoOrderSaid : Prop := fifoOrderRow.holds Try.pinned (OpenSpec.ofChange fifoOrderSpec)

/-- ITS FALSE NEIGHBOUR: 'it returns false'. Refute it at one input. -/
def fifoOrderWrong : ChangeSpec := { name := "fifoOrder", fn := fun _ => fun
  | [d1, d2] => { results := [.lit (.bool false)], args := [d1, d2] }
  | _ => none }
def FifoOrderWrongFalsely : Prop := fifoOrderRow.holds Try.pinned (OpenSpec.ofChange fifoOrderWrong)

/-- 'tithelaw04.FifoTwins': WHATEVER THE INPUT: true; the input reads as it did. -/
def fifoTwinsSpec : ChangeSpec := { name := "fifoTwins", fn := fun _ => fun
  | [d1, d2] => { results := [.lit (.bool true)], args := [d1, d2] }
  | _ => none }
def fifoTwinsRow : OpenClaim := { program := "ytahaclglkbgpcaa", sum := "16942028d6bfbab781e121a18d0429c81313e4b149109dd6bf7a02732e63102a", func := "tithe/tithelaw04.FifoTwins", spec := "fifoTwins", unfollowed := true, recurses := true, apart := false }
def FifoTwinsSaid : Prop := fifoTwinsRow.holds Try.pinned (OpenSpec.ofChange fifoTwinsSpec)

/-- ITS FALSE NEIGHBOUR: 'it returns false'. Refute it at one input. -/
def fifoTwinsWrong : ChangeSpec := { name := "fifoTwins", fn := fun _ => fun
  | [d1, d2] => { results := [.lit (.bool false)], args := [d1, d2] }
  | _ => none }
def FifoTwinsWrongFalsely : Prop := fifoTwinsRow.holds Try.pinned (OpenSpec.ofChange fifoTwinsWrong)

/-- 'tithelaw04.FifoJobs': WHATEVER THE INPUT: true; the input reads as it did. -/
def fifoJobsSpec : ChangeSpec := { name := "fifoJobs", fn := fun _ => fun
  | [d1, d2] => { results := [.lit (.bool true)], args := [d1, d2] }
  | _ => none }
def fifoJobsRow : OpenClaim := { program := "ytahaclglkbgpcaa", sum := "16942028d6bfbab781e121a18d0429c81313e4b149109dd6bf7a02732e63102a", func := "tithe/tithelaw04.FifoJobs", spec := "fifoJobs", unfollowed := true, recurses := true, apart := false }
def FifoJobsSaid : Prop := fifoJobsRow.holds Try.pinned (OpenSpec.ofChange fifoJobsSpec)

/-- ITS FALSE NEIGHBOUR: 'it returns false'. Refute it at one input. -/
def fifoJobsWrong : ChangeSpec := { name := "fifoJobs", fn := fun _ => fun
  | [d1, d2] => { results := [.lit (.bool false)], args := [d1, d2] }
  | _ => none }
def FifoJobsWrongFalsely : Prop := fifoJobsRow.holds Try.pinned (OpenSpec.ofChange fifoJobsWrong)

/-- 'tithelaw04.FifoRuns': WHATEVER THE INPUT: true; the input reads as it did. -/
def fifoRunsSpec : ChangeSpec := { name := "fifoRuns", fn := fun _ => fun
  | [d1, d2] => { results := [.lit (.bool true)], args := [d1, d2] }
  | _ => none }
def fifoRunsRow : OpenClaim := { program := "ytahaclglkbgpcaa", sum := "16942028d6bfbab781e121a18d0429c81313e4b149109dd6bf7a02732e63102a", func := "tithe/tithelaw04.FifoRuns", spec := "fifoRuns", unfollowed := true, recurses := true, apart := false }
def FifoRunsSaid : Prop := fifoRunsRow.holds Try.pinned (OpenSpec.ofChange fifoRunsSpec)

/-- ITS FALSE NEIGHBOUR: 'it returns false'. Refute it at one input. -/
def fifoRunsWrong : ChangeSpec := { name := "fifoRuns", fn := fun _ => fun
  | [d1, d2] => { results := [.lit (.bool false)], args := [d1, d2] }
  | _ => none }
def FifoRunsWrongFalsely : Prop := fifoRunsRow.holds Try.pinned (OpenSpec.ofChange fifoRunsWrong)

/-- 'tithelaw15.LedgerEven': WHATEVER THE INPUT: true; the input reads as it did. -/
def ledgerEvenSpec : ChangeSpec := { name := "ledgerEven", fn := fun _ => fun
  | [d] => { results := [.lit (.bool true)], args := [d] }
  | _ => none }
def ledgerEvenRow : OpenClaim := { program := "ytahaclglkbgpcaa", sum := "16942028d6bfbab781e121a18d0429c81313e4b149109dd6bf7a02732e63102a", func := "tithe/tithelaw15.LedgerEven", spec := "ledgerEven", apart := false }
def LedgerEvenSaid : Prop := ledgerEvenRow.holds Try.pinned (OpenSpec.ofChange ledgerEvenSpec)

/-- ITS FALSE NEIGHBOUR: 'it returns false'. Refute it at one input. -/
def ledgerEvenWrong : ChangeSpec := { name := "ledgerEven", fn := fun _ => fun
  | [d] => { results := [.lit (.bool false)], args := [d] }
  | _ => none }
def LedgerEvenWrongFalsely : Prop := ledgerEvenRow.holds Try.pinned (OpenSpec.ofChange ledgerEvenWrong)

/-- 'tithelaw04.FifoNone': WHATEVER THE INPUT: true; the input reads as it did. -/
def fifoNoneSpec : ChangeSpec := { name := "fifoNone", fn := fun _ => fun
  | [d1, d2] => { results := [.lit (.bool true)], args := [d1, d2] }
  | _ => none }
def fifoNoneRow : OpenClaim := { program := "ytahaclglkbgpcaa", sum := "16942028d6bfbab781e121a18d0429c81313e4b149109dd6bf7a02732e63102a", func := "tithe/tithelaw04.FifoNone", spec := "fifoNone", unfollowed := true, recurses := true, apart := false }
def FifoNoneSaid : Prop := fifoNoneRow.holds Try.pinned (OpenSpec.ofChange fifoNoneSpec)

/-- ITS FALSE NEIGHBOUR: 'it returns false'. Refute it at one input. -/
def fifoNoneWrong : ChangeSpec := { name := "fifoNone", fn := fun _ => fun
  | [d1, d2] => { results := [.lit (.bool false)], args := [d1, d2] }
  | _ => none }
def FifoNoneWrongFalsely : Prop := fifoNoneRow.holds Try.pinned (OpenSpec.ofChange fifoNoneWrong)

/- THE SECOND FORM. 'bulk': how many values and letters a reading holds, each counted each time it is reached (what is shared counts as often as it is met; a slice's spare places count too). A statement '..UptoSaid' is the law's where the arguments, and the package variables that the reading takes, are together of bulk at most 1048576: NARROWER than '..Said'. Prove '..Said' where nothing that the law and all that it calls make is longer than what came in: it says more and counts as full. Else prove '..UptoSaid'. A law counts once. -/
mutual
def uptoBulk {H : Type} : DataW H → Nat
  | .lit (.string bytes) => bytes.length + 1
  | .lit _ => 1
  | .nil => 1
  | .ptr d => uptoBulk d + 1
  | .slice elems spare => uptoBulkAll elems + uptoBulkAll spare + 1
  | .agg parts => uptoBulkAll parts + 1
  | .iface _ d => uptoBulk d + 1
  | .map entries => uptoBulkEntries entries + 1
  | .held _ => 1
def uptoBulkAll {H : Type} : List (DataW H) → Nat
  | [] => 0
  | d :: r => uptoBulk d + uptoBulkAll r
def uptoBulkEntries {H : Type} : List (Lit × DataW H) → Nat
  | [] => 0
  | x :: r => uptoBulkEntry x + uptoBulkEntries r
def uptoBulkEntry {H : Type} : Lit × DataW H → Nat
  | (.string bytes, d) => bytes.length + uptoBulk d + 1
  | (_, d) => uptoBulk d + 1
 end
def uptoSmall : (H : Type) → List (DataW H) → Bool := fun _ ds => decide (uptoBulkAll ds ≤ 1048576)
def OpenSpec.upto (s : _root_.Go.ChangeSpec) : _root_.Go.OpenSpec := { _root_.Go.OpenSpec.ofChange s with cond := some uptoSmall }

/-- 'tithelaw04.FifoOrder', WHERE WHAT IT READS IS OF BULK AT MOST 1048576: true; the input reads as it did. -/
def fifoOrderUptoRow : OpenClaim := { program := "ytahaclglkbgpcaa", sum := "16942028d6bfbab781e121a18d0429c81313e4b149109dd6bf7a02732e63102a", func := "tithe/tithelaw04.FifoOrder", spec := "fifoOrder", apart := false, narrowed := true }
def FifoOrderUptoSaid : Prop := fifoOrderUptoRow.holds Try.pinned (OpenSpec.upto fifoOrderSpec)

/-- 'tithelaw04.FifoTwins', WHERE WHAT IT READS IS OF BULK AT MOST 1048576: true; the input reads as it did. -/
def fifoTwinsUptoRow : OpenClaim := { program := "ytahaclglkbgpcaa", sum := "16942028d6bfbab781e121a18d0429c81313e4b149109dd6bf7a02732e63102a", func := "tithe/tithelaw04.FifoTwins", spec := "fifoTwins", unfollowed := true, recurses := true, apart := false, narrowed := true }
def FifoTwinsUptoSaid : Prop := fifoTwinsUptoRow.holds Try.pinned (OpenSpec.upto fifoTwinsSpec)

/-- 'tithelaw04.FifoJobs', WHERE WHAT IT READS IS OF BULK AT MOST 1048576: true; the input reads as it did. -/
def fifoJobsUptoRow : OpenClaim := { program := "ytahaclglkbgpcaa", sum := "16942028d6bfbab781e121a18d0429c81313e4b149109dd6bf7a02732e63102a", func := "tithe/tithelaw04.FifoJobs", spec := "fifoJobs", unfollowed := true, recurses := true, apart := false, narrowed := true }
def FifoJobsUptoSaid : Prop := fifoJobsUptoRow.holds Try.pinned (OpenSpec.upto fifoJobsSpec)

/-- 'tithelaw04.FifoRuns', WHERE WHAT IT READS IS OF BULK AT MOST 1048576: true; the input reads as it did. -/
def fifoRunsUptoRow : OpenClaim := { program := "ytahaclglkbgpcaa", sum := "16942028d6bfbab781e121a18d0429c81313e4b149109dd6bf7a02732e63102a", func := "tithe/tithelaw04.FifoRuns", spec := "fifoRuns", unfollowed := true, recurses := true, apart := false, narrowed := true }
def FifoRunsUptoSaid : Prop := fifoRunsUptoRow.holds Try.pinned (OpenSpec.upto fifoRunsSpec)

/-- 'tithelaw15.LedgerEven', WHERE WHAT IT READS IS OF BULK AT MOST 1048576: true; the input reads as it did. -/
def ledgerEvenUptoRow : OpenClaim := { program := "ytahaclglkbgpcaa", sum := "16942028d6bfbab781e121a18d0429c81313e4b149109dd6bf7a02732e63102a", func := "tithe/tithelaw15.LedgerEven", spec := "ledgerEven", apart := false, narrowed := true }
def LedgerEvenUptoSaid : Prop := ledgerEvenUptoRow.holds Try.pinned (OpenSpec.upto ledgerEvenSpec)

/-- 'tithelaw04.FifoNone', WHERE WHAT IT READS IS OF BULK AT MOST 1048576: true; the input reads as it did. -/
def fifoNoneUptoRow : OpenClaim := { program := "ytahaclglkbgpcaa", sum := "16942028d6bfbab781e121a18d0429c81313e4b149109dd6bf7a02732e63102a", func := "tithe/tithelaw04.FifoNone", spec := "fifoNone", unfollowed := true, recurses := true, apart := false, narrowed := true }
def FifoNoneUptoSaid : Prop := fifoNoneUptoRow.holds Try.pinned (OpenSpec.upto fifoNoneSpec)

end Rows
end Go.Proofs.Ytahaclglkbgpcaa
