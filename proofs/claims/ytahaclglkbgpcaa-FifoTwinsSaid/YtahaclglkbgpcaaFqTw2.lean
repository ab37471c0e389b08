/- FifoTwins, of a row as the frame reads it. -/
import Derived.Test.YtahaclglkbgpcaaFqTwins
namespace Go.Proofs.Ytahaclglkbgpcaa
open Go.RowKit

/-- A row of ints in memory. -/
def IntRow (w : World) (a : Option Addr) (zs : List Int) : Prop := zs = [] ∨ ∃ b off, a = some ⟨b, off, none⟩ ∧ ∀ j, j < zs.length → w.cell? ⟨b, off + j, none⟩ = some (.int .i64 (zs.getD j 0))

theorem twins_row (a : Option Addr) (zs : List Int) (cap : Nat) (v : Int) (w : World) (hm : zs.length ≤ maxLen) (R : IntRow w a zs) :
    Calls Try.prog 4 #[.slice a zs.length cap, .int .i64 v] w fun e w' => e = .returned (.bool true) ∧ Below w.heap.size w w' := twins_ok a zs cap v w hm R
end Go.Proofs.Ytahaclglkbgpcaa
