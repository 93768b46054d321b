/-
  The reference's near (analemmaref17): the years in which events are looked for.
-/
import Derived.Test.YtghmdaahmijdiaaDoorEvRef0
namespace Go.Proofs.YtghmdaahmijdiaaDoor
open Go.RowKit Cv
set_option linter.unusedVariables false
set_option linter.unusedSimpArgs false

namespace Cv
/-- the years from a to b of near (none if b < a) -/
def NearIs (r : Ru) (q : Int) (up : Bool) (a b : Int) : Prop :=
  (up = true → a = max (firstY r) (q - 2) ∧ (a ≤ lastY r → b = min (lastY r) (a + 20)) ∧ (lastY r < a → b < a)) ∧
  (up = false → b = min (lastY r) (q + 2) ∧ (firstY r ≤ b → a = max (firstY r) (b - 20)) ∧ (b < firstY r → b < a))
def NearR (r : Ru) (q : Int) (up : Bool) (W : World) (e : Ending) (w' : World) : Prop := ∃ a b : Int, Hid (NearIs r q up a b) ∧ e = .returned (.tuple #[.int .i64 a, .int .i64 b]) ∧ Below W.heap.size W w'
end Cv

end Go.Proofs.YtghmdaahmijdiaaDoor
