/-
  Ends of eras: the contract of the reference's Check.
-/
import Derived.Test.YtdppmeeobpbfnaaDoorUnt
namespace Go.Proofs.YtdppmeeobpbfnaaDoor
open Go.RowKit Cv
set_option linter.unusedVariables false
set_option linter.unusedSimpArgs false

end Go.Proofs.YtdppmeeobpbfnaaDoor
