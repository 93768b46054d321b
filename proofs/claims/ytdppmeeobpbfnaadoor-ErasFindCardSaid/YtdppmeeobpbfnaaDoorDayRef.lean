/-
  The contracts of the reference of chapter 2 (package analemmaref02): they come to the same as package dayform's.
-/
import Derived.Test.YtdppmeeobpbfnaaDoorDayAlw
import Derived.Test.YtdppmeeobpbfnaaDoorCivRef
namespace Go.Proofs.YtdppmeeobpbfnaaDoor
open Go.RowKit Cv
set_option linter.unusedVariables false
set_option linter.unusedSimpArgs false

namespace Cv
theorem Yes.dec {p : Prop} [Decidable p] {w : World} : ∀ e w', Yes p w e w' → e = .returned (.bool (decide p)) ∧ w = w' := by
  rintro e w' ⟨rfl, ⟨hp, rfl⟩ | ⟨hp, rfl⟩⟩ <;> simp [hp]
end Cv

end Go.Proofs.YtdppmeeobpbfnaaDoor
