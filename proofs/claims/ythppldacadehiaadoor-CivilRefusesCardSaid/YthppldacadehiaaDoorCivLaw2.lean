/-
  More of what the walks of the laws of chapter 1 share: the table stands in a world that has grown.
-/
import Derived.Test.YthppldacadehiaaDoorCivLaw
namespace Go.Proofs.YthppldacadehiaaDoor
open Go.RowKit Cv
set_option linter.unusedVariables false
set_option linter.unusedSimpArgs false

theorem lt_of_cell {w : World} {a : Addr} {v : Value} (h : w.cell? a = some v) : a.block < w.heap.size := by
  unfold World.cell? at h
  rcases Nat.lt_or_ge a.block w.heap.size with hl | hl
  · exact hl
  · rw [Array.getElem?_eq_none hl] at h; simp at h
theorem Cv.Tab.below {w w' : World} (h : Tab w) (k : Below w.heap.size w w') : Tab w' := fun i hi => by
  rw [k.cell (lt_of_cell (h i hi))]; exact h i hi
theorem Cv.Tab.alloc {w : World} (h : Tab w) (o : Obj) : Tab (w.alloc o) := h.below ((Below.refl _ _).alloc (Nat.le_refl _) o)
namespace Cv
theorem ok_28 {y m d : Int} (h1 : 1 ≤ m) (h2 : m ≤ 12) (h3 : 1 ≤ d) (h4 : d ≤ 28) : ok y m d := ⟨h3, by have := len_in y m h1 h2; omega⟩
theorem num_far {y m d : Int} (hi : inr y) (h : ok y m d) : -800000000000 ≤ num y m d ∧ num y m d ≤ 800000000000 := by
  have := num_bd h
  unfold fst at this; unfold inr at hi; omega
end Cv
end Go.Proofs.YthppldacadehiaaDoor
