/-
  The contract of dayform.Always.
-/
import Derived.Test.YtdppmeeobpbfnaaDoorDayOn
namespace Go.Proofs.YtdppmeeobpbfnaaDoor
open Go.RowKit Cv
set_option linter.unusedVariables false
set_option linter.unusedSimpArgs false

namespace Cv
/-- what Always answers -/
def alw (a b m k w d : Int) : Prop := (1 ≤ m ∧ m ≤ 12 ∧ good k w d) ∧ ((b < 1048576 ∧ b < a) ∨ d ≤ len 1 m ∨ (b < 1048576 ∧ a = b ∧ m = 2 ∧ d ≤ len a 2))
instance (a b m k w d : Int) : Decidable (alw a b m k w d) := by unfold alw; exact inferInstance
def YesB (p : Prop) (w : World) (e : Ending) (w' : World) : Prop := Below w.heap.size w w' ∧ ((p ∧ e = .returned (.bool true)) ∨ (¬ p ∧ e = .returned (.bool false)))
theorem YesB.yes {p : Prop} {w w' : World} (n : Below w.heap.size w w') (h : p) : YesB p w (.returned (.bool true)) w' := ⟨n, .inl ⟨h, rfl⟩⟩
theorem YesB.no {p : Prop} {w w' : World} (n : Below w.heap.size w w') (h : ¬ p) : YesB p w (.returned (.bool false)) w' := ⟨n, .inr ⟨h, rfl⟩⟩
theorem YesB.of {p : Prop} {w w' : World} {b : Bool} (n : Below w.heap.size w w') (h : b = true ↔ p) : YesB p w (.returned (.bool b)) w' := by
  refine ⟨n, ?_⟩
  cases b
  · exact .inr ⟨fun hp => by simpa using h.2 hp, rfl⟩
  · exact .inl ⟨h.1 rfl, rfl⟩
theorem YesB.to_b {p : Prop} [Decidable p] {w : World} {b : Bool} (hb : decide p = b) : ∀ e w', YesB p w e w' → e = .returned (.bool b) ∧ Below w.heap.size w w' := by
  rintro e w' ⟨h, ⟨hp, rfl⟩ | ⟨hp, rfl⟩⟩
  · exact ⟨by rw [← hb]; simp [hp], h⟩
  · exact ⟨by rw [← hb]; simp [hp], h⟩
theorem tm_bd (a b : Int) (hb : 0 < b) : -b < a.tmod b ∧ a.tmod b < b := by
  rcases (show a < 0 ∨ 0 ≤ a from by omega) with h | h
  · rw [(tdm_neg a b h).2]
    have := Int.emod_nonneg (-a) (b := b) (by omega); have := Int.emod_lt_of_pos (-a) (b := b) hb; omega
  · rw [(tdm_pos a b h).2]
    have := Int.emod_nonneg a (b := b) (by omega); have := Int.emod_lt_of_pos a (b := b) hb; omega
theorem lp_tmod (a : Int) : lp (a.tmod 400) = lp a := by
  rcases (show a < 0 ∨ 0 ≤ a from by omega) with h | h
  · rw [(tdm_neg a 400 h).2]; unfold lp; split <;> split <;> omega
  · rw [(tdm_pos a 400 h).2]; unfold lp; split <;> split <;> omega
theorem len_tmod (a m : Int) : len (a.tmod 400) m = len a m := by unfold len; rw [lp_tmod]
end Cv
/-- a quiet callee behind earlier draws -/
theorem quiet_more {f : FuncId} {args : Array Value} {w : World} {i j : Nat} {v : Value}
    (h : Calls Tryd.prog f args (w.drewN (i + j)) fun e w' => e = .returned v ∧ w' = w.drewN (i + j)) :
    Calls Tryd.prog f args (w.drewN (i + j)) fun e w' => e = .returned v ∧ ∃ n, w' = w.drewN (i + n) := h.mono fun e w' hq => ⟨hq.1, j, hq.2⟩

end Go.Proofs.YtdppmeeobpbfnaaDoor
