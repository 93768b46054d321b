/-
  The examples of chapter 1: package analemmalaw01's function works returns true.
-/
import Derived.Test.YtdppmeeobpbfnaaDoorCivDays
namespace Go.Proofs.YtdppmeeobpbfnaaDoor
open Go.RowKit Cv
set_option linter.unusedVariables false
set_option linter.unusedSimpArgs false

namespace Cv
instance (y m d : Int) : Decidable (ok y m d) := by unfold ok; exact inferInstance
instance (n y m d : Int) : Decidable (IsDate n y m d) := by unfold IsDate; exact inferInstance
theorem DaysR.to_yes {y m d v : Int} {w : World} (h : inr y ∧ ok y m d) (hv : num y m d = v) : ∀ e w', DaysR y m d w e w' → e = .returned (.tuple #[.int .i64 v, .int .i64 0]) ∧ ∃ n, w' = w.drewN n := by
  rintro e w' ⟨hw, ⟨_, rfl⟩ | ⟨hn, _⟩⟩
  · exact ⟨by rw [hv], hw⟩
  · exact (hn h).elim
theorem DaysR.to_no {y m d : Int} {w : World} (h : ¬ (inr y ∧ ok y m d)) : ∀ e w', DaysR y m d w e w' → e = .returned (.tuple #[.int .i64 0, .int .i64 3]) ∧ ∃ n, w' = w.drewN n := by
  rintro e w' ⟨hw, ⟨hn, _⟩ | ⟨_, rfl⟩⟩
  · exact (h hn).elim
  · exact ⟨rfl, hw⟩
theorem DateE.to_yes {n y m d : Int} {w : World} (h : IsDate n y m d) (hi : inr y) : ∀ e w', DateE n w e w' → e = .returned (.tuple #[.int .i64 y, .int .i64 m, .int .i64 d, .int .i64 0]) ∧ ∃ n, w' = w.drewN n := by
  rintro e w' ⟨y', m', d', h', ⟨_, rfl⟩ | ⟨hn, _⟩, hw⟩
  · obtain ⟨rfl, rfl, rfl⟩ := h.uniq h'.out; exact ⟨rfl, hw⟩
  · obtain ⟨rfl, rfl, rfl⟩ := h.uniq h'.out; exact (hn.out hi).elim
theorem DateE.to_no {n y m d : Int} {w : World} (h : IsDate n y m d) (hi : ¬ inr y) : ∀ e w', DateE n w e w' → e = .returned (.tuple #[.int .i64 0, .int .i64 0, .int .i64 0, .int .i64 3]) ∧ ∃ n, w' = w.drewN n := by
  rintro e w' ⟨y', m', d', h', ⟨hn, _⟩ | ⟨_, rfl⟩, hw⟩
  · obtain ⟨rfl, rfl, rfl⟩ := h.uniq h'.out; exact (hi hn.out).elim
  · exact ⟨rfl, hw⟩
theorem YearR.to_is {t y m d v : Int} {w : World} (h : IsDate (t / 86400) y m d) (hv : clamp y = v) : ∀ e w', YearR t w e w' → e = .returned (.int .i64 v) ∧ ∃ n, w' = w.drewN n := by
  rintro e w' ⟨y', m', d', h', rfl, hw⟩
  obtain ⟨rfl, rfl, rfl⟩ := h.uniq h'.out
  exact ⟨by rw [hv], hw⟩
theorem wday_to {n v : Int} {w : World} (hv : (n + 4) % 7 = v) : ∀ (e : Ending) (w' : World), (e = .returned (.int .i64 ((n + 4) % 7)) ∧ ∃ k, w' = w.drewN k) → e = .returned (.int .i64 v) ∧ ∃ n, w' = w.drewN n := by
  rintro e w' ⟨rfl, hw⟩
  exact ⟨by rw [hv], hw⟩
theorem len_to {y m v : Int} {w : World} (hv : len y m = v) : ∀ (e : Ending) (w' : World), (e = .returned (.int .i64 (len y m)) ∧ w = w') → e = .returned (.int .i64 v) ∧ w = w' := by
  rintro e w' ⟨rfl, hw⟩
  exact ⟨by rw [hv], hw⟩
theorem Yes.to_b {p : Prop} [Decidable p] {w : World} {b : Bool} (hb : decide p = b) : ∀ e w', Yes p w e w' → e = .returned (.bool b) ∧ w = w' := by
  rintro e w' ⟨rfl, ⟨hp, rfl⟩ | ⟨hp, rfl⟩⟩
  · rw [← hb]; simp [hp]
  · rw [← hb]; simp [hp]
end Cv

end Go.Proofs.YtdppmeeobpbfnaaDoor
