/-
  The contracts of package civil's functions. The table of days in front of the months stands as its initialiser laid it (Tab); a call may draw, and turns nothing.
-/
import Derived.Test.YtdppmeeobpbfnaaDoorProg
import Derived.Test.YtdppmeeobpbfnaaDoorCivMath
import Derived.WalkKit
import Derived.WalkSpells
import Derived.WalkLawsBesides
import Derived.Lib.Hide
import Derived.Deep.QuietTactic
import Derived.BigQuiet
import Derived.Deep.DeepCutAuto
namespace Go.Proofs.YtdppmeeobpbfnaaDoor
open Go.RowKit Cv
set_option linter.unusedVariables false
set_option linter.unusedSimpArgs false

namespace Cv
/-- an int64 -/
def fit (n : Int) : Prop := -9223372036854775808 ≤ n ∧ n ≤ 9223372036854775807
/-- the table lies as it was laid -/
def Tab (w : World) : Prop := ∀ i : Nat, i < 12 → w.cell? ⟨0, i, none⟩ = some (.int .i64 (before i))
theorem Tab.drewN {w : World} (h : Tab w) (n : Nat) : Tab (w.drewN n) := h
/-- a year in the range -/
def inr (y : Int) : Prop := -2000000000 ≤ y ∧ y ≤ 2000000000
instance (y : Int) : Decidable (inr y) := by unfold inr; exact inferInstance
def Yes (p : Prop) (w : World) (e : Ending) (w' : World) : Prop := w = w' ∧ ((p ∧ e = .returned (.bool true)) ∨ (¬ p ∧ e = .returned (.bool false)))
theorem Yes.of {p : Prop} {w : World} {b : Bool} (h : b = true ↔ p) : Yes p w (.returned (.bool b)) w := by
  refine ⟨rfl, ?_⟩
  cases b
  · exact .inr ⟨fun hp => by simpa using h.2 hp, rfl⟩
  · exact .inl ⟨h.1 rfl, rfl⟩
theorem Yes.to_yes {p : Prop} {w : World} (hp : p) : ∀ e w', Yes p w e w' → e = .returned (.bool true) ∧ w = w' := by
  rintro e w' ⟨rfl, ⟨_, rfl⟩ | ⟨hn, _⟩⟩
  · exact ⟨rfl, rfl⟩
  · exact (hn hp).elim
theorem Yes.to_no {p : Prop} {w : World} (hp : ¬ p) : ∀ e w', Yes p w e w' → e = .returned (.bool false) ∧ w = w' := by
  rintro e w' ⟨rfl, ⟨h, _⟩ | ⟨_, rfl⟩⟩
  · exact (hp h).elim
  · exact ⟨rfl, rfl⟩
theorem tdm_pos (a b : Int) (h : 0 ≤ a) : a.tdiv b = a / b ∧ a.tmod b = a % b := ⟨Int.tdiv_eq_ediv_of_nonneg h, Int.tmod_eq_emod_of_nonneg h⟩
theorem tdm_neg (a b : Int) (h : a < 0) : a.tdiv b = -((-a) / b) ∧ a.tmod b = -((-a) % b) := by
  have h1 := tdm_pos (-a) b (by omega)
  rw [Int.neg_tdiv, Int.neg_tmod] at h1
  omega
end Cv

set_option maxHeartbeats 400000 in
theorem leap_any (y : Int) (w : World) (h1 : -9223372036854775808 ≤ y) (h2 : y ≤ 9223372036854775807) :
    Calls Tryd.prog 39 #[.int .i64 y] w (Yes (lp y = 1) w) := by
  have hr : ∀ b : Int, 0 < b → ((y.tmod b == 0) = decide (y % b = 0)) := fun b hb => by
    rw [Bool.eq_iff_iff]; simp
    rcases (show y < 0 ∨ 0 ≤ y from by omega) with h | h
    · have := (tdm_neg y b h).2
      rw [this]
      have e : y % b = 0 ↔ (-y) % b = 0 := by rw [← Int.dvd_iff_emod_eq_zero, ← Int.dvd_iff_emod_eq_zero, Int.dvd_neg]
      omega
    · rw [(tdm_pos y b h).2]
  have e4 := hr 4 (by decide); have e100 := hr 100 (by decide); have e400 := hr 400 (by decide)
  have n100 : (y.tmod 100 != 0) = !decide (y % 100 = 0) := by rw [← e100]; rfl
  have hl : lp y = 1 ↔ (y % 4 = 0 ∧ (y % 100 ≠ 0 ∨ y % 400 = 0)) := by unfold lp; split <;> simp_all
  have HL := Lib.hid hl
  clear hl hr
  by_cases a4 : y % 4 = 0 <;> by_cases a100 : y % 100 = 0 <;> by_cases a400 : y % 400 = 0 <;> simp only [a4, a100, a400] at e4 e100 e400 n100 <;>
    (have A4 := Lib.hid a4; have A100 := Lib.hid a100; have A400 := Lib.hid a400; clear a4 a100 a400
     simp at e4 e100 e400 n100
     go_enter Tryd.func39, Tryd.ntmps39
     go_wp2
     go_ret
     refine Yes.of ?_
     rw [HL.out]
     have x4 := A4.out; have x100 := A100.out; have x400 := A400.out
     simp_all)

set_option maxHeartbeats 400000 in
theorem in_any (y : Int) (w : World) : Calls Tryd.prog 25 #[.int .i64 y] w (Yes (inr y) w) := by
  go_enter Tryd.func25, Tryd.ntmps25
  go_wp2
  all_goals (go_ret; refine Yes.of ?_; unfold inr; simp; try omega)

set_option maxHeartbeats 400000 in
theorem split_any (a b : Int) (w : World) (ha : fit a) (hb1 : 2 ≤ b) (hb2 : b ≤ 1000000) :
    Calls Tryd.prog 27 #[.int .i64 a, .int .i64 b] w fun e w' => e = .returned (.tuple #[.int .i64 (a / b), .int .i64 (a % b)]) ∧ ∃ n, w' = w.drewN n := by
  obtain ⟨ha1, ha2⟩ := ha
  have hb0 : 1 ≤ b := by omega
  have hz : (b == 0) = false := by simp; omega
  have hm0 := Int.emod_nonneg a (b := b) (by omega)
  have hm1 := Int.emod_lt_of_pos a (b := b) (by omega)
  by_cases h0 : 0 ≤ a
  · have hq0 := Int.ediv_nonneg h0 (show 0 ≤ b by omega)
    have hq1 := Int.ediv_le_self b h0
    go_enter Tryd.func27, Tryd.ntmps27
    go_wp2_with fail
    go_quiet (fail)
    go_wp2
    go_ret2
    exact ⟨rfl, _, rfl⟩
  · have ht := tdm_neg a b (by omega)
    have e1 := Int.mul_ediv_add_emod (-a) b
    have e2 := Int.emod_nonneg (-a) (b := b) (by omega)
    have e3 := Int.emod_lt_of_pos (-a) (b := b) (by omega)
    have e4 := Int.ediv_nonneg (a := -a) (b := b) (by omega) (by omega)
    have e5 : (-a) / b * 2 ≤ -a := by
      have : (-a) / b * 2 ≤ (-a) / b * b := Int.mul_le_mul_of_nonneg_left hb1 e4
      rw [Int.mul_comm ((-a) / b) b] at this; omega
    have hq1 : -4611686018427387904 ≤ a.tdiv b ∧ a.tdiv b ≤ 0 := by rw [ht.1]; omega
    have hr1 : -b < a.tmod b ∧ a.tmod b ≤ 0 := by rw [ht.2]; omega
    have hu : (a.tmod b < 0 ∧ a / b = a.tdiv b - 1 ∧ a % b = a.tmod b + b) ∨ (0 ≤ a.tmod b ∧ a / b = a.tdiv b ∧ a % b = a.tmod b) := by
      have hd := Int.mul_tdiv_add_tmod a b
      by_cases h : a.tmod b < 0
      · left
        refine ⟨h, ?_⟩
        exact (Int.ediv_emod_unique (by omega)).2 ⟨by rw [Int.mul_sub]; omega, by omega, by omega⟩
      · right
        refine ⟨by omega, ?_⟩
        exact (Int.ediv_emod_unique (by omega)).2 ⟨by omega, by omega, by omega⟩
    obtain ⟨hq1, hq2⟩ := hq1
    obtain ⟨hr1, hr2⟩ := hr1
    have hw : wrap64 (a.tdiv b) = a.tdiv b := IntWalk.wrap64_in _ (by omega)
    rcases hu with ⟨hu0, hu⟩ | ⟨hu0, hu⟩
    · have HU := Lib.hid hu
      clear hu ht e1 e2 e3 e4 e5 hm0 hm1
      go_enter Tryd.func27, Tryd.ntmps27
      go_wp2_with fail
      go_quiet (fail)
      go_wp2
      go_ret2
      rw [HU.out.1, HU.out.2]
      exact ⟨rfl, _, rfl⟩
    · have HU := Lib.hid hu
      clear hu ht e1 e2 e3 e4 e5 hm0 hm1
      go_enter Tryd.func27, Tryd.ntmps27
      go_wp2_with fail
      go_quiet (fail)
      go_wp2
      go_ret2
      rw [HU.out.1, HU.out.2]
      exact ⟨rfl, _, rfl⟩

set_option maxHeartbeats 400000 in
theorem len_any (y m : Int) (w : World) (h1 : -9223372036854775808 ≤ y) (h2 : y ≤ 9223372036854775807) :
    Calls Tryd.prog 26 #[.int .i64 y, .int .i64 m] w fun e w' => e = .returned (.int .i64 (len y m)) ∧ w = w' := by
  by_cases ho : m < 1 ∨ 12 < m
  · rw [len_out y m ho]
    by_cases hm : m < 1
    · clear ho
      go_enter Tryd.func26, Tryd.ntmps26
      go_wp2
      go_ret
      exact ⟨rfl, rfl⟩
    · have hm2 : 12 < m := by omega
      clear ho
      go_enter Tryd.func26, Tryd.ntmps26
      go_wp2
      go_ret
      exact ⟨rfl, rfl⟩
  · have hc := month_cases m (by omega) (by omega)
    by_cases h3 : m = 2
    · subst h3
      clear hc ho
      rcases lp_cases y with hl | hl
      · have HL := Lib.hid hl
        rw [show len y 2 = 28 from by unfold len; simp [hl]]
        clear hl
        go_enter Tryd.func26, Tryd.ntmps26
        go_wp2_with fail
        refine (leap_any _ _ h1 h2).mono ?_
        intro e w' hq; obtain ⟨rfl, rfl⟩ := Yes.to_no (by rw [HL.out]; decide) _ _ hq; clear hq
        go_wp2
        go_ret
        exact ⟨rfl, rfl⟩
      · have HL := Lib.hid hl
        rw [show len y 2 = 29 from by unfold len; simp [hl]]
        clear hl
        go_enter Tryd.func26, Tryd.ntmps26
        go_wp2_with fail
        refine (leap_any _ _ h1 h2).mono ?_
        intro e w' hq; obtain ⟨rfl, rfl⟩ := Yes.to_yes HL.out _ _ hq; clear hq
        go_wp2
        go_ret
        exact ⟨rfl, rfl⟩
    · have hl : len y m = if m = 4 ∨ m = 6 ∨ m = 9 ∨ m = 11 then 30 else 31 := by unfold len; rw [if_neg ho, if_neg h3]
      rcases hc with rfl | rfl | rfl | rfl | rfl | rfl | rfl | rfl | rfl | rfl | rfl | rfl
      all_goals first | (exfalso; exact h3 rfl) | skip
      all_goals
        simp at hl
        rw [hl]
        clear hl h3 ho
        go_enter Tryd.func26, Tryd.ntmps26
        go_wp2
        go_ret
        exact ⟨rfl, rfl⟩
end Go.Proofs.YtdppmeeobpbfnaaDoor
