/-
  The contracts of the reference of chapter 1 (package analemmaref01): they come to the same as package civil's.
  The contract of dayform.Always.
  The contracts of the reference of chapter 2 (package analemmaref02): they come to the same as package dayform's.
-/
import Derived.Test.YtdppmeeobpbfnaaDoorCivEx
import Derived.Test.YtdppmeeobpbfnaaDoorDayOn
namespace Go.Proofs.YtdppmeeobpbfnaaDoor
open Go.RowKit Cv
set_option linter.unusedVariables false
set_option linter.unusedSimpArgs false

namespace Cv
theorem floor_cases (a b : Int) (hb : 0 < b) (h : a < 0) : (a.tmod b < 0 ∧ a / b = a.tdiv b - 1) ∨ (0 ≤ a.tmod b ∧ a / b = a.tdiv b) := by
  have ht := tdm_neg a b h
  have e2 := Int.emod_nonneg (-a) (b := b) (by omega)
  have e3 := Int.emod_lt_of_pos (-a) (b := b) hb
  have hd := Int.mul_tdiv_add_tmod a b
  have hr1 : -b < a.tmod b ∧ a.tmod b ≤ 0 := by rw [ht.2]; omega
  by_cases h : a.tmod b < 0
  · left
    exact ⟨h, ((Int.ediv_emod_unique (r := a.tmod b + b) (by omega)).2 ⟨by rw [Int.mul_sub]; omega, by omega, by omega⟩).1⟩
  · right
    exact ⟨by omega, ((Int.ediv_emod_unique (r := a.tmod b) (by omega)).2 ⟨by omega, by omega, by omega⟩).1⟩
theorem tdiv_lo (a b : Int) (hb1 : 2 ≤ b) (ha : -9223372036854775808 ≤ a) (h : a < 0) : -4611686018427387904 ≤ a.tdiv b ∧ a.tdiv b ≤ 0 := by
  have ht := tdm_neg a b h
  have e1 := Int.mul_ediv_add_emod (-a) b
  have e2 := Int.emod_nonneg (-a) (b := b) (by omega)
  have e4 := Int.ediv_nonneg (a := -a) (b := b) (by omega) (by omega)
  have e5 : (-a) / b * 2 ≤ -a := by
    have : (-a) / b * 2 ≤ (-a) / b * b := Int.mul_le_mul_of_nonneg_left hb1 e4
    rw [Int.mul_comm ((-a) / b) b] at this; omega
  rw [ht.1]; omega
end Cv

namespace Cv
/-- what the reference's Days returns -/
def DaysF (y m d : Int) (w : World) (e : Ending) (w' : World) : Prop :=
  w = w' ∧ (((inr y ∧ ok y m d) ∧ e = .returned (.tuple #[.int .i64 (num y m d), .int .i64 0])) ∨ (¬ (inr y ∧ ok y m d) ∧ e = .returned (.tuple #[.int .i64 0, .int .i64 3])))
end Cv

namespace Cv
/-- the year of a day, and the days in front of it -/
def YearD (n y r : Int) : Prop := fst y + r = n ∧ 0 ≤ r ∧ r < 365 + lp y
theorem YearD.uniq {n y r z m d : Int} (h : YearD n y r) (k : IsDate n z m d) : z = y := by
  have hb := k.bd
  have hs := fst_succ y
  obtain ⟨h1, h2, h3⟩ := h
  rcases Int.lt_trichotomy y z with hl | rfl | hl
  · have := fst_mono (y + 1) z (by omega); omega
  · rfl
  · have := fst_mono (z + 1) y (by omega); omega
theorem wrap_back (n : Int) (h1 : -9223372036854775808 ≤ n) (h2 : n ≤ 9223372036854775807) : wrap64 (n - wrap64 (n / 146097 * 146097)) = n % 146097 := by
  have hd : n / 146097 * 146097 = n - n % 146097 := by omega
  have hr : 0 ≤ n % 146097 ∧ n % 146097 < 146097 := by omega
  rw [hd]
  generalize n % 146097 = r at *
  by_cases hc : -9223372036854775808 ≤ n - r
  · rw [IntWalk.wrap64_in (n - r) (by omega), IntWalk.wrap64_in _ (by omega)]; omega
  · unfold wrap64; omega
/-- what the reference's year returns -/
def YearF (n : Int) (w : World) (e : Ending) (w' : World) : Prop :=
  ∃ y r : Int, -26000000000000000 ≤ y ∧ y ≤ 26000000000000000 ∧ 0 ≤ r ∧ r < 366 ∧ Hid (YearD n y r) ∧ e = .returned (.tuple #[.int .i64 y, .int .i64 r]) ∧ w = w'
end Cv

namespace Cv
/-- what the reference's Date returns -/
def DateF (n : Int) (w : World) (e : Ending) (w' : World) : Prop :=
  w = w' ∧ ((∃ y m d, Hid (IsDate n y m d) ∧ Hid (inr y) ∧ e = .returned (.tuple #[.int .i64 y, .int .i64 m, .int .i64 d, .int .i64 0])) ∨
    (∃ y r, Hid (YearD n y r) ∧ Hid (¬ inr y) ∧ e = .returned (.tuple #[.int .i64 0, .int .i64 0, .int .i64 0, .int .i64 3])))
end Cv

namespace Cv
theorem DaysF.to_yes {y m d v : Int} {w : World} (h : inr y ∧ ok y m d) (hv : num y m d = v) : ∀ e w', DaysF y m d w e w' → e = .returned (.tuple #[.int .i64 v, .int .i64 0]) ∧ w = w' := by
  rintro e w' ⟨hw, ⟨_, rfl⟩ | ⟨hn, _⟩⟩
  · exact ⟨by rw [hv], hw⟩
  · exact (hn h).elim
theorem DaysF.to_no {y m d : Int} {w : World} (h : ¬ (inr y ∧ ok y m d)) : ∀ e w', DaysF y m d w e w' → e = .returned (.tuple #[.int .i64 0, .int .i64 3]) ∧ w = w' := by
  rintro e w' ⟨hw, ⟨hn, _⟩ | ⟨_, rfl⟩⟩
  · exact (h hn).elim
  · exact ⟨rfl, hw⟩
theorem DateF.to_yes {n y m d : Int} {w : World} (h : IsDate n y m d) (hi : inr y) : ∀ e w', DateF n w e w' → e = .returned (.tuple #[.int .i64 y, .int .i64 m, .int .i64 d, .int .i64 0]) ∧ w = w' := by
  rintro e w' ⟨hw, ⟨y', m', d', h', _, rfl⟩ | ⟨y', r, h', hn, _⟩⟩
  · obtain ⟨rfl, rfl, rfl⟩ := h.uniq h'.out; exact ⟨rfl, hw⟩
  · obtain rfl := h'.out.uniq h; exact (hn.out hi).elim
theorem DateF.to_no {n y m d : Int} {w : World} (h : IsDate n y m d) (hi : ¬ inr y) : ∀ e w', DateF n w e w' → e = .returned (.tuple #[.int .i64 0, .int .i64 0, .int .i64 0, .int .i64 3]) ∧ w = w' := by
  rintro e w' ⟨hw, ⟨y', m', d', h', hn, rfl⟩ | ⟨y', r, h', hn, rfl⟩⟩
  · obtain ⟨rfl, rfl, rfl⟩ := h.uniq h'.out; exact (hi hn.out).elim
  · exact ⟨rfl, hw⟩
theorem wday_ref {n v : Int} {w : World} (hv : (n + 4) % 7 = v) : ∀ (e : Ending) (w' : World), (e = .returned (.int .i64 ((n + 4) % 7)) ∧ w = w') → e = .returned (.int .i64 v) ∧ w = w' := by
  rintro e w' ⟨rfl, hw⟩
  exact ⟨by rw [hv], hw⟩
theorem YearF.to_is {t y m d : Int} {w : World} (h : IsDate (t / 86400) y m d) : ∀ (e : Ending) (w' : World), ((∃ y r, Hid (YearD (t / 86400) y r) ∧ e = .returned (.int .i64 (clamp y))) ∧ w = w') → e = .returned (.int .i64 (clamp y)) ∧ w = w' := by
  rintro e w' ⟨⟨y', r, h', rfl⟩, hw⟩
  obtain rfl := h'.out.uniq h
  exact ⟨rfl, hw⟩
end Cv
end Go.Proofs.YtdppmeeobpbfnaaDoor
namespace Go.Proofs.YtdppmeeobpbfnaaDoor
open Go.RowKit Cv
set_option linter.unusedVariables false
set_option linter.unusedSimpArgs false

namespace Cv
/-- what Always answers -/
def alw (a b m k w d : Int) : Prop := (1 ≤ m ∧ m ≤ 12 ∧ good k w d) ∧ ((b < 1048576 ∧ b < a) ∨ d ≤ len 1 m ∨ (b < 1048576 ∧ a = b ∧ m = 2 ∧ d ≤ len a 2))
instance (a b m k w d : Int) : Decidable (alw a b m k w d) := by unfold alw; exact inferInstance
def YesB (p : Prop) (w : World) (e : Ending) (w' : World) : Prop := Below w.heap.size w w' ∧ ((p ∧ e = .returned (.bool true)) ∨ (¬ p ∧ e = .returned (.bool false)))
theorem YesB.yes {p : Prop} {w w' : World} (n : Below w.heap.size w w') (h : p) : YesB p w (.returned (.bool true)) w' := ⟨n, .inl ⟨h, rfl⟩⟩
theorem YesB.no {p : Prop} {w w' : World} (n : Below w.heap.size w w') (h : ¬ p) : YesB p w (.returned (.bool false)) w' := ⟨n, .inr ⟨h, rfl⟩⟩
theorem YesB.of {p : Prop} {w w' : World} {b : Bool} (n : Below w.heap.size w w') (h : b = true ↔ p) : YesB p w (.returned (.bool b)) w' := by
  refine ⟨n, ?_⟩
  cases b
  · exact .inr ⟨fun hp => by simpa using h.2 hp, rfl⟩
  · exact .inl ⟨h.1 rfl, rfl⟩
theorem YesB.to_b {p : Prop} [Decidable p] {w : World} {b : Bool} (hb : decide p = b) : ∀ e w', YesB p w e w' → e = .returned (.bool b) ∧ Below w.heap.size w w' := by
  rintro e w' ⟨h, ⟨hp, rfl⟩ | ⟨hp, rfl⟩⟩
  · exact ⟨by rw [← hb]; simp [hp], h⟩
  · exact ⟨by rw [← hb]; simp [hp], h⟩
theorem tm_bd (a b : Int) (hb : 0 < b) : -b < a.tmod b ∧ a.tmod b < b := by
  rcases (show a < 0 ∨ 0 ≤ a from by omega) with h | h
  · rw [(tdm_neg a b h).2]
    have := Int.emod_nonneg (-a) (b := b) (by omega); have := Int.emod_lt_of_pos (-a) (b := b) hb; omega
  · rw [(tdm_pos a b h).2]
    have := Int.emod_nonneg a (b := b) (by omega); have := Int.emod_lt_of_pos a (b := b) hb; omega
theorem lp_tmod (a : Int) : lp (a.tmod 400) = lp a := by
  rcases (show a < 0 ∨ 0 ≤ a from by omega) with h | h
  · rw [(tdm_neg a 400 h).2]; unfold lp; split <;> split <;> omega
  · rw [(tdm_pos a 400 h).2]; unfold lp; split <;> split <;> omega
theorem len_tmod (a m : Int) : len (a.tmod 400) m = len a m := by unfold len; rw [lp_tmod]
end Cv
/-- a quiet callee behind earlier draws -/
theorem quiet_more {f : FuncId} {args : Array Value} {w : World} {i j : Nat} {v : Value}
    (h : Calls Tryd.prog f args (w.drewN (i + j)) fun e w' => e = .returned v ∧ w' = w.drewN (i + j)) :
    Calls Tryd.prog f args (w.drewN (i + j)) fun e w' => e = .returned v ∧ ∃ n, w' = w.drewN (i + n) := h.mono fun e w' hq => ⟨hq.1, j, hq.2⟩

end Go.Proofs.YtdppmeeobpbfnaaDoor
namespace Go.Proofs.YtdppmeeobpbfnaaDoor
open Go.RowKit Cv
set_option linter.unusedVariables false
set_option linter.unusedSimpArgs false

namespace Cv
theorem Yes.dec {p : Prop} [Decidable p] {w : World} : ∀ e w', Yes p w e w' → e = .returned (.bool (decide p)) ∧ w = w' := by
  rintro e w' ⟨rfl, ⟨hp, rfl⟩ | ⟨hp, rfl⟩⟩ <;> simp [hp]
end Cv

end Go.Proofs.YtdppmeeobpbfnaaDoor
