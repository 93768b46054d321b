/-
  The contracts of the reference of chapter 1 (package analemmaref01): they come to the same as package civil's.
-/
import Derived.Test.YtoaimfadccepiaaDoorCivEx
namespace Go.Proofs.YtoaimfadccepiaaDoor
open Go.RowKit Cv
set_option linter.unusedVariables false
set_option linter.unusedSimpArgs false

namespace Cv
theorem floor_cases (a b : Int) (hb : 0 < b) (h : a < 0) : (a.tmod b < 0 ∧ a / b = a.tdiv b - 1) ∨ (0 ≤ a.tmod b ∧ a / b = a.tdiv b) := by
  have ht := tdm_neg a b h
  have e2 := Int.emod_nonneg (-a) (b := b) (by omega)
  have e3 := Int.emod_lt_of_pos (-a) (b := b) hb
  have hd := Int.mul_tdiv_add_tmod a b
  have hr1 : -b < a.tmod b ∧ a.tmod b ≤ 0 := by rw [ht.2]; omega
  by_cases h : a.tmod b < 0
  · left
    exact ⟨h, ((Int.ediv_emod_unique (r := a.tmod b + b) (by omega)).2 ⟨by rw [Int.mul_sub]; omega, by omega, by omega⟩).1⟩
  · right
    exact ⟨by omega, ((Int.ediv_emod_unique (r := a.tmod b) (by omega)).2 ⟨by omega, by omega, by omega⟩).1⟩
theorem tdiv_lo (a b : Int) (hb1 : 2 ≤ b) (ha : -9223372036854775808 ≤ a) (h : a < 0) : -4611686018427387904 ≤ a.tdiv b ∧ a.tdiv b ≤ 0 := by
  have ht := tdm_neg a b h
  have e1 := Int.mul_ediv_add_emod (-a) b
  have e2 := Int.emod_nonneg (-a) (b := b) (by omega)
  have e4 := Int.ediv_nonneg (a := -a) (b := b) (by omega) (by omega)
  have e5 : (-a) / b * 2 ≤ -a := by
    have : (-a) / b * 2 ≤ (-a) / b * b := Int.mul_le_mul_of_nonneg_left hb1 e4
    rw [Int.mul_comm ((-a) / b) b] at this; omega
  rw [ht.1]; omega
end Cv

set_option maxHeartbeats 400000 in
theorem refFloor_any (a b : Int) (w : World) (ha : fit a) (hb1 : 2 ≤ b) (hb2 : b ≤ 1000000) :
    Calls Tryd.prog 68 #[.int .i64 a, .int .i64 b] w fun e w' => e = .returned (.int .i64 (a / b)) ∧ w = w' := by
  obtain ⟨ha1, ha2⟩ := ha
  have hb0 : 1 ≤ b := by omega
  have hz : (b == 0) = false := by simp; omega
  by_cases h0 : 0 ≤ a
  · have hm0 := Int.emod_nonneg a (b := b) (by omega)
    have hq0 := Int.ediv_nonneg h0 (show 0 ≤ b by omega)
    have hq1 := Int.ediv_le_self b h0
    go_enter Tryd.func68, Tryd.ntmps68
    go_wp2_with fail
    go_ret
    exact ⟨rfl, rfl⟩
  · obtain ⟨hq1, hq2⟩ := tdiv_lo a b hb1 ha1 (by omega)
    have hw : wrap64 (a.tdiv b) = a.tdiv b := IntWalk.wrap64_in _ (by omega)
    rcases floor_cases a b (by omega) (by omega) with ⟨hu0, hu⟩ | ⟨hu0, hu⟩
    all_goals
      have HU := Lib.hid hu
      clear hu
      go_enter Tryd.func68, Tryd.ntmps68
      go_wp2_with fail
      go_ret
      rw [HU.out]
      exact ⟨rfl, rfl⟩

set_option maxHeartbeats 400000 in
theorem refLeap_any (y : Int) (w : World) (h1 : -9223372036854775808 ≤ y) (h2 : y ≤ 9223372036854775807) :
    Calls Tryd.prog 60 #[.int .i64 y] w (Yes (lp y = 1) w) := by
  have hr : ∀ b : Int, 0 < b → ((y.tmod b == 0) = decide (y % b = 0)) := fun b hb => by
    rw [Bool.eq_iff_iff]; simp
    rcases (show y < 0 ∨ 0 ≤ y from by omega) with h | h
    · have := (tdm_neg y b h).2
      rw [this]
      have e : y % b = 0 ↔ (-y) % b = 0 := by rw [← Int.dvd_iff_emod_eq_zero, ← Int.dvd_iff_emod_eq_zero, Int.dvd_neg]
      omega
    · rw [(tdm_pos y b h).2]
  have e4 := hr 4 (by decide); have e100 := hr 100 (by decide); have e400 := hr 400 (by decide)
  have n100 : (y.tmod 100 != 0) = !decide (y % 100 = 0) := by rw [← e100]; rfl
  have hl : lp y = 1 ↔ (y % 4 = 0 ∧ (y % 100 ≠ 0 ∨ y % 400 = 0)) := by unfold lp; split <;> simp_all
  have h44 : y % 400 = 0 → y % 4 = 0 := by omega
  have H44 := Lib.hid h44
  have HL := Lib.hid hl
  clear hl hr h44
  by_cases a4 : y % 4 = 0 <;> by_cases a100 : y % 100 = 0 <;> by_cases a400 : y % 400 = 0 <;> simp only [a4, a100, a400] at e4 e100 e400 n100 <;>
    (have A4 := Lib.hid a4; have A100 := Lib.hid a100; have A400 := Lib.hid a400; clear a4 a100 a400
     simp at e4 e100 e400 n100
     go_enter Tryd.func60, Tryd.ntmps60
     go_wp2
     go_ret
     refine Yes.of ?_
     rw [HL.out]
     have x4 := A4.out; have x100 := A100.out; have x400 := A400.out; have x44 := H44.out
     clear H44 HL A4 A100 A400
     simp_all)

set_option maxHeartbeats 400000 in
theorem refLen_any (y m : Int) (w : World) (h1 : -9223372036854775808 ≤ y) (h2 : y ≤ 9223372036854775807) :
    Calls Tryd.prog 41 #[.int .i64 y, .int .i64 m] w fun e w' => e = .returned (.int .i64 (len y m)) ∧ w = w' := by
  by_cases ho : m < 1 ∨ 12 < m
  · rw [len_out y m ho]
    have b1 : (m == 1) = false := by simp; omega
    have b2 : (m == 2) = false := by simp; omega
    have b3 : (m == 3) = false := by simp; omega
    have b4 : (m == 4) = false := by simp; omega
    have b5 : (m == 5) = false := by simp; omega
    have b6 : (m == 6) = false := by simp; omega
    have b7 : (m == 7) = false := by simp; omega
    have b8 : (m == 8) = false := by simp; omega
    have b9 : (m == 9) = false := by simp; omega
    have b10 : (m == 10) = false := by simp; omega
    have b11 : (m == 11) = false := by simp; omega
    have b12 : (m == 12) = false := by simp; omega
    clear ho
    go_enter Tryd.func41, Tryd.ntmps41
    go_wp2
    go_ret
    exact ⟨rfl, rfl⟩
  · have hc := month_cases m (by omega) (by omega)
    by_cases h3 : m = 2
    · subst h3
      clear hc ho
      rcases lp_cases y with hl | hl
      · have HL := Lib.hid hl
        rw [show len y 2 = 28 from by unfold len; simp [hl]]
        clear hl
        go_enter Tryd.func41, Tryd.ntmps41
        go_wp2_with fail
        refine (refLeap_any _ _ h1 h2).mono ?_
        intro e w' hq; obtain ⟨rfl, rfl⟩ := Yes.to_no (by rw [HL.out]; decide) _ _ hq; clear hq
        go_wp2
        go_ret
        exact ⟨rfl, rfl⟩
      · have HL := Lib.hid hl
        rw [show len y 2 = 29 from by unfold len; simp [hl]]
        clear hl
        go_enter Tryd.func41, Tryd.ntmps41
        go_wp2_with fail
        refine (refLeap_any _ _ h1 h2).mono ?_
        intro e w' hq; obtain ⟨rfl, rfl⟩ := Yes.to_yes HL.out _ _ hq; clear hq
        go_wp2
        go_ret
        exact ⟨rfl, rfl⟩
    · have hl : len y m = if m = 4 ∨ m = 6 ∨ m = 9 ∨ m = 11 then 30 else 31 := by unfold len; rw [if_neg ho, if_neg h3]
      rcases hc with rfl | rfl | rfl | rfl | rfl | rfl | rfl | rfl | rfl | rfl | rfl | rfl
      all_goals first | (exfalso; exact h3 rfl) | skip
      all_goals
        simp at hl
        rw [hl]
        clear hl h3 ho
        go_enter Tryd.func41, Tryd.ntmps41
        go_wp2
        go_ret
        exact ⟨rfl, rfl⟩

set_option maxHeartbeats 400000 in
theorem refSize_any (y : Int) (w : World) (h1 : -9223372036854775808 ≤ y) (h2 : y ≤ 9223372036854775807) :
    Calls Tryd.prog 69 #[.int .i64 y] w fun e w' => e = .returned (.int .i64 (365 + lp y)) ∧ w = w' := by
  rcases lp_cases y with hl | hl
  · have HL := Lib.hid hl
    rw [hl]
    clear hl
    go_enter Tryd.func69, Tryd.ntmps69
    go_wp2_with fail
    refine (refLeap_any _ _ h1 h2).mono ?_
    intro e w' hq; obtain ⟨rfl, rfl⟩ := Yes.to_no (by rw [HL.out]; decide) _ _ hq; clear hq
    go_wp2
    go_ret
    exact ⟨rfl, rfl⟩
  · have HL := Lib.hid hl
    rw [hl]
    clear hl
    go_enter Tryd.func69, Tryd.ntmps69
    go_wp2_with fail
    refine (refLeap_any _ _ h1 h2).mono ?_
    intro e w' hq; obtain ⟨rfl, rfl⟩ := Yes.to_yes HL.out _ _ hq; clear hq
    go_wp2
    go_ret
    exact ⟨rfl, rfl⟩

set_option maxHeartbeats 1000000 in
theorem refFirst_any (y : Int) (w : World) (h1 : -2000000000 ≤ y) (h2 : y ≤ 2000000000) :
    Calls Tryd.prog 62 #[.int .i64 y] w fun e w' => e = .returned (.int .i64 (fst y)) ∧ w = w' := by
  have HF := Lib.hid (show fit y by unfold fit; omega)
  obtain ⟨c, hc⟩ : ∃ c, c = y / 400 := ⟨_, rfl⟩
  have hcb : -5000000 ≤ c ∧ c ≤ 5000000 ∧ c * 400 ≤ y := by omega
  have hcf : fst (c * 400) = c * 146097 - 719528 := by unfold fst; omega
  have HFl : Hid (∀ W, Calls Tryd.prog 68 #[.int .i64 y, .int .i64 400] W fun e w' => e = .returned (.int .i64 c) ∧ W = w') := fun W => by
    rw [hc]; exact refFloor_any y 400 W HF.out (by decide) (by decide)
  have HC := Lib.hid hcf
  obtain ⟨hc1, hc2, hc3⟩ := hcb
  clear hc hcf
  go_enter Tryd.func62, Tryd.ntmps62
  go_wp2_with fail
  refine (HFl.out _).mono ?_
  rintro e w' ⟨rfl, rfl⟩
  go_wp2_with fail
  go_loop [4, 5] (fun d i => ∃ z v : Int, -2000000000 ≤ z ∧ z ≤ y ∧ i = .int .i64 z ∧ d = .int .i64 v ∧ Hid (fst z = v)) (fun _ i => (y - intOf i).toNat)
  case atStart => exact ⟨c * 400, _, by omega, hc3, rfl, rfl, HC⟩
  case round =>
    obtain ⟨z, v, hz1, hz2, rfl, rfl, hv⟩ := hrel
    have hvb : -1000000000000 ≤ v ∧ v ≤ 1000000000000 := by have := hv.out; unfold fst at this; omega
    obtain ⟨hv1, hv2⟩ := hvb
    obtain ⟨hl1, hl2⟩ := lp_bd z
    by_cases hlt : z < y
    · go_wp2_with fail
      refine (refSize_any z _ (by omega) (by omega)).mono ?_
      rintro e w' ⟨rfl, rfl⟩
      go_wp2_with fail
      go_round
      case rel => exact ⟨z + 1, _, by omega, by omega, rfl, rfl, by show fst (z + 1) = _; rw [fst_succ, hv.out]; omega⟩
      case measure => simp [intOf]; omega
    · obtain rfl : z = y := by omega
      go_wp2_with fail
      go_ret
      rw [hv.out]
      exact ⟨rfl, rfl⟩

set_option maxHeartbeats 400000 in
theorem refIn_any (y : Int) (w : World) : Calls Tryd.prog 61 #[.int .i64 y] w (Yes (inr y) w) := by
  go_enter Tryd.func61, Tryd.ntmps61
  go_wp2
  all_goals (go_ret; refine Yes.of ?_; unfold inr; simp; try omega)

namespace Cv
/-- what the reference's Days returns -/
def DaysF (y m d : Int) (w : World) (e : Ending) (w' : World) : Prop :=
  w = w' ∧ (((inr y ∧ ok y m d) ∧ e = .returned (.tuple #[.int .i64 (num y m d), .int .i64 0])) ∨ (¬ (inr y ∧ ok y m d) ∧ e = .returned (.tuple #[.int .i64 0, .int .i64 3])))
end Cv

set_option maxRecDepth 100000 in
set_option maxHeartbeats 1000000 in
theorem refDays_any (y m d : Int) (w : World) (hy1 : -9223372036854775808 ≤ y) (hy2 : y ≤ 9223372036854775807) (hd1 : -9223372036854775808 ≤ d) (hd2 : d ≤ 9223372036854775807) :
    Calls Tryd.prog 42 #[.int .i64 y, .int .i64 m, .int .i64 d] w (DaysF y m d w) := by
  by_cases hin : inr y
  · by_cases hd : d < 1
    · have hno : ¬ (inr y ∧ ok y m d) := fun h => by have := h.2.1; omega
      have HN := Lib.hid hno; have HI := Lib.hid hin
      clear hno hin
      go_enter Tryd.func42, Tryd.ntmps42
      go_wp2_with fail
      refine (refIn_any _ _).mono ?_
      intro e w' hq; obtain ⟨rfl, rfl⟩ := Yes.to_yes HI.out _ _ hq; clear hq
      go_wp2_with fail
      go_ret2
      exact ⟨rfl, .inr ⟨HN.out, rfl⟩⟩
    · have hd3 : 1 ≤ d := by omega
      by_cases hl : len y m < d
      · have hno : ¬ (inr y ∧ ok y m d) := fun h => by have := h.2.2; omega
        have HN := Lib.hid hno; have HI := Lib.hid hin
        clear hno hin
        go_enter Tryd.func42, Tryd.ntmps42
        go_wp2_with fail
        refine (refIn_any _ _).mono ?_
        intro e w' hq; obtain ⟨rfl, rfl⟩ := Yes.to_yes HI.out _ _ hq; clear hq
        go_wp2_with fail
        refine (refLen_any y m w hy1 hy2).mono ?_
        rintro e w' ⟨rfl, rfl⟩
        go_wp2_with fail
        go_ret2
        exact ⟨rfl, .inr ⟨HN.out, rfl⟩⟩
      · have hyes : inr y ∧ ok y m d := ⟨hin, hd3, by omega⟩
        have hm := hyes.2.month
        have hl2 : d ≤ len y m := by omega
        have hlb := len_bd y m
        obtain ⟨hi1, hi2⟩ := hin
        obtain ⟨hm1, hm2⟩ := hm
        have hd4 : d ≤ 31 := by omega
        have hfb : -800000000000 ≤ fst y ∧ fst y ≤ 800000000000 := by unfold fst; omega
        have HY := Lib.hid hyes
        have HB := Lib.hid hfb
        clear hyes hfb hlb hl
        go_enter Tryd.func42, Tryd.ntmps42
        go_wp2_with fail
        refine (refIn_any _ _).mono ?_
        intro e w' hq; obtain ⟨rfl, rfl⟩ := Yes.to_yes HY.out.1 _ _ hq; clear hq
        go_wp2_with fail
        refine (refLen_any y m w hy1 hy2).mono ?_
        rintro e w' ⟨rfl, rfl⟩
        go_wp2_with fail
        refine (refFirst_any y w hi1 hi2).mono ?_
        rintro e w' ⟨rfl, rfl⟩
        go_wp2_with fail
        go_loop [8, 9] (fun s i => ∃ k v : Int, 1 ≤ k ∧ k ≤ m ∧ -900000000000 ≤ v ∧ v ≤ 900000000000 ∧ i = .int .i64 k ∧ s = .int .i64 v ∧ Hid (fst y + cum y k = v)) (fun _ i => (m - intOf i).toNat)
        case atStart => exact ⟨1, fst y, by omega, by omega, by have := HB.out; omega, by have := HB.out; omega, rfl, rfl, by show fst y + cum y 1 = _; rw [cum_one]; omega⟩
        case round =>
          obtain ⟨k, v, hk1, hk2, hv1, hv2, rfl, rfl, hv⟩ := hrel
          by_cases hk : k < m
          · have hvb : -900000000000 ≤ v + len y k ∧ v + len y k ≤ 900000000000 ∧ 0 ≤ len y k ∧ len y k ≤ 31 := by
              have h1 := cum_bd y k hk1 (by omega)
              have h2 := len_bd y k
              have h3 := lp_bd y
              have := HB.out; have := hv.out; omega
            obtain ⟨hvb1, hvb2, hvb3, hvb4⟩ := hvb
            go_wp2_with fail
            refine (refLen_any y k _ hy1 hy2).mono ?_
            rintro e w' ⟨rfl, rfl⟩
            go_wp2_with fail
            go_round
            case rel => exact ⟨k + 1, v + len y k, by omega, by omega, hvb1, hvb2, rfl, rfl, by show fst y + cum y (k + 1) = _; rw [cum_succ y k (by omega) (by omega)]; have := hv.out; omega⟩
            case measure => simp [intOf]; omega
          · obtain rfl : k = m := by omega
            have hr : v + d - 1 = num y k d := by unfold num; have := hv.out; omega
            have HR := Lib.hid hr
            clear hr
            go_wp2_with fail
            go_ret2
            exact ⟨rfl, .inl ⟨HY.out, by rw [← HR.out]; rfl⟩⟩
  · have hno : ¬ (inr y ∧ ok y m d) := fun h => hin h.1
    have HN := Lib.hid hno; have HI := Lib.hid hin
    clear hno hin
    go_enter Tryd.func42, Tryd.ntmps42
    go_wp2_with fail
    refine (refIn_any _ _).mono ?_
    intro e w' hq; obtain ⟨rfl, rfl⟩ := Yes.to_no HI.out _ _ hq; clear hq
    go_wp2_with fail
    go_ret2
    exact ⟨rfl, .inr ⟨HN.out, rfl⟩⟩

namespace Cv
/-- the year of a day, and the days in front of it -/
def YearD (n y r : Int) : Prop := fst y + r = n ∧ 0 ≤ r ∧ r < 365 + lp y
theorem YearD.uniq {n y r z m d : Int} (h : YearD n y r) (k : IsDate n z m d) : z = y := by
  have hb := k.bd
  have hs := fst_succ y
  obtain ⟨h1, h2, h3⟩ := h
  rcases Int.lt_trichotomy y z with hl | rfl | hl
  · have := fst_mono (y + 1) z (by omega); omega
  · rfl
  · have := fst_mono (z + 1) y (by omega); omega
theorem wrap_back (n : Int) (h1 : -9223372036854775808 ≤ n) (h2 : n ≤ 9223372036854775807) : wrap64 (n - wrap64 (n / 146097 * 146097)) = n % 146097 := by
  have hd : n / 146097 * 146097 = n - n % 146097 := by omega
  have hr : 0 ≤ n % 146097 ∧ n % 146097 < 146097 := by omega
  rw [hd]
  generalize n % 146097 = r at *
  by_cases hc : -9223372036854775808 ≤ n - r
  · rw [IntWalk.wrap64_in (n - r) (by omega), IntWalk.wrap64_in _ (by omega)]; omega
  · unfold wrap64; omega
/-- what the reference's year returns -/
def YearF (n : Int) (w : World) (e : Ending) (w' : World) : Prop :=
  ∃ y r : Int, -26000000000000000 ≤ y ∧ y ≤ 26000000000000000 ∧ 0 ≤ r ∧ r < 366 ∧ Hid (YearD n y r) ∧ e = .returned (.tuple #[.int .i64 y, .int .i64 r]) ∧ w = w'
end Cv

namespace Cv
/-- what the reference's Date returns -/
def DateF (n : Int) (w : World) (e : Ending) (w' : World) : Prop :=
  w = w' ∧ ((∃ y m d, Hid (IsDate n y m d) ∧ Hid (inr y) ∧ e = .returned (.tuple #[.int .i64 y, .int .i64 m, .int .i64 d, .int .i64 0])) ∨
    (∃ y r, Hid (YearD n y r) ∧ Hid (¬ inr y) ∧ e = .returned (.tuple #[.int .i64 0, .int .i64 0, .int .i64 0, .int .i64 3])))
end Cv

set_option maxRecDepth 100000 in
set_option maxHeartbeats 1000000 in
theorem refWeekday_any (n : Int) (w : World) (h1 : -9223372036854775808 ≤ n) (h2 : n ≤ 9223372036854775807) :
    Calls Tryd.prog 43 #[.int .i64 n] w fun e w' => e = .returned (.int .i64 ((n + 4) % 7)) ∧ w = w' := by
  by_cases h0 : 0 ≤ n
  · have HE := Lib.hid (show (n % 7 + 11) % 7 = (n + 4) % 7 by omega)
    go_enter Tryd.func43, Tryd.ntmps43
    go_wp2_with fail
    go_ret
    first | exact ⟨rfl, rfl⟩ | (rw [HE.out]; exact ⟨rfl, rfl⟩)
  · have ht := (tdm_neg n 7 (by omega)).2
    have hb : -7 < n.tmod 7 ∧ n.tmod 7 ≤ 0 := by rw [ht]; omega
    have HE := Lib.hid (show (n.tmod 7 + 11) % 7 = (n + 4) % 7 by rw [ht]; omega)
    obtain ⟨hb1, hb2⟩ := hb
    clear ht
    go_enter Tryd.func43, Tryd.ntmps43
    go_wp2_with fail
    go_ret
    first | exact ⟨rfl, rfl⟩ | (rw [HE.out]; exact ⟨rfl, rfl⟩)

namespace Cv
theorem DaysF.to_yes {y m d v : Int} {w : World} (h : inr y ∧ ok y m d) (hv : num y m d = v) : ∀ e w', DaysF y m d w e w' → e = .returned (.tuple #[.int .i64 v, .int .i64 0]) ∧ w = w' := by
  rintro e w' ⟨hw, ⟨_, rfl⟩ | ⟨hn, _⟩⟩
  · exact ⟨by rw [hv], hw⟩
  · exact (hn h).elim
theorem DaysF.to_no {y m d : Int} {w : World} (h : ¬ (inr y ∧ ok y m d)) : ∀ e w', DaysF y m d w e w' → e = .returned (.tuple #[.int .i64 0, .int .i64 3]) ∧ w = w' := by
  rintro e w' ⟨hw, ⟨hn, _⟩ | ⟨_, rfl⟩⟩
  · exact (h hn).elim
  · exact ⟨rfl, hw⟩
theorem DateF.to_yes {n y m d : Int} {w : World} (h : IsDate n y m d) (hi : inr y) : ∀ e w', DateF n w e w' → e = .returned (.tuple #[.int .i64 y, .int .i64 m, .int .i64 d, .int .i64 0]) ∧ w = w' := by
  rintro e w' ⟨hw, ⟨y', m', d', h', _, rfl⟩ | ⟨y', r, h', hn, _⟩⟩
  · obtain ⟨rfl, rfl, rfl⟩ := h.uniq h'.out; exact ⟨rfl, hw⟩
  · obtain rfl := h'.out.uniq h; exact (hn.out hi).elim
theorem DateF.to_no {n y m d : Int} {w : World} (h : IsDate n y m d) (hi : ¬ inr y) : ∀ e w', DateF n w e w' → e = .returned (.tuple #[.int .i64 0, .int .i64 0, .int .i64 0, .int .i64 3]) ∧ w = w' := by
  rintro e w' ⟨hw, ⟨y', m', d', h', hn, rfl⟩ | ⟨y', r, h', hn, rfl⟩⟩
  · obtain ⟨rfl, rfl, rfl⟩ := h.uniq h'.out; exact (hi hn.out).elim
  · exact ⟨rfl, hw⟩
theorem wday_ref {n v : Int} {w : World} (hv : (n + 4) % 7 = v) : ∀ (e : Ending) (w' : World), (e = .returned (.int .i64 ((n + 4) % 7)) ∧ w = w') → e = .returned (.int .i64 v) ∧ w = w' := by
  rintro e w' ⟨rfl, hw⟩
  exact ⟨by rw [hv], hw⟩
theorem YearF.to_is {t y m d : Int} {w : World} (h : IsDate (t / 86400) y m d) : ∀ (e : Ending) (w' : World), ((∃ y r, Hid (YearD (t / 86400) y r) ∧ e = .returned (.int .i64 (clamp y))) ∧ w = w') → e = .returned (.int .i64 (clamp y)) ∧ w = w' := by
  rintro e w' ⟨⟨y', r, h', rfl⟩, hw⟩
  obtain rfl := h'.out.uniq h
  exact ⟨rfl, hw⟩
end Cv
end Go.Proofs.YtoaimfadccepiaaDoor
