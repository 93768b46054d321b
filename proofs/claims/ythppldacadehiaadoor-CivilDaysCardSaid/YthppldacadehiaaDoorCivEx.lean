/-
  The examples of chapter 1: package analemmalaw01's function works returns true.
-/
import Derived.Test.YthppldacadehiaaDoorCivDays
namespace Go.Proofs.YthppldacadehiaaDoor
open Go.RowKit Cv
set_option linter.unusedVariables false
set_option linter.unusedSimpArgs false

namespace Cv
instance (y m d : Int) : Decidable (ok y m d) := by unfold ok; exact inferInstance
instance (n y m d : Int) : Decidable (IsDate n y m d) := by unfold IsDate; exact inferInstance
theorem DaysR.to_yes {y m d v : Int} {w : World} (h : inr y ∧ ok y m d) (hv : num y m d = v) : ∀ e w', DaysR y m d w e w' → e = .returned (.tuple #[.int .i64 v, .int .i64 0]) ∧ ∃ n, w' = w.drewN n := by
  rintro e w' ⟨hw, ⟨_, rfl⟩ | ⟨hn, _⟩⟩
  · exact ⟨by rw [hv], hw⟩
  · exact (hn h).elim
theorem DaysR.to_no {y m d : Int} {w : World} (h : ¬ (inr y ∧ ok y m d)) : ∀ e w', DaysR y m d w e w' → e = .returned (.tuple #[.int .i64 0, .int .i64 3]) ∧ ∃ n, w' = w.drewN n := by
  rintro e w' ⟨hw, ⟨hn, _⟩ | ⟨_, rfl⟩⟩
  · exact (h hn).elim
  · exact ⟨rfl, hw⟩
theorem DateE.to_yes {n y m d : Int} {w : World} (h : IsDate n y m d) (hi : inr y) : ∀ e w', DateE n w e w' → e = .returned (.tuple #[.int .i64 y, .int .i64 m, .int .i64 d, .int .i64 0]) ∧ ∃ n, w' = w.drewN n := by
  rintro e w' ⟨y', m', d', h', ⟨_, rfl⟩ | ⟨hn, _⟩, hw⟩
  · obtain ⟨rfl, rfl, rfl⟩ := h.uniq h'.out; exact ⟨rfl, hw⟩
  · obtain ⟨rfl, rfl, rfl⟩ := h.uniq h'.out; exact (hn.out hi).elim
theorem DateE.to_no {n y m d : Int} {w : World} (h : IsDate n y m d) (hi : ¬ inr y) : ∀ e w', DateE n w e w' → e = .returned (.tuple #[.int .i64 0, .int .i64 0, .int .i64 0, .int .i64 3]) ∧ ∃ n, w' = w.drewN n := by
  rintro e w' ⟨y', m', d', h', ⟨hn, _⟩ | ⟨_, rfl⟩, hw⟩
  · obtain ⟨rfl, rfl, rfl⟩ := h.uniq h'.out; exact (hi hn.out).elim
  · exact ⟨rfl, hw⟩
theorem YearR.to_is {t y m d v : Int} {w : World} (h : IsDate (t / 86400) y m d) (hv : clamp y = v) : ∀ e w', YearR t w e w' → e = .returned (.int .i64 v) ∧ ∃ n, w' = w.drewN n := by
  rintro e w' ⟨y', m', d', h', rfl, hw⟩
  obtain ⟨rfl, rfl, rfl⟩ := h.uniq h'.out
  exact ⟨by rw [hv], hw⟩
theorem wday_to {n v : Int} {w : World} (hv : (n + 4) % 7 = v) : ∀ (e : Ending) (w' : World), (e = .returned (.int .i64 ((n + 4) % 7)) ∧ ∃ k, w' = w.drewN k) → e = .returned (.int .i64 v) ∧ ∃ n, w' = w.drewN n := by
  rintro e w' ⟨rfl, hw⟩
  exact ⟨by rw [hv], hw⟩
theorem len_to {y m v : Int} {w : World} (hv : len y m = v) : ∀ (e : Ending) (w' : World), (e = .returned (.int .i64 (len y m)) ∧ w = w') → e = .returned (.int .i64 v) ∧ w = w' := by
  rintro e w' ⟨rfl, hw⟩
  exact ⟨by rw [hv], hw⟩
theorem Yes.to_b {p : Prop} [Decidable p] {w : World} {b : Bool} (hb : decide p = b) : ∀ e w', Yes p w e w' → e = .returned (.bool b) ∧ w = w' := by
  rintro e w' ⟨rfl, ⟨hp, rfl⟩ | ⟨hp, rfl⟩⟩
  · rw [← hb]; simp [hp]
  · rw [← hb]; simp [hp]
end Cv

set_option maxRecDepth 100000 in
set_option maxHeartbeats 4000000 in
theorem works_any (w : World) (hT : Tab w) :
    Calls Tryd.prog 17 #[] w fun e w' => e = .returned (.bool true) ∧ ∃ n, w' = w.drewN n := by
  have HT := Lib.hid hT; clear hT
  go_enter Tryd.func17, Tryd.ntmps17
  go_wp2_with fail
  refine (days_any 2000 3 1 _ (by first | exact HT.out | exact HT.out.drewN _) (by decide) (by decide) (by decide) (by decide)).mono ?_
  intro e w' hq; obtain ⟨rfl, nd, rfl⟩ := DaysR.to_yes (v := 11017) (by decide) (by decide) _ _ hq; clear hq
  go_wp2_with fail
  refine (days_any 0 1 1 _ (by first | exact HT.out | exact HT.out.drewN _) (by decide) (by decide) (by decide) (by decide)).mono ?_
  intro e w' hq; obtain ⟨rfl, nd, rfl⟩ := DaysR.to_yes (v := -719528) (by decide) (by decide) _ _ hq; clear hq
  go_wp2_with fail
  refine (days_any 2023 2 29 _ (by first | exact HT.out | exact HT.out.drewN _) (by decide) (by decide) (by decide) (by decide)).mono ?_
  intro e w' hq; obtain ⟨rfl, nd, rfl⟩ := DaysR.to_no (by decide) _ _ hq; clear hq
  go_wp2_with fail
  refine (days_any 2000000001 1 1 _ (by first | exact HT.out | exact HT.out.drewN _) (by decide) (by decide) (by decide) (by decide)).mono ?_
  intro e w' hq; obtain ⟨rfl, nd, rfl⟩ := DaysR.to_no (by decide) _ _ hq; clear hq
  go_wp2_with fail
  refine (dateE_any 19782 _ (by first | exact HT.out | exact HT.out.drewN _) (by decide) (by decide)).mono ?_
  intro e w' hq; obtain ⟨rfl, nd, rfl⟩ := DateE.to_yes (y := 2024) (m := 2) (d := 29) (by decide) (by decide) _ _ hq; clear hq
  go_wp2_with fail
  refine (leap_any 1900 _ (by decide) (by decide)).mono ?_
  intro e w' hq; obtain ⟨rfl, rfl⟩ := Yes.to_b (b := false) (by decide) _ _ hq; clear hq
  go_wp2_with fail
  refine (leap_any 2000 _ (by decide) (by decide)).mono ?_
  intro e w' hq; obtain ⟨rfl, rfl⟩ := Yes.to_b (b := true) (by decide) _ _ hq; clear hq
  go_wp2_with fail
  refine (leap_any (-4) _ (by decide) (by decide)).mono ?_
  intro e w' hq; obtain ⟨rfl, rfl⟩ := Yes.to_b (b := true) (by decide) _ _ hq; clear hq
  go_wp2_with fail
  refine (leap_any (-100) _ (by decide) (by decide)).mono ?_
  intro e w' hq; obtain ⟨rfl, rfl⟩ := Yes.to_b (b := false) (by decide) _ _ hq; clear hq
  go_wp2_with fail
  refine (len_any 2023 2 _ (by decide) (by decide)).mono ?_
  intro e w' hq; obtain ⟨rfl, rfl⟩ := len_to (v := 28) (by decide) _ _ hq; clear hq
  go_wp2_with fail
  refine (len_any 2024 2 _ (by decide) (by decide)).mono ?_
  intro e w' hq; obtain ⟨rfl, rfl⟩ := len_to (v := 29) (by decide) _ _ hq; clear hq
  go_wp2_with fail
  refine (len_any 2024 13 _ (by decide) (by decide)).mono ?_
  intro e w' hq; obtain ⟨rfl, rfl⟩ := len_to (v := 0) (by decide) _ _ hq; clear hq
  go_wp2_with fail
  refine (weekday_any 0 _ (by decide) (by decide)).mono ?_
  intro e w' hq; obtain ⟨rfl, nd, rfl⟩ := wday_to (v := 4) (by decide) _ _ hq; clear hq
  go_wp2_with fail
  refine (weekday_any 3 _ (by decide) (by decide)).mono ?_
  intro e w' hq; obtain ⟨rfl, nd, rfl⟩ := wday_to (v := 0) (by decide) _ _ hq; clear hq
  go_wp2_with fail
  refine (weekday_any (-5) _ (by decide) (by decide)).mono ?_
  intro e w' hq; obtain ⟨rfl, nd, rfl⟩ := wday_to (v := 6) (by decide) _ _ hq; clear hq
  go_wp2_with fail
  refine (year_any 0 _ (by first | exact HT.out | exact HT.out.drewN _) (by decide) (by decide)).mono ?_
  intro e w' hq; obtain ⟨rfl, nd, rfl⟩ := YearR.to_is (y := 1970) (m := 1) (d := 1) (v := 1970) (by decide) (by decide) _ _ hq; clear hq
  go_wp2_with fail
  refine (year_any (-1) _ (by first | exact HT.out | exact HT.out.drewN _) (by decide) (by decide)).mono ?_
  intro e w' hq; obtain ⟨rfl, nd, rfl⟩ := YearR.to_is (y := 1969) (m := 12) (d := 31) (v := 1969) (by decide) (by decide) _ _ hq; clear hq
  go_wp2_with fail
  refine (year_any 9223372036854775807 _ (by first | exact HT.out | exact HT.out.drewN _) (by decide) (by decide)).mono ?_
  intro e w' hq; obtain ⟨rfl, nd, rfl⟩ := YearR.to_is (y := 292277026596) (m := 12) (d := 4) (v := 2000000000) (by decide) (by decide) _ _ hq; clear hq
  go_wp2_with fail
  go_ret
  exact ⟨rfl, _, rfl⟩
end Go.Proofs.YthppldacadehiaaDoor
