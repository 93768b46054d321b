/-
  The walk of the law CivilCycles.
-/
import Derived.Test.YthppldacadehiaaDoorCivLaw
namespace Go.Proofs.YthppldacadehiaaDoor
open Go.RowKit Cv
set_option linter.unusedVariables false
set_option linter.unusedSimpArgs false

namespace Cv
theorem lp_400 (y : Int) : lp (y + 400) = lp y := by unfold lp; split <;> split <;> omega
theorem len_400 (y m : Int) : len (y + 400) m = len y m := by unfold len; rw [lp_400]
theorem cum_400 (y m : Int) : cum (y + 400) m = cum y m := by unfold cum; rw [lp_400]
theorem num_400 (y m d : Int) : num (y + 400) m d = num y m d + 146097 := by unfold num; rw [cum_400]; unfold fst; omega
theorem ok_28 {y m d : Int} (h1 : 1 ≤ m) (h2 : m ≤ 12) (h3 : 1 ≤ d) (h4 : d ≤ 28) : ok y m d := ⟨h3, by have := len_in y m h1 h2; omega⟩
end Cv

set_option maxRecDepth 100000 in
set_option maxHeartbeats 4000000 in
theorem civilCycles.civilCycles_walk (w : World) (hL : laidMetH Tryd.prog Rows.civilCyclesRow.laid w) (b : Int) (wb : (Lit.int .i64 b).wf = true) (m : Int) (wm : (Lit.int .u8 m).wf = true) (d : Int) (wd : (Lit.int .u8 d).wf = true) :
    Calls Tryd.prog 7 #[.int .i64 b, .int .u8 m, .int .u8 d] w fun e w' => e = .returned (.bool true) ∧ Below w.heap.size w w' := by
  have HT := Lib.hid (tab_of hL)
  obtain ⟨hb1, hb2⟩ := fit_of wb
  obtain ⟨hm1, hm2⟩ := byte_of wm
  obtain ⟨hd1, hd2⟩ := byte_of wd
  obtain ⟨hy1, hy2⟩ := tm_bd b 1999999600 (by decide)
  clear hL wb wm wd
  obtain ⟨y, hy⟩ : ∃ y, y = b.tmod 1999999600 := ⟨_, rfl⟩
  rw [← hy] at hy1 hy2
  have HY := Lib.hid hy.symm
  clear hy
  have hmm : 0 ≤ m % 12 ∧ m % 12 < 12 ∧ 0 ≤ d % 28 ∧ d % 28 < 28 := by omega
  obtain ⟨hmm1, hmm2, hdd1, hdd2⟩ := hmm
  have HA := Lib.hid (show inr y ∧ ok y (1 + m % 12) (1 + d % 28) from ⟨by unfold inr; omega, ok_28 (by omega) (by omega) (by omega) (by omega)⟩)
  have HB := Lib.hid (show inr (y + 400) ∧ ok (y + 400) (1 + m % 12) (1 + d % 28) from ⟨by unfold inr; omega, ok_28 (by omega) (by omega) (by omega) (by omega)⟩)
  have HC := Lib.hid (show inr y ∧ ok y 1 1 from ⟨by unfold inr; omega, ok_28 (by omega) (by omega) (by omega) (by omega)⟩)
  have HD := Lib.hid (show inr (y + 1) ∧ ok (y + 1) 1 1 from ⟨by unfold inr; omega, ok_28 (by omega) (by omega) (by omega) (by omega)⟩)
  obtain ⟨n, hn⟩ : ∃ n, n = num y (1 + m % 12) (1 + d % 28) := ⟨_, rfl⟩
  obtain ⟨f, hf⟩ : ∃ f, f = fst y := ⟨_, rfl⟩
  have hnb : -800000000000 ≤ n ∧ n ≤ 800000000000 ∧ -800000000000 ≤ f ∧ f ≤ 800000000000 := by
    have := num_bd HA.out.2
    unfold fst at this hf; omega
  obtain ⟨hn1, hn2, hf1, hf2⟩ := hnb
  have HN := Lib.hid hn
  have HF := Lib.hid (show num y 1 1 = f by rw [hf]; unfold num; rw [cum_one]; omega)
  have HF2 := Lib.hid (show num (y + 1) 1 1 = f + (365 + lp y) by rw [hf]; unfold num; rw [cum_one, fst_succ]; omega)
  have HN2 := Lib.hid (show num (y + 400) (1 + m % 12) (1 + d % 28) = n + 146097 by rw [hn]; exact num_400 _ _ _)
  obtain ⟨wk, hwk⟩ : ∃ x, x = (n + 4) % 7 := ⟨_, rfl⟩
  have HW := Lib.hid hwk.symm
  have HW2 := Lib.hid (show (n + 146097 + 4) % 7 = wk by omega)
  clear hn hf hwk
  obtain ⟨l, hl⟩ : ∃ l, l = lp y := ⟨_, rfl⟩
  have HL := Lib.hid hl.symm
  have hlc : l = 0 ∨ l = 1 := by rw [hl]; exact lp_cases y
  clear hl
  rcases hlc with rfl | rfl
  · go_enter Tryd.func7, Tryd.ntmps7
    go_wp2_with fail
    rw [HY.out]
    go_wp2_with fail
    refine (days_any y (1 + m % 12) (1 + d % 28) _ (by exact HT.out) (by omega) (by omega) (by omega) (by omega)).mono ?_
    intro e w' hq; obtain ⟨rfl, nd, rfl⟩ := DaysR.to_yes (v := n) HA.out HN.out.symm _ _ hq; clear hq
    go_wp2_with fail
    refine (days_any (y + 400) (1 + m % 12) (1 + d % 28) _ (by exact HT.out) (by omega) (by omega) (by omega) (by omega)).mono ?_
    intro e w' hq; obtain ⟨rfl, nd, rfl⟩ := DaysR.to_yes (v := n + 146097) HB.out HN2.out _ _ hq; clear hq
    go_wp2_with fail
    refine (days_any y 1 1 _ (by exact HT.out) (by omega) (by omega) (by omega) (by omega)).mono ?_
    intro e w' hq; obtain ⟨rfl, nd, rfl⟩ := DaysR.to_yes (v := f) HC.out HF.out _ _ hq; clear hq
    go_wp2_with fail
    refine (days_any (y + 1) 1 1 _ (by exact HT.out) (by omega) (by omega) (by omega) (by omega)).mono ?_
    intro e w' hq; obtain ⟨rfl, nd, rfl⟩ := DaysR.to_yes (v := f + 365) HD.out (by rw [HF2.out, HL.out]; rfl) _ _ hq; clear hq
    go_wp2_with fail
    refine (leap_any y _ (by omega) (by omega)).mono ?_
    intro e w' hq; obtain ⟨rfl, rfl⟩ := Yes.to_no (by rw [HL.out]; decide) _ _ hq; clear hq
    go_wp2_with fail
    go_loop [19, 20] (fun s i => ∃ k v : Int, 1 ≤ k ∧ k ≤ 13 ∧ 0 ≤ v ∧ v ≤ 31 * k ∧ i = .int .i64 k ∧ s = .int .i64 v ∧ Hid (cum y k = v)) (fun _ i => (13 - intOf i).toNat)
    case atStart => exact ⟨1, 0, by omega, by omega, by omega, by omega, rfl, rfl, cum_one y⟩
    case round =>
      obtain ⟨k, v, hk1, hk2, hv1, hv2, rfl, rfl, hv⟩ := hrel
      by_cases hk : k ≤ 12
      · obtain ⟨hl1, hl2⟩ := len_bd y k
        go_wp2_with fail
        refine (len_any y k _ (by omega) (by omega)).mono ?_
        rintro e w' ⟨rfl, rfl⟩
        go_wp2_with fail
        go_round
        case rel => exact ⟨k + 1, v + len y k, by omega, by omega, by omega, by omega, rfl, rfl, by show cum y (k + 1) = _; rw [cum_succ y k (by omega) (by omega), hv.out]⟩
        case measure => simp [intOf]; omega
      · have hv0 : v = 365 := by
          rw [← hv.out, show k = 13 from by omega, cum_13, HL.out]; rfl
        subst hv0
        go_wp2_with fail
        refine (weekday_any n _ (by omega) (by omega)).mono ?_
        intro e w' hq; obtain ⟨rfl, nd, rfl⟩ := wday_to (v := wk) HW.out _ _ hq; clear hq
        go_wp2_with fail
        refine (weekday_any (n + 146097) _ (by omega) (by omega)).mono ?_
        intro e w' hq; obtain ⟨rfl, nd, rfl⟩ := wday_to (v := wk) HW2.out _ _ hq; clear hq
        go_wp2_with fail
        refine (leap_any y _ (by omega) (by omega)).mono ?_
        intro e w' hq; obtain ⟨rfl, rfl⟩ := Yes.to_no (by rw [HL.out]; decide) _ _ hq; clear hq
        go_wp2_with fail
        refine (leap_any (y + 400) _ (by omega) (by omega)).mono ?_
        intro e w' hq; obtain ⟨rfl, rfl⟩ := Yes.to_no (by rw [lp_400, HL.out]; decide) _ _ hq; clear hq
        go_wp2_with fail
        refine (len_any y (1 + m % 12) _ (by omega) (by omega)).mono ?_
        rintro e w' ⟨rfl, rfl⟩
        go_wp2_with fail
        refine (len_any (y + 400) (1 + m % 12) _ (by omega) (by omega)).mono ?_
        intro e w' hq; obtain ⟨rfl, rfl⟩ := len_to (v := len y (1 + m % 12)) (len_400 _ _) _ _ hq; clear hq
        go_wp2_with fail
        refine (works_any _ (by exact HT.out)).mono ?_
        rintro e w' ⟨rfl, n3, rfl⟩
        go_wp2_with fail
        go_ret
        exact ⟨rfl, below_drewN (Below.refl _ _) _⟩
  · go_enter Tryd.func7, Tryd.ntmps7
    go_wp2_with fail
    rw [HY.out]
    go_wp2_with fail
    refine (days_any y (1 + m % 12) (1 + d % 28) _ (by exact HT.out) (by omega) (by omega) (by omega) (by omega)).mono ?_
    intro e w' hq; obtain ⟨rfl, nd, rfl⟩ := DaysR.to_yes (v := n) HA.out HN.out.symm _ _ hq; clear hq
    go_wp2_with fail
    refine (days_any (y + 400) (1 + m % 12) (1 + d % 28) _ (by exact HT.out) (by omega) (by omega) (by omega) (by omega)).mono ?_
    intro e w' hq; obtain ⟨rfl, nd, rfl⟩ := DaysR.to_yes (v := n + 146097) HB.out HN2.out _ _ hq; clear hq
    go_wp2_with fail
    refine (days_any y 1 1 _ (by exact HT.out) (by omega) (by omega) (by omega) (by omega)).mono ?_
    intro e w' hq; obtain ⟨rfl, nd, rfl⟩ := DaysR.to_yes (v := f) HC.out HF.out _ _ hq; clear hq
    go_wp2_with fail
    refine (days_any (y + 1) 1 1 _ (by exact HT.out) (by omega) (by omega) (by omega) (by omega)).mono ?_
    intro e w' hq; obtain ⟨rfl, nd, rfl⟩ := DaysR.to_yes (v := f + 366) HD.out (by rw [HF2.out, HL.out]; rfl) _ _ hq; clear hq
    go_wp2_with fail
    refine (leap_any y _ (by omega) (by omega)).mono ?_
    intro e w' hq; obtain ⟨rfl, rfl⟩ := Yes.to_yes HL.out _ _ hq; clear hq
    go_wp2_with fail
    go_loop [19, 20] (fun s i => ∃ k v : Int, 1 ≤ k ∧ k ≤ 13 ∧ 0 ≤ v ∧ v ≤ 31 * k ∧ i = .int .i64 k ∧ s = .int .i64 v ∧ Hid (cum y k = v)) (fun _ i => (13 - intOf i).toNat)
    case atStart => exact ⟨1, 0, by omega, by omega, by omega, by omega, rfl, rfl, cum_one y⟩
    case round =>
      obtain ⟨k, v, hk1, hk2, hv1, hv2, rfl, rfl, hv⟩ := hrel
      by_cases hk : k ≤ 12
      · obtain ⟨hl1, hl2⟩ := len_bd y k
        go_wp2_with fail
        refine (len_any y k _ (by omega) (by omega)).mono ?_
        rintro e w' ⟨rfl, rfl⟩
        go_wp2_with fail
        go_round
        case rel => exact ⟨k + 1, v + len y k, by omega, by omega, by omega, by omega, rfl, rfl, by show cum y (k + 1) = _; rw [cum_succ y k (by omega) (by omega), hv.out]⟩
        case measure => simp [intOf]; omega
      · have hv0 : v = 366 := by
          rw [← hv.out, show k = 13 from by omega, cum_13, HL.out]; rfl
        subst hv0
        go_wp2_with fail
        refine (weekday_any n _ (by omega) (by omega)).mono ?_
        intro e w' hq; obtain ⟨rfl, nd, rfl⟩ := wday_to (v := wk) HW.out _ _ hq; clear hq
        go_wp2_with fail
        refine (weekday_any (n + 146097) _ (by omega) (by omega)).mono ?_
        intro e w' hq; obtain ⟨rfl, nd, rfl⟩ := wday_to (v := wk) HW2.out _ _ hq; clear hq
        go_wp2_with fail
        refine (leap_any y _ (by omega) (by omega)).mono ?_
        intro e w' hq; obtain ⟨rfl, rfl⟩ := Yes.to_yes HL.out _ _ hq; clear hq
        go_wp2_with fail
        refine (leap_any (y + 400) _ (by omega) (by omega)).mono ?_
        intro e w' hq; obtain ⟨rfl, rfl⟩ := Yes.to_yes ((lp_400 y).trans HL.out) _ _ hq; clear hq
        go_wp2_with fail
        refine (len_any y (1 + m % 12) _ (by omega) (by omega)).mono ?_
        rintro e w' ⟨rfl, rfl⟩
        go_wp2_with fail
        refine (len_any (y + 400) (1 + m % 12) _ (by omega) (by omega)).mono ?_
        intro e w' hq; obtain ⟨rfl, rfl⟩ := len_to (v := len y (1 + m % 12)) (len_400 _ _) _ _ hq; clear hq
        go_wp2_with fail
        refine (works_any _ (by exact HT.out)).mono ?_
        rintro e w' ⟨rfl, n3, rfl⟩
        go_wp2_with fail
        go_ret
        exact ⟨rfl, below_drewN (Below.refl _ _) _⟩
end Go.Proofs.YthppldacadehiaaDoor
