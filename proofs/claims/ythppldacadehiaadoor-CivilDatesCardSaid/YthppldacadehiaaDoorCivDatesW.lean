/-
  The walk of the law CivilDates.
-/
import Derived.Test.YthppldacadehiaaDoorCivLaw
import Derived.Test.YthppldacadehiaaDoorCivRef
namespace Go.Proofs.YthppldacadehiaaDoor
open Go.RowKit Cv
set_option linter.unusedVariables false
set_option linter.unusedSimpArgs false

set_option maxRecDepth 100000 in
set_option maxHeartbeats 4000000 in
theorem civilDates.civilDates_walk (w : World) (hL : laidMetH Tryd.prog Rows.civilDatesRow.laid w) (y : Int) (wy : (Lit.int .i64 y).wf = true) (m : Int) (wm : (Lit.int .i64 m).wf = true) (d : Int) (wd : (Lit.int .i64 d).wf = true) :
    Calls Tryd.prog 3 #[.int .i64 y, .int .i64 m, .int .i64 d] w fun e w' => e = .returned (.bool true) ∧ Below w.heap.size w w' := by
  have HT := Lib.hid (tab_of hL)
  obtain ⟨hy1, hy2⟩ := fit_of wy
  obtain ⟨hm1, hm2⟩ := fit_of wm
  obtain ⟨hd1, hd2⟩ := fit_of wd
  clear hL wy wm wd
  have key : ∀ v c : Int, Hid (∀ W, Tab W → Calls Tryd.prog 11 #[.int .i64 y, .int .i64 m, .int .i64 d] W fun e w' => e = .returned (.tuple #[.int .i64 v, .int .i64 c]) ∧ ∃ n, w' = W.drewN n) →
      Hid (∀ W, Calls Tryd.prog 12 #[.int .i64 y, .int .i64 m, .int .i64 d] W fun e w' => e = .returned (.tuple #[.int .i64 v, .int .i64 c]) ∧ W = w') →
      Calls Tryd.prog 3 #[.int .i64 y, .int .i64 m, .int .i64 d] w fun e w' => e = .returned (.bool true) ∧ Below w.heap.size w w' := by
    intro v c h1 h2
    go_enter Tryd.func3, Tryd.ntmps3
    go_wp2_with fail
    refine (h1.out _ (by exact HT.out)).mono ?_
    rintro e w' ⟨rfl, n1, rfl⟩
    go_wp2_with fail
    refine (h2.out _).mono ?_
    rintro e w' ⟨rfl, rfl⟩
    by_cases hl : lp y = 1
    · have HL := Lib.hid hl
      clear hl
      go_wp2_with fail
      refine (leap_any y _ hy1 hy2).mono ?_
      intro e w' hq; obtain ⟨rfl, rfl⟩ := Yes.to_yes HL.out _ _ hq; clear hq
      go_wp2_with fail
      refine (refLeap_any y _ hy1 hy2).mono ?_
      intro e w' hq; obtain ⟨rfl, rfl⟩ := Yes.to_yes HL.out _ _ hq; clear hq
      go_wp2_with fail
      refine (len_any y m _ hy1 hy2).mono ?_
      rintro e w' ⟨rfl, rfl⟩
      go_wp2_with fail
      refine (refLen_any y m _ hy1 hy2).mono ?_
      rintro e w' ⟨rfl, rfl⟩
      go_wp2_with fail
      refine (works_any _ (by exact HT.out)).mono ?_
      rintro e w' ⟨rfl, n3, rfl⟩
      go_wp2_with fail
      go_ret
      exact ⟨rfl, below_drewN (Below.refl _ _) _⟩
    · have HL := Lib.hid hl
      clear hl
      go_wp2_with fail
      refine (leap_any y _ hy1 hy2).mono ?_
      intro e w' hq; obtain ⟨rfl, rfl⟩ := Yes.to_no HL.out _ _ hq; clear hq
      go_wp2_with fail
      refine (refLeap_any y _ hy1 hy2).mono ?_
      intro e w' hq; obtain ⟨rfl, rfl⟩ := Yes.to_no HL.out _ _ hq; clear hq
      go_wp2_with fail
      refine (len_any y m _ hy1 hy2).mono ?_
      rintro e w' ⟨rfl, rfl⟩
      go_wp2_with fail
      refine (refLen_any y m _ hy1 hy2).mono ?_
      rintro e w' ⟨rfl, rfl⟩
      go_wp2_with fail
      refine (works_any _ (by exact HT.out)).mono ?_
      rintro e w' ⟨rfl, n3, rfl⟩
      go_wp2_with fail
      go_ret
      exact ⟨rfl, below_drewN (Below.refl _ _) _⟩
  by_cases h : inr y ∧ ok y m d
  · exact key (num y m d) 0 (fun W hT => (days_any y m d W hT hy1 hy2 hd1 hd2).mono (DaysR.to_yes h rfl)) (fun W => (refDays_any y m d W hy1 hy2 hd1 hd2).mono (DaysF.to_yes h rfl))
  · exact key 0 3 (fun W hT => (days_any y m d W hT hy1 hy2 hd1 hd2).mono (DaysR.to_no h)) (fun W => (refDays_any y m d W hy1 hy2 hd1 hd2).mono (DaysF.to_no h))
end Go.Proofs.YthppldacadehiaaDoor
