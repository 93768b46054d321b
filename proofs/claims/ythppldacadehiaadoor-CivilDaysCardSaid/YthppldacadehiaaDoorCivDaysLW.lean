/-
  The walk of the law CivilDays.
-/
import Derived.Test.YthppldacadehiaaDoorCivLaw
import Derived.Test.YthppldacadehiaaDoorCivRef
namespace Go.Proofs.YthppldacadehiaaDoor
open Go.RowKit Cv
set_option linter.unusedVariables false
set_option linter.unusedSimpArgs false

set_option maxRecDepth 100000 in
set_option maxHeartbeats 4000000 in
theorem civilDays.civilDays_walk (w : World) (hL : laidMetH Tryd.prog Rows.civilDaysRow.laid w) (n : Int) (wn : (Lit.int .i64 n).wf = true) :
    Calls Tryd.prog 4 #[.int .i64 n] w fun e w' => e = .returned (.bool true) ∧ Below w.heap.size w w' := by
  have HT := Lib.hid (tab_of hL)
  obtain ⟨hn1, hn2⟩ := fit_of wn
  clear hL wn
  obtain ⟨wk, hwk⟩ : ∃ x, x = (n + 4) % 7 := ⟨_, rfl⟩
  have HW := Lib.hid hwk.symm
  clear hwk
  go_enter Tryd.func4, Tryd.ntmps4
  go_wp2_with fail
  refine (dateE_any n _ HT.out hn1 hn2).mono ?_
  rintro e w' ⟨y, m, d, hd, ⟨hi, rfl⟩ | ⟨hi, rfl⟩, n1, rfl⟩
  · go_wp2_with fail
    refine (refDate_any n _ hn1 hn2).mono ?_
    intro e w' hq; obtain ⟨rfl, rfl⟩ := DateF.to_yes hd.out hi.out _ _ hq; clear hq
    go_wp2_with fail
    refine (weekday_any n _ hn1 hn2).mono ?_
    intro e w' hq; obtain ⟨rfl, nd, rfl⟩ := wday_to (v := wk) HW.out _ _ hq; clear hq
    go_wp2_with fail
    refine (refWeekday_any n _ hn1 hn2).mono ?_
    intro e w' hq; obtain ⟨rfl, rfl⟩ := wday_ref (v := wk) HW.out _ _ hq; clear hq
    go_wp2_with fail
    refine (year_any n _ (by exact HT.out) hn1 hn2).mono ?_
    rintro e w' ⟨y2, m2, d2, hd2, rfl, n2, rfl⟩
    go_wp2_with fail
    refine (refYearS_any n _ hn1 hn2).mono ?_
    intro e w' hq; obtain ⟨rfl, rfl⟩ := YearF.to_is hd2.out _ _ hq; clear hq
    go_wp2_with fail
    refine (works_any _ (by exact HT.out)).mono ?_
    rintro e w' ⟨rfl, n3, rfl⟩
    go_wp2_with fail
    go_ret
    exact ⟨rfl, below_drewN (Below.refl _ _) _⟩
  · go_wp2_with fail
    refine (refDate_any n _ hn1 hn2).mono ?_
    intro e w' hq; obtain ⟨rfl, rfl⟩ := DateF.to_no hd.out hi.out _ _ hq; clear hq
    go_wp2_with fail
    refine (weekday_any n _ hn1 hn2).mono ?_
    intro e w' hq; obtain ⟨rfl, nd, rfl⟩ := wday_to (v := wk) HW.out _ _ hq; clear hq
    go_wp2_with fail
    refine (refWeekday_any n _ hn1 hn2).mono ?_
    intro e w' hq; obtain ⟨rfl, rfl⟩ := wday_ref (v := wk) HW.out _ _ hq; clear hq
    go_wp2_with fail
    refine (year_any n _ (by exact HT.out) hn1 hn2).mono ?_
    rintro e w' ⟨y2, m2, d2, hd2, rfl, n2, rfl⟩
    go_wp2_with fail
    refine (refYearS_any n _ hn1 hn2).mono ?_
    intro e w' hq; obtain ⟨rfl, rfl⟩ := YearF.to_is hd2.out _ _ hq; clear hq
    go_wp2_with fail
    refine (works_any _ (by exact HT.out)).mono ?_
    rintro e w' ⟨rfl, n3, rfl⟩
    go_wp2_with fail
    go_ret
    exact ⟨rfl, below_drewN (Below.refl _ _) _⟩
end Go.Proofs.YthppldacadehiaaDoor
