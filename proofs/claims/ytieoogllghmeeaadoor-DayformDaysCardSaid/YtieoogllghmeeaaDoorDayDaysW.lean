/-
  The walk of the law DayformDays.
-/
import Derived.Test.YtieoogllghmeeaaDoorDayLaw
import Derived.Test.YtieoogllghmeeaaDoorDayRef
import Derived.Deep.RegionHeld3
namespace Go.Proofs.YtieoogllghmeeaaDoor
open Go.RowKit Cv
set_option linter.unusedVariables false
set_option linter.unusedSimpArgs false

namespace Cv
/-- the code of a check, as a number -/
def chk (k w d : Int) : Int := if good k w d then 0 else 2
theorem CheckR.code {k w d : Int} {W : World} {c : Int} (h : chk k w d = c) : ∀ e W', CheckR (good k w d) W e W' → e = .returned (.int .i64 c) ∧ Below W.heap.size W W' := by
  rintro e W' ⟨hb, ⟨hp, rfl⟩ | ⟨hp, rfl⟩⟩
  · exact ⟨by rw [← h, chk, if_pos hp], hb⟩
  · exact ⟨by rw [← h, chk, if_neg hp], hb⟩
end Cv

set_option maxRecDepth 100000 in
set_option maxHeartbeats 2000000 in
theorem daysLaw_core (W : World) (hT : Tabs W) (y m k w d : Int) (hy1 : -9223372036854775808 ≤ y) (hy2 : y ≤ 9223372036854775807) :
    Calls Tryd.prog 3 #[.int .i64 y, .int .i64 m, form k w d] W fun e w' => e = .returned (.bool true) ∧ Below W.heap.size W w' := by
  have HT := Lib.hid hT
  clear hT
  obtain ⟨x, c, hx⟩ : ∃ x c, on y m k w d = (x, c) := ⟨_, _, rfl⟩
  obtain ⟨q, hq⟩ : ∃ q, chk k w d = q := ⟨_, rfl⟩
  have HX := Lib.hid hx
  have HQ := Lib.hid hq
  clear hx hq
  unfold form
  go_enter Tryd.func3, Tryd.ntmps3
  go_wp2_with fail
  refine (on_any y m k w d _ (by exact HT.out.alloc _) hy1 hy2).mono ?_
  intro e w1 hq; obtain ⟨rfl, hb1⟩ := OnR.to HX.out _ _ hq; clear hq
  have HT1 : Hid (Tabs w1) := (HT.out.alloc (.cells #[.int .i64 k, .int .i64 w, .int .i64 d] 23)).below hb1
  have HB1 : Hid (Below W.heap.size W w1) := bel_trans (bel_alloc _ _) hb1
  have fc1 : FC W.heap.size k w d w1 := (FC.new W k w d 23).below hb1
  obtain ⟨f0, f1, f2⟩ := fc1
  go_wp2_with fail
  refine (refOn_any y m k w d _ hy1 hy2).mono ?_
  intro e w2 hq; obtain ⟨rfl, hb2⟩ := OnR.to HX.out _ _ hq; clear hq
  have HT2 : Hid (Tabs w2) := HT1.out.below hb2
  have HB2 : Hid (Below W.heap.size W w2) := bel_trans HB1.out hb2
  have fc2 : FC W.heap.size k w d w2 := FC.below (b := W.heap.size) (by exact ⟨f0, f1, f2⟩) hb2
  clear hb2 hb1 f0 f1 f2
  have FC2 := Lib.hid fc2
  obtain ⟨f0, f1, f2⟩ := fc2
  go_wp2_with fail
  go_region_held3 (fun w' => w'.cell? ⟨W.heap.size, 0, none⟩ = some (.int .i64 k) ∧ w'.cell? ⟨W.heap.size, 1, none⟩ = some (.int .i64 w) ∧ w'.cell? ⟨W.heap.size, 2, none⟩ = some (.int .i64 d))
    (first | exact FC2.out | exact FC.below (by exact FC2.out) hb3 | exact FC.below (by exact FC.below (by exact FC2.out) hb3) hb4 | exact FC.below (by exact FC.below (by exact FC.below (by exact FC2.out) hb3) hb4) hb5)
    (first
     | (go_at_call 11; refine (check_any k w d _ (by exact HT2.out.2)).mono ?_; intro e w3 hq; obtain ⟨rfl, hb3⟩ := CheckR.code HQ.out _ _ hq; clear hq)
     | (go_at_call 12; refine (refCheck_any k w d _).mono ?_; intro e w4 hq; obtain ⟨rfl, hb4⟩ := CheckR.code HQ.out _ _ hq; clear hq)
     | (go_at_call 13; refine (works_any _ (by exact Tabs.below (by exact Tabs.below (by exact HT2.out) hb3) hb4)).mono ?_; rintro e w5 ⟨rfl, hb5⟩))
  go_wp2_with fail
  go_ret
  exact ⟨rfl, bel_trans (bel_trans (bel_trans (Below.drew HB2.out) hb3) hb4) hb5⟩

theorem dayformDays.dayformDays_walk (W : World) (hL : laidMetH Tryd.prog Rows.dayformDaysRow.laid W) (y : Int) (wy : (Lit.int .i64 y).wf = true) (m : Int) (wm : (Lit.int .i64 m).wf = true) (v : Value) {H : Type} {enc : TypeId × Value → H} {base : Nat} {d : DataW H} {p : List MemPlace} (hv : Value.okWide Tryd.prog W .any base 23 v)
    (h : DataW.Trod enc Tryd.prog W 0 (fun _ => true) true 23 v d p) :
    Calls Tryd.prog 3 #[.int .i64 y, .int .i64 m, v] W fun e w' => e = .returned (.bool true) ∧ Below W.heap.size W w' := by
  obtain ⟨k, w, n, rfl, wk, ww, wn⟩ := day_of hv h
  obtain ⟨hy1, hy2⟩ := fit_of wy
  exact daysLaw_core W (tabs_of hL) y m k w n hy1 hy2
end Go.Proofs.YtieoogllghmeeaaDoor
