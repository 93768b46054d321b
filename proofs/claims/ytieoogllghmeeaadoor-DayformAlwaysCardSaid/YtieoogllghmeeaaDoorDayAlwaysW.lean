/-
  The walk of the law DayformAlways.
-/
import Derived.Test.YtieoogllghmeeaaDoorDayLaw
import Derived.Test.YtieoogllghmeeaaDoorDayRef
import Derived.Deep.RegionHeld3
namespace Go.Proofs.YtieoogllghmeeaaDoor
open Go.RowKit Cv
set_option linter.unusedVariables false
set_option linter.unusedSimpArgs false

set_option maxRecDepth 100000 in
set_option maxHeartbeats 2000000 in
theorem alwLaw_core (W : World) (hT : Tabs W) (a b m k w d : Int) (ha1 : -9223372036854775808 ≤ a) (ha2 : a ≤ 9223372036854775807) :
    Calls Tryd.prog 4 #[.int .i64 a, .int .i64 b, .int .i64 m, form k w d] W fun e w' => e = .returned (.bool true) ∧ Below W.heap.size W w' := by
  have HT := Lib.hid hT
  clear hT
  obtain ⟨q, hq⟩ : ∃ q, decide (alw a b m k w d) = q := ⟨_, rfl⟩
  have HQ := Lib.hid hq
  clear hq
  have hfc := FC.new W k w d 23
  have FC2 := Lib.hid hfc
  clear hfc
  unfold form
  go_enter Tryd.func4, Tryd.ntmps4
  go_wp2_with fail
  go_region_held3 (fun w' => w'.cell? ⟨W.heap.size, 0, none⟩ = some (.int .i64 k) ∧ w'.cell? ⟨W.heap.size, 1, none⟩ = some (.int .i64 w) ∧ w'.cell? ⟨W.heap.size, 2, none⟩ = some (.int .i64 d))
    (first | exact FC2.out | exact FC.below (by exact FC2.out) hb3 | exact FC.below (by exact FC.below (by exact FC2.out) hb3) hb4 | exact FC.below (by exact FC.below (by exact FC.below (by exact FC2.out) hb3) hb4) hb5)
    (first
     | (go_at_call 14; refine (always_any a b m k w d _ (by exact HT.out.alloc _) ha1 ha2).mono ?_; intro e w3 hq; obtain ⟨rfl, hb3⟩ := YesB.to_b HQ.out _ _ hq; clear hq)
     | (go_at_call 15; refine (refAlways_any a b m k w d _ ha1 ha2).mono ?_; intro e w4 hq; obtain ⟨rfl, hb4⟩ := YesB.to_b HQ.out _ _ hq; clear hq)
     | (go_at_call 13; refine (works_any _ (by exact Tabs.below (by exact Tabs.below (by exact HT.out.alloc _) hb3) hb4)).mono ?_; rintro e w5 ⟨rfl, hb5⟩))
  go_wp2_with fail
  go_ret
  exact ⟨rfl, bel_trans (bel_trans (bel_trans (Below.drew (bel_alloc _ _)) hb3) hb4) hb5⟩

theorem dayformAlways.dayformAlways_walk (W : World) (hL : laidMetH Tryd.prog Rows.dayformAlwaysRow.laid W) (a : Int) (wa : (Lit.int .i64 a).wf = true) (b : Int) (wb : (Lit.int .i64 b).wf = true) (m : Int) (wm : (Lit.int .i64 m).wf = true) (v : Value) {H : Type} {enc : TypeId × Value → H} {base : Nat} {d : DataW H} {p : List MemPlace} (hv : Value.okWide Tryd.prog W .any base 23 v)
    (h : DataW.Trod enc Tryd.prog W 0 (fun _ => true) true 23 v d p) :
    Calls Tryd.prog 4 #[.int .i64 a, .int .i64 b, .int .i64 m, v] W fun e w' => e = .returned (.bool true) ∧ Below W.heap.size W w' := by
  obtain ⟨k, w, n, rfl, wk, ww, wn⟩ := day_of hv h
  obtain ⟨ha1, ha2⟩ := fit_of wa
  exact alwLaw_core W (tabs_of hL) a b m k w n ha1 ha2
end Go.Proofs.YtieoogllghmeeaaDoor
