/-
  The source of chapter 23's examples.
-/
import Derived.Test.YtdppmeeobpbfnaaDoorErM
import Derived.Deep.RegionHeld3
namespace Go.Proofs.YtdppmeeobpbfnaaDoor
open Go.RowKit Cv
set_option linter.unusedVariables false
set_option linter.unusedSimpArgs false

set_option maxRecDepth 100000 in
set_option maxHeartbeats 1000000 in
theorem until23_any (y m d : Int) (W : World) : Calls Tryd.prog 14 #[.int .i64 y, .int .i64 m, .int .i64 d] W fun e w' => e = .returned (.agg #[.bool true, .int .i64 y, .int .i64 m, .int .i64 1, .int .i64 0, .int .i64 d, .int .i64 0, .int .i64 0]) ∧ Below W.heap.size W w' := by
  go_enter Tryd.func14, Tryd.ntmps14
  go_wp2_with fail
  refine bodyPost_ret (results_cell_row rfl _ _ _ _ _ _ _ rfl (heap_alloc_new W (.cells #[.bool true, .int .i64 y, .int .i64 m, .int .i64 1, .int .i64 0, .int .i64 d, .int .i64 0, .int .i64 0] 58)) Tryd.underlying58 rfl (by kernel_rfl)) rfl ?_
  exact ⟨rfl, bel_alloc _ _⟩
set_option maxRecDepth 100000 in
set_option maxHeartbeats 1000000 in
theorem utc_any (h : Int) (W : World) (h1 : 0 ≤ h) (h2 : h ≤ 100) : Calls Tryd.prog 24 #[.int .i64 h] W fun e w' => e = .returned (.agg #[.int .i64 (3600 * h), .int .i64 2]) ∧ Below W.heap.size W w' := by
  have hw : IntKind.i64.wrap (3600 * h) = 3600 * h := IntWalk.i64_in _ (by omega)
  go_enter Tryd.func24, Tryd.ntmps24
  go_wp2_with fail
  refine bodyPost_ret (results_cell_row rfl _ _ _ _ _ _ _ rfl (heap_alloc_new W (.cells #[.int .i64 (3600 * h), .int .i64 2] 54)) Tryd.underlying54 rfl (by kernel_rfl)) rfl ?_
  exact ⟨rfl, bel_alloc _ _⟩
theorem cf_utc (args : Array Value) (w : World) : (callFunc 24 args).run Tryd.prog w = .ok (.enter 24 args) w := by rfl

namespace Cv
def nmZ : ByteArray := ⟨#[90]⟩
/-- the eras of the example -/
def ex0 : Er := ⟨0, 0, 0, ⟨#[]⟩, ⟨#[71, 77, 84]⟩, true, 1968, 10, 1, 0, 27, 0, 0⟩
def ex1 : Er := ⟨3600, 2, 0, ⟨#[69, 105, 114, 101]⟩, ⟨#[73, 83, 84, 47, 71, 77, 84]⟩, false, 0, 0, 0, 0, 0, 0, 0⟩
/-- what the example is -/
def ExR (W : World) (e : Ending) (w' : World) : Prop := ∃ rb zb eb : Nat, e = .returned (.agg #[.slice (some ⟨rb, 0, none⟩) 3 3, .slice (some ⟨zb, 0, none⟩) 1 1, .slice none 0 0, .slice none 0 0]) ∧ Hid (w'.heap[zb]? = some (.cells #[.string ⟨#[90]⟩, .slice (some ⟨eb, 0, none⟩) 2 2] 45)) ∧ Hid (w'.heap[eb]? = some (.cells (ex0.arr ++ ex1.arr) 60)) ∧ W.heap.size ≤ zb ∧ W.heap.size ≤ eb ∧ eb ≠ zb ∧ Below W.heap.size W w'
theorem set4d {V : World} {b : Nat} {t : TypeId} {a0 a1 a2 a3 d0 d1 d2 d3 : Value} (h : V.heap[b]? = some (.cells #[a0, a1, a2, a3] t)) :
    ((((V.setCell ⟨b, 0, none⟩ d0).setCell ⟨b, 1, none⟩ d1).setCell ⟨b, 2, none⟩ d2).setCell ⟨b, 3, none⟩ d3).heap[b]? = some (.cells #[d0, d1, d2, d3] t) := by
  simp [World.setCell, Array.getElem?_modify, h]
end Cv

set_option maxRecDepth 100000 in
set_option maxHeartbeats 8000000 in
theorem example23_any (W : World) : Calls Tryd.prog 15 #[] W (ExR W) := by
  have hcf := cf_utc
  have HB := Lib.hid (bel_alloc W (.cells #[.slice none 0 0, .slice none 0 0, .slice none 0 0, .slice none 0 0] 41))
  have K0 := Lib.hid (heap_alloc_new W (.cells #[.slice none 0 0, .slice none 0 0, .slice none 0 0, .slice none 0 0] 41))
  go_enter Tryd.func15, Tryd.ntmps15
  go_wp2_with fail
  refine (utc_any 2 _ (by decide) (by decide)).mono ?_
  rintro e w1 ⟨rfl, hb⟩
  have HB := Lib.hid (bel_trans HB.out hb)
  have K0 := Lib.hid (block_below K0.out hb)
  clear hb
  go_wp2_with fail
  refine (utc_any 1 _ (by decide) (by decide)).mono ?_
  rintro e w2 ⟨rfl, hb⟩
  have HB := Lib.hid (bel_trans HB.out hb)
  have K0 := Lib.hid (block_below K0.out hb)
  clear hb
  go_wp2_with fail
  refine (utc_any 2 _ (by decide) (by decide)).mono ?_
  rintro e w3 ⟨rfl, hb⟩
  have HB := Lib.hid (bel_trans HB.out hb)
  have K0 := Lib.hid (block_below K0.out hb)
  clear hb
  go_wp2_with fail
  refine (until23_any 1968 10 27 _).mono ?_
  rintro e w4 ⟨rfl, hb⟩
  have HB := Lib.hid (bel_trans (bel_trans HB.out (bel_alloc _ _)) hb)
  have K0 := Lib.hid (block_below (block_below K0.out (bel_alloc _ _)) hb)
  have hs4 := (Array.getElem?_eq_some_iff.1 K0.out).1
  clear hb
  have x0 := cellB K0.out (i := 0) rfl
  have x1 := cellB K0.out (i := 1) rfl
  have x2 := cellB K0.out (i := 2) rfl
  have x3 := cellB K0.out (i := 3) rfl
  have u0 := frzB K0.out 0
  have u1 := frzB K0.out 1
  have u2 := frzB K0.out 2
  have u3 := frzB K0.out 3
  go_wp2_with fail
  have K1 := set4d (d0 := .slice (some ⟨w3.heap.size, 0, none⟩) 3 3) (d1 := .slice (some ⟨w4.heap.size + 1, 0, none⟩) 1 1) (d2 := .slice none 0 0) (d3 := .slice none 0 0) K0.out
  have HB1 := (((HB.out.setCell (p := ⟨W.heap.size, 0, none⟩) (Nat.le_refl _) (.slice (some ⟨w3.heap.size, 0, none⟩) 3 3)).setCell (p := ⟨W.heap.size, 1, none⟩) (Nat.le_refl _) (.slice (some ⟨w4.heap.size + 1, 0, none⟩) 1 1)).setCell (p := ⟨W.heap.size, 2, none⟩) (Nat.le_refl _) (.slice none 0 0)).setCell (p := ⟨W.heap.size, 3, none⟩) (Nat.le_refl _) (.slice none 0 0)
  have hsz : ((((w4.setCell ⟨W.heap.size, 0, none⟩ (.slice (some ⟨w3.heap.size, 0, none⟩) 3 3)).setCell ⟨W.heap.size, 1, none⟩ (.slice (some ⟨w4.heap.size + 1, 0, none⟩) 1 1)).setCell ⟨W.heap.size, 2, none⟩ (.slice none 0 0)).setCell ⟨W.heap.size, 3, none⟩ (.slice none 0 0)).heap.size = w4.heap.size := by simp [World.setCell]
  have hw4 := HB.out.size
  clear x0 x1 x2 x3 u0 u1 u2 u3 HB K0
  generalize ((((w4.setCell ⟨W.heap.size, 0, none⟩ (.slice (some ⟨w3.heap.size, 0, none⟩) 3 3)).setCell ⟨W.heap.size, 1, none⟩ (.slice (some ⟨w4.heap.size + 1, 0, none⟩) 1 1)).setCell ⟨W.heap.size, 2, none⟩ (.slice none 0 0)).setCell ⟨W.heap.size, 3, none⟩ (.slice none 0 0)) = V at K1 HB1 hsz ⊢
  refine bodyPost_ret (results_cell_row rfl _ _ _ _ _ _ _ rfl (block_below (block_below K1 (bel_alloc V _)) (bel_alloc _ _)) Tryd.underlying41 rfl (by kernel_rfl)) rfl ?_
  refine ⟨w3.heap.size, w4.heap.size + 1, w4.heap.size, rfl, Lib.hid ?_, Lib.hid ?_, by omega, by omega, by omega, bel_trans (bel_trans HB1 (bel_alloc _ _)) (bel_alloc _ _)⟩
  · rw [← hsz]; exact heap_alloc2_new V _ _
  · rw [← hsz]; exact block_below (heap_alloc_new V _) (bel_alloc _ _)
end Go.Proofs.YtdppmeeobpbfnaaDoor
