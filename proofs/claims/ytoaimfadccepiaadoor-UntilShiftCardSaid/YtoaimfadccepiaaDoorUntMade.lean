/-
  The maker of forms of chapter 2 (analemmalaw02's Draft.Made), for the laws of later chapters; and the maker of ends of chapter 22.
-/
import Derived.Test.YtoaimfadccepiaaDoorUntEx
namespace Go.Proofs.YtoaimfadccepiaaDoor
open Go.RowKit Cv
set_option linter.unusedVariables false
set_option linter.unusedSimpArgs false

set_option maxRecDepth 100000 in
theorem mkFixed_any (n : Int) (W : World) : Calls Tryd.prog 53 #[.int .i64 n] W fun e W' => e = .returned (.agg #[.int .i64 1, .int .i64 0, .int .i64 n]) ∧ W' = W.alloc (.cells #[.int .i64 1, .int .i64 0, .int .i64 n] 23) := by
  go_enter Tryd.func53, Tryd.ntmps53
  go_wp2_with fail
  refine bodyPost_ret (results_cell_row rfl _ _ _ _ _ _ _ rfl (heap_alloc_new _ _) Tryd.underlying23 rfl (by kernel_rfl)) rfl ?_
  exact ⟨rfl, rfl⟩

set_option maxRecDepth 100000 in
theorem mkLast_any (n : Int) (W : World) : Calls Tryd.prog 54 #[.int .i64 n] W fun e W' => e = .returned (.agg #[.int .i64 2, .int .i64 n, .int .i64 0]) ∧ W' = W.alloc (.cells #[.int .i64 2, .int .i64 n, .int .i64 0] 23) := by
  go_enter Tryd.func54, Tryd.ntmps54
  go_wp2_with fail
  refine bodyPost_ret (results_cell_row rfl _ _ _ _ _ _ _ rfl (heap_alloc_new _ _) Tryd.underlying23 rfl (by kernel_rfl)) rfl ?_
  exact ⟨rfl, rfl⟩

set_option maxRecDepth 100000 in
theorem mkFrom_any (w n : Int) (W : World) : Calls Tryd.prog 55 #[.int .i64 w, .int .i64 n] W fun e W' => e = .returned (.agg #[.int .i64 3, .int .i64 w, .int .i64 n]) ∧ W' = W.alloc (.cells #[.int .i64 3, .int .i64 w, .int .i64 n] 23) := by
  go_enter Tryd.func55, Tryd.ntmps55
  go_wp2_with fail
  refine bodyPost_ret (results_cell_row rfl _ _ _ _ _ _ _ rfl (heap_alloc_new _ _) Tryd.underlying23 rfl (by kernel_rfl)) rfl ?_
  exact ⟨rfl, rfl⟩

set_option maxRecDepth 100000 in
theorem mkTo_any (w n : Int) (W : World) : Calls Tryd.prog 56 #[.int .i64 w, .int .i64 n] W fun e W' => e = .returned (.agg #[.int .i64 4, .int .i64 w, .int .i64 n]) ∧ W' = W.alloc (.cells #[.int .i64 4, .int .i64 w, .int .i64 n] 23) := by
  go_enter Tryd.func56, Tryd.ntmps56
  go_wp2_with fail
  refine bodyPost_ret (results_cell_row rfl _ _ _ _ _ _ _ rfl (heap_alloc_new _ _) Tryd.underlying23 rfl (by kernel_rfl)) rfl ?_
  exact ⟨rfl, rfl⟩

namespace Cv
/-- what Made returns: a right form -/
def MadeR (W : World) (e : Ending) (W' : World) : Prop := ∃ k w d : Int, Hid (good k w d) ∧ e = .returned (.agg #[.int .i64 k, .int .i64 w, .int .i64 d]) ∧ Below W.heap.size W W'
theorem set3 (V : World) (b : Nat) (p q r x y z : Value) (t : TypeId) (C : Obj) (h : V.heap[b]? = some (.cells #[p, q, r] t)) :
    ((((V.setCell ⟨b, 0, none⟩ x).setCell ⟨b, 1, none⟩ y).setCell ⟨b, 2, none⟩ z).alloc C).heap[b]? = some (.cells #[x, y, z] t) := by
  have hb : b < V.heap.size := (Array.getElem?_eq_some_iff.1 h).1
  rw [Below.heap_alloc _ _ _ (by simp [World.setCell]; exact hb)]
  simp [World.setCell, Array.getElem?_modify, h]
theorem set3_bel (W : World) (A B C : Obj) (n : Nat) (x y z : Value) :
    Below W.heap.size W (((((((W.alloc A).alloc B).drewN n).setCell ⟨W.heap.size + 1, 0, none⟩ x).setCell ⟨W.heap.size + 1, 1, none⟩ y).setCell ⟨W.heap.size + 1, 2, none⟩ z).alloc C) := by
  have h1 : Below W.heap.size W ((W.alloc A).alloc B) := bel_trans (bel_alloc _ _) (bel_alloc _ _)
  have h2 := (((below_drewN h1 n).setCell (p := ⟨W.heap.size + 1, 0, none⟩) (Nat.le_succ _) x).setCell (p := ⟨W.heap.size + 1, 1, none⟩) (Nat.le_succ _) y).setCell (p := ⟨W.heap.size + 1, 2, none⟩) (Nat.le_succ _) z
  exact h2.alloc h2.size C
end Cv

set_option maxRecDepth 100000 in
set_option maxHeartbeats 1000000 in
theorem dayMade_any (k w n : Int) (W : World) (wk : (Lit.int .u8 k).wf = true) (ww : (Lit.int .u8 w).wf = true) (wn : (Lit.int .u8 n).wf = true) :
    Calls Tryd.prog 35 #[.agg #[.int .u8 k, .int .u8 w, .int .u8 n]] W (MadeR W) := by
  obtain ⟨hk1, hk2⟩ := byte_of wk
  obtain ⟨hw1, hw2⟩ := byte_of ww
  obtain ⟨hn1, hn2⟩ := byte_of wn
  clear wk ww wn
  have hb : 0 ≤ k % 4 ∧ k % 4 < 4 ∧ 0 ≤ w % 7 ∧ w % 7 < 7 ∧ 0 ≤ n % 31 ∧ n % 31 < 31 := by omega
  obtain ⟨a1, a2, b1, b2, c1, c2⟩ := hb
  have HG1 := Lib.hid (show good 1 0 (1 + n % 31) by unfold good; omega)
  have HG2 := Lib.hid (show good 2 (w % 7) 0 by unfold good; omega)
  have HG3 := Lib.hid (show good 3 (w % 7) (1 + n % 31) by unfold good; omega)
  have HG4 := Lib.hid (show good 4 (w % 7) (1 + n % 31) by unfold good; omega)
  go_enter Tryd.func35, Tryd.ntmps35
  have hkc : k % 4 = 0 ∨ k % 4 = 1 ∨ k % 4 = 2 ∨ k % 4 = 3 := by omega
  go_wp2_with fail
  go_quiet (fail)
  rcases hkc with h | h | h | h
  · go_wp2_with fail
    refine (mkFixed_any (1 + n % 31) _).mono ?_
    rintro e w' ⟨rfl, rfl⟩
    go_wp2_with fail
    refine bodyPost_ret (results_cell_row rfl _ _ _ _ _ _ _ rfl (set3 _ _ _ _ _ _ _ _ _ _ (heap_alloc2_new _ _ _)) Tryd.underlying23 rfl (by kernel_rfl)) rfl ?_
    exact ⟨_, _, _, HG1.out, rfl, set3_bel _ _ _ _ _ _ _ _⟩
  · go_wp2_with fail
    refine (mkLast_any (w % 7) _).mono ?_
    rintro e w' ⟨rfl, rfl⟩
    go_wp2_with fail
    refine bodyPost_ret (results_cell_row rfl _ _ _ _ _ _ _ rfl (set3 _ _ _ _ _ _ _ _ _ _ (heap_alloc2_new _ _ _)) Tryd.underlying23 rfl (by kernel_rfl)) rfl ?_
    exact ⟨_, _, _, HG2.out, rfl, set3_bel _ _ _ _ _ _ _ _⟩
  · go_wp2_with fail
    refine (mkFrom_any (w % 7) (1 + n % 31) _).mono ?_
    rintro e w' ⟨rfl, rfl⟩
    go_wp2_with fail
    refine bodyPost_ret (results_cell_row rfl _ _ _ _ _ _ _ rfl (set3 _ _ _ _ _ _ _ _ _ _ (heap_alloc2_new _ _ _)) Tryd.underlying23 rfl (by kernel_rfl)) rfl ?_
    exact ⟨_, _, _, HG3.out, rfl, set3_bel _ _ _ _ _ _ _ _⟩
  · go_wp2_with fail
    refine (mkTo_any (w % 7) (1 + n % 31) _).mono ?_
    rintro e w' ⟨rfl, rfl⟩
    go_wp2_with fail
    refine bodyPost_ret (results_cell_row rfl _ _ _ _ _ _ _ rfl (set3 _ _ _ _ _ _ _ _ _ _ (heap_alloc2_new _ _ _)) Tryd.underlying23 rfl (by kernel_rfl)) rfl ?_
    exact ⟨_, _, _, HG4.out, rfl, set3_bel _ _ _ _ _ _ _ _⟩

namespace Cv
theorem set8x {V : World} {b : Nat} {t : TypeId} {a0 a1 a2 a3 a4 a5 a6 a7 d0 d1 d2 d3 d4 d5 d6 d7 : Value} (h : V.heap[b]? = some (.cells #[a0, a1, a2, a3, a4, a5, a6, a7] t)) :
    ((((((((V.setCell ⟨b, 0, none⟩ d0).setCell ⟨b, 1, none⟩ d1).setCell ⟨b, 2, none⟩ d2).setCell ⟨b, 3, none⟩ d3).setCell ⟨b, 4, none⟩ d4).setCell ⟨b, 5, none⟩ d5).setCell ⟨b, 6, none⟩ d6).setCell ⟨b, 7, none⟩ d7).heap[b]? = some (.cells #[d0, d1, d2, d3, d4, d5, d6, d7] t) := by
  simp [World.setCell, Array.getElem?_modify, h]
theorem bel8x {A V : World} {B b : Nat} {d0 d1 d2 d3 d4 d5 d6 d7 : Value} (h : Below B A V) (hb : B ≤ b) : Below B A ((((((((V.setCell ⟨b, 0, none⟩ d0).setCell ⟨b, 1, none⟩ d1).setCell ⟨b, 2, none⟩ d2).setCell ⟨b, 3, none⟩ d3).setCell ⟨b, 4, none⟩ d4).setCell ⟨b, 5, none⟩ d5).setCell ⟨b, 6, none⟩ d6).setCell ⟨b, 7, none⟩ d7) := ((((((((h.setCell (p := ⟨b, 0, none⟩) hb d0).setCell (p := ⟨b, 1, none⟩) hb d1).setCell (p := ⟨b, 2, none⟩) hb d2).setCell (p := ⟨b, 3, none⟩) hb d3).setCell (p := ⟨b, 4, none⟩) hb d4).setCell (p := ⟨b, 5, none⟩) hb d5).setCell (p := ⟨b, 6, none⟩) hb d6).setCell (p := ⟨b, 7, none⟩) hb d7)
def MadeU (W : World) (e : Ending) (W' : World) : Prop := ∃ y m k w d sec base : Int, Hid (1850 ≤ y ∧ y ≤ 2149) ∧ e = .returned (.agg #[.bool true, .int .i64 y, .int .i64 m, .int .i64 k, .int .i64 w, .int .i64 d, .int .i64 sec, .int .i64 base]) ∧ Below W.heap.size W W'
end Cv

set_option maxRecDepth 100000 in
set_option maxHeartbeats 16000000 in
theorem untMade_any (y m b k w n at_ : Int) (W : World) (wy : (Lit.int .u16 y).wf = true) (wm : (Lit.int .u8 m).wf = true) (wb : (Lit.int .u8 b).wf = true) (wk : (Lit.int .u8 k).wf = true) (ww : (Lit.int .u8 w).wf = true) (wn : (Lit.int .u8 n).wf = true) (wa : (Lit.int .i32 at_).wf = true) :
    Calls Tryd.prog 18 #[.agg #[.int .u16 y, .int .u8 m, .int .u8 b, .int .u8 k, .int .u8 w, .int .u8 n, .int .i32 at_], .int .i64 0] W (MadeU W) := by
  obtain ⟨hm1, hm2⟩ := byte_of wm
  obtain ⟨hb1, hb2⟩ := byte_of wb
  obtain ⟨ha1, ha2⟩ := i32_of wa
  have hy : 0 ≤ y ∧ y ≤ 65535 := by
    simp [Lit.wf, IntKind.min, IntKind.max, IntKind.signed, IntKind.bits] at wy
    omega
  obtain ⟨hy1, hy2⟩ := hy
  have HW := Lib.hid (show (Lit.int .u8 k).wf = true ∧ (Lit.int .u8 w).wf = true ∧ (Lit.int .u8 n).wf = true from ⟨wk, ww, wn⟩)
  clear wy wm wb wk ww wn wa
  have HB0 := Lib.hid (show Below W.heap.size W ((W.alloc (.cells #[.int .u16 y, .int .u8 m, .int .u8 b, .int .u8 k, .int .u8 w, .int .u8 n, .int .i32 at_] 38)).alloc (.cells #[.bool false, .int .i64 0, .int .i64 0, .int .i64 0, .int .i64 0, .int .i64 0, .int .i64 0, .int .i64 0] 27)) from bel_trans (bel_alloc _ _) (bel_alloc _ _))
  have HK0 := Lib.hid (show ((W.alloc (.cells #[.int .u16 y, .int .u8 m, .int .u8 b, .int .u8 k, .int .u8 w, .int .u8 n, .int .i32 at_] 38)).alloc (.cells #[.bool false, .int .i64 0, .int .i64 0, .int .i64 0, .int .i64 0, .int .i64 0, .int .i64 0, .int .i64 0] 27)).heap[W.heap.size]? = some (.cells #[.int .u16 y, .int .u8 m, .int .u8 b, .int .u8 k, .int .u8 w, .int .u8 n, .int .i32 at_] 38) from block_below (heap_alloc_new _ _) (bel_alloc _ _))
  have HZ0 := Lib.hid (show ((W.alloc (.cells #[.int .u16 y, .int .u8 m, .int .u8 b, .int .u8 k, .int .u8 w, .int .u8 n, .int .i32 at_] 38)).alloc (.cells #[.bool false, .int .i64 0, .int .i64 0, .int .i64 0, .int .i64 0, .int .i64 0, .int .i64 0, .int .i64 0] 27)).heap[W.heap.size + 1]? = some (.cells #[.bool false, .int .i64 0, .int .i64 0, .int .i64 0, .int .i64 0, .int .i64 0, .int .i64 0, .int .i64 0] 27) from heap_alloc2_new W _ _)
  obtain ⟨r, hr⟩ : ∃ r, at_.tmod 259201 = r := ⟨_, rfl⟩
  have hrb : -259201 < r ∧ r < 259201 := by
    rcases (show at_ < 0 ∨ 0 ≤ at_ by omega) with h | h
    · rw [(tdm_neg at_ 259201 h).2] at hr; omega
    · rw [(tdm_pos at_ 259201 h).2] at hr; omega
  obtain ⟨hr1, hr2⟩ := hrb
  obtain ⟨yy, hyy⟩ : ∃ yy, y % 300 = yy := ⟨_, rfl⟩
  obtain ⟨mm, hmm⟩ : ∃ mm, m % 12 = mm := ⟨_, rfl⟩
  obtain ⟨bb, hbb⟩ : ∃ bb, b % 3 = bb := ⟨_, rfl⟩
  have hyb : 0 ≤ yy ∧ yy < 300 := by omega
  have hmb : 0 ≤ mm ∧ mm < 12 := by omega
  have hbbb : 0 ≤ bb ∧ bb < 3 := by omega
  obtain ⟨y1, y2⟩ := hyb
  obtain ⟨m1, m2⟩ := hmb
  obtain ⟨b1, b2⟩ := hbbb
  go_enter Tryd.func18, Tryd.ntmps18
  go_wp2_with fail
  refine (dayMade_any k w n _ HW.out.1 HW.out.2.1 HW.out.2.2).mono ?_
  rintro e w1 ⟨kk, ww, dd, hg, rfl, hb⟩
  have HB1 := Lib.hid (bel_trans HB0.out hb)
  have HK1 := Lib.hid (block_below HK0.out hb)
  have HZ1 := Lib.hid (block_below HZ0.out hb)
  clear hb HB0 HK0 HZ0 hg HW
  have c0 : ∀ ob, (w1.alloc ob).cell? ⟨W.heap.size, 0, none⟩ = some (.int .u16 y) := fun ob => cell_below (bel_alloc w1 ob) (cellB HK1.out (i := 0) rfl)
  have c1 : ∀ ob, (w1.alloc ob).cell? ⟨W.heap.size, 1, none⟩ = some (.int .u8 m) := fun ob => cell_below (bel_alloc w1 ob) (cellB HK1.out (i := 1) rfl)
  have c2 : ∀ ob, (w1.alloc ob).cell? ⟨W.heap.size, 2, none⟩ = some (.int .u8 b) := fun ob => cell_below (bel_alloc w1 ob) (cellB HK1.out (i := 2) rfl)
  have c3 : ∀ ob, (w1.alloc ob).cell? ⟨W.heap.size, 3, none⟩ = some (.int .u8 k) := fun ob => cell_below (bel_alloc w1 ob) (cellB HK1.out (i := 3) rfl)
  have c4 : ∀ ob, (w1.alloc ob).cell? ⟨W.heap.size, 4, none⟩ = some (.int .u8 w) := fun ob => cell_below (bel_alloc w1 ob) (cellB HK1.out (i := 4) rfl)
  have c5 : ∀ ob, (w1.alloc ob).cell? ⟨W.heap.size, 5, none⟩ = some (.int .u8 n) := fun ob => cell_below (bel_alloc w1 ob) (cellB HK1.out (i := 5) rfl)
  have c6 : ∀ ob, (w1.alloc ob).cell? ⟨W.heap.size, 6, none⟩ = some (.int .i32 at_) := fun ob => cell_below (bel_alloc w1 ob) (cellB HK1.out (i := 6) rfl)
  have g6 : ∀ ob ob2, ((w1.alloc ob).alloc ob2).cell? ⟨W.heap.size, 6, none⟩ = some (.int .i32 at_) := fun ob ob2 => cell_below (bel_alloc _ _) (c6 ob)
  have z0 : ∀ ob ob2, ((w1.alloc ob).alloc ob2).cell? ⟨W.heap.size + 1, 0, none⟩ = some (.bool false) := fun ob ob2 => cell_below (bel_alloc _ _) (cell_below (bel_alloc _ _) (cellB HZ1.out (i := 0) rfl))
  have f0 : ∀ ob ob2, ((w1.alloc ob).alloc ob2).frozen? ⟨W.heap.size + 1, 0, none⟩ = false := fun ob ob2 => frzB (block_below (block_below HZ1.out (bel_alloc _ _)) (bel_alloc _ _)) 0
  have z1 : ∀ ob ob2, ((w1.alloc ob).alloc ob2).cell? ⟨W.heap.size + 1, 1, none⟩ = some (.int .i64 0) := fun ob ob2 => cell_below (bel_alloc _ _) (cell_below (bel_alloc _ _) (cellB HZ1.out (i := 1) rfl))
  have f1 : ∀ ob ob2, ((w1.alloc ob).alloc ob2).frozen? ⟨W.heap.size + 1, 1, none⟩ = false := fun ob ob2 => frzB (block_below (block_below HZ1.out (bel_alloc _ _)) (bel_alloc _ _)) 1
  have z2 : ∀ ob ob2, ((w1.alloc ob).alloc ob2).cell? ⟨W.heap.size + 1, 2, none⟩ = some (.int .i64 0) := fun ob ob2 => cell_below (bel_alloc _ _) (cell_below (bel_alloc _ _) (cellB HZ1.out (i := 2) rfl))
  have f2 : ∀ ob ob2, ((w1.alloc ob).alloc ob2).frozen? ⟨W.heap.size + 1, 2, none⟩ = false := fun ob ob2 => frzB (block_below (block_below HZ1.out (bel_alloc _ _)) (bel_alloc _ _)) 2
  have z3 : ∀ ob ob2, ((w1.alloc ob).alloc ob2).cell? ⟨W.heap.size + 1, 3, none⟩ = some (.int .i64 0) := fun ob ob2 => cell_below (bel_alloc _ _) (cell_below (bel_alloc _ _) (cellB HZ1.out (i := 3) rfl))
  have f3 : ∀ ob ob2, ((w1.alloc ob).alloc ob2).frozen? ⟨W.heap.size + 1, 3, none⟩ = false := fun ob ob2 => frzB (block_below (block_below HZ1.out (bel_alloc _ _)) (bel_alloc _ _)) 3
  have z4 : ∀ ob ob2, ((w1.alloc ob).alloc ob2).cell? ⟨W.heap.size + 1, 4, none⟩ = some (.int .i64 0) := fun ob ob2 => cell_below (bel_alloc _ _) (cell_below (bel_alloc _ _) (cellB HZ1.out (i := 4) rfl))
  have f4 : ∀ ob ob2, ((w1.alloc ob).alloc ob2).frozen? ⟨W.heap.size + 1, 4, none⟩ = false := fun ob ob2 => frzB (block_below (block_below HZ1.out (bel_alloc _ _)) (bel_alloc _ _)) 4
  have z5 : ∀ ob ob2, ((w1.alloc ob).alloc ob2).cell? ⟨W.heap.size + 1, 5, none⟩ = some (.int .i64 0) := fun ob ob2 => cell_below (bel_alloc _ _) (cell_below (bel_alloc _ _) (cellB HZ1.out (i := 5) rfl))
  have f5 : ∀ ob ob2, ((w1.alloc ob).alloc ob2).frozen? ⟨W.heap.size + 1, 5, none⟩ = false := fun ob ob2 => frzB (block_below (block_below HZ1.out (bel_alloc _ _)) (bel_alloc _ _)) 5
  have z6 : ∀ ob ob2, ((w1.alloc ob).alloc ob2).cell? ⟨W.heap.size + 1, 6, none⟩ = some (.int .i64 0) := fun ob ob2 => cell_below (bel_alloc _ _) (cell_below (bel_alloc _ _) (cellB HZ1.out (i := 6) rfl))
  have f6 : ∀ ob ob2, ((w1.alloc ob).alloc ob2).frozen? ⟨W.heap.size + 1, 6, none⟩ = false := fun ob ob2 => frzB (block_below (block_below HZ1.out (bel_alloc _ _)) (bel_alloc _ _)) 6
  have z7 : ∀ ob ob2, ((w1.alloc ob).alloc ob2).cell? ⟨W.heap.size + 1, 7, none⟩ = some (.int .i64 0) := fun ob ob2 => cell_below (bel_alloc _ _) (cell_below (bel_alloc _ _) (cellB HZ1.out (i := 7) rfl))
  have f7 : ∀ ob ob2, ((w1.alloc ob).alloc ob2).frozen? ⟨W.heap.size + 1, 7, none⟩ = false := fun ob ob2 => frzB (block_below (block_below HZ1.out (bel_alloc _ _)) (bel_alloc _ _)) 7
  by_cases hd : dd ≤ 28
  · by_cases hneg : r < 0
    · by_cases hst : bb = 1
      · subst hst
        go_wp2_with fail
        refine bodyPost_ret (results_cell_row rfl _ _ _ _ _ _ _ rfl (set8x (block_below (block_below HZ1.out (bel_alloc _ _)) (bel_alloc _ _))) Tryd.underlying27 rfl (by kernel_rfl)) rfl ?_
        exact ⟨_, _, _, _, _, _, _, Lib.hid (by omega), rfl, bel8x (bel_trans (bel_trans HB1.out (bel_alloc _ _)) (bel_alloc _ _)) (by omega)⟩
      · go_wp2_with fail
        refine bodyPost_ret (results_cell_row rfl _ _ _ _ _ _ _ rfl (set8x (block_below (block_below HZ1.out (bel_alloc _ _)) (bel_alloc _ _))) Tryd.underlying27 rfl (by kernel_rfl)) rfl ?_
        exact ⟨_, _, _, _, _, _, _, Lib.hid (by omega), rfl, bel8x (bel_trans (bel_trans HB1.out (bel_alloc _ _)) (bel_alloc _ _)) (by omega)⟩
    · by_cases hst : bb = 1
      · subst hst
        go_wp2_with fail
        refine bodyPost_ret (results_cell_row rfl _ _ _ _ _ _ _ rfl (set8x (block_below (block_below HZ1.out (bel_alloc _ _)) (bel_alloc _ _))) Tryd.underlying27 rfl (by kernel_rfl)) rfl ?_
        exact ⟨_, _, _, _, _, _, _, Lib.hid (by omega), rfl, bel8x (bel_trans (bel_trans HB1.out (bel_alloc _ _)) (bel_alloc _ _)) (by omega)⟩
      · go_wp2_with fail
        refine bodyPost_ret (results_cell_row rfl _ _ _ _ _ _ _ rfl (set8x (block_below (block_below HZ1.out (bel_alloc _ _)) (bel_alloc _ _))) Tryd.underlying27 rfl (by kernel_rfl)) rfl ?_
        exact ⟨_, _, _, _, _, _, _, Lib.hid (by omega), rfl, bel8x (bel_trans (bel_trans HB1.out (bel_alloc _ _)) (bel_alloc _ _)) (by omega)⟩
  · by_cases hneg : r < 0
    · by_cases hst : bb = 1
      · subst hst
        go_wp2_with fail
        refine bodyPost_ret (results_cell_row rfl _ _ _ _ _ _ _ rfl (set8x (block_below (block_below HZ1.out (bel_alloc _ _)) (bel_alloc _ _))) Tryd.underlying27 rfl (by kernel_rfl)) rfl ?_
        exact ⟨_, _, _, _, _, _, _, Lib.hid (by omega), rfl, bel8x (bel_trans (bel_trans HB1.out (bel_alloc _ _)) (bel_alloc _ _)) (by omega)⟩
      · go_wp2_with fail
        refine bodyPost_ret (results_cell_row rfl _ _ _ _ _ _ _ rfl (set8x (block_below (block_below HZ1.out (bel_alloc _ _)) (bel_alloc _ _))) Tryd.underlying27 rfl (by kernel_rfl)) rfl ?_
        exact ⟨_, _, _, _, _, _, _, Lib.hid (by omega), rfl, bel8x (bel_trans (bel_trans HB1.out (bel_alloc _ _)) (bel_alloc _ _)) (by omega)⟩
    · by_cases hst : bb = 1
      · subst hst
        go_wp2_with fail
        refine bodyPost_ret (results_cell_row rfl _ _ _ _ _ _ _ rfl (set8x (block_below (block_below HZ1.out (bel_alloc _ _)) (bel_alloc _ _))) Tryd.underlying27 rfl (by kernel_rfl)) rfl ?_
        exact ⟨_, _, _, _, _, _, _, Lib.hid (by omega), rfl, bel8x (bel_trans (bel_trans HB1.out (bel_alloc _ _)) (bel_alloc _ _)) (by omega)⟩
      · go_wp2_with fail
        refine bodyPost_ret (results_cell_row rfl _ _ _ _ _ _ _ rfl (set8x (block_below (block_below HZ1.out (bel_alloc _ _)) (bel_alloc _ _))) Tryd.underlying27 rfl (by kernel_rfl)) rfl ?_
        exact ⟨_, _, _, _, _, _, _, Lib.hid (by omega), rfl, bel8x (bel_trans (bel_trans HB1.out (bel_alloc _ _)) (bel_alloc _ _)) (by omega)⟩

end Go.Proofs.YtoaimfadccepiaaDoor
