/-
  What the walks of the laws of chapter 2 share.
-/
import Derived.Test.YtieoogllghmeeaaDoorDayEx
import Derived.Lib.SmallJoins
namespace Go.Proofs.YtieoogllghmeeaaDoor
open Go.RowKit Cv
set_option linter.unusedVariables false
set_option linter.unusedSimpArgs false

theorem tabs_of {W : World} (hL : laidMetH Tryd.prog Rows.dayformDaysRow.laid W) : Tabs W := ⟨tab_of hL, ktab_of hL⟩
/-- a day form that came in -/
theorem day_of {H : Type} {enc : TypeId × Value → H} {W : World} {base : Nat} {v : Value} {d : DataW H} {p : List MemPlace} (hv : Value.okWide Tryd.prog W .any base 23 v)
    (h : DataW.Trod enc Tryd.prog W 0 (fun _ => true) true 23 v d p) :
    ∃ k w n : Int, v = form k w n ∧ (Lit.int .i64 k).wf = true ∧ (Lit.int .i64 w).wf = true ∧ (Lit.int .i64 n).wf = true := by
  obtain ⟨v0, v1, v2, y0, y1, y2, m, rfl, _, _, h0, h1, h2⟩ := Go.Joins.open_agg3 Tryd.underlying23 (by kernel_rfl) (by kernel_rfl) hv h
  obtain ⟨k, hk, _, wk⟩ := DataW.trod_int Tryd.underlying3 h0
  obtain ⟨w, hw, _, ww⟩ := DataW.trod_int Tryd.underlying3 h1
  obtain ⟨n, hn, _, wn⟩ := DataW.trod_int Tryd.underlying3 h2
  simp at hk hw hn
  subst hk hw hn
  exact ⟨k, w, n, rfl, wk, ww, wn⟩
/-- a draft that came in -/
theorem draft_of {H : Type} {enc : TypeId × Value → H} {W : World} {base : Nat} {v : Value} {d : DataW H} {p : List MemPlace} (hv : Value.okWide Tryd.prog W .any base 32 v)
    (h : DataW.Trod enc Tryd.prog W 0 (fun _ => true) true 32 v d p) :
    ∃ k w n : Int, v = .agg #[.int .u8 k, .int .u8 w, .int .u8 n] ∧ (Lit.int .u8 k).wf = true ∧ (Lit.int .u8 w).wf = true ∧ (Lit.int .u8 n).wf = true := by
  obtain ⟨v0, v1, v2, y0, y1, y2, m, rfl, _, _, h0, h1, h2⟩ := Go.Joins.open_agg3 Tryd.underlying32 (by kernel_rfl) (by kernel_rfl) hv h
  obtain ⟨k, hk, _, wk⟩ := DataW.trod_int Tryd.underlying5 h0
  obtain ⟨w, hw, _, ww⟩ := DataW.trod_int Tryd.underlying5 h1
  obtain ⟨n, hn, _, wn⟩ := DataW.trod_int Tryd.underlying5 h2
  simp at hk hw hn
  subst hk hw hn
  exact ⟨k, w, n, rfl, wk, ww, wn⟩

namespace Cv
/-- what Made returns: a right form -/
def MadeR (W : World) (e : Ending) (W' : World) : Prop := ∃ k w d : Int, Hid (good k w d) ∧ e = .returned (.agg #[.int .i64 k, .int .i64 w, .int .i64 d]) ∧ Below W.heap.size W W'
theorem set3 (V : World) (b : Nat) (p q r x y z : Value) (t : TypeId) (C : Obj) (h : V.heap[b]? = some (.cells #[p, q, r] t)) :
    ((((V.setCell ⟨b, 0, none⟩ x).setCell ⟨b, 1, none⟩ y).setCell ⟨b, 2, none⟩ z).alloc C).heap[b]? = some (.cells #[x, y, z] t) := by
  have hb : b < V.heap.size := (Array.getElem?_eq_some_iff.1 h).1
  rw [Below.heap_alloc _ _ _ (by simp [World.setCell]; exact hb)]
  simp [World.setCell, Array.getElem?_modify, h]
theorem set3_bel (W : World) (A B C : Obj) (n : Nat) (x y z : Value) :
    Below W.heap.size W (((((((W.alloc A).alloc B).drewN n).setCell ⟨W.heap.size + 1, 0, none⟩ x).setCell ⟨W.heap.size + 1, 1, none⟩ y).setCell ⟨W.heap.size + 1, 2, none⟩ z).alloc C) := by
  have h1 : Below W.heap.size W ((W.alloc A).alloc B) := bel_trans (bel_alloc _ _) (bel_alloc _ _)
  have h2 := (((below_drewN h1 n).setCell (p := ⟨W.heap.size + 1, 0, none⟩) (Nat.le_succ _) x).setCell (p := ⟨W.heap.size + 1, 1, none⟩) (Nat.le_succ _) y).setCell (p := ⟨W.heap.size + 1, 2, none⟩) (Nat.le_succ _) z
  exact h2.alloc h2.size C
end Cv

set_option maxRecDepth 100000 in
set_option maxHeartbeats 1000000 in
theorem made_any (k w n : Int) (W : World) (wk : (Lit.int .u8 k).wf = true) (ww : (Lit.int .u8 w).wf = true) (wn : (Lit.int .u8 n).wf = true) :
    Calls Tryd.prog 16 #[.agg #[.int .u8 k, .int .u8 w, .int .u8 n]] W (MadeR W) := by
  obtain ⟨hk1, hk2⟩ := byte_of wk
  obtain ⟨hw1, hw2⟩ := byte_of ww
  obtain ⟨hn1, hn2⟩ := byte_of wn
  clear wk ww wn
  have hb : 0 ≤ k % 4 ∧ k % 4 < 4 ∧ 0 ≤ w % 7 ∧ w % 7 < 7 ∧ 0 ≤ n % 31 ∧ n % 31 < 31 := by omega
  obtain ⟨a1, a2, b1, b2, c1, c2⟩ := hb
  have HG1 := Lib.hid (show good 1 0 (1 + n % 31) by unfold good; omega)
  have HG2 := Lib.hid (show good 2 (w % 7) 0 by unfold good; omega)
  have HG3 := Lib.hid (show good 3 (w % 7) (1 + n % 31) by unfold good; omega)
  have HG4 := Lib.hid (show good 4 (w % 7) (1 + n % 31) by unfold good; omega)
  go_enter Tryd.func16, Tryd.ntmps16
  have hkc : k % 4 = 0 ∨ k % 4 = 1 ∨ k % 4 = 2 ∨ k % 4 = 3 := by omega
  go_wp2_with fail
  go_quiet (fail)
  rcases hkc with h | h | h | h
  · go_wp2_with fail
    refine (fixed_any (1 + n % 31) _).mono ?_
    rintro e w' ⟨rfl, rfl⟩
    go_wp2_with fail
    refine bodyPost_ret (results_cell_row rfl _ _ _ _ _ _ _ rfl (set3 _ _ _ _ _ _ _ _ _ _ (heap_alloc2_new _ _ _)) Tryd.underlying23 rfl (by kernel_rfl)) rfl ?_
    exact ⟨_, _, _, HG1.out, rfl, set3_bel _ _ _ _ _ _ _ _⟩
  · go_wp2_with fail
    refine (last_any (w % 7) _).mono ?_
    rintro e w' ⟨rfl, rfl⟩
    go_wp2_with fail
    refine bodyPost_ret (results_cell_row rfl _ _ _ _ _ _ _ rfl (set3 _ _ _ _ _ _ _ _ _ _ (heap_alloc2_new _ _ _)) Tryd.underlying23 rfl (by kernel_rfl)) rfl ?_
    exact ⟨_, _, _, HG2.out, rfl, set3_bel _ _ _ _ _ _ _ _⟩
  · go_wp2_with fail
    refine (from_any (w % 7) (1 + n % 31) _).mono ?_
    rintro e w' ⟨rfl, rfl⟩
    go_wp2_with fail
    refine bodyPost_ret (results_cell_row rfl _ _ _ _ _ _ _ rfl (set3 _ _ _ _ _ _ _ _ _ _ (heap_alloc2_new _ _ _)) Tryd.underlying23 rfl (by kernel_rfl)) rfl ?_
    exact ⟨_, _, _, HG3.out, rfl, set3_bel _ _ _ _ _ _ _ _⟩
  · go_wp2_with fail
    refine (to_any (w % 7) (1 + n % 31) _).mono ?_
    rintro e w' ⟨rfl, rfl⟩
    go_wp2_with fail
    refine bodyPost_ret (results_cell_row rfl _ _ _ _ _ _ _ rfl (set3 _ _ _ _ _ _ _ _ _ _ (heap_alloc2_new _ _ _)) Tryd.underlying23 rfl (by kernel_rfl)) rfl ?_
    exact ⟨_, _, _, HG4.out, rfl, set3_bel _ _ _ _ _ _ _ _⟩

set_option maxRecDepth 100000 in
set_option maxHeartbeats 1000000 in
theorem lawYear_any (y : Int) (W : World) (wy : (Lit.int .i32 y).wf = true) :
    Calls Tryd.prog 17 #[.int .i32 y] W fun e W' => (∃ z, Hid (inr z) ∧ e = .returned (.int .i64 z)) ∧ W = W' := by
  obtain ⟨hy1, hy2⟩ := i32_of wy
  clear wy
  have hc : (y < -2000000000) ∨ (2000000000 < y) ∨ (-2000000000 ≤ y ∧ y ≤ 2000000000) := by omega
  rcases hc with h | h | ⟨h1, h2⟩
  all_goals
    go_enter Tryd.func17, Tryd.ntmps17
    go_wp2
    all_goals
      go_ret
      exact ⟨⟨_, by show inr _; unfold inr; omega, rfl⟩, rfl⟩
end Go.Proofs.YtieoogllghmeeaaDoor
