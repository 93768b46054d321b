/-
  The maker of ends of chapter 22, with any least save: what it makes is right for that save.
-/
import Derived.Test.YtoaimfadccepiaaDoorUntMade
namespace Go.Proofs.YtoaimfadccepiaaDoor
open Go.RowKit Cv
set_option linter.unusedVariables false
set_option linter.unusedSimpArgs false

namespace Cv
theorem made_ok {y m k w d sec base least : Int} (hy1 : 1850 ≤ y) (hy2 : y ≤ 2149) (m1 : 1 ≤ m) (m2 : m ≤ 12) (hg : good k w d) (hd : d ≤ 28) (b1 : 0 ≤ base) (b2 : base ≤ 2) (s1 : -86400 ≤ untS sec base least) (s2 : untS sec base least ≤ 172800) (l1 : -10800 ≤ least) (l2 : least ≤ 0) :
    untC true y m k w d sec base least = 0 :=
  untC_yes l1 l2 ⟨hy1, hy2, b1, b2, on_mk (by unfold inr; omega) m1 m2 hg (by have := len_in y m m1 m2; omega), s1, s2⟩
theorem good28 {k w d : Int} (h : good k w d) (hd : ¬ d ≤ 28) : good k w 28 := by unfold good at *; omega
theorem good_d {k w d : Int} (h : good k w d) : 0 ≤ d ∧ d ≤ 31 := by unfold good at h; omega
/-- what Made returns: an end that is right for a save -/
def MadeW (least : Int) (W : World) (e : Ending) (W' : World) : Prop := ∃ y m k w d sec base : Int, Hid (untC true y m k w d sec base least = 0) ∧ e = .returned (.agg #[.bool true, .int .i64 y, .int .i64 m, .int .i64 k, .int .i64 w, .int .i64 d, .int .i64 sec, .int .i64 base]) ∧ Below W.heap.size W W'
end Cv

set_option maxRecDepth 100000 in
set_option maxHeartbeats 16000000 in
theorem untMade2_any (y m b k w n at_ least : Int) (W : World) (l1 : -10800 ≤ least) (l2 : least ≤ 0) (wy : (Lit.int .u16 y).wf = true) (wm : (Lit.int .u8 m).wf = true) (wb : (Lit.int .u8 b).wf = true) (wk : (Lit.int .u8 k).wf = true) (ww : (Lit.int .u8 w).wf = true) (wn : (Lit.int .u8 n).wf = true) (wa : (Lit.int .i32 at_).wf = true) :
    Calls Tryd.prog 18 #[.agg #[.int .u16 y, .int .u8 m, .int .u8 b, .int .u8 k, .int .u8 w, .int .u8 n, .int .i32 at_], .int .i64 least] W (MadeW least W) := by
  obtain ⟨hm1, hm2⟩ := byte_of wm
  obtain ⟨hb1, hb2⟩ := byte_of wb
  obtain ⟨ha1, ha2⟩ := i32_of wa
  have hy : 0 ≤ y ∧ y ≤ 65535 := by
    simp [Lit.wf, IntKind.min, IntKind.max, IntKind.signed, IntKind.bits] at wy
    omega
  obtain ⟨hy1, hy2⟩ := hy
  have HW := Lib.hid (show (Lit.int .u8 k).wf = true ∧ (Lit.int .u8 w).wf = true ∧ (Lit.int .u8 n).wf = true from ⟨wk, ww, wn⟩)
  clear wy wm wb wk ww wn wa
  have HB0 := Lib.hid (show Below W.heap.size W ((W.alloc (.cells #[.int .u16 y, .int .u8 m, .int .u8 b, .int .u8 k, .int .u8 w, .int .u8 n, .int .i32 at_] 38)).alloc (.cells #[.bool false, .int .i64 0, .int .i64 0, .int .i64 0, .int .i64 0, .int .i64 0, .int .i64 0, .int .i64 0] 27)) from bel_trans (bel_alloc _ _) (bel_alloc _ _))
  have HK0 := Lib.hid (show ((W.alloc (.cells #[.int .u16 y, .int .u8 m, .int .u8 b, .int .u8 k, .int .u8 w, .int .u8 n, .int .i32 at_] 38)).alloc (.cells #[.bool false, .int .i64 0, .int .i64 0, .int .i64 0, .int .i64 0, .int .i64 0, .int .i64 0, .int .i64 0] 27)).heap[W.heap.size]? = some (.cells #[.int .u16 y, .int .u8 m, .int .u8 b, .int .u8 k, .int .u8 w, .int .u8 n, .int .i32 at_] 38) from block_below (heap_alloc_new _ _) (bel_alloc _ _))
  have HZ0 := Lib.hid (show ((W.alloc (.cells #[.int .u16 y, .int .u8 m, .int .u8 b, .int .u8 k, .int .u8 w, .int .u8 n, .int .i32 at_] 38)).alloc (.cells #[.bool false, .int .i64 0, .int .i64 0, .int .i64 0, .int .i64 0, .int .i64 0, .int .i64 0, .int .i64 0] 27)).heap[W.heap.size + 1]? = some (.cells #[.bool false, .int .i64 0, .int .i64 0, .int .i64 0, .int .i64 0, .int .i64 0, .int .i64 0, .int .i64 0] 27) from heap_alloc2_new W _ _)
  obtain ⟨r, hr⟩ : ∃ r, at_.tmod 259201 = r := ⟨_, rfl⟩
  have hrb : -259201 < r ∧ r < 259201 := by
    rcases (show at_ < 0 ∨ 0 ≤ at_ by omega) with h | h
    · rw [(tdm_neg at_ 259201 h).2] at hr; omega
    · rw [(tdm_pos at_ 259201 h).2] at hr; omega
  obtain ⟨hr1, hr2⟩ := hrb
  obtain ⟨yy, hyy⟩ : ∃ yy, y % 300 = yy := ⟨_, rfl⟩
  obtain ⟨mm, hmm⟩ : ∃ mm, m % 12 = mm := ⟨_, rfl⟩
  obtain ⟨bb, hbb⟩ : ∃ bb, b % 3 = bb := ⟨_, rfl⟩
  have hyb : 0 ≤ yy ∧ yy < 300 := by omega
  have hmb : 0 ≤ mm ∧ mm < 12 := by omega
  have hbbb : 0 ≤ bb ∧ bb < 3 := by omega
  obtain ⟨y1, y2⟩ := hyb
  obtain ⟨m1, m2⟩ := hmb
  obtain ⟨b1, b2⟩ := hbbb
  go_enter Tryd.func18, Tryd.ntmps18
  go_wp2_with fail
  refine (dayMade_any k w n _ HW.out.1 HW.out.2.1 HW.out.2.2).mono ?_
  rintro e w1 ⟨kk, ww, dd, hg, rfl, hb⟩
  have HB1 := Lib.hid (bel_trans HB0.out hb)
  have HK1 := Lib.hid (block_below HK0.out hb)
  have HZ1 := Lib.hid (block_below HZ0.out hb)
  have HG := Lib.hid (good_d hg.out)
  have HGO := hg
  obtain ⟨gd1, gd2⟩ := HG.out
  clear hb HB0 HK0 HZ0 hg HW HG
  have c0 : ∀ ob, (w1.alloc ob).cell? ⟨W.heap.size, 0, none⟩ = some (.int .u16 y) := fun ob => cell_below (bel_alloc w1 ob) (cellB HK1.out (i := 0) rfl)
  have c1 : ∀ ob, (w1.alloc ob).cell? ⟨W.heap.size, 1, none⟩ = some (.int .u8 m) := fun ob => cell_below (bel_alloc w1 ob) (cellB HK1.out (i := 1) rfl)
  have c2 : ∀ ob, (w1.alloc ob).cell? ⟨W.heap.size, 2, none⟩ = some (.int .u8 b) := fun ob => cell_below (bel_alloc w1 ob) (cellB HK1.out (i := 2) rfl)
  have c3 : ∀ ob, (w1.alloc ob).cell? ⟨W.heap.size, 3, none⟩ = some (.int .u8 k) := fun ob => cell_below (bel_alloc w1 ob) (cellB HK1.out (i := 3) rfl)
  have c4 : ∀ ob, (w1.alloc ob).cell? ⟨W.heap.size, 4, none⟩ = some (.int .u8 w) := fun ob => cell_below (bel_alloc w1 ob) (cellB HK1.out (i := 4) rfl)
  have c5 : ∀ ob, (w1.alloc ob).cell? ⟨W.heap.size, 5, none⟩ = some (.int .u8 n) := fun ob => cell_below (bel_alloc w1 ob) (cellB HK1.out (i := 5) rfl)
  have c6 : ∀ ob, (w1.alloc ob).cell? ⟨W.heap.size, 6, none⟩ = some (.int .i32 at_) := fun ob => cell_below (bel_alloc w1 ob) (cellB HK1.out (i := 6) rfl)
  have g6 : ∀ ob ob2, ((w1.alloc ob).alloc ob2).cell? ⟨W.heap.size, 6, none⟩ = some (.int .i32 at_) := fun ob ob2 => cell_below (bel_alloc _ _) (c6 ob)
  have z0 : ∀ ob ob2, ((w1.alloc ob).alloc ob2).cell? ⟨W.heap.size + 1, 0, none⟩ = some (.bool false) := fun ob ob2 => cell_below (bel_alloc _ _) (cell_below (bel_alloc _ _) (cellB HZ1.out (i := 0) rfl))
  have f0 : ∀ ob ob2, ((w1.alloc ob).alloc ob2).frozen? ⟨W.heap.size + 1, 0, none⟩ = false := fun ob ob2 => frzB (block_below (block_below HZ1.out (bel_alloc _ _)) (bel_alloc _ _)) 0
  have z1 : ∀ ob ob2, ((w1.alloc ob).alloc ob2).cell? ⟨W.heap.size + 1, 1, none⟩ = some (.int .i64 0) := fun ob ob2 => cell_below (bel_alloc _ _) (cell_below (bel_alloc _ _) (cellB HZ1.out (i := 1) rfl))
  have f1 : ∀ ob ob2, ((w1.alloc ob).alloc ob2).frozen? ⟨W.heap.size + 1, 1, none⟩ = false := fun ob ob2 => frzB (block_below (block_below HZ1.out (bel_alloc _ _)) (bel_alloc _ _)) 1
  have z2 : ∀ ob ob2, ((w1.alloc ob).alloc ob2).cell? ⟨W.heap.size + 1, 2, none⟩ = some (.int .i64 0) := fun ob ob2 => cell_below (bel_alloc _ _) (cell_below (bel_alloc _ _) (cellB HZ1.out (i := 2) rfl))
  have f2 : ∀ ob ob2, ((w1.alloc ob).alloc ob2).frozen? ⟨W.heap.size + 1, 2, none⟩ = false := fun ob ob2 => frzB (block_below (block_below HZ1.out (bel_alloc _ _)) (bel_alloc _ _)) 2
  have z3 : ∀ ob ob2, ((w1.alloc ob).alloc ob2).cell? ⟨W.heap.size + 1, 3, none⟩ = some (.int .i64 0) := fun ob ob2 => cell_below (bel_alloc _ _) (cell_below (bel_alloc _ _) (cellB HZ1.out (i := 3) rfl))
  have f3 : ∀ ob ob2, ((w1.alloc ob).alloc ob2).frozen? ⟨W.heap.size + 1, 3, none⟩ = false := fun ob ob2 => frzB (block_below (block_below HZ1.out (bel_alloc _ _)) (bel_alloc _ _)) 3
  have z4 : ∀ ob ob2, ((w1.alloc ob).alloc ob2).cell? ⟨W.heap.size + 1, 4, none⟩ = some (.int .i64 0) := fun ob ob2 => cell_below (bel_alloc _ _) (cell_below (bel_alloc _ _) (cellB HZ1.out (i := 4) rfl))
  have f4 : ∀ ob ob2, ((w1.alloc ob).alloc ob2).frozen? ⟨W.heap.size + 1, 4, none⟩ = false := fun ob ob2 => frzB (block_below (block_below HZ1.out (bel_alloc _ _)) (bel_alloc _ _)) 4
  have z5 : ∀ ob ob2, ((w1.alloc ob).alloc ob2).cell? ⟨W.heap.size + 1, 5, none⟩ = some (.int .i64 0) := fun ob ob2 => cell_below (bel_alloc _ _) (cell_below (bel_alloc _ _) (cellB HZ1.out (i := 5) rfl))
  have f5 : ∀ ob ob2, ((w1.alloc ob).alloc ob2).frozen? ⟨W.heap.size + 1, 5, none⟩ = false := fun ob ob2 => frzB (block_below (block_below HZ1.out (bel_alloc _ _)) (bel_alloc _ _)) 5
  have z6 : ∀ ob ob2, ((w1.alloc ob).alloc ob2).cell? ⟨W.heap.size + 1, 6, none⟩ = some (.int .i64 0) := fun ob ob2 => cell_below (bel_alloc _ _) (cell_below (bel_alloc _ _) (cellB HZ1.out (i := 6) rfl))
  have f6 : ∀ ob ob2, ((w1.alloc ob).alloc ob2).frozen? ⟨W.heap.size + 1, 6, none⟩ = false := fun ob ob2 => frzB (block_below (block_below HZ1.out (bel_alloc _ _)) (bel_alloc _ _)) 6
  have z7 : ∀ ob ob2, ((w1.alloc ob).alloc ob2).cell? ⟨W.heap.size + 1, 7, none⟩ = some (.int .i64 0) := fun ob ob2 => cell_below (bel_alloc _ _) (cell_below (bel_alloc _ _) (cellB HZ1.out (i := 7) rfl))
  have f7 : ∀ ob ob2, ((w1.alloc ob).alloc ob2).frozen? ⟨W.heap.size + 1, 7, none⟩ = false := fun ob ob2 => frzB (block_below (block_below HZ1.out (bel_alloc _ _)) (bel_alloc _ _)) 7
  by_cases hd : dd ≤ 28
  · by_cases hneg : r < 0
    · by_cases hst : bb = 1
      · subst hst
        go_wp2_with fail
        refine bodyPost_ret (results_cell_row rfl _ _ _ _ _ _ _ rfl (set8x (block_below (block_below HZ1.out (bel_alloc _ _)) (bel_alloc _ _))) Tryd.underlying27 rfl (by kernel_rfl)) rfl ?_
        exact ⟨_, _, _, _, _, _, _, Lib.hid (made_ok (by omega) (by omega) (by omega) (by omega) HGO.out hd (by omega) (by omega) (by unfold untS; first | rw [if_pos rfl]; omega | rw [if_neg hst]; omega) (by unfold untS; first | rw [if_pos rfl]; omega | rw [if_neg hst]; omega) l1 l2), rfl, bel8x (bel_trans (bel_trans HB1.out (bel_alloc _ _)) (bel_alloc _ _)) (by omega)⟩
      · go_wp2_with fail
        refine bodyPost_ret (results_cell_row rfl _ _ _ _ _ _ _ rfl (set8x (block_below (block_below HZ1.out (bel_alloc _ _)) (bel_alloc _ _))) Tryd.underlying27 rfl (by kernel_rfl)) rfl ?_
        exact ⟨_, _, _, _, _, _, _, Lib.hid (made_ok (by omega) (by omega) (by omega) (by omega) HGO.out hd (by omega) (by omega) (by unfold untS; first | rw [if_pos rfl]; omega | rw [if_neg hst]; omega) (by unfold untS; first | rw [if_pos rfl]; omega | rw [if_neg hst]; omega) l1 l2), rfl, bel8x (bel_trans (bel_trans HB1.out (bel_alloc _ _)) (bel_alloc _ _)) (by omega)⟩
    · by_cases hst : bb = 1
      · subst hst
        go_wp2_with fail
        refine bodyPost_ret (results_cell_row rfl _ _ _ _ _ _ _ rfl (set8x (block_below (block_below HZ1.out (bel_alloc _ _)) (bel_alloc _ _))) Tryd.underlying27 rfl (by kernel_rfl)) rfl ?_
        exact ⟨_, _, _, _, _, _, _, Lib.hid (made_ok (by omega) (by omega) (by omega) (by omega) HGO.out hd (by omega) (by omega) (by unfold untS; first | rw [if_pos rfl]; omega | rw [if_neg hst]; omega) (by unfold untS; first | rw [if_pos rfl]; omega | rw [if_neg hst]; omega) l1 l2), rfl, bel8x (bel_trans (bel_trans HB1.out (bel_alloc _ _)) (bel_alloc _ _)) (by omega)⟩
      · go_wp2_with fail
        refine bodyPost_ret (results_cell_row rfl _ _ _ _ _ _ _ rfl (set8x (block_below (block_below HZ1.out (bel_alloc _ _)) (bel_alloc _ _))) Tryd.underlying27 rfl (by kernel_rfl)) rfl ?_
        exact ⟨_, _, _, _, _, _, _, Lib.hid (made_ok (by omega) (by omega) (by omega) (by omega) HGO.out hd (by omega) (by omega) (by unfold untS; first | rw [if_pos rfl]; omega | rw [if_neg hst]; omega) (by unfold untS; first | rw [if_pos rfl]; omega | rw [if_neg hst]; omega) l1 l2), rfl, bel8x (bel_trans (bel_trans HB1.out (bel_alloc _ _)) (bel_alloc _ _)) (by omega)⟩
  · by_cases hneg : r < 0
    · by_cases hst : bb = 1
      · subst hst
        go_wp2_with fail
        refine bodyPost_ret (results_cell_row rfl _ _ _ _ _ _ _ rfl (set8x (block_below (block_below HZ1.out (bel_alloc _ _)) (bel_alloc _ _))) Tryd.underlying27 rfl (by kernel_rfl)) rfl ?_
        exact ⟨_, _, _, _, _, _, _, Lib.hid (made_ok (by omega) (by omega) (by omega) (by omega) (good28 HGO.out (by omega)) (by omega) (by omega) (by omega) (by unfold untS; first | rw [if_pos rfl]; omega | rw [if_neg hst]; omega) (by unfold untS; first | rw [if_pos rfl]; omega | rw [if_neg hst]; omega) l1 l2), rfl, bel8x (bel_trans (bel_trans HB1.out (bel_alloc _ _)) (bel_alloc _ _)) (by omega)⟩
      · go_wp2_with fail
        refine bodyPost_ret (results_cell_row rfl _ _ _ _ _ _ _ rfl (set8x (block_below (block_below HZ1.out (bel_alloc _ _)) (bel_alloc _ _))) Tryd.underlying27 rfl (by kernel_rfl)) rfl ?_
        exact ⟨_, _, _, _, _, _, _, Lib.hid (made_ok (by omega) (by omega) (by omega) (by omega) (good28 HGO.out (by omega)) (by omega) (by omega) (by omega) (by unfold untS; first | rw [if_pos rfl]; omega | rw [if_neg hst]; omega) (by unfold untS; first | rw [if_pos rfl]; omega | rw [if_neg hst]; omega) l1 l2), rfl, bel8x (bel_trans (bel_trans HB1.out (bel_alloc _ _)) (bel_alloc _ _)) (by omega)⟩
    · by_cases hst : bb = 1
      · subst hst
        go_wp2_with fail
        refine bodyPost_ret (results_cell_row rfl _ _ _ _ _ _ _ rfl (set8x (block_below (block_below HZ1.out (bel_alloc _ _)) (bel_alloc _ _))) Tryd.underlying27 rfl (by kernel_rfl)) rfl ?_
        exact ⟨_, _, _, _, _, _, _, Lib.hid (made_ok (by omega) (by omega) (by omega) (by omega) (good28 HGO.out (by omega)) (by omega) (by omega) (by omega) (by unfold untS; first | rw [if_pos rfl]; omega | rw [if_neg hst]; omega) (by unfold untS; first | rw [if_pos rfl]; omega | rw [if_neg hst]; omega) l1 l2), rfl, bel8x (bel_trans (bel_trans HB1.out (bel_alloc _ _)) (bel_alloc _ _)) (by omega)⟩
      · go_wp2_with fail
        refine bodyPost_ret (results_cell_row rfl _ _ _ _ _ _ _ rfl (set8x (block_below (block_below HZ1.out (bel_alloc _ _)) (bel_alloc _ _))) Tryd.underlying27 rfl (by kernel_rfl)) rfl ?_
        exact ⟨_, _, _, _, _, _, _, Lib.hid (made_ok (by omega) (by omega) (by omega) (by omega) (good28 HGO.out (by omega)) (by omega) (by omega) (by omega) (by unfold untS; first | rw [if_pos rfl]; omega | rw [if_neg hst]; omega) (by unfold untS; first | rw [if_pos rfl]; omega | rw [if_neg hst]; omega) l1 l2), rfl, bel8x (bel_trans (bel_trans HB1.out (bel_alloc _ _)) (bel_alloc _ _)) (by omega)⟩


end Go.Proofs.YtoaimfadccepiaaDoor
