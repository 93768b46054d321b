/-
  The contract of the reference's On (analemmaref17).
-/
import Derived.Test.YtghmdaahmijdiaaDoorEvRef0
namespace Go.Proofs.YtghmdaahmijdiaaDoor
open Go.RowKit Cv
set_option linter.unusedVariables false
set_option linter.unusedSimpArgs false

theorem refOnC_any (y m k w d : Int) (W : World) (hy1 : -9223372036854775808 ≤ y) (hy2 : y ≤ 9223372036854775807) :
    Calls Tryd.prog 46 #[.int .i64 y, .int .i64 m, .agg #[.int .i64 k, .int .i64 w, .int .i64 d]] W (OnR y m k w d W) := refOn_any y m k w d W hy1 hy2

set_option maxRecDepth 100000 in
set_option maxHeartbeats 2000000 in
theorem refOn_t1 (rs : _root_.List Ru) (k n g off cap : Nat) (y : Int) (na : ByteArray) (fr ut mo kk w d sec base save : Int) (le : ByteArray) (W : World) (H : Hid (Rul (.slice (some ⟨g, off, none⟩) n cap) rs W)) (HN : Hid (n = rs.length)) (hn : n ≤ 1000) (hkn : k < n)
    (HR : Hid (rs[k]? = some (⟨na, fr, ut, mo, kk, w, d, sec, base, save, le⟩ : Ru))) (hy1 : -2000000000 ≤ y) (hy2 : y ≤ 2000000000) (h1 : y < fr) :
    Calls Tryd.prog 27 #[.slice (some ⟨g, off, none⟩) n cap, .int .i64 (k : Int), .int .i64 y] W (EvR (evOn rs k y) W) := by
  obtain ⟨g', off', e', hrg⟩ := H.out.at_ HR.out
  cases e'
  obtain ⟨e0, e1, e2, e3, e4, e5, e6, e7, e8, e9, e10⟩ := range11 (range_below (bel_alloc W (.cells #[.int .i64 0, .int .i64 0, .int .i64 0] 25)) hrg)
  dsimp only at e0 e1 e2 e3 e4 e5 e6 e7 e8 e9 e10
  have HK0 := Lib.hid (show ((W.alloc (.cells #[.int .i64 0, .int .i64 0, .int .i64 0] 25)).alloc (.cells #[.string na, .int .i64 fr, .int .i64 ut, .int .i64 mo, .int .i64 kk, .int .i64 w, .int .i64 d, .int .i64 sec, .int .i64 base, .int .i64 save, .string le] 34)).heap[W.heap.size]? = some (.cells #[.int .i64 0, .int .i64 0, .int .i64 0] 25) from block_below (heap_alloc_new _ _) (bel_alloc _ _))
  have HK1 := Lib.hid (show ((W.alloc (.cells #[.int .i64 0, .int .i64 0, .int .i64 0] 25)).alloc (.cells #[.string na, .int .i64 fr, .int .i64 ut, .int .i64 mo, .int .i64 kk, .int .i64 w, .int .i64 d, .int .i64 sec, .int .i64 base, .int .i64 save, .string le] 34)).heap[W.heap.size + 1]? = some (.cells #[.string na, .int .i64 fr, .int .i64 ut, .int .i64 mo, .int .i64 kk, .int .i64 w, .int .i64 d, .int .i64 sec, .int .i64 base, .int .i64 save, .string le] 34) from by have := heap_alloc_new (W.alloc (.cells #[.int .i64 0, .int .i64 0, .int .i64 0] 25)) (.cells #[.string na, .int .i64 fr, .int .i64 ut, .int .i64 mo, .int .i64 kk, .int .i64 w, .int .i64 d, .int .i64 sec, .int .i64 base, .int .i64 save, .string le] 34); simpa using this)
  have HB0 := Lib.hid (show Below W.heap.size W ((W.alloc (.cells #[.int .i64 0, .int .i64 0, .int .i64 0] 25)).alloc (.cells #[.string na, .int .i64 fr, .int .i64 ut, .int .i64 mo, .int .i64 kk, .int .i64 w, .int .i64 d, .int .i64 sec, .int .i64 base, .int .i64 save, .string le] 34)) from bel_trans (bel_alloc _ _) (bel_alloc _ _))
  clear hrg
  have HO := Lib.hid (evOn_no (y := y) HR.out (fun h => by have := h.1; unfold firstY at this; dsimp only at this; omega))
  go_enter Tryd.func27, Tryd.ntmps27
  go_wp2_with fail
  refine bodyPost_ret (res_cell_tmp rfl _ _ _ _ _ _ _ rfl (block_below (heap_alloc_new _ _) (bel_alloc _ _)) Tryd.underlying25 rfl (by kernel_rfl)) rfl ?_
  exact EvR.none_ HO.out (bel_trans (bel_alloc _ _) (bel_alloc _ _))

set_option maxRecDepth 100000 in
set_option maxHeartbeats 2000000 in
theorem refOn_t2 (rs : _root_.List Ru) (k n g off cap : Nat) (y : Int) (na : ByteArray) (fr ut mo kk w d sec base save : Int) (le : ByteArray) (W : World) (H : Hid (Rul (.slice (some ⟨g, off, none⟩) n cap) rs W)) (HN : Hid (n = rs.length)) (hn : n ≤ 1000) (hkn : k < n)
    (HR : Hid (rs[k]? = some (⟨na, fr, ut, mo, kk, w, d, sec, base, save, le⟩ : Ru))) (hy1 : -2000000000 ≤ y) (hy2 : y ≤ 2000000000) (h1 : fr ≤ y) (hu : ut ≠ 1048576) (h2 : ut < y) :
    Calls Tryd.prog 27 #[.slice (some ⟨g, off, none⟩) n cap, .int .i64 (k : Int), .int .i64 y] W (EvR (evOn rs k y) W) := by
  obtain ⟨g', off', e', hrg⟩ := H.out.at_ HR.out
  cases e'
  obtain ⟨e0, e1, e2, e3, e4, e5, e6, e7, e8, e9, e10⟩ := range11 (range_below (bel_alloc W (.cells #[.int .i64 0, .int .i64 0, .int .i64 0] 25)) hrg)
  dsimp only at e0 e1 e2 e3 e4 e5 e6 e7 e8 e9 e10
  have HK0 := Lib.hid (show ((W.alloc (.cells #[.int .i64 0, .int .i64 0, .int .i64 0] 25)).alloc (.cells #[.string na, .int .i64 fr, .int .i64 ut, .int .i64 mo, .int .i64 kk, .int .i64 w, .int .i64 d, .int .i64 sec, .int .i64 base, .int .i64 save, .string le] 34)).heap[W.heap.size]? = some (.cells #[.int .i64 0, .int .i64 0, .int .i64 0] 25) from block_below (heap_alloc_new _ _) (bel_alloc _ _))
  have HK1 := Lib.hid (show ((W.alloc (.cells #[.int .i64 0, .int .i64 0, .int .i64 0] 25)).alloc (.cells #[.string na, .int .i64 fr, .int .i64 ut, .int .i64 mo, .int .i64 kk, .int .i64 w, .int .i64 d, .int .i64 sec, .int .i64 base, .int .i64 save, .string le] 34)).heap[W.heap.size + 1]? = some (.cells #[.string na, .int .i64 fr, .int .i64 ut, .int .i64 mo, .int .i64 kk, .int .i64 w, .int .i64 d, .int .i64 sec, .int .i64 base, .int .i64 save, .string le] 34) from by have := heap_alloc_new (W.alloc (.cells #[.int .i64 0, .int .i64 0, .int .i64 0] 25)) (.cells #[.string na, .int .i64 fr, .int .i64 ut, .int .i64 mo, .int .i64 kk, .int .i64 w, .int .i64 d, .int .i64 sec, .int .i64 base, .int .i64 save, .string le] 34); simpa using this)
  have HB0 := Lib.hid (show Below W.heap.size W ((W.alloc (.cells #[.int .i64 0, .int .i64 0, .int .i64 0] 25)).alloc (.cells #[.string na, .int .i64 fr, .int .i64 ut, .int .i64 mo, .int .i64 kk, .int .i64 w, .int .i64 d, .int .i64 sec, .int .i64 base, .int .i64 save, .string le] 34)) from bel_trans (bel_alloc _ _) (bel_alloc _ _))
  clear hrg
  have HO := Lib.hid (evOn_no (y := y) HR.out (fun h => by have := h.2.1; unfold lastY at this; dsimp only at this; rw [if_neg hu] at this; omega))
  have hub3 : (ut == 1048576) = false := by simp [hu]
  have hub2 : (ut != 1048576) = true := by simp [hu]
  have hub4 : (!(ut == 1048576)) = true := by simp [hu]
  go_enter Tryd.func27, Tryd.ntmps27
  go_wp2_with fail
  refine bodyPost_ret (res_cell_tmp rfl _ _ _ _ _ _ _ rfl (block_below (heap_alloc_new _ _) (bel_alloc _ _)) Tryd.underlying25 rfl (by kernel_rfl)) rfl ?_
  exact EvR.none_ HO.out (bel_trans (bel_alloc _ _) (bel_alloc _ _))

set_option maxRecDepth 100000 in
set_option maxHeartbeats 2000000 in
theorem refOn_t3 (rs : _root_.List Ru) (k n g off cap : Nat) (y : Int) (na : ByteArray) (fr ut mo kk w d sec base save : Int) (le : ByteArray) (W : World) (H : Hid (Rul (.slice (some ⟨g, off, none⟩) n cap) rs W)) (HN : Hid (n = rs.length)) (hn : n ≤ 1000) (hkn : k < n)
    (HR : Hid (rs[k]? = some (⟨na, fr, ut, mo, kk, w, d, sec, base, save, le⟩ : Ru))) (hy1 : -2000000000 ≤ y) (hy2 : y ≤ 2000000000) (h1 : fr ≤ y) (h2 : ut = 1048576 ∨ (¬ ut = 1048576 ∧ y ≤ ut)) (hc : ¬ clk sec base) :
    Calls Tryd.prog 27 #[.slice (some ⟨g, off, none⟩) n cap, .int .i64 (k : Int), .int .i64 y] W (EvR (evOn rs k y) W) := by
  obtain ⟨g', off', e', hrg⟩ := H.out.at_ HR.out
  cases e'
  obtain ⟨e0, e1, e2, e3, e4, e5, e6, e7, e8, e9, e10⟩ := range11 (range_below (bel_alloc W (.cells #[.int .i64 0, .int .i64 0, .int .i64 0] 25)) hrg)
  dsimp only at e0 e1 e2 e3 e4 e5 e6 e7 e8 e9 e10
  have HK0 := Lib.hid (show ((W.alloc (.cells #[.int .i64 0, .int .i64 0, .int .i64 0] 25)).alloc (.cells #[.string na, .int .i64 fr, .int .i64 ut, .int .i64 mo, .int .i64 kk, .int .i64 w, .int .i64 d, .int .i64 sec, .int .i64 base, .int .i64 save, .string le] 34)).heap[W.heap.size]? = some (.cells #[.int .i64 0, .int .i64 0, .int .i64 0] 25) from block_below (heap_alloc_new _ _) (bel_alloc _ _))
  have HK1 := Lib.hid (show ((W.alloc (.cells #[.int .i64 0, .int .i64 0, .int .i64 0] 25)).alloc (.cells #[.string na, .int .i64 fr, .int .i64 ut, .int .i64 mo, .int .i64 kk, .int .i64 w, .int .i64 d, .int .i64 sec, .int .i64 base, .int .i64 save, .string le] 34)).heap[W.heap.size + 1]? = some (.cells #[.string na, .int .i64 fr, .int .i64 ut, .int .i64 mo, .int .i64 kk, .int .i64 w, .int .i64 d, .int .i64 sec, .int .i64 base, .int .i64 save, .string le] 34) from by have := heap_alloc_new (W.alloc (.cells #[.int .i64 0, .int .i64 0, .int .i64 0] 25)) (.cells #[.string na, .int .i64 fr, .int .i64 ut, .int .i64 mo, .int .i64 kk, .int .i64 w, .int .i64 d, .int .i64 sec, .int .i64 base, .int .i64 save, .string le] 34); simpa using this)
  have HB0 := Lib.hid (show Below W.heap.size W ((W.alloc (.cells #[.int .i64 0, .int .i64 0, .int .i64 0] 25)).alloc (.cells #[.string na, .int .i64 fr, .int .i64 ut, .int .i64 mo, .int .i64 kk, .int .i64 w, .int .i64 d, .int .i64 sec, .int .i64 base, .int .i64 save, .string le] 34)) from bel_trans (bel_alloc _ _) (bel_alloc _ _))
  clear hrg
  have HO := Lib.hid (evOn_no (y := y) HR.out (fun h => hc h.2.2.1))
  have HCK := Lib.hid (clkC_no hc)
  clear hc
  rcases h2 with rfl | ⟨hub, h3⟩
  all_goals
    try have hub2 : (ut != 1048576) = true := by simp [hub]
    try have hub3 : (ut == 1048576) = false := by simp [hub]
    try have hub4 : (!(ut == 1048576)) = true := by simp [hub]
    go_enter Tryd.func27, Tryd.ntmps27
    go_wp2_with fail
    ((with_reducible refine (refClk_any sec base _).mono ?_); rintro e w1 ⟨rfl, hb1⟩)
    rw [HCK.out]
    have HA1 := Lib.hid (block_below HK0.out hb1)
    have HC1 := Lib.hid (block_below HK1.out hb1)
    have HB1 := Lib.hid (bel_trans HB0.out hb1)
    clear hb1
    have y0 := cellB HA1.out (i := 0) rfl
    have y1 := cellB HA1.out (i := 1) rfl
    have y2 := cellB HA1.out (i := 2) rfl
    have f0 := frzB HA1.out 0
    have f1 := frzB HA1.out 1
    have f2 := frzB HA1.out 2
    go_wp2_with fail
    refine bodyPost_ret (res_cell_tmp rfl _ _ _ _ _ _ _ rfl (set3c HA1.out) Tryd.underlying25 rfl (by kernel_rfl)) rfl ?_
    exact EvR.none_ HO.out (bel_setCells (o := 0) (l := [.int .i64 0, .int .i64 0, .int .i64 0]) HB1.out (Nat.le_refl _))

set_option maxRecDepth 100000 in
set_option maxHeartbeats 2000000 in
theorem refOn_t4 (rs : _root_.List Ru) (k n g off cap : Nat) (y : Int) (na : ByteArray) (fr ut mo kk w d sec base save : Int) (le : ByteArray) (W : World) (H : Hid (Rul (.slice (some ⟨g, off, none⟩) n cap) rs W)) (HN : Hid (n = rs.length)) (hn : n ≤ 1000) (hkn : k < n)
    (HR : Hid (rs[k]? = some (⟨na, fr, ut, mo, kk, w, d, sec, base, save, le⟩ : Ru))) (hy1 : -2000000000 ≤ y) (hy2 : y ≤ 2000000000) (h1 : fr ≤ y) (h2 : ut = 1048576 ∨ (¬ ut = 1048576 ∧ y ≤ ut)) (hc : clk sec base) (x q : Int) (hx : on y mo kk w d = (x, q)) (hq : q ≠ 0) :
    Calls Tryd.prog 27 #[.slice (some ⟨g, off, none⟩) n cap, .int .i64 (k : Int), .int .i64 y] W (EvR (evOn rs k y) W) := by
  obtain ⟨g', off', e', hrg⟩ := H.out.at_ HR.out
  cases e'
  obtain ⟨e0, e1, e2, e3, e4, e5, e6, e7, e8, e9, e10⟩ := range11 (range_below (bel_alloc W (.cells #[.int .i64 0, .int .i64 0, .int .i64 0] 25)) hrg)
  dsimp only at e0 e1 e2 e3 e4 e5 e6 e7 e8 e9 e10
  have HK0 := Lib.hid (show ((W.alloc (.cells #[.int .i64 0, .int .i64 0, .int .i64 0] 25)).alloc (.cells #[.string na, .int .i64 fr, .int .i64 ut, .int .i64 mo, .int .i64 kk, .int .i64 w, .int .i64 d, .int .i64 sec, .int .i64 base, .int .i64 save, .string le] 34)).heap[W.heap.size]? = some (.cells #[.int .i64 0, .int .i64 0, .int .i64 0] 25) from block_below (heap_alloc_new _ _) (bel_alloc _ _))
  have HK1 := Lib.hid (show ((W.alloc (.cells #[.int .i64 0, .int .i64 0, .int .i64 0] 25)).alloc (.cells #[.string na, .int .i64 fr, .int .i64 ut, .int .i64 mo, .int .i64 kk, .int .i64 w, .int .i64 d, .int .i64 sec, .int .i64 base, .int .i64 save, .string le] 34)).heap[W.heap.size + 1]? = some (.cells #[.string na, .int .i64 fr, .int .i64 ut, .int .i64 mo, .int .i64 kk, .int .i64 w, .int .i64 d, .int .i64 sec, .int .i64 base, .int .i64 save, .string le] 34) from by have := heap_alloc_new (W.alloc (.cells #[.int .i64 0, .int .i64 0, .int .i64 0] 25)) (.cells #[.string na, .int .i64 fr, .int .i64 ut, .int .i64 mo, .int .i64 kk, .int .i64 w, .int .i64 d, .int .i64 sec, .int .i64 base, .int .i64 save, .string le] 34); simpa using this)
  have HB0 := Lib.hid (show Below W.heap.size W ((W.alloc (.cells #[.int .i64 0, .int .i64 0, .int .i64 0] 25)).alloc (.cells #[.string na, .int .i64 fr, .int .i64 ut, .int .i64 mo, .int .i64 kk, .int .i64 w, .int .i64 d, .int .i64 sec, .int .i64 base, .int .i64 save, .string le] 34)) from bel_trans (bel_alloc _ _) (bel_alloc _ _))
  clear hrg
  have HO := Lib.hid (evOn_no (y := y) HR.out (fun h => by have := h.2.2.2; dsimp only at this; rw [hx] at this; exact hq this))
  have HX := Lib.hid hx
  have HCK := Lib.hid (clkC_yes hc)
  have hqb : (q == 0) = false := by simp [hq]
  clear hx hq hc
  rcases h2 with rfl | ⟨hub, h3⟩
  all_goals
    try have hub2 : (ut != 1048576) = true := by simp [hub]
    try have hub3 : (ut == 1048576) = false := by simp [hub]
    try have hub4 : (!(ut == 1048576)) = true := by simp [hub]
    go_enter Tryd.func27, Tryd.ntmps27
    go_wp2_with fail
    ((with_reducible refine (refClk_any sec base _).mono ?_); rintro e w1 ⟨rfl, hb1⟩)
    rw [HCK.out]
    have HA1 := Lib.hid (block_below HK0.out hb1)
    have HC1 := Lib.hid (block_below HK1.out hb1)
    have HB1 := Lib.hid (bel_trans HB0.out hb1)
    clear hb1
    have c3 := cellB HC1.out (i := 3) rfl
    have c4 := cellB HC1.out (i := 4) rfl
    have c5 := cellB HC1.out (i := 5) rfl
    have c6 := cellB HC1.out (i := 6) rfl
    go_wp2_with fail
    ((with_reducible refine (refOnC_any y mo kk w d _ ?_ ?_).mono ?_))
    · omega
    · omega
    intro e w2 hq'; obtain ⟨rfl, hb2⟩ := OnR.to HX.out _ _ hq'; clear hq'
    clear c3 c4 c5 c6
    have HA2 := Lib.hid (block_below HA1.out hb2)
    have HC2 := Lib.hid (block_below HC1.out hb2)
    have HB2 := Lib.hid (bel_trans HB1.out hb2)
    clear hb2
    have y0 := cellB HA2.out (i := 0) rfl
    have y1 := cellB HA2.out (i := 1) rfl
    have y2 := cellB HA2.out (i := 2) rfl
    have f0 := frzB HA2.out 0
    have f1 := frzB HA2.out 1
    have f2 := frzB HA2.out 2
    go_wp2_with fail
    refine bodyPost_ret (res_cell_tmp rfl _ _ _ _ _ _ _ rfl (set3c HA2.out) Tryd.underlying25 rfl (by kernel_rfl)) rfl ?_
    exact EvR.none_ HO.out (bel_setCells (o := 0) (l := [.int .i64 0, .int .i64 0, .int .i64 0]) HB2.out (Nat.le_refl _))

set_option maxRecDepth 100000 in
set_option maxHeartbeats 2000000 in
theorem refOn_t5 (rs : _root_.List Ru) (k n g off cap : Nat) (y : Int) (na : ByteArray) (fr ut mo kk w d sec base save : Int) (le : ByteArray) (W : World) (H : Hid (Rul (.slice (some ⟨g, off, none⟩) n cap) rs W)) (HN : Hid (n = rs.length)) (hn : n ≤ 1000) (hkn : k < n)
    (HR : Hid (rs[k]? = some (⟨na, fr, ut, mo, kk, w, d, sec, base, save, le⟩ : Ru))) (hy1 : -2000000000 ≤ y) (hy2 : y ≤ 2000000000) (h1 : fr ≤ y) (h2 : ut = 1048576 ∨ (¬ ut = 1048576 ∧ y ≤ ut)) (hc : clk sec base) (x : Int) (HX : Hid (on y mo kk w d = (x, 0))) (hbs : ¬ base = 1) :
    Calls Tryd.prog 27 #[.slice (some ⟨g, off, none⟩) n cap, .int .i64 (k : Int), .int .i64 y] W (EvR (evOn rs k y) W) := by
  obtain ⟨g', off', e', hrg⟩ := H.out.at_ HR.out
  cases e'
  obtain ⟨e0, e1, e2, e3, e4, e5, e6, e7, e8, e9, e10⟩ := range11 (range_below (bel_alloc W (.cells #[.int .i64 0, .int .i64 0, .int .i64 0] 25)) hrg)
  dsimp only at e0 e1 e2 e3 e4 e5 e6 e7 e8 e9 e10
  have HK0 := Lib.hid (show ((W.alloc (.cells #[.int .i64 0, .int .i64 0, .int .i64 0] 25)).alloc (.cells #[.string na, .int .i64 fr, .int .i64 ut, .int .i64 mo, .int .i64 kk, .int .i64 w, .int .i64 d, .int .i64 sec, .int .i64 base, .int .i64 save, .string le] 34)).heap[W.heap.size]? = some (.cells #[.int .i64 0, .int .i64 0, .int .i64 0] 25) from block_below (heap_alloc_new _ _) (bel_alloc _ _))
  have HK1 := Lib.hid (show ((W.alloc (.cells #[.int .i64 0, .int .i64 0, .int .i64 0] 25)).alloc (.cells #[.string na, .int .i64 fr, .int .i64 ut, .int .i64 mo, .int .i64 kk, .int .i64 w, .int .i64 d, .int .i64 sec, .int .i64 base, .int .i64 save, .string le] 34)).heap[W.heap.size + 1]? = some (.cells #[.string na, .int .i64 fr, .int .i64 ut, .int .i64 mo, .int .i64 kk, .int .i64 w, .int .i64 d, .int .i64 sec, .int .i64 base, .int .i64 save, .string le] 34) from by have := heap_alloc_new (W.alloc (.cells #[.int .i64 0, .int .i64 0, .int .i64 0] 25)) (.cells #[.string na, .int .i64 fr, .int .i64 ut, .int .i64 mo, .int .i64 kk, .int .i64 w, .int .i64 d, .int .i64 sec, .int .i64 base, .int .i64 save, .string le] 34); simpa using this)
  have HB0 := Lib.hid (show Below W.heap.size W ((W.alloc (.cells #[.int .i64 0, .int .i64 0, .int .i64 0] 25)).alloc (.cells #[.string na, .int .i64 fr, .int .i64 ut, .int .i64 mo, .int .i64 kk, .int .i64 w, .int .i64 d, .int .i64 sec, .int .i64 base, .int .i64 save, .string le] 34)) from bel_trans (bel_alloc _ _) (bel_alloc _ _))
  clear hrg
  have hlast : y ≤ lastY (⟨na, fr, ut, mo, kk, w, d, sec, base, save, le⟩ : Ru) := by
    unfold lastY
    dsimp only
    by_cases hsp : ut = 1048576
    · rw [if_pos hsp]; omega
    · rw [if_neg hsp]; rcases h2 with h2 | ⟨_, h2⟩
      · exact (hsp h2).elim
      · omega
  have hh : Has (⟨na, fr, ut, mo, kk, w, d, sec, base, save, le⟩ : Ru) y := ⟨by unfold firstY; dsimp only; omega, hlast, hc, by show (on y mo kk w d).2 = 0; rw [HX.out]⟩
  clear hlast
  have hxb : -800000000100 ≤ x ∧ x ≤ 800000000100 := by
    obtain ⟨q1, q2, q3, q4, q5, q6, q7⟩ := on_ok (show (on y mo kk w d).2 = 0 by rw [HX.out])
    have q8 := anchor_year q2 q3 q4 q5
    have q9 : (on y mo kk w d).1 = x := by rw [HX.out]
    unfold inr at q1
    unfold fst at q8
    omega
  obtain ⟨hx1, hx2⟩ := hxb
  have hx3 : (on y mo kk w d).1 = x := by rw [HX.out]
  have HO : Hid (evOn rs k y = some ⟨y, k, x * 86400 + sec⟩) := Lib.hid (by rw [evOn_yes HR.out hh]; unfold nomOf; dsimp only; rw [hx3, if_neg hbs]; congr 2; omega)
  have hbb : (base == 1) = false := by simp [hbs]
  clear hbs
  have HCK := Lib.hid (clkC_yes hc)
  obtain ⟨hc1, hc2, hc3, hc4⟩ := hc
  clear hh hx3
  rcases h2 with rfl | ⟨hub, h3⟩
  all_goals
    try have hub2 : (ut != 1048576) = true := by simp [hub]
    try have hub3 : (ut == 1048576) = false := by simp [hub]
    try have hub4 : (!(ut == 1048576)) = true := by simp [hub]
    go_enter Tryd.func27, Tryd.ntmps27
    go_wp2_with fail
    ((with_reducible refine (refClk_any sec base _).mono ?_); rintro e w1 ⟨rfl, hb1⟩)
    rw [HCK.out]
    have HA1 := Lib.hid (block_below HK0.out hb1)
    have HC1 := Lib.hid (block_below HK1.out hb1)
    have HB1 := Lib.hid (bel_trans HB0.out hb1)
    clear hb1
    have c3 := cellB HC1.out (i := 3) rfl
    have c4 := cellB HC1.out (i := 4) rfl
    have c5 := cellB HC1.out (i := 5) rfl
    have c6 := cellB HC1.out (i := 6) rfl
    go_wp2_with fail
    ((with_reducible refine (refOnC_any y mo kk w d _ ?_ ?_).mono ?_))
    · omega
    · omega
    intro e w2 hq'; obtain ⟨rfl, hb2⟩ := OnR.to HX.out _ _ hq'; clear hq'
    clear c3 c4 c5 c6
    have HA2 := Lib.hid (block_below HA1.out hb2)
    have HC2 := Lib.hid (block_below HC1.out hb2)
    have HB2 := Lib.hid (bel_trans HB1.out hb2)
    clear hb2
    have c7 := cellB HC2.out (i := 7) rfl
    have c8 := cellB HC2.out (i := 8) rfl
    have y0 := cellB HA2.out (i := 0) rfl
    have y1 := cellB HA2.out (i := 1) rfl
    have y2 := cellB HA2.out (i := 2) rfl
    have f0 := frzB HA2.out 0
    have f1 := frzB HA2.out 1
    have f2 := frzB HA2.out 2
    go_wp2_with fail
    refine bodyPost_ret (res_cell_tmp rfl _ _ _ _ _ _ _ rfl (set3c HA2.out) Tryd.underlying25 rfl (by kernel_rfl)) rfl ?_
    exact EvR.some_ (by rw [HO.out]) (bel_setCells (o := 0) (l := [.int .i64 y, .int .i64 k, .int .i64 _]) HB2.out (Nat.le_refl _))

set_option maxRecDepth 100000 in
set_option maxHeartbeats 2000000 in
theorem refOn_t6 (rs : _root_.List Ru) (k n g off cap : Nat) (y : Int) (na : ByteArray) (fr ut mo kk w d sec save : Int) (le : ByteArray) (W : World) (H : Hid (Rul (.slice (some ⟨g, off, none⟩) n cap) rs W)) (HN : Hid (n = rs.length)) (hn : n ≤ 1000) (hkn : k < n)
    (HR : Hid (rs[k]? = some (⟨na, fr, ut, mo, kk, w, d, sec, 1, save, le⟩ : Ru))) (hy1 : -2000000000 ≤ y) (hy2 : y ≤ 2000000000) (h1 : fr ≤ y) (h2 : ut = 1048576 ∨ (¬ ut = 1048576 ∧ y ≤ ut)) (hc : clk sec 1) (x : Int) (HX : Hid (on y mo kk w d = (x, 0))) :
    Calls Tryd.prog 27 #[.slice (some ⟨g, off, none⟩) n cap, .int .i64 (k : Int), .int .i64 y] W (EvR (evOn rs k y) W) := by
  obtain ⟨g', off', e', hrg⟩ := H.out.at_ HR.out
  cases e'
  obtain ⟨e0, e1, e2, e3, e4, e5, e6, e7, e8, e9, e10⟩ := range11 (range_below (bel_alloc W (.cells #[.int .i64 0, .int .i64 0, .int .i64 0] 25)) hrg)
  dsimp only at e0 e1 e2 e3 e4 e5 e6 e7 e8 e9 e10
  have HK0 := Lib.hid (show ((W.alloc (.cells #[.int .i64 0, .int .i64 0, .int .i64 0] 25)).alloc (.cells #[.string na, .int .i64 fr, .int .i64 ut, .int .i64 mo, .int .i64 kk, .int .i64 w, .int .i64 d, .int .i64 sec, .int .i64 1, .int .i64 save, .string le] 34)).heap[W.heap.size]? = some (.cells #[.int .i64 0, .int .i64 0, .int .i64 0] 25) from block_below (heap_alloc_new _ _) (bel_alloc _ _))
  have HK1 := Lib.hid (show ((W.alloc (.cells #[.int .i64 0, .int .i64 0, .int .i64 0] 25)).alloc (.cells #[.string na, .int .i64 fr, .int .i64 ut, .int .i64 mo, .int .i64 kk, .int .i64 w, .int .i64 d, .int .i64 sec, .int .i64 1, .int .i64 save, .string le] 34)).heap[W.heap.size + 1]? = some (.cells #[.string na, .int .i64 fr, .int .i64 ut, .int .i64 mo, .int .i64 kk, .int .i64 w, .int .i64 d, .int .i64 sec, .int .i64 1, .int .i64 save, .string le] 34) from by have := heap_alloc_new (W.alloc (.cells #[.int .i64 0, .int .i64 0, .int .i64 0] 25)) (.cells #[.string na, .int .i64 fr, .int .i64 ut, .int .i64 mo, .int .i64 kk, .int .i64 w, .int .i64 d, .int .i64 sec, .int .i64 1, .int .i64 save, .string le] 34); simpa using this)
  have HB0 := Lib.hid (show Below W.heap.size W ((W.alloc (.cells #[.int .i64 0, .int .i64 0, .int .i64 0] 25)).alloc (.cells #[.string na, .int .i64 fr, .int .i64 ut, .int .i64 mo, .int .i64 kk, .int .i64 w, .int .i64 d, .int .i64 sec, .int .i64 1, .int .i64 save, .string le] 34)) from bel_trans (bel_alloc _ _) (bel_alloc _ _))
  clear hrg
  have hlast : y ≤ lastY (⟨na, fr, ut, mo, kk, w, d, sec, 1, save, le⟩ : Ru) := by
    unfold lastY
    dsimp only
    by_cases hsp : ut = 1048576
    · rw [if_pos hsp]; omega
    · rw [if_neg hsp]; rcases h2 with h2 | ⟨_, h2⟩
      · exact (hsp h2).elim
      · omega
  have hh : Has (⟨na, fr, ut, mo, kk, w, d, sec, 1, save, le⟩ : Ru) y := ⟨by unfold firstY; dsimp only; omega, hlast, hc, by show (on y mo kk w d).2 = 0; rw [HX.out]⟩
  clear hlast
  have hxb : -800000000100 ≤ x ∧ x ≤ 800000000100 := by
    obtain ⟨q1, q2, q3, q4, q5, q6, q7⟩ := on_ok (show (on y mo kk w d).2 = 0 by rw [HX.out])
    have q8 := anchor_year q2 q3 q4 q5
    have q9 : (on y mo kk w d).1 = x := by rw [HX.out]
    unfold inr at q1
    unfold fst at q8
    omega
  obtain ⟨hx1, hx2⟩ := hxb
  have hx3 : (on y mo kk w d).1 = x := by rw [HX.out]
  obtain ⟨bl, hbl⟩ : ∃ bl, baseL rs = bl := ⟨_, rfl⟩
  have hblb := baseL_bd rs
  rw [hbl] at hblb
  obtain ⟨hbl1, hbl2⟩ := hblb
  have HO : Hid (evOn rs k y = some ⟨y, k, x * 86400 + sec + bl⟩) := Lib.hid (by rw [evOn_yes HR.out hh]; unfold nomOf; dsimp only; rw [hx3, if_pos rfl, hbl]; congr 2; omega)
  have HBL := Lib.hid hbl
  clear hbl
  have HCK := Lib.hid (clkC_yes hc)
  obtain ⟨hc1, hc2, hc3, hc4⟩ := hc
  clear hh hx3
  rcases h2 with rfl | ⟨hub, h3⟩
  all_goals
    try have hub2 : (ut != 1048576) = true := by simp [hub]
    try have hub3 : (ut == 1048576) = false := by simp [hub]
    try have hub4 : (!(ut == 1048576)) = true := by simp [hub]
    go_enter Tryd.func27, Tryd.ntmps27
    go_wp2_with fail
    ((with_reducible refine (refClk_any sec 1 _).mono ?_); rintro e w1 ⟨rfl, hb1⟩)
    rw [HCK.out]
    have HA1 := Lib.hid (block_below HK0.out hb1)
    have HC1 := Lib.hid (block_below HK1.out hb1)
    have HB1 := Lib.hid (bel_trans HB0.out hb1)
    clear hb1
    have c3 := cellB HC1.out (i := 3) rfl
    have c4 := cellB HC1.out (i := 4) rfl
    have c5 := cellB HC1.out (i := 5) rfl
    have c6 := cellB HC1.out (i := 6) rfl
    go_wp2_with fail
    ((with_reducible refine (refOnC_any y mo kk w d _ ?_ ?_).mono ?_))
    · omega
    · omega
    intro e w2 hq'; obtain ⟨rfl, hb2⟩ := OnR.to HX.out _ _ hq'; clear hq'
    clear c3 c4 c5 c6
    have HA2 := Lib.hid (block_below HA1.out hb2)
    have HC2 := Lib.hid (block_below HC1.out hb2)
    have HB2 := Lib.hid (bel_trans HB1.out hb2)
    clear hb2
    have c7 := cellB HC2.out (i := 7) rfl
    have c8 := cellB HC2.out (i := 8) rfl
    have y0 := cellB HA2.out (i := 0) rfl
    have y1 := cellB HA2.out (i := 1) rfl
    have y2 := cellB HA2.out (i := 2) rfl
    have f0 := frzB HA2.out 0
    have f1 := frzB HA2.out 1
    have f2 := frzB HA2.out 2
    go_wp2_with fail
    refine (refBase_any (.slice (some ⟨g, off, none⟩) n cap) rs _ (by exact H.out.below HB2.out)).mono ?_
    intro e w' hq'; obtain ⟨rfl, hw⟩ := hq'; have hw' := hw.symm; subst hw'; clear hw
    rw [HBL.out]
    go_wp2_with fail
    refine bodyPost_ret (res_cell_tmp rfl _ _ _ _ _ _ _ rfl (set3c HA2.out) Tryd.underlying25 rfl (by kernel_rfl)) rfl ?_
    exact EvR.some_ (by rw [HO.out]) (bel_setCells (o := 0) (l := [.int .i64 y, .int .i64 k, .int .i64 _]) HB2.out (Nat.le_refl _))

set_option maxRecDepth 100000 in
set_option maxHeartbeats 2000000 in
theorem refEvOn_any (v : Value) (rs : _root_.List Ru) (i y : Int) (W : World) (h : Rul v rs W) (hy1 : -9223372036854775808 ≤ y) (hy2 : y ≤ 9223372036854775807) :
    Calls Tryd.prog 27 #[v, .int .i64 i, .int .i64 y] W (EvR (evOn rs i y) W) := by
  obtain ⟨A, cap, rfl⟩ := h.sl
  have H := Lib.hid h
  have hn := h.len
  clear h
  obtain ⟨n, hN⟩ : ∃ n, n = rs.length := ⟨_, rfl⟩
  rw [← hN] at hn H ⊢
  have HN := Lib.hid hN
  clear hN
  by_cases hi0 : i < 0
  · have HO := Lib.hid (evOn_out (rs := rs) (y := y) (.inl hi0))
    go_enter Tryd.func27, Tryd.ntmps27
    go_wp2_with fail
    refine bodyPost_ret (res_cell_tmp rfl _ _ _ _ _ _ _ rfl (heap_alloc_new _ _) Tryd.underlying25 rfl (by kernel_rfl)) rfl ?_
    exact EvR.none_ HO.out (bel_alloc _ _)
  · have hi1 : 0 ≤ i := by omega
    by_cases hin : (n : Int) ≤ i
    · have HO := Lib.hid (evOn_out (rs := rs) (y := y) (.inr (by rw [← HN.out]; exact hin)))
      go_enter Tryd.func27, Tryd.ntmps27
      go_wp2_with fail
      refine bodyPost_ret (res_cell_tmp rfl _ _ _ _ _ _ _ rfl (heap_alloc_new _ _) Tryd.underlying25 rfl (by kernel_rfl)) rfl ?_
      exact EvR.none_ HO.out (bel_alloc _ _)
    · obtain ⟨k, rfl⟩ : ∃ k : Nat, i = (k : Int) := ⟨i.toNat, by omega⟩
      have hkn : k < n := by omega
      obtain ⟨r, hr⟩ : ∃ r, rs[k]? = some r := by rw [_root_.List.getElem?_eq_getElem (by rw [← HN.out]; exact hkn)]; exact ⟨_, rfl⟩
      by_cases hya : y < -2000000000 ∨ 2000000000 < y
      · have HO := Lib.hid (evOn_no (y := y) hr (fun h => by have := h.year; omega))
        clear hr
        rcases hya with hya | hya
        · go_enter Tryd.func27, Tryd.ntmps27
          go_wp2_with fail
          refine bodyPost_ret (res_cell_tmp rfl _ _ _ _ _ _ _ rfl (heap_alloc_new _ _) Tryd.underlying25 rfl (by kernel_rfl)) rfl ?_
          exact EvR.none_ HO.out (bel_alloc _ _)
        · go_enter Tryd.func27, Tryd.ntmps27
          go_wp2_with fail
          refine bodyPost_ret (res_cell_tmp rfl _ _ _ _ _ _ _ rfl (heap_alloc_new _ _) Tryd.underlying25 rfl (by kernel_rfl)) rfl ?_
          exact EvR.none_ HO.out (bel_alloc _ _)
      · have hyb : -2000000000 ≤ y ∧ y ≤ 2000000000 := by omega
        obtain ⟨g, off, rfl, _⟩ := H.out.at_ hr
        obtain ⟨na, fr, ut, mo, kk, w, d, sec, base, save, le⟩ := r
        by_cases h1 : y < fr
        · exact refOn_t1 rs k n g off cap y na fr ut mo kk w d sec base save le W H HN hn hkn hr hyb.1 hyb.2 h1
        · by_cases hu : ut ≠ 1048576 ∧ ut < y
          · exact refOn_t2 rs k n g off cap y na fr ut mo kk w d sec base save le W H HN hn hkn hr hyb.1 hyb.2 (by omega) hu.1 hu.2
          · have h2 : ut = 1048576 ∨ (¬ ut = 1048576 ∧ y ≤ ut) := by
              by_cases hu1 : ut = 1048576
              · exact .inl hu1
              · exact .inr ⟨hu1, by omega⟩
            by_cases hc : clk sec base
            · obtain ⟨x, q, hx⟩ : ∃ x q, on y mo kk w d = (x, q) := ⟨_, _, rfl⟩
              by_cases hq : q = 0
              · subst hq
                by_cases hb : base = 1
                · subst hb
                  exact refOn_t6 rs k n g off cap y na fr ut mo kk w d sec save le W H HN hn hkn hr hyb.1 hyb.2 (by omega) h2 hc x hx
                · exact refOn_t5 rs k n g off cap y na fr ut mo kk w d sec base save le W H HN hn hkn hr hyb.1 hyb.2 (by omega) h2 hc x hx hb
              · exact refOn_t4 rs k n g off cap y na fr ut mo kk w d sec base save le W H HN hn hkn hr hyb.1 hyb.2 (by omega) h2 hc x q hx hq
            · exact refOn_t3 rs k n g off cap y na fr ut mo kk w d sec base save le W H HN hn hkn hr hyb.1 hyb.2 (by omega) h2 hc
end Go.Proofs.YtghmdaahmijdiaaDoor
