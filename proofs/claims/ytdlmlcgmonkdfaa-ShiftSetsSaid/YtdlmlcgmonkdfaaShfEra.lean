/-
  The contract of package shift's closure on an era.
-/
import Derived.Test.YtdlmlcgmonkdfaaShfClo2
namespace Go.Proofs.Ytdlmlcgmonkdfaa
open Go.RowKit Sh
set_option linter.unusedVariables false
set_option linter.unusedSimpArgs false

set_option maxRecDepth 100000 in
set_option maxHeartbeats 2000000 in
theorem era1_any (e : Er) (s : ByteArray) (x : Int) (bs bx : Nat) (W : World) (hs : W.cell? ⟨bs, 0, none⟩ = some (.string s)) (hx : W.cell? ⟨bx, 0, none⟩ = some (.int .i64 x)) :
    Calls Try.prog 28 #[.agg e.arr, .pointer (some ⟨bs, 0, none⟩), .pointer (some ⟨bx, 0, none⟩)] W fun e1 w' => e1 = .returned (.agg (e.sh s x).arr) ∧ Below W.heap.size W w' := by
  obtain ⟨off, kind, save, set, fm, is, yr, mo, k, w, d, sec, base⟩ := e
  have HS := Lib.hid hs
  have HX := Lib.hid hx
  have hsa : ∀ o o', ((W.alloc o).alloc o').cell? ⟨bs, 0, none⟩ = some (.string s) := fun o o' => cell_below (bel_trans (bel_alloc W o) (bel_alloc _ o')) HS.out
  have hxa : ∀ o o', ((W.alloc o).alloc o').cell? ⟨bx, 0, none⟩ = some (.int .i64 x) := fun o o' => cell_below (bel_trans (bel_alloc W o) (bel_alloc _ o')) HX.out
  clear hs hx
  unfold Er.sh Er.arr
  dsimp only
  by_cases hk : kind = 2
  · subst hk
    by_cases hq : set = s
    · subst hq
      cases is
      · have hse : (set.toList == set.toList) = true := by simp
        rw [if_pos ⟨rfl, rfl⟩]
        simp only [Bool.false_eq_true, if_false]
        go_enter Try.func28, Try.ntmps28
        go_wp2_with fail
        refine bodyPost_ret (results_cell_row rfl _ _ _ _ _ _ _ rfl (heap_alloc2_new _ _ _) Try.underlying52 rfl (by kernel_rfl)) rfl ?_
        exact ⟨rfl, bel_trans (bel_alloc _ _) (bel_alloc _ _)⟩
      · have hse : (set.toList == set.toList) = true := by simp
        rw [if_pos ⟨rfl, rfl⟩]
        simp only [if_true]
        go_enter Try.func28, Try.ntmps28
        go_wp2_with fail
        refine (moved_any sec base x _).mono ?_
        rintro e1 w3 ⟨rfl, hb3⟩
        have hk3 := Lib.hid (block_below (block_below (heap_alloc_new W _) (bel_alloc _ _)) hb3)
        have hz3 := Lib.hid (block_below (heap_alloc2_new W _ _) hb3)
        have hB3 := Lib.hid (bel_trans (bel_trans (bel_alloc _ _) (bel_alloc _ _)) hb3)
        clear hb3 hsa hxa
        obtain ⟨c0, c1, c2, c3, c4, c5, c6, c7, c8, c9, c10, c11, c12⟩ := row13 hk3.out
        obtain ⟨g0, g1, g2, g3, g4, g5, g6, g7, g8, g9, g10, g11, g12⟩ := frz13 hk3.out
        obtain ⟨y0, y1, y2, y3, y4, y5, y6, y7, y8, y9, y10, y11, y12⟩ := row13 hz3.out
        obtain ⟨f0, f1, f2, f3, f4, f5, f6, f7, f8, f9, f10, f11, f12⟩ := frz13 hz3.out
        go_wp2_with fail
        refine bodyPost_ret (results_cell_row rfl _ _ _ _ _ _ _ rfl (set13 (block_setCells (o := 11) (l := [.int .i64 (less sec base x), .int .i64 base]) hz3.out (by omega))) Try.underlying52 rfl (by kernel_rfl)) rfl ?_
        exact ⟨rfl, bel_setCells (o := 0) (l := [.int .i64 (wrap64 (off - x)), .int .i64 2, .int .i64 save, .string set, .string fm, .bool true, .int .i64 yr, .int .i64 mo, .int .i64 k, .int .i64 w, .int .i64 d, .int .i64 (less sec base x), .int .i64 base]) (bel_setCells (o := 11) (l := [.int .i64 (less sec base x), .int .i64 base]) hB3.out (Nat.le_refl _)) (Nat.le_succ _)⟩
    · have hse : (set.toList == s.toList) = false := by rw [str_dec]; simp [hq]
      rw [if_neg (fun h => hq h.2)]
      go_enter Try.func28, Try.ntmps28
      go_wp2_with fail
      refine bodyPost_ret (results_cell_row rfl _ _ _ _ _ _ _ rfl (heap_alloc2_new _ _ _) Try.underlying52 rfl (by kernel_rfl)) rfl ?_
      exact ⟨rfl, bel_trans (bel_alloc _ _) (bel_alloc _ _)⟩
  · have hke : (kind != 2) = true := by simp [hk]
    rw [if_neg (fun h => hk h.1)]
    go_enter Try.func28, Try.ntmps28
    go_wp2_with fail
    refine bodyPost_ret (results_cell_row rfl _ _ _ _ _ _ _ rfl (heap_alloc2_new _ _ _) Try.underlying52 rfl (by kernel_rfl)) rfl ?_
    exact ⟨rfl, bel_trans (bel_alloc _ _) (bel_alloc _ _)⟩
end Go.Proofs.Ytdlmlcgmonkdfaa
