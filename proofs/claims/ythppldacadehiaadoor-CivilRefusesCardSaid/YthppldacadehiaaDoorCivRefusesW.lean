/-
  The walk of the law CivilRefuses.
-/
import Derived.Test.YthppldacadehiaaDoorCivLaw2
namespace Go.Proofs.YthppldacadehiaaDoor
open Go.RowKit Cv
set_option linter.unusedVariables false
set_option linter.unusedSimpArgs false

namespace Cv
theorem DateE.to_none {n : Int} {w : World} (h : n < -730485719528 ∨ 730484280837 < n) : ∀ e w', DateE n w e w' → e = .returned (.tuple #[.int .i64 0, .int .i64 0, .int .i64 0, .int .i64 3]) ∧ ∃ n, w' = w.drewN n := by
  rintro e w' ⟨y, m, d, hd, ⟨hi, _⟩ | ⟨_, rfl⟩, hw⟩
  · exfalso
    have hb := hd.out.bd
    have hi := hi.out
    unfold fst at hb; unfold inr at hi; omega
  · exact ⟨rfl, hw⟩
/-- the cells of a block -/
def Cells (b : Nat) (vs : List Int) (w : World) : Prop := ∀ i : Nat, i < vs.length → w.cell? ⟨b, i, none⟩ = some (.int .i64 (vs.getD i 0))
theorem Cells.new (w : World) (vs : List Int) (t : TypeId) : Cells w.heap.size vs (w.alloc (.cells (vs.map (Value.int .i64)).toArray t)) := fun i hi => by
  have hn : (w.alloc (.cells (vs.map (Value.int .i64)).toArray t)).heap[w.heap.size]? = some (.cells (vs.map (Value.int .i64)).toArray t) := by
    show (w.heap.push _)[w.heap.size]? = _
    simp
  unfold World.cell?
  rw [hn]
  simp [List.getD, hi]
theorem Cells.alloc {b : Nat} {vs : List Int} {w : World} (h : Cells b vs w) (o : Obj) : Cells b vs (w.alloc o) := fun i hi => by
  rw [((Below.refl w.heap.size w).alloc (Nat.le_refl _) o).cell (lt_of_cell (h i hi))]; exact h i hi
end Cv

set_option maxRecDepth 100000 in
set_option maxHeartbeats 4000000 in
theorem civilRefuses.civilRefuses_walk (w : World) (hL : laidMetH Tryd.prog Rows.civilRefusesRow.laid w) (f : Int) (wf : (Lit.int .u32 f).wf = true) (y : Int) (wy : (Lit.int .i64 y).wf = true) :
    Calls Tryd.prog 10 #[.int .u32 f, .int .i64 y] w fun e w' => e = .returned (.bool true) ∧ Below w.heap.size w w' := by
  have HT := Lib.hid (tab_of hL)
  obtain ⟨hf1, hf2⟩ := u32_of wf
  obtain ⟨hy1, hy2⟩ := fit_of wy
  obtain ⟨ht1, ht2⟩ := tm_bd y 2000000001 (by decide)
  clear hL wf wy
  go_enter Tryd.func10, Tryd.ntmps10
  go_wp2_with fail
  refine (days_any 2000000000 12 31 _ (by exact HT.out) (by omega) (by omega) (by omega) (by omega)).mono ?_
  intro e w' hq; obtain ⟨rfl, n1, rfl⟩ := DaysR.to_yes (v := 730484280837) (by decide) (by decide) _ _ hq; clear hq
  go_wp2_with fail
  refine (days_any (-2000000000) 1 1 _ (by exact HT.out) (by omega) (by omega) (by omega) (by omega)).mono ?_
  intro e w' hq; obtain ⟨rfl, n2, rfl⟩ := DaysR.to_yes (v := -730485719528) (by decide) (by decide) _ _ hq; clear hq
  go_wp2_with fail
  go_loopw [51] (fun v wr => ∃ (k : Int) (wq : World), 0 ≤ k ∧ k ≤ 4 ∧ v = .int .i64 k ∧ wr = wq ∧ Hid (Below w.heap.size w wq) ∧ Hid (Cells w.heap.size [730484280838 + f, -730485719529 - f, 9223372036854775807, -9223372036854775808] wq)) (fun v _ => (4 - intOf v).toNat)
  case atStart => exact ⟨0, _, by omega, by omega, rfl, rfl, (below_drewN (Below.refl _ _) _).alloc (Nat.le_refl _) _, Cells.new _ _ _⟩
  case round =>
    obtain ⟨k, wr, hk1, hk2, rfl, rfl, hb, ht⟩ := hrel
    have hkc : k = 0 ∨ k = 1 ∨ k = 2 ∨ k = 3 ∨ k = 4 := by omega
    clear hk1 hk2
    rcases hkc with rfl | rfl | rfl | rfl | rfl
    · have hc : wr.cell? ⟨w.heap.size, 0, none⟩ = some (.int .i64 (730484280838 + f)) := ht.out 0 (by simp)
      go_wp2_with fail
      refine (dateE_any (730484280838 + f) _ (by exact HT.out.below hb.out) (by omega) (by omega)).mono ?_
      intro e w' hq; obtain ⟨rfl, nd, rfl⟩ := DateE.to_none (.inr (by omega)) _ _ hq; clear hq
      go_wp2_with fail
      go_round
      case rel => exact ⟨1, _, by omega, by omega, rfl, rfl, below_drewN hb.out _, ht⟩
      case measure => simp [intOf]
    · have hc : wr.cell? ⟨w.heap.size, 1, none⟩ = some (.int .i64 (-730485719529 - f)) := ht.out 1 (by simp)
      go_wp2_with fail
      refine (dateE_any (-730485719529 - f) _ (by exact HT.out.below hb.out) (by omega) (by omega)).mono ?_
      intro e w' hq; obtain ⟨rfl, nd, rfl⟩ := DateE.to_none (.inl (by omega)) _ _ hq; clear hq
      go_wp2_with fail
      go_round
      case rel => exact ⟨2, _, by omega, by omega, rfl, rfl, below_drewN hb.out _, ht⟩
      case measure => simp [intOf]
    · have hc : wr.cell? ⟨w.heap.size, 2, none⟩ = some (.int .i64 (9223372036854775807)) := ht.out 2 (by simp)
      go_wp2_with fail
      refine (dateE_any (9223372036854775807) _ (by exact HT.out.below hb.out) (by omega) (by omega)).mono ?_
      intro e w' hq; obtain ⟨rfl, nd, rfl⟩ := DateE.to_none (.inr (by omega)) _ _ hq; clear hq
      go_wp2_with fail
      go_round
      case rel => exact ⟨3, _, by omega, by omega, rfl, rfl, below_drewN hb.out _, ht⟩
      case measure => simp [intOf]
    · have hc : wr.cell? ⟨w.heap.size, 3, none⟩ = some (.int .i64 (-9223372036854775808)) := ht.out 3 (by simp)
      go_wp2_with fail
      refine (dateE_any (-9223372036854775808) _ (by exact HT.out.below hb.out) (by omega) (by omega)).mono ?_
      intro e w' hq; obtain ⟨rfl, nd, rfl⟩ := DateE.to_none (.inl (by omega)) _ _ hq; clear hq
      go_wp2_with fail
      go_round
      case rel => exact ⟨4, _, by omega, by omega, rfl, rfl, below_drewN hb.out _, ht⟩
      case measure => simp [intOf]
    · clear ht
      obtain ⟨W0, hW0⟩ : ∃ x, x = wr := ⟨_, rfl⟩
      subst hW0
      have HB := hb
      clear hb
      go_wp2_with fail
      go_loopw [107] (fun v wr => ∃ (k : Int) (wq : World), 0 ≤ k ∧ k ≤ 9 ∧ v = .int .i64 k ∧ wr = wq ∧ Hid (Below W0.heap.size W0 wq) ∧ Hid (Cells W0.heap.size [2000000001 + f, 1, 1, -2000000001 - f, 12, 31, y.tmod 2000000001, 13 + f, 1, y.tmod 2000000001, -f, 1, y.tmod 2000000001, 1, 32 + f, y.tmod 2000000001, 1, -f, 9223372036854775807, 1, 1, -9223372036854775808, 1, 1, y.tmod 2000000001, 2, 30] wq)) (fun v _ => (9 - intOf v).toNat)
      case atStart => exact ⟨0, _, by omega, by omega, rfl, rfl, (Below.refl _ _).alloc (Nat.le_refl _) _, Cells.new _ _ _⟩
      case round =>
      obtain ⟨k, wr, hk1, hk2, rfl, rfl, hb, ht⟩ := hrel
      have hkc : k = 0 ∨ k = 1 ∨ k = 2 ∨ k = 3 ∨ k = 4 ∨ k = 5 ∨ k = 6 ∨ k = 7 ∨ k = 8 ∨ k = 9 := by omega
      clear hk1 hk2
      rcases hkc with rfl | rfl | rfl | rfl | rfl | rfl | rfl | rfl | rfl | rfl
      · have hc0 : wr.cell? ⟨W0.heap.size, 0, none⟩ = some (.int .i64 (2000000001 + f)) := ht.out 0 (by simp)
        have hc1 : wr.cell? ⟨W0.heap.size, 1, none⟩ = some (.int .i64 (1)) := ht.out 1 (by simp)
        have hc2 : wr.cell? ⟨W0.heap.size, 2, none⟩ = some (.int .i64 (1)) := ht.out 2 (by simp)
        go_wp2_with fail
        refine (days_any (2000000001 + f) (1) (1) _ (by exact ((HT.out.below HB.out).below hb.out).alloc _) (by omega) (by omega) (by omega) (by omega)).mono ?_
        intro e w' hq; obtain ⟨rfl, nd, rfl⟩ := DaysR.to_no (fun h => by have := h.1; unfold inr at this; omega) _ _ hq; clear hq
        go_wp2_with fail
        go_round
        case rel => exact ⟨1, _, by omega, by omega, rfl, rfl, below_drewN (hb.out.alloc hb.out.size _) _, ht.out.alloc _⟩
        case measure => simp [intOf]
      · have hc0 : wr.cell? ⟨W0.heap.size, 3, none⟩ = some (.int .i64 (-2000000001 - f)) := ht.out 3 (by simp)
        have hc1 : wr.cell? ⟨W0.heap.size, 4, none⟩ = some (.int .i64 (12)) := ht.out 4 (by simp)
        have hc2 : wr.cell? ⟨W0.heap.size, 5, none⟩ = some (.int .i64 (31)) := ht.out 5 (by simp)
        go_wp2_with fail
        refine (days_any (-2000000001 - f) (12) (31) _ (by exact ((HT.out.below HB.out).below hb.out).alloc _) (by omega) (by omega) (by omega) (by omega)).mono ?_
        intro e w' hq; obtain ⟨rfl, nd, rfl⟩ := DaysR.to_no (fun h => by have := h.1; unfold inr at this; omega) _ _ hq; clear hq
        go_wp2_with fail
        go_round
        case rel => exact ⟨2, _, by omega, by omega, rfl, rfl, below_drewN (hb.out.alloc hb.out.size _) _, ht.out.alloc _⟩
        case measure => simp [intOf]
      · have hc0 : wr.cell? ⟨W0.heap.size, 6, none⟩ = some (.int .i64 (y.tmod 2000000001)) := ht.out 6 (by simp)
        have hc1 : wr.cell? ⟨W0.heap.size, 7, none⟩ = some (.int .i64 (13 + f)) := ht.out 7 (by simp)
        have hc2 : wr.cell? ⟨W0.heap.size, 8, none⟩ = some (.int .i64 (1)) := ht.out 8 (by simp)
        go_wp2_with fail
        refine (days_any (y.tmod 2000000001) (13 + f) (1) _ (by exact ((HT.out.below HB.out).below hb.out).alloc _) (by omega) (by omega) (by omega) (by omega)).mono ?_
        intro e w' hq; obtain ⟨rfl, nd, rfl⟩ := DaysR.to_no (fun h => by have := h.2.month; omega) _ _ hq; clear hq
        go_wp2_with fail
        go_round
        case rel => exact ⟨3, _, by omega, by omega, rfl, rfl, below_drewN (hb.out.alloc hb.out.size _) _, ht.out.alloc _⟩
        case measure => simp [intOf]
      · have hc0 : wr.cell? ⟨W0.heap.size, 9, none⟩ = some (.int .i64 (y.tmod 2000000001)) := ht.out 9 (by simp)
        have hc1 : wr.cell? ⟨W0.heap.size, 10, none⟩ = some (.int .i64 (-f)) := ht.out 10 (by simp)
        have hc2 : wr.cell? ⟨W0.heap.size, 11, none⟩ = some (.int .i64 (1)) := ht.out 11 (by simp)
        go_wp2_with fail
        refine (days_any (y.tmod 2000000001) (-f) (1) _ (by exact ((HT.out.below HB.out).below hb.out).alloc _) (by omega) (by omega) (by omega) (by omega)).mono ?_
        intro e w' hq; obtain ⟨rfl, nd, rfl⟩ := DaysR.to_no (fun h => by have := h.2.month; omega) _ _ hq; clear hq
        go_wp2_with fail
        go_round
        case rel => exact ⟨4, _, by omega, by omega, rfl, rfl, below_drewN (hb.out.alloc hb.out.size _) _, ht.out.alloc _⟩
        case measure => simp [intOf]
      · have hc0 : wr.cell? ⟨W0.heap.size, 12, none⟩ = some (.int .i64 (y.tmod 2000000001)) := ht.out 12 (by simp)
        have hc1 : wr.cell? ⟨W0.heap.size, 13, none⟩ = some (.int .i64 (1)) := ht.out 13 (by simp)
        have hc2 : wr.cell? ⟨W0.heap.size, 14, none⟩ = some (.int .i64 (32 + f)) := ht.out 14 (by simp)
        go_wp2_with fail
        refine (days_any (y.tmod 2000000001) (1) (32 + f) _ (by exact ((HT.out.below HB.out).below hb.out).alloc _) (by omega) (by omega) (by omega) (by omega)).mono ?_
        intro e w' hq; obtain ⟨rfl, nd, rfl⟩ := DaysR.to_no (fun h => by have := h.2.2; have := len_bd (y.tmod 2000000001) 1; omega) _ _ hq; clear hq
        go_wp2_with fail
        go_round
        case rel => exact ⟨5, _, by omega, by omega, rfl, rfl, below_drewN (hb.out.alloc hb.out.size _) _, ht.out.alloc _⟩
        case measure => simp [intOf]
      · have hc0 : wr.cell? ⟨W0.heap.size, 15, none⟩ = some (.int .i64 (y.tmod 2000000001)) := ht.out 15 (by simp)
        have hc1 : wr.cell? ⟨W0.heap.size, 16, none⟩ = some (.int .i64 (1)) := ht.out 16 (by simp)
        have hc2 : wr.cell? ⟨W0.heap.size, 17, none⟩ = some (.int .i64 (-f)) := ht.out 17 (by simp)
        go_wp2_with fail
        refine (days_any (y.tmod 2000000001) (1) (-f) _ (by exact ((HT.out.below HB.out).below hb.out).alloc _) (by omega) (by omega) (by omega) (by omega)).mono ?_
        intro e w' hq; obtain ⟨rfl, nd, rfl⟩ := DaysR.to_no (fun h => by have := h.2.1; omega) _ _ hq; clear hq
        go_wp2_with fail
        go_round
        case rel => exact ⟨6, _, by omega, by omega, rfl, rfl, below_drewN (hb.out.alloc hb.out.size _) _, ht.out.alloc _⟩
        case measure => simp [intOf]
      · have hc0 : wr.cell? ⟨W0.heap.size, 18, none⟩ = some (.int .i64 (9223372036854775807)) := ht.out 18 (by simp)
        have hc1 : wr.cell? ⟨W0.heap.size, 19, none⟩ = some (.int .i64 (1)) := ht.out 19 (by simp)
        have hc2 : wr.cell? ⟨W0.heap.size, 20, none⟩ = some (.int .i64 (1)) := ht.out 20 (by simp)
        go_wp2_with fail
        refine (days_any (9223372036854775807) (1) (1) _ (by exact ((HT.out.below HB.out).below hb.out).alloc _) (by omega) (by omega) (by omega) (by omega)).mono ?_
        intro e w' hq; obtain ⟨rfl, nd, rfl⟩ := DaysR.to_no (fun h => by have := h.1; unfold inr at this; omega) _ _ hq; clear hq
        go_wp2_with fail
        go_round
        case rel => exact ⟨7, _, by omega, by omega, rfl, rfl, below_drewN (hb.out.alloc hb.out.size _) _, ht.out.alloc _⟩
        case measure => simp [intOf]
      · have hc0 : wr.cell? ⟨W0.heap.size, 21, none⟩ = some (.int .i64 (-9223372036854775808)) := ht.out 21 (by simp)
        have hc1 : wr.cell? ⟨W0.heap.size, 22, none⟩ = some (.int .i64 (1)) := ht.out 22 (by simp)
        have hc2 : wr.cell? ⟨W0.heap.size, 23, none⟩ = some (.int .i64 (1)) := ht.out 23 (by simp)
        go_wp2_with fail
        refine (days_any (-9223372036854775808) (1) (1) _ (by exact ((HT.out.below HB.out).below hb.out).alloc _) (by omega) (by omega) (by omega) (by omega)).mono ?_
        intro e w' hq; obtain ⟨rfl, nd, rfl⟩ := DaysR.to_no (fun h => by have := h.1; unfold inr at this; omega) _ _ hq; clear hq
        go_wp2_with fail
        go_round
        case rel => exact ⟨8, _, by omega, by omega, rfl, rfl, below_drewN (hb.out.alloc hb.out.size _) _, ht.out.alloc _⟩
        case measure => simp [intOf]
      · have hc0 : wr.cell? ⟨W0.heap.size, 24, none⟩ = some (.int .i64 (y.tmod 2000000001)) := ht.out 24 (by simp)
        have hc1 : wr.cell? ⟨W0.heap.size, 25, none⟩ = some (.int .i64 (2)) := ht.out 25 (by simp)
        have hc2 : wr.cell? ⟨W0.heap.size, 26, none⟩ = some (.int .i64 (30)) := ht.out 26 (by simp)
        go_wp2_with fail
        refine (days_any (y.tmod 2000000001) (2) (30) _ (by exact ((HT.out.below HB.out).below hb.out).alloc _) (by omega) (by omega) (by omega) (by omega)).mono ?_
        intro e w' hq; obtain ⟨rfl, nd, rfl⟩ := DaysR.to_no (fun h => by have := h.2.2; rw [show len (y.tmod 2000000001) 2 = 28 + lp (y.tmod 2000000001) from by simp [len]] at this; have := lp_bd (y.tmod 2000000001); omega) _ _ hq; clear hq
        go_wp2_with fail
        go_round
        case rel => exact ⟨9, _, by omega, by omega, rfl, rfl, below_drewN (hb.out.alloc hb.out.size _) _, ht.out.alloc _⟩
        case measure => simp [intOf]
      · go_wp2_with fail
        refine (len_any (y.tmod 2000000001) (13 + f) _ (by omega) (by omega)).mono ?_
        intro e w' hq; obtain ⟨rfl, rfl⟩ := len_to (v := 0) (len_out _ _ (by omega)) _ _ hq; clear hq
        go_wp2_with fail
        refine (len_any (y.tmod 2000000001) (-f) _ (by omega) (by omega)).mono ?_
        intro e w' hq; obtain ⟨rfl, rfl⟩ := len_to (v := 0) (len_out _ _ (by omega)) _ _ hq; clear hq
        go_wp2_with fail
        refine (works_any _ (by exact (HT.out.below HB.out).below hb.out)).mono ?_
        rintro e w' ⟨rfl, n3, rfl⟩
        go_wp2_with fail
        go_ret
        exact ⟨rfl, below_drewN (HB.out.trans (hb.out.mono HB.out.size)) _⟩
end Go.Proofs.YthppldacadehiaaDoor
