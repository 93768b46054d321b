/-
  The contracts of package shift's closures: a rule, an era, a zone, shifted.
-/
import Derived.Test.YtdlmlcgmonkdfaaShfMem
import Derived.Deep.RegionHeld3
import Derived.StillTailTactics
import Derived.Deep.DeepCutAuto
namespace Go.Proofs.Ytdlmlcgmonkdfaa
open Go.RowKit Sh
set_option linter.unusedVariables false
set_option linter.unusedSimpArgs false

namespace Sh
/-- a time of day that is x less, if its base is Std -/
def less (sec base x : Int) : Int := if base = 1 then wrap64 (sec - x) else sec
theorem block_below {A B : World} {b : Nat} {o : Obj} (h : A.heap[b]? = some o) (hb : Below A.heap.size A B) : B.heap[b]? = some o := by
  rw [hb.block b (Array.getElem?_eq_some_iff.1 h).1]; exact h
/-- a rule -/
structure Ru where
  (na : ByteArray) (fr ut mo k w d sec base save : Int) (le : ByteArray)
def Ru.arr (r : Ru) : Array Value := #[.string r.na, .int .i64 r.fr, .int .i64 r.ut, .int .i64 r.mo, .int .i64 r.k, .int .i64 r.w, .int .i64 r.d, .int .i64 r.sec, .int .i64 r.base, .int .i64 r.save, .string r.le]
/-- a rule, shifted -/
def Ru.sh (r : Ru) (x : Int) : Ru := { r with save := wrap64 (r.save + x), sec := less r.sec r.base x }
theorem row11 {V : World} {b : Nat} {t : TypeId} {a0 a1 a2 a3 a4 a5 a6 a7 a8 a9 a10 : Value} (h : V.heap[b]? = some (.cells #[a0, a1, a2, a3, a4, a5, a6, a7, a8, a9, a10] t)) : V.cell? ⟨b, 0, none⟩ = some a0 ∧ V.cell? ⟨b, 1, none⟩ = some a1 ∧ V.cell? ⟨b, 2, none⟩ = some a2 ∧ V.cell? ⟨b, 3, none⟩ = some a3 ∧ V.cell? ⟨b, 4, none⟩ = some a4 ∧ V.cell? ⟨b, 5, none⟩ = some a5 ∧ V.cell? ⟨b, 6, none⟩ = some a6 ∧ V.cell? ⟨b, 7, none⟩ = some a7 ∧ V.cell? ⟨b, 8, none⟩ = some a8 ∧ V.cell? ⟨b, 9, none⟩ = some a9 ∧ V.cell? ⟨b, 10, none⟩ = some a10 := by
  unfold World.cell?
  rw [h]
  simp
theorem frz11 {V : World} {b : Nat} {t : TypeId} {a0 a1 a2 a3 a4 a5 a6 a7 a8 a9 a10 : Value} (h : V.heap[b]? = some (.cells #[a0, a1, a2, a3, a4, a5, a6, a7, a8, a9, a10] t)) : V.frozen? ⟨b, 0, none⟩ = false ∧ V.frozen? ⟨b, 1, none⟩ = false ∧ V.frozen? ⟨b, 2, none⟩ = false ∧ V.frozen? ⟨b, 3, none⟩ = false ∧ V.frozen? ⟨b, 4, none⟩ = false ∧ V.frozen? ⟨b, 5, none⟩ = false ∧ V.frozen? ⟨b, 6, none⟩ = false ∧ V.frozen? ⟨b, 7, none⟩ = false ∧ V.frozen? ⟨b, 8, none⟩ = false ∧ V.frozen? ⟨b, 9, none⟩ = false ∧ V.frozen? ⟨b, 10, none⟩ = false := by
  unfold World.frozen?
  rw [h]
  simp
theorem row13 {V : World} {b : Nat} {t : TypeId} {a0 a1 a2 a3 a4 a5 a6 a7 a8 a9 a10 a11 a12 : Value} (h : V.heap[b]? = some (.cells #[a0, a1, a2, a3, a4, a5, a6, a7, a8, a9, a10, a11, a12] t)) : V.cell? ⟨b, 0, none⟩ = some a0 ∧ V.cell? ⟨b, 1, none⟩ = some a1 ∧ V.cell? ⟨b, 2, none⟩ = some a2 ∧ V.cell? ⟨b, 3, none⟩ = some a3 ∧ V.cell? ⟨b, 4, none⟩ = some a4 ∧ V.cell? ⟨b, 5, none⟩ = some a5 ∧ V.cell? ⟨b, 6, none⟩ = some a6 ∧ V.cell? ⟨b, 7, none⟩ = some a7 ∧ V.cell? ⟨b, 8, none⟩ = some a8 ∧ V.cell? ⟨b, 9, none⟩ = some a9 ∧ V.cell? ⟨b, 10, none⟩ = some a10 ∧ V.cell? ⟨b, 11, none⟩ = some a11 ∧ V.cell? ⟨b, 12, none⟩ = some a12 := by
  unfold World.cell?
  rw [h]
  simp
theorem frz13 {V : World} {b : Nat} {t : TypeId} {a0 a1 a2 a3 a4 a5 a6 a7 a8 a9 a10 a11 a12 : Value} (h : V.heap[b]? = some (.cells #[a0, a1, a2, a3, a4, a5, a6, a7, a8, a9, a10, a11, a12] t)) : V.frozen? ⟨b, 0, none⟩ = false ∧ V.frozen? ⟨b, 1, none⟩ = false ∧ V.frozen? ⟨b, 2, none⟩ = false ∧ V.frozen? ⟨b, 3, none⟩ = false ∧ V.frozen? ⟨b, 4, none⟩ = false ∧ V.frozen? ⟨b, 5, none⟩ = false ∧ V.frozen? ⟨b, 6, none⟩ = false ∧ V.frozen? ⟨b, 7, none⟩ = false ∧ V.frozen? ⟨b, 8, none⟩ = false ∧ V.frozen? ⟨b, 9, none⟩ = false ∧ V.frozen? ⟨b, 10, none⟩ = false ∧ V.frozen? ⟨b, 11, none⟩ = false ∧ V.frozen? ⟨b, 12, none⟩ = false := by
  unfold World.frozen?
  rw [h]
  simp
theorem row2 {V : World} {b : Nat} {t : TypeId} {a0 a1 : Value} (h : V.heap[b]? = some (.cells #[a0, a1] t)) : V.cell? ⟨b, 0, none⟩ = some a0 ∧ V.cell? ⟨b, 1, none⟩ = some a1 := by
  unfold World.cell?
  rw [h]
  simp
theorem frz2 {V : World} {b : Nat} {t : TypeId} {a0 a1 : Value} (h : V.heap[b]? = some (.cells #[a0, a1] t)) : V.frozen? ⟨b, 0, none⟩ = false ∧ V.frozen? ⟨b, 1, none⟩ = false := by
  unfold World.frozen?
  rw [h]
  simp
theorem set_oth {V : World} {b c i : Nat} {v x : Value} (h : V.cell? ⟨b, 0, none⟩ = some x) (hne : b < c) : (V.setCell ⟨c, i, none⟩ v).cell? ⟨b, 0, none⟩ = some x := by
  rw [World.cell?_of_block (w := V) (Below.heap_setCell V _ v b (by show b ≠ c; omega))]; exact h
theorem set79 {V : World} {b : Nat} {t : TypeId} {a0 a1 a2 a3 a4 a5 a6 a7 a8 a9 a10 p q s : Value} (h : V.heap[b]? = some (.cells #[a0, a1, a2, a3, a4, a5, a6, a7, a8, a9, a10] t)) :
    (((V.setCell ⟨b, 9, none⟩ s).setCell ⟨b, 7, none⟩ p).setCell ⟨b, 8, none⟩ q).heap[b]? = some (.cells #[a0, a1, a2, a3, a4, a5, a6, p, q, s, a10] t) := by
  simp [World.setCell, Array.getElem?_modify, h]
theorem set79_other {V : World} {b c : Nat} {o : Obj} {p q s : Value} (h : V.heap[c]? = some o) (hne : c ≠ b) :
    (((V.setCell ⟨b, 9, none⟩ s).setCell ⟨b, 7, none⟩ p).setCell ⟨b, 8, none⟩ q).heap[c]? = some o := by
  rw [Below.heap_setCell _ _ _ _ hne, Below.heap_setCell _ _ _ _ hne, Below.heap_setCell _ _ _ _ hne]; exact h
theorem set79_bel {A V : World} {B b : Nat} {p q s : Value} (h : Below B A V) (hb : B ≤ b) : Below B A (((V.setCell ⟨b, 9, none⟩ s).setCell ⟨b, 7, none⟩ p).setCell ⟨b, 8, none⟩ q) :=
  ((h.setCell (p := ⟨b, 9, none⟩) hb s).setCell (p := ⟨b, 7, none⟩) hb p).setCell (p := ⟨b, 8, none⟩) hb q
theorem bel_setCells {A V : World} {B b o : Nat} {l : _root_.List Value} (h : Below B A V) (hb : B ≤ b) : Below B A (V.setCells b o l) := by
  induction l generalizing V o with
  | nil => exact h
  | cons v r ih => exact ih (h.setCell (p := ⟨b, o, none⟩) hb v)
theorem set11 {V : World} {b : Nat} {t : TypeId} {a0 a1 a2 a3 a4 a5 a6 a7 a8 a9 a10 d0 d1 d2 d3 d4 d5 d6 d7 d8 d9 d10 : Value} (h : V.heap[b]? = some (.cells #[a0, a1, a2, a3, a4, a5, a6, a7, a8, a9, a10] t)) :
    (V.setCells b 0 [d0, d1, d2, d3, d4, d5, d6, d7, d8, d9, d10]).heap[b]? = some (.cells #[d0, d1, d2, d3, d4, d5, d6, d7, d8, d9, d10] t) := by
  simp [World.setCells, World.setCell, Array.getElem?_modify, h]
theorem set13 {V : World} {b : Nat} {t : TypeId} {a0 a1 a2 a3 a4 a5 a6 a7 a8 a9 a10 a11 a12 d0 d1 d2 d3 d4 d5 d6 d7 d8 d9 d10 d11 d12 : Value} (h : V.heap[b]? = some (.cells #[a0, a1, a2, a3, a4, a5, a6, a7, a8, a9, a10, a11, a12] t)) :
    (V.setCells b 0 [d0, d1, d2, d3, d4, d5, d6, d7, d8, d9, d10, d11, d12]).heap[b]? = some (.cells #[d0, d1, d2, d3, d4, d5, d6, d7, d8, d9, d10, d11, d12] t) := by
  simp [World.setCells, World.setCell, Array.getElem?_modify, h]
theorem set2 {V : World} {b : Nat} {t : TypeId} {a0 a1 d0 d1 : Value} (h : V.heap[b]? = some (.cells #[a0, a1] t)) :
    (V.setCells b 0 [d0, d1]).heap[b]? = some (.cells #[d0, d1] t) := by
  simp [World.setCells, World.setCell, Array.getElem?_modify, h]
end Sh

set_option maxRecDepth 100000 in
set_option maxHeartbeats 1000000 in
theorem moved_any (sec base x : Int) (W : World) :
    Calls Try.prog 29 #[.agg #[.int .i64 sec, .int .i64 base], .int .i64 x] W fun e w' => e = .returned (.agg #[.int .i64 (less sec base x), .int .i64 base]) ∧ Below W.heap.size W w' := by
  by_cases hb : base = 1
  · have HE := Lib.hid (show wrap64 (sec - x) = less sec base x by unfold less; rw [if_pos hb])
    subst hb
    go_enter Try.func29, Try.ntmps29
    go_wp2_with fail
    refine bodyPost_ret (results_cell_row rfl _ _ _ _ _ _ _ rfl (heap_alloc2_new _ _ _) Try.underlying42 rfl (by kernel_rfl)) rfl ?_
    rw [HE.out]
    exact ⟨rfl, bel_trans (bel_alloc _ _) (bel_alloc _ _)⟩
  · have HE := Lib.hid (show sec = less sec base x by unfold less; rw [if_neg hb])
    have hb2 : (base == 1) = false := by simp [hb]
    go_enter Try.func29, Try.ntmps29
    go_wp2_with fail
    refine bodyPost_ret (results_cell_row rfl _ _ _ _ _ _ _ rfl (heap_alloc2_new _ _ _) Try.underlying42 rfl (by kernel_rfl)) rfl ?_
    rw [← HE.out]
    exact ⟨rfl, bel_trans (bel_alloc _ _) (bel_alloc _ _)⟩

set_option maxRecDepth 100000 in
set_option maxHeartbeats 2000000 in
theorem rule1_any (r : Ru) (x : Int) (bx : Nat) (W : World) (hx : W.cell? ⟨bx, 0, none⟩ = some (.int .i64 x)) :
    Calls Try.prog 38 #[.agg r.arr, .pointer (some ⟨bx, 0, none⟩)] W fun e w' => e = .returned (.agg (r.sh x).arr) ∧ Below W.heap.size W w' := by
  obtain ⟨na, fr, ut, mo, k, w, d, sec, base, save, le⟩ := r
  have HX := Lib.hid hx
  have hlt : bx < W.heap.size := lt_of_cell hx
  clear hx
  unfold Ru.sh Ru.arr
  dsimp only
  go_enter Try.func38, Try.ntmps38
  go_upto_region 1 with fail
  have hxx := Lib.hid (show ((W.alloc (.cells #[.string na, .int .i64 fr, .int .i64 ut, .int .i64 mo, .int .i64 k, .int .i64 w, .int .i64 d, .int .i64 sec, .int .i64 base, .int .i64 save, .string le] 44)).alloc (.cells #[.string ⟨#[]⟩, .int .i64 0, .int .i64 0, .int .i64 0, .int .i64 0, .int .i64 0, .int .i64 0, .int .i64 0, .int .i64 0, .int .i64 0, .string ⟨#[]⟩] 44)).drew.cell? ⟨bx, 0, none⟩ = some (.int .i64 x) from cell_below (Below.drew (bel_trans (bel_alloc _ _) (bel_alloc _ _))) HX.out)
  have hk := Lib.hid (show ((W.alloc (.cells #[.string na, .int .i64 fr, .int .i64 ut, .int .i64 mo, .int .i64 k, .int .i64 w, .int .i64 d, .int .i64 sec, .int .i64 base, .int .i64 save, .string le] 44)).alloc (.cells #[.string ⟨#[]⟩, .int .i64 0, .int .i64 0, .int .i64 0, .int .i64 0, .int .i64 0, .int .i64 0, .int .i64 0, .int .i64 0, .int .i64 0, .string ⟨#[]⟩] 44)).drew.heap[W.heap.size]? = some (.cells #[.string na, .int .i64 fr, .int .i64 ut, .int .i64 mo, .int .i64 k, .int .i64 w, .int .i64 d, .int .i64 sec, .int .i64 base, .int .i64 save, .string le] 44) from block_below (heap_alloc_new W _) (Below.drew (bel_alloc _ _)))
  have hz := Lib.hid (show ((W.alloc (.cells #[.string na, .int .i64 fr, .int .i64 ut, .int .i64 mo, .int .i64 k, .int .i64 w, .int .i64 d, .int .i64 sec, .int .i64 base, .int .i64 save, .string le] 44)).alloc (.cells #[.string ⟨#[]⟩, .int .i64 0, .int .i64 0, .int .i64 0, .int .i64 0, .int .i64 0, .int .i64 0, .int .i64 0, .int .i64 0, .int .i64 0, .string ⟨#[]⟩] 44)).drew.heap[W.heap.size + 1]? = some (.cells #[.string ⟨#[]⟩, .int .i64 0, .int .i64 0, .int .i64 0, .int .i64 0, .int .i64 0, .int .i64 0, .int .i64 0, .int .i64 0, .int .i64 0, .string ⟨#[]⟩] 44) from heap_alloc2_new W _ _)
  have hB := Lib.hid (show Below W.heap.size W ((W.alloc (.cells #[.string na, .int .i64 fr, .int .i64 ut, .int .i64 mo, .int .i64 k, .int .i64 w, .int .i64 d, .int .i64 sec, .int .i64 base, .int .i64 save, .string le] 44)).alloc (.cells #[.string ⟨#[]⟩, .int .i64 0, .int .i64 0, .int .i64 0, .int .i64 0, .int .i64 0, .int .i64 0, .int .i64 0, .int .i64 0, .int .i64 0, .string ⟨#[]⟩] 44)).drew from Below.drew (bel_trans (bel_alloc _ _) (bel_alloc _ _)))
  go_cut [] (fun w' => ∃ (z0 z1 z2 z3 z4 z5 z6 z7 z8 z9 z10 : Value), Hid (w'.heap[W.heap.size]? = some (.cells #[.string na, .int .i64 fr, .int .i64 ut, .int .i64 mo, .int .i64 k, .int .i64 w, .int .i64 d, .int .i64 (less sec base x), .int .i64 base, .int .i64 (wrap64 (save + x)), .string le] 44)) ∧ Hid (w'.heap[W.heap.size + 1]? = some (.cells #[z0, z1, z2, z3, z4, z5, z6, z7, z8, z9, z10] 44)) ∧ Hid (Below W.heap.size W w'))
  case first =>
    have x0 := hxx.out
    obtain ⟨_, _, _, _, _, _, _, c7, c8, c9, _⟩ := row11 hk.out
    refine wp_region_held_drew (S := fun w' => w'.cell? ⟨bx, 0, none⟩ = some (.int .i64 x)) (by kernel_rfl) (by exact hxx.out) (fun hHeld => ?_)
    refine wpAnyH_take (i := 0) (v := ?_) rfl (by kernel_rfl) (by kernel_rfl) (by kernel_rfl) (fun _ _ _ h => h) (Or.inl ⟨by rfl, ?_⟩) (by assumption) ?_
    rotate_left 1
    · (intro w hSw; (try dsimp only at hSw); first | (go_simp; done) | (go_simp; with_reducible rfl))
    try simp only [Act.put, List.getElem_toArray, List.getElem_cons_succ, List.getElem_cons_zero, List.setIfInBounds_toArray, List.set_cons_zero, List.set_cons_succ]
    refine wpAnyH_take (i := 4) (v := ?_) rfl (by kernel_rfl) (by kernel_rfl) (by kernel_rfl) (fun _ _ _ h => h) (Or.inl ⟨by rfl, ?_⟩) (by assumption) ?_
    rotate_left 1
    · (intro w hSw; (try dsimp only at hSw); first | (go_simp; done) | (go_simp; with_reducible rfl))
    try simp only [Act.put, List.getElem_toArray, List.getElem_cons_succ, List.getElem_cons_zero, List.setIfInBounds_toArray, List.set_cons_zero, List.set_cons_succ]
    refine wpAnyH_take (i := 2) (v := ?_) rfl (by kernel_rfl) (by kernel_rfl) (by kernel_rfl) (fun _ _ _ h => h) (Or.inl ⟨by rfl, ?_⟩) (by assumption) ?_
    rotate_left 1
    · (intro w hSw; (try dsimp only at hSw); first | (go_simp; done) | (go_simp; with_reducible rfl))
    try simp only [Act.put, List.getElem_toArray, List.getElem_cons_succ, List.getElem_cons_zero, List.setIfInBounds_toArray, List.set_cons_zero, List.set_cons_succ]
    refine wpAnyH_take (i := 6) (v := ?_) rfl (by kernel_rfl) (by kernel_rfl) (by kernel_rfl) (fun _ _ _ h => h) (Or.inl ⟨by rfl, ?_⟩) (by assumption) ?_
    rotate_left 1
    · (intro w hSw; (try dsimp only at hSw); first | (go_simp; done) | (go_simp; with_reducible rfl))
    try simp only [Act.put, List.getElem_toArray, List.getElem_cons_succ, List.getElem_cons_zero, List.setIfInBounds_toArray, List.set_cons_zero, List.set_cons_succ]
    refine wpAnyH_ready (rs := [1, 5]) (by kernel_rfl) (by simp) ?_
    refine (AllReadyH.cons rfl (fun K hK => ?_) (AllReadyH.cons rfl (fun K hK => ?_) AllReadyH.nil))
    · go_simp
      refine hK.out _ _ (by assumption) (fun hHeld => ?_)
      clear hK K
      try simp only [Act.put, List.getElem_toArray, List.getElem_cons_succ, List.getElem_cons_zero, List.setIfInBounds_toArray, List.set_cons_zero, List.set_cons_succ]
      refine wpAnyH_take (i := 3) (v := ?_) rfl (by kernel_rfl) (by kernel_rfl) (by kernel_rfl) (fun _ _ _ h => h) (Or.inl ⟨by rfl, ?_⟩) (by assumption) ?_
      rotate_left 1
      · (intro w hSw; (try dsimp only at hSw); first | (go_simp; done) | (go_simp; with_reducible rfl))
      try simp only [Act.put, List.getElem_toArray, List.getElem_cons_succ, List.getElem_cons_zero, List.setIfInBounds_toArray, List.set_cons_zero, List.set_cons_succ]
      refine wpAnyH_ready (rs := [5]) (by kernel_rfl) (by simp) ?_
      refine (AllReadyH.cons rfl (fun K hK => ?_) AllReadyH.nil)
      · go_simp
        refine hK.out _ _ (by assumption) (fun hHeld => ?_)
        clear hK K
        try simp only [Act.put, List.getElem_toArray, List.getElem_cons_succ, List.getElem_cons_zero, List.setIfInBounds_toArray, List.set_cons_zero, List.set_cons_succ]
        refine wpAnyH_take (i := 8) (v := ?_) rfl (by kernel_rfl) (by kernel_rfl) (by kernel_rfl) (fun _ _ _ h => h) (Or.inl ⟨by rfl, ?_⟩) (by assumption) ?_
        rotate_left 1
        · (intro w hSw; (try dsimp only at hSw); first | (go_simp; done) | (go_simp; with_reducible rfl))
        try simp only [Act.put, List.getElem_toArray, List.getElem_cons_succ, List.getElem_cons_zero, List.setIfInBounds_toArray, List.set_cons_zero, List.set_cons_succ]
        refine wpAnyH_ready (rs := [7]) (by kernel_rfl) (by simp) ?_
        refine (AllReadyH.cons rfl (fun K hK => ?_) AllReadyH.nil)
        · go_simp
          refine (moved_any sec base x _).mono ?_
          rintro e w3 ⟨rfl, hb3⟩
          go_wp2_with fail
          refine hK.out _ _ (cell_below hb3 (by assumption)) (fun hHeld => ?_)
          clear hK K
          try simp only [Act.put, List.getElem_toArray, List.getElem_cons_succ, List.getElem_cons_zero, List.setIfInBounds_toArray, List.set_cons_zero, List.set_cons_succ]
          have hk := Lib.hid (block_below hk.out hb3)
          have hz := Lib.hid (block_below hz.out hb3)
          have hxx := Lib.hid (cell_below hb3 hxx.out)
          have hB := Lib.hid (bel_trans hB.out hb3)
          clear hb3
          clear c7 c8 c9 x0
          obtain ⟨c0, c1, c2, c3, c4, c5, c6, c7, c8, c9, c10⟩ := row11 hk.out
          obtain ⟨z0, z1, z2, z3, z4, z5, z6, z7, z8, z9, z10⟩ := frz11 hk.out
          have x0 := hxx.out
          refine wpAnyH_ready (rs := [9]) (by kernel_rfl) (by simp) ?_
          refine (AllReadyH.cons rfl (fun K hK => ?_) AllReadyH.nil)
          · go_simp
            refine hK.out _ _ (set_oth (by assumption) (by omega)) (fun hHeld => ?_)
            clear hK K
            try simp only [Act.put, List.getElem_toArray, List.getElem_cons_succ, List.getElem_cons_zero, List.setIfInBounds_toArray, List.set_cons_zero, List.set_cons_succ]
            refine wpAnyH_take (i := 10) (v := ?_) rfl (by kernel_rfl) (by kernel_rfl) (by kernel_rfl) (fun _ _ _ h => h) (Or.inl ⟨by rfl, ?_⟩) (by assumption) ?_
            rotate_left 1
            · (intro w hSw; (try dsimp only at hSw); first | (go_simp; done) | (go_simp; with_reducible rfl))
            try simp only [Act.put, List.getElem_toArray, List.getElem_cons_succ, List.getElem_cons_zero, List.setIfInBounds_toArray, List.set_cons_zero, List.set_cons_succ]
            refine wpAnyH_ready (rs := [11]) (by kernel_rfl) (by simp) ?_
            refine (AllReadyH.cons rfl (fun K hK => ?_) AllReadyH.nil)
            · go_simp
              refine hK.out _ _ (set_oth (set_oth (by assumption) (by omega)) (by omega)) (fun hHeld => ?_)
              clear hK K
              try simp only [Act.put, List.getElem_toArray, List.getElem_cons_succ, List.getElem_cons_zero, List.setIfInBounds_toArray, List.set_cons_zero, List.set_cons_succ]
              refine wpAnyH_done (by kernel_rfl) ?_ _
              go_wp2_with fail
              go_meet
              case rel => exact ⟨_, _, _, _, _, _, _, _, _, _, _, Lib.hid (by rw [← IntWalk.i64_left]; exact set79 hk.out), Lib.hid (set79_other hz.out (by omega)), Lib.hid (set79_bel hB.out (Nat.le_refl _))⟩
    · go_simp
      refine hK.out _ _ (by assumption) (fun hHeld => ?_)
      clear hK K
      try simp only [Act.put, List.getElem_toArray, List.getElem_cons_succ, List.getElem_cons_zero, List.setIfInBounds_toArray, List.set_cons_zero, List.set_cons_succ]
      refine wpAnyH_ready (rs := [1, 7]) (by kernel_rfl) (by simp) ?_
      refine (AllReadyH.cons rfl (fun K hK => ?_) (AllReadyH.cons rfl (fun K hK => ?_) AllReadyH.nil))
      · go_simp
        refine hK.out _ _ (by assumption) (fun hHeld => ?_)
        clear hK K
        try simp only [Act.put, List.getElem_toArray, List.getElem_cons_succ, List.getElem_cons_zero, List.setIfInBounds_toArray, List.set_cons_zero, List.set_cons_succ]
        refine wpAnyH_take (i := 3) (v := ?_) rfl (by kernel_rfl) (by kernel_rfl) (by kernel_rfl) (fun _ _ _ h => h) (Or.inl ⟨by rfl, ?_⟩) (by assumption) ?_
        rotate_left 1
        · (intro w hSw; (try dsimp only at hSw); first | (go_simp; done) | (go_simp; with_reducible rfl))
        try simp only [Act.put, List.getElem_toArray, List.getElem_cons_succ, List.getElem_cons_zero, List.setIfInBounds_toArray, List.set_cons_zero, List.set_cons_succ]
        refine wpAnyH_take (i := 8) (v := ?_) rfl (by kernel_rfl) (by kernel_rfl) (by kernel_rfl) (fun _ _ _ h => h) (Or.inl ⟨by rfl, ?_⟩) (by assumption) ?_
        rotate_left 1
        · (intro w hSw; (try dsimp only at hSw); first | (go_simp; done) | (go_simp; with_reducible rfl))
        try simp only [Act.put, List.getElem_toArray, List.getElem_cons_succ, List.getElem_cons_zero, List.setIfInBounds_toArray, List.set_cons_zero, List.set_cons_succ]
        refine wpAnyH_ready (rs := [7]) (by kernel_rfl) (by simp) ?_
        refine (AllReadyH.cons rfl (fun K hK => ?_) AllReadyH.nil)
        · go_simp
          refine (moved_any sec base x _).mono ?_
          rintro e w3 ⟨rfl, hb3⟩
          go_wp2_with fail
          refine hK.out _ _ (cell_below hb3 (by assumption)) (fun hHeld => ?_)
          clear hK K
          try simp only [Act.put, List.getElem_toArray, List.getElem_cons_succ, List.getElem_cons_zero, List.setIfInBounds_toArray, List.set_cons_zero, List.set_cons_succ]
          have hk := Lib.hid (block_below hk.out hb3)
          have hz := Lib.hid (block_below hz.out hb3)
          have hxx := Lib.hid (cell_below hb3 hxx.out)
          have hB := Lib.hid (bel_trans hB.out hb3)
          clear hb3
          clear c7 c8 c9 x0
          obtain ⟨c0, c1, c2, c3, c4, c5, c6, c7, c8, c9, c10⟩ := row11 hk.out
          obtain ⟨z0, z1, z2, z3, z4, z5, z6, z7, z8, z9, z10⟩ := frz11 hk.out
          have x0 := hxx.out
          refine wpAnyH_ready (rs := [9]) (by kernel_rfl) (by simp) ?_
          refine (AllReadyH.cons rfl (fun K hK => ?_) AllReadyH.nil)
          · go_simp
            refine hK.out _ _ (set_oth (by assumption) (by omega)) (fun hHeld => ?_)
            clear hK K
            try simp only [Act.put, List.getElem_toArray, List.getElem_cons_succ, List.getElem_cons_zero, List.setIfInBounds_toArray, List.set_cons_zero, List.set_cons_succ]
            refine wpAnyH_take (i := 10) (v := ?_) rfl (by kernel_rfl) (by kernel_rfl) (by kernel_rfl) (fun _ _ _ h => h) (Or.inl ⟨by rfl, ?_⟩) (by assumption) ?_
            rotate_left 1
            · (intro w hSw; (try dsimp only at hSw); first | (go_simp; done) | (go_simp; with_reducible rfl))
            try simp only [Act.put, List.getElem_toArray, List.getElem_cons_succ, List.getElem_cons_zero, List.setIfInBounds_toArray, List.set_cons_zero, List.set_cons_succ]
            refine wpAnyH_ready (rs := [11]) (by kernel_rfl) (by simp) ?_
            refine (AllReadyH.cons rfl (fun K hK => ?_) AllReadyH.nil)
            · go_simp
              refine hK.out _ _ (set_oth (set_oth (by assumption) (by omega)) (by omega)) (fun hHeld => ?_)
              clear hK K
              try simp only [Act.put, List.getElem_toArray, List.getElem_cons_succ, List.getElem_cons_zero, List.setIfInBounds_toArray, List.set_cons_zero, List.set_cons_succ]
              refine wpAnyH_done (by kernel_rfl) ?_ _
              go_wp2_with fail
              go_meet
              case rel => exact ⟨_, _, _, _, _, _, _, _, _, _, _, Lib.hid (by rw [← IntWalk.i64_left]; exact set79 hk.out), Lib.hid (set79_other hz.out (by omega)), Lib.hid (set79_bel hB.out (Nat.le_refl _))⟩
      · go_simp
        refine (moved_any sec base x _).mono ?_
        rintro e w3 ⟨rfl, hb3⟩
        go_wp2_with fail
        refine hK.out _ _ (cell_below hb3 (by assumption)) (fun hHeld => ?_)
        clear hK K
        try simp only [Act.put, List.getElem_toArray, List.getElem_cons_succ, List.getElem_cons_zero, List.setIfInBounds_toArray, List.set_cons_zero, List.set_cons_succ]
        have hk := Lib.hid (block_below hk.out hb3)
        have hz := Lib.hid (block_below hz.out hb3)
        have hxx := Lib.hid (cell_below hb3 hxx.out)
        have hB := Lib.hid (bel_trans hB.out hb3)
        clear hb3
        clear c7 c8 c9 x0
        obtain ⟨c0, c1, c2, c3, c4, c5, c6, c7, c8, c9, c10⟩ := row11 hk.out
        obtain ⟨z0, z1, z2, z3, z4, z5, z6, z7, z8, z9, z10⟩ := frz11 hk.out
        have x0 := hxx.out
        refine wpAnyH_ready (rs := [1]) (by kernel_rfl) (by simp) ?_
        refine (AllReadyH.cons rfl (fun K hK => ?_) AllReadyH.nil)
        · go_simp
          refine hK.out _ _ (by assumption) (fun hHeld => ?_)
          clear hK K
          try simp only [Act.put, List.getElem_toArray, List.getElem_cons_succ, List.getElem_cons_zero, List.setIfInBounds_toArray, List.set_cons_zero, List.set_cons_succ]
          refine wpAnyH_take (i := 3) (v := ?_) rfl (by kernel_rfl) (by kernel_rfl) (by kernel_rfl) (fun _ _ _ h => h) (Or.inl ⟨by rfl, ?_⟩) (by assumption) ?_
          rotate_left 1
          · (intro w hSw; (try dsimp only at hSw); first | (go_simp; done) | (go_simp; with_reducible rfl))
          try simp only [Act.put, List.getElem_toArray, List.getElem_cons_succ, List.getElem_cons_zero, List.setIfInBounds_toArray, List.set_cons_zero, List.set_cons_succ]
          refine wpAnyH_take (i := 8) (v := ?_) rfl (by kernel_rfl) (by kernel_rfl) (by kernel_rfl) (fun _ _ _ h => h) (Or.inl ⟨by rfl, ?_⟩) (by assumption) ?_
          rotate_left 1
          · (intro w hSw; (try dsimp only at hSw); first | (go_simp; done) | (go_simp; with_reducible rfl))
          try simp only [Act.put, List.getElem_toArray, List.getElem_cons_succ, List.getElem_cons_zero, List.setIfInBounds_toArray, List.set_cons_zero, List.set_cons_succ]
          refine wpAnyH_ready (rs := [9]) (by kernel_rfl) (by simp) ?_
          refine (AllReadyH.cons rfl (fun K hK => ?_) AllReadyH.nil)
          · go_simp
            refine hK.out _ _ (set_oth (by assumption) (by omega)) (fun hHeld => ?_)
            clear hK K
            try simp only [Act.put, List.getElem_toArray, List.getElem_cons_succ, List.getElem_cons_zero, List.setIfInBounds_toArray, List.set_cons_zero, List.set_cons_succ]
            refine wpAnyH_take (i := 10) (v := ?_) rfl (by kernel_rfl) (by kernel_rfl) (by kernel_rfl) (fun _ _ _ h => h) (Or.inl ⟨by rfl, ?_⟩) (by assumption) ?_
            rotate_left 1
            · (intro w hSw; (try dsimp only at hSw); first | (go_simp; done) | (go_simp; with_reducible rfl))
            try simp only [Act.put, List.getElem_toArray, List.getElem_cons_succ, List.getElem_cons_zero, List.setIfInBounds_toArray, List.set_cons_zero, List.set_cons_succ]
            refine wpAnyH_ready (rs := [11]) (by kernel_rfl) (by simp) ?_
            refine (AllReadyH.cons rfl (fun K hK => ?_) AllReadyH.nil)
            · go_simp
              refine hK.out _ _ (set_oth (set_oth (by assumption) (by omega)) (by omega)) (fun hHeld => ?_)
              clear hK K
              try simp only [Act.put, List.getElem_toArray, List.getElem_cons_succ, List.getElem_cons_zero, List.setIfInBounds_toArray, List.set_cons_zero, List.set_cons_succ]
              refine wpAnyH_done (by kernel_rfl) ?_ _
              go_wp2_with fail
              go_meet
              case rel => exact ⟨_, _, _, _, _, _, _, _, _, _, _, Lib.hid (by rw [← IntWalk.i64_left]; exact set79 hk.out), Lib.hid (set79_other hz.out (by omega)), Lib.hid (set79_bel hB.out (Nat.le_refl _))⟩
  case rest =>
    obtain ⟨z0, z1, z2, z3, z4, z5, z6, z7, z8, z9, z10, hk2, hz2, hB2⟩ := hcut
    obtain ⟨c0, c1, c2, c3, c4, c5, c6, c7, c8, c9, c10⟩ := row11 hk2.out
    obtain ⟨y0, y1, y2, y3, y4, y5, y6, y7, y8, y9, y10⟩ := row11 hz2.out
    obtain ⟨f0, f1, f2, f3, f4, f5, f6, f7, f8, f9, f10⟩ := frz11 hz2.out
    go_wp2_with fail
    refine bodyPost_ret (results_cell_row rfl _ _ _ _ _ _ _ rfl (set11 hz2.out) Try.underlying44 rfl (by kernel_rfl)) rfl ?_
    exact ⟨rfl, bel_setCells (o := 0) (l := [.string na, .int .i64 fr, .int .i64 ut, .int .i64 mo, .int .i64 k, .int .i64 w, .int .i64 d, .int .i64 (less sec base x), .int .i64 base, .int .i64 (wrap64 (save + x)), .string le]) hB2.out (Nat.le_succ _)⟩
end Go.Proofs.Ytdlmlcgmonkdfaa
