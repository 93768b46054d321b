/-
  The reference's Before and After (analemmaref17).
-/
import Derived.Test.YtghmdaahmijdiaaDoorEvRefM
import Derived.Test.YtghmdaahmijdiaaDoorEvBest
import Derived.Deep.RegionHeld3
namespace Go.Proofs.YtghmdaahmijdiaaDoor
open Go.RowKit Cv
set_option linter.unusedVariables false
set_option linter.unusedSimpArgs false

namespace Cv
theorem new2 (w : World) (o p : Obj) : ((w.alloc o).alloc p).heap[w.heap.size + 1]? = some p := by
  have h := heap_alloc_new (w.alloc o) p
  have e : (w.alloc o).heap.size = w.heap.size + 1 := by simp
  rw [e] at h; exact h
theorem range_of11 {w : World} {g o : Nat} {na le : ByteArray} {fr ut mo kk ww d sec base save : Int} (h : w.cell? ⟨g, o, none⟩ = some (.string na) ∧ w.cell? ⟨g, o + 1, none⟩ = some (.int .i64 fr) ∧ w.cell? ⟨g, o + 2, none⟩ = some (.int .i64 ut) ∧ w.cell? ⟨g, o + 3, none⟩ = some (.int .i64 mo) ∧ w.cell? ⟨g, o + 4, none⟩ = some (.int .i64 kk) ∧ w.cell? ⟨g, o + 5, none⟩ = some (.int .i64 ww) ∧ w.cell? ⟨g, o + 6, none⟩ = some (.int .i64 d) ∧ w.cell? ⟨g, o + 7, none⟩ = some (.int .i64 sec) ∧ w.cell? ⟨g, o + 8, none⟩ = some (.int .i64 base) ∧ w.cell? ⟨g, o + 9, none⟩ = some (.int .i64 save) ∧ w.cell? ⟨g, o + 10, none⟩ = some (.string le)) : w.rangeAt g o (Ru.arr ⟨na, fr, ut, mo, kk, ww, d, sec, base, save, le⟩).toList := by
  intro j u hu
  have hj : j < 11 := (_root_.List.getElem?_eq_some_iff.1 hu).1
  obtain ⟨h0, h1, h2, h3, h4, h5, h6, h7, h8, h9, h10⟩ := h
  have hc : j = 0 ∨ j = 1 ∨ j = 2 ∨ j = 3 ∨ j = 4 ∨ j = 5 ∨ j = 6 ∨ j = 7 ∨ j = 8 ∨ j = 9 ∨ j = 10 := by omega
  rcases hc with rfl | rfl | rfl | rfl | rfl | rfl | rfl | rfl | rfl | rfl | rfl
  · rw [Nat.add_zero, h0]; exact hu
  · rw [h1]; exact hu
  · rw [h2]; exact hu
  · rw [h3]; exact hu
  · rw [h4]; exact hu
  · rw [h5]; exact hu
  · rw [h6]; exact hu
  · rw [h7]; exact hu
  · rw [h8]; exact hu
  · rw [h9]; exact hu
  · rw [h10]; exact hu
theorem near_bd {r : Ru} {q a b : Int} {up : Bool} (h : NearIs r q up a b) (hab : a ≤ b) : -2000000000 ≤ a ∧ b ≤ 2000000000 := by
  have hF : -2000000000 ≤ firstY r := by unfold firstY; omega
  have hL : lastY r ≤ 2000000000 := by unfold lastY; split <;> omega
  cases up with
  | true =>
    obtain ⟨h1, h2, h3⟩ := h.1 rfl
    by_cases h4 : a ≤ lastY r
    · have := h2 h4; omega
    · have := h3 (by omega); omega
  | false =>
    obtain ⟨h1, h2, h3⟩ := h.2 rfl
    by_cases h4 : firstY r ≤ b
    · have := h2 h4; omega
    · have := h3 (by omega); omega
theorem yearD_ex (n : Int) : ∃ y r, YearD n y r := by
  have key : ∀ (k : Nat) (lo : Int), fst lo ≤ n → n < fst (lo + k) → ∃ y, fst y ≤ n ∧ n < fst (y + 1) := by
    intro k
    induction k with
    | zero => intro lo h1 h2; rw [show lo + ((0 : Nat) : Int) = lo by omega] at h2; omega
    | succ k ih =>
      intro lo h1 h2
      by_cases h : n < fst (lo + k)
      · exact ih lo h1 h
      · exact ⟨lo + k, by omega, by rw [show lo + (k : Int) + 1 = lo + ((k + 1 : Nat) : Int) by omega]; exact h2⟩
  obtain ⟨m, hm⟩ : ∃ m : Nat, -(m : Int) ≤ n ∧ n ≤ m := ⟨n.natAbs, by omega⟩
  obtain ⟨y, h1, h2⟩ := key (2 * m + 4000) (-(m : Int) - 1000) (by unfold fst; omega) (by unfold fst; omega)
  have hs := fst_succ y
  exact ⟨y, n - fst y, by omega, by omega, by omega⟩
theorem yearD_uniq {n y r z s : Int} (h : YearD n y r) (k : YearD n z s) : y = z := by
  obtain ⟨h1, h2, h3⟩ := h
  obtain ⟨k1, k2, k3⟩ := k
  have hs := fst_succ y
  have ks := fst_succ z
  rcases Int.lt_trichotomy y z with h | h | h
  · have := fst_mono (y + 1) z (by omega); omega
  · exact h
  · have := fst_mono (z + 1) y (by omega); omega
end Cv

theorem refYearQ {N y r : Int} (hN1 : -9223372036854775808 ≤ N) (hN2 : N ≤ 9223372036854775807) (hy : YearD (N / 86400) y r) (V : World) : Calls Tryd.prog 26 #[.int .i64 N] V fun e w' => e = .returned (.int .i64 (clamp y)) ∧ w' = V :=
  (refYearS_any N V hN1 hN2).mono fun e w' ⟨⟨y', r', h', he⟩, hw⟩ => ⟨by rw [he, yearD_uniq h'.out hy], hw.symm⟩

end Go.Proofs.YtghmdaahmijdiaaDoor
