/-
  slices.Index and slices.Contains at events.
-/
import Derived.Test.YtpimibchameakaaDoorEvEx
namespace Go.Proofs.YtpimibchameakaaDoor
open Go.RowKit Cv
set_option linter.unusedVariables false
set_option linter.unusedSimpArgs false

set_option maxRecDepth 100000 in
set_option maxHeartbeats 4000000 in
theorem indexEv_any (u : Value) (L : _root_.List Ev) (x : Ev) (W : World) (hu : RdEv u L W) (hl : L.length ≤ 100000000) :
    Calls Tryd.prog 47 #[u, .agg #[.int .i64 x.year, .int .i64 x.rule, .int .i64 x.nom]] W fun e w' => (∃ z : Int, Hid (0 ≤ z ↔ x ∈ L) ∧ -1 ≤ z ∧ z ≤ 100000000 ∧ e = .returned (.int .i64 z)) ∧ Below W.heap.size W w' := by
  have heq := eqEv
  obtain ⟨A, cap, rfl⟩ := hu.sl
  have HU := Lib.hid hu
  obtain ⟨n, hn⟩ : ∃ n, n = L.length := ⟨_, rfl⟩
  rw [← hn] at hl HU ⊢
  have HN := Lib.hid hn
  clear hu hn
  obtain ⟨xy, xr, xn⟩ := x
  dsimp only
  go_enter Tryd.func47, Tryd.ntmps47
  go_wp2_with fail
  go_loopw [8] (fun s wr => ∃ (k : Nat) (wq : World), k ≤ n ∧ s = .int .i64 (k : Int) ∧ wr = wq ∧ Hid (Below W.heap.size W wq) ∧ Hid (wq.heap[W.heap.size]? = some (.cells #[.int .i64 xy, .int .i64 xr, .int .i64 xn] 34)) ∧ Hid (∀ (i : Nat) (e : Ev), i < k → L[i]? = some e → (⟨xy, xr, xn⟩ : Ev) ≠ e)) (fun s _ => n - (intOf s).toNat)
  case atStart => exact ⟨0, _, by omega, rfl, rfl, Lib.hid (bel_alloc _ _), Lib.hid (heap_alloc_new _ _), Lib.hid (fun i e hi => by omega)⟩
  case round =>
    obtain ⟨k, wq, hk, rfl, rfl, HB, HX, HK⟩ := hrel
    by_cases hlt : k < n
    · obtain ⟨e, he⟩ : ∃ e, L[k]? = some e := ⟨_, _root_.List.getElem?_eq_getElem (by rw [← HN.out]; exact hlt)⟩
      obtain ⟨g, off, rfl, a0, a1, a2⟩ := (HU.out.below HB.out).at_ he
      obtain ⟨b0, b1, b2⟩ := (⟨cellB HX.out (i := 0) rfl, cellB HX.out (i := 1) rfl, cellB HX.out (i := 2) rfl⟩ : wr.cell? ⟨W.heap.size, 0, none⟩ = some (.int .i64 xy) ∧ wr.cell? ⟨W.heap.size, 1, none⟩ = some (.int .i64 xr) ∧ wr.cell? ⟨W.heap.size, 2, none⟩ = some (.int .i64 xn))
      have HE := Lib.hid he
      obtain ⟨ey, er, en⟩ := e
      dsimp only at a0 a1 a2
      have hk0 : (0 : Int) ≤ (k : Int) := by omega
      have hk1 : (k : Int) < (n : Int) := by omega
      clear he
      by_cases hq : xy = ey ∧ xr = er ∧ xn = en
      · obtain ⟨rfl, rfl, rfl⟩ := hq
        go_wp2_with fail
        go_quiet (fail)
        have HB2 := Lib.hid (bel_drew HB.out nq)
        clear a0 a1 a2 b0 b1 b2
        go_wp2_with fail
        go_ret
        exact ⟨⟨(k : Int), Lib.hid ⟨fun _ => _root_.List.mem_of_getElem? HE.out, fun _ => by omega⟩, by omega, by omega, rfl⟩, HB2.out⟩
      · have hqb : (xy == ey && xr == er && xn == en) = false := by
          rw [Bool.eq_false_iff]; intro h; apply hq; simpa [and_assoc] using h
        have HK2 := Lib.hid (show ∀ (i : Nat) (e : Ev), i < k + 1 → L[i]? = some e → (⟨xy, xr, xn⟩ : Ev) ≠ e from fun i e hi he => by
          rcases Nat.lt_or_ge i k with h3 | h3
          · exact HK.out i e h3 he
          · obtain rfl : i = k := by omega
            rw [HE.out] at he
            cases he
            intro h; injection h with h1 h2 h3; exact hq ⟨h1, h2, h3⟩)
        clear hq
        go_wp2_with fail
        go_quiet (fail)
        have HB2 := Lib.hid (bel_drew HB.out nq)
        have HX2 := Lib.hid (show (wr.drewN nq).heap[W.heap.size]? = _ from HX.out)
        clear a0 a1 a2 b0 b1 b2
        go_wp2_with fail
        go_round
        case rel => exact ⟨k + 1, _, by omega, by go_num, rfl, HB2, HX2, HK2⟩
        case measure => simp [intOf]; omega
    · obtain rfl : n = k := by omega
      have HNO := Lib.hid (show (⟨xy, xr, xn⟩ : Ev) ∉ L from fun h => by
        obtain ⟨i, hi⟩ := _root_.List.mem_iff_getElem?.1 h
        exact HK.out i _ (by rw [HN.out]; exact (_root_.List.getElem?_eq_some_iff.1 hi).1) hi rfl)
      go_wp2_with fail
      go_ret
      exact ⟨⟨-1, Lib.hid ⟨fun h => by omega, fun h => (HNO.out h).elim⟩, by omega, by omega, rfl⟩, HB.out⟩

set_option maxRecDepth 100000 in
set_option maxHeartbeats 4000000 in
theorem containsEv_any (u : Value) (L : _root_.List Ev) (x : Ev) (W : World) (hu : RdEv u L W) (hl : L.length ≤ 100000000) (hx : x ∈ L) :
    Calls Tryd.prog 23 #[u, .agg #[.int .i64 x.year, .int .i64 x.rule, .int .i64 x.nom]] W fun e w' => e = .returned (.bool true) ∧ Below W.heap.size W w' := by
  have HU := Lib.hid hu
  have HX := Lib.hid hx
  have HL := Lib.hid hl
  obtain ⟨xy, xr, xn⟩ := x
  dsimp only
  have HX0 := Lib.hid (heap_alloc_new W (.cells #[.int .i64 xy, .int .i64 xr, .int .i64 xn] 34))
  have HB0 := Lib.hid (bel_alloc W (.cells #[.int .i64 xy, .int .i64 xr, .int .i64 xn] 34))
  clear hu hx hl
  go_enter Tryd.func23, Tryd.ntmps23
  have x0 := cellB HX0.out (i := 0) rfl
  have x1 := cellB HX0.out (i := 1) rfl
  have x2 := cellB HX0.out (i := 2) rfl
  go_wp2_with fail
  refine (indexEv_any u L ⟨xy, xr, xn⟩ _ (by exact HU.out.below HB0.out) HL.out).mono ?_
  rintro e w1 ⟨⟨z, hz, hz1, hz2, rfl⟩, hb⟩
  have hz0 : 0 ≤ z := hz.out.2 HX.out
  have HB := Lib.hid (bel_trans HB0.out hb)
  clear hz hb
  go_wp2_with fail
  go_ret
  exact ⟨by first | rfl | (simp; omega), HB.out⟩
end Go.Proofs.YtpimibchameakaaDoor
