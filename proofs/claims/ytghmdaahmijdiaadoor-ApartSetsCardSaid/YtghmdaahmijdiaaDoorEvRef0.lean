/-
  The reference's small functions of chapter 17 (analemmaref17, analemmaref16, analemmaref06), at rules and events.
-/
import Derived.Test.YtghmdaahmijdiaaDoorEvLook
namespace Go.Proofs.YtghmdaahmijdiaaDoor
open Go.RowKit Cv
set_option linter.unusedVariables false
set_option linter.unusedSimpArgs false

namespace Cv
theorem ret_b {a b : Bool} (h : a = b) : Ending.returned (.bool a) = .returned (.bool b) := by rw [h]
theorem ret_t2 {a b c d : Int} (h : a = b) (k : c = d) : Ending.returned (.tuple #[.int .i64 a, .int .i64 c]) = .returned (.tuple #[.int .i64 b, .int .i64 d]) := by rw [h, k]
end Cv

set_option maxRecDepth 100000 in
set_option maxHeartbeats 1000000 in
theorem refClk_any (sec base : Int) (W : World) : Calls Tryd.prog 45 #[.agg #[.int .i64 sec, .int .i64 base]] W fun e w' => e = .returned (.int .i64 (clkC sec base)) ∧ Below W.heap.size W w' := by
  have hc : sec < -604799 ∨ (-604799 ≤ sec ∧ 604799 < sec) ∨ (-604799 ≤ sec ∧ sec ≤ 604799 ∧ base < 0) ∨ (-604799 ≤ sec ∧ sec ≤ 604799 ∧ 0 ≤ base ∧ 2 < base) ∨ (-604799 ≤ sec ∧ sec ≤ 604799 ∧ 0 ≤ base ∧ base ≤ 2) := by omega
  rcases hc with h | ⟨h, h1⟩ | ⟨h, h1, h2⟩ | ⟨h, h1, h2, h3⟩ | ⟨h, h1, h2, h3⟩
  · have HC := Lib.hid (clkC_no (s := sec) (b := base) (by unfold clk; omega))
    go_enter Tryd.func45, Tryd.ntmps45
    go_wp2_with fail
    go_ret
    exact ⟨ret_i64 HC.out.symm, bel_alloc _ _⟩
  · have HC := Lib.hid (clkC_no (s := sec) (b := base) (by unfold clk; omega))
    go_enter Tryd.func45, Tryd.ntmps45
    go_wp2_with fail
    go_ret
    exact ⟨ret_i64 HC.out.symm, bel_alloc _ _⟩
  · have HC := Lib.hid (clkC_no (s := sec) (b := base) (by unfold clk; omega))
    go_enter Tryd.func45, Tryd.ntmps45
    go_wp2_with fail
    go_ret
    exact ⟨ret_i64 HC.out.symm, bel_alloc _ _⟩
  · have HC := Lib.hid (clkC_no (s := sec) (b := base) (by unfold clk; omega))
    go_enter Tryd.func45, Tryd.ntmps45
    go_wp2_with fail
    go_ret
    exact ⟨ret_i64 HC.out.symm, bel_alloc _ _⟩
  · have HC := Lib.hid (clkC_yes (s := sec) (b := base) (by unfold clk; omega))
    go_enter Tryd.func45, Tryd.ntmps45
    go_wp2_with fail
    go_ret
    exact ⟨ret_i64 HC.out.symm, bel_alloc _ _⟩

set_option maxRecDepth 100000 in
set_option maxHeartbeats 1000000 in
theorem refLeast_any (v : Value) (rs : _root_.List Ru) (W : World) (h : Rul v rs W) : Calls Tryd.prog 65 #[v] W fun e w' => e = .returned (.int .i64 (leastL rs)) ∧ w' = W := by
  obtain ⟨A, cap, rfl⟩ := h.sl
  have H := Lib.hid h
  have hn := h.len
  clear h
  obtain ⟨n, hN⟩ : ∃ n, n = rs.length := ⟨_, rfl⟩
  rw [← hN] at hn H ⊢
  have HN := Lib.hid hN
  clear hN
  go_enter Tryd.func65, Tryd.ntmps65
  go_wp2_with fail
  go_loop [3, 4] (fun s i => ∃ k : Nat, k ≤ n ∧ i = .int .i64 (k : Int) ∧ s = .int .i64 (leastL (rs.take k))) (fun _ i => n - (intOf i).toNat)
  case atStart => exact ⟨0, by omega, rfl, rfl⟩
  case round =>
    obtain ⟨k, hk, rfl, rfl⟩ := hrel
    by_cases hlt : k < n
    · obtain ⟨r, hr⟩ : ∃ r, rs[k]? = some r := by rw [_root_.List.getElem?_eq_getElem (by rw [← HN.out]; exact hlt)]; exact ⟨_, rfl⟩
      obtain ⟨g, off, rfl, hrg⟩ := H.out.at_ hr
      obtain ⟨e0, e1, e2, e3, e4, e5, e6, e7, e8, e9, e10⟩ := range11 hrg
      have HS := Lib.hid (leastL_take hr)
      obtain ⟨x, hx⟩ : ∃ x, leastL (rs.take k) = x := ⟨_, rfl⟩
      rw [hx] at HS ⊢
      clear hr hrg hx e0 e1 e2 e3 e4 e5 e6 e7 e8 e10
      by_cases hlx : r.save < x
      · go_wp2_with fail
        go_round
        case rel => exact ⟨k + 1, by omega, by go_num, by rw [HS.out, Int.min_eq_right (by omega)]⟩
        case measure => simp [intOf]; omega
      · have hlx2 : x ≤ r.save := by omega
        go_wp2_with fail
        go_round
        case rel => exact ⟨k + 1, by omega, by go_num, by rw [HS.out, Int.min_eq_left (by omega)]⟩
        case measure => simp [intOf]; omega
    · obtain rfl : n = k := by omega
      go_wp2_with fail
      go_ret
      exact ⟨ret_i64 (by rw [HN.out, _root_.List.take_length]), rfl⟩

set_option maxRecDepth 100000 in
set_option maxHeartbeats 1000000 in
theorem refBase_any (v : Value) (rs : _root_.List Ru) (W : World) (h : Rul v rs W) : Calls Tryd.prog 47 #[v] W fun e w' => e = .returned (.int .i64 (baseL rs)) ∧ w' = W := by
  obtain ⟨x, hx⟩ : ∃ x, leastL rs = x := ⟨_, rfl⟩
  have HX := Lib.hid hx
  have H := Lib.hid h
  clear h
  by_cases hb : x < -10800
  · have HB := Lib.hid (show -10800 = baseL rs by unfold baseL; rw [hx]; omega)
    clear hx
    go_enter Tryd.func47, Tryd.ntmps47
    go_wp2_with fail
    refine (refLeast_any v rs _ (by exact H.out)).mono ?_
    rintro e w' ⟨rfl, rfl⟩
    rw [HX.out]
    go_wp2_with fail
    go_ret
    exact ⟨ret_i64 HB.out, rfl⟩
  · have HB := Lib.hid (show x = baseL rs by unfold baseL; rw [hx]; omega)
    have hb2 : -10800 ≤ x := by omega
    clear hx
    go_enter Tryd.func47, Tryd.ntmps47
    go_wp2_with fail
    refine (refLeast_any v rs _ (by exact H.out)).mono ?_
    rintro e w' ⟨rfl, rfl⟩
    rw [HX.out]
    go_wp2_with fail
    go_ret
    exact ⟨ret_i64 HB.out, rfl⟩
end Go.Proofs.YtghmdaahmijdiaaDoor
