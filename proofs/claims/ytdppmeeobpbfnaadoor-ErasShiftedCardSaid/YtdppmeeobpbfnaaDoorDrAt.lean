/-
  The numbers of a set by numbers (analemmalaw17): at, clock.
-/
import Derived.Test.YtdppmeeobpbfnaaDoorRuMem
import Derived.Test.YtdppmeeobpbfnaaDoorMono
import Derived.Handy
namespace Go.Proofs.YtdppmeeobpbfnaaDoor
open Go.RowKit Cv
set_option linter.unusedVariables false
set_option linter.unusedSimpArgs false

namespace Cv
/-- v reads as the bytes bs -/
def Drf (v : Value) (bs : _root_.List Int) (w : World) : Prop :=
  ∃ (A : Option Addr) (cap : Nat), v = .slice A bs.length cap ∧ bs.length ≤ maxLen ∧ (∀ b ∈ bs, 0 ≤ b ∧ b ≤ 255) ∧ ∀ (i : Nat) (b : Int), bs[i]? = some b → ∃ g off, A = some ⟨g, off, none⟩ ∧ w.cell? ⟨g, off + i, none⟩ = some (.int .u8 b)
theorem Drf.below {v : Value} {bs : _root_.List Int} {A B : World} (h : Drf v bs A) (hb : Below A.heap.size A B) : Drf v bs B := by
  obtain ⟨a, c, h1, h2, h3, h4⟩ := h
  exact ⟨a, c, h1, h2, h3, fun i b hr => by obtain ⟨g, off, e, k⟩ := h4 i b hr; exact ⟨g, off, e, cell_below hb k⟩⟩
theorem Drf.sl {v : Value} {bs : _root_.List Int} {w : World} (h : Drf v bs w) : ∃ (A : Option Addr) (cap : Nat), v = .slice A bs.length cap := by
  obtain ⟨a, c, h1, _⟩ := h; exact ⟨a, c, h1⟩
theorem Drf.len {v : Value} {bs : _root_.List Int} {w : World} (h : Drf v bs w) : bs.length ≤ maxLen := by
  obtain ⟨_, _, _, h2, _⟩ := h; exact h2
theorem Drf.at_ {A : Option Addr} {n cap i : Nat} {bs : _root_.List Int} {w : World} {b : Int} (h : Drf (.slice A n cap) bs w) (hr : bs[i]? = some b) : ∃ g off, A = some ⟨g, off, none⟩ ∧ w.cell? ⟨g, off + i, none⟩ = some (.int .u8 b) := by
  obtain ⟨a, c, h1, _, _, h4⟩ := h
  injection h1 with e1 e2 e3
  subst e1
  exact h4 i b hr
theorem Drf.bd {v : Value} {bs : _root_.List Int} {w : World} (h : Drf v bs w) {i : Nat} {b : Int} (hr : bs[i]? = some b) : 0 ≤ b ∧ b ≤ 255 := by
  obtain ⟨_, _, _, _, h3, _⟩ := h
  exact h3 b (_root_.List.mem_of_getElem? hr)
/-- a number of the draft, below some -/
def atv (bs : _root_.List Int) (i m : Int) : Int := if bs.length = 0 then 0 else ((bs[(i % (bs.length : Int)).toNat]?).getD 0) % m
theorem atv_bd (bs : _root_.List Int) (i m : Int) (h : 1 ≤ m) : 0 ≤ atv bs i m ∧ atv bs i m < m := by
  unfold atv
  split
  · omega
  · exact ⟨Int.emod_nonneg _ (by omega), Int.emod_lt_of_pos _ (by omega)⟩
end Cv

set_option maxRecDepth 100000 in
set_option maxHeartbeats 1000000 in
theorem at_any (v : Value) (bs : _root_.List Int) (i m : Int) (W : World) (h : Drf v bs W) (hi1 : 0 ≤ i) (hi2 : i ≤ 1000) (hm1 : 1 ≤ m) (hm2 : m ≤ 1000) :
    Calls Tryd.prog 28 #[v, .int .i64 i, .int .i64 m] W fun e w' => e = .returned (.int .i64 (atv bs i m)) ∧ w' = W := by
  obtain ⟨A, cap, rfl⟩ := h.sl
  have H := Lib.hid h
  have hl := h.len
  clear h
  unfold maxLen at hl
  obtain ⟨n, hN⟩ : ∃ n, n = bs.length := ⟨_, rfl⟩
  rw [← hN] at hl ⊢
  have HN := Lib.hid hN
  clear hN
  by_cases h0 : n = 0
  · have HX : Hid (0 = atv bs i m) := Lib.hid (by unfold atv; rw [if_pos (by rw [← HN.out, h0])])
    subst h0
    go_enter Tryd.func28, Tryd.ntmps28
    go_wp2_with fail
    go_ret
    exact ⟨ret_i64 HX.out, rfl⟩
  · have hk0 : 0 ≤ i % (n : Int) := Int.emod_nonneg _ (by omega)
    have hkn : i % (n : Int) < n := Int.emod_lt_of_pos _ (by omega)
    obtain ⟨k, hk⟩ : ∃ k : Nat, i % (n : Int) = (k : Int) := ⟨(i % (n : Int)).toNat, by omega⟩
    have hkl : k < n := by omega
    obtain ⟨b, hb⟩ : ∃ b, bs[k]? = some b := by rw [_root_.List.getElem?_eq_getElem (by rw [← HN.out]; exact hkl)]; exact ⟨_, rfl⟩
    obtain ⟨g, off, rfl, hc⟩ := H.out.at_ hb
    obtain ⟨hb1, hb2⟩ := H.out.bd hb
    have HX : Hid (b % m = atv bs i m) := Lib.hid (by unfold atv; rw [if_neg (by rw [← HN.out]; exact h0), ← HN.out, hk, Int.toNat_natCast, hb]; rfl)
    have ht1 : i.tmod (n : Int) = (k : Int) := by rw [Int.tmod_eq_emod_of_nonneg hi1]; exact hk
    have ht2 : b.tmod m = b % m := Int.tmod_eq_emod_of_nonneg hb1
    have hm0 : 0 ≤ b % m := Int.emod_nonneg _ (by omega)
    have hm3 : b % m < m := Int.emod_lt_of_pos _ (by omega)
    clear hk0 hkn hb
    go_enter Tryd.func28, Tryd.ntmps28
    go_wp2_with fail
    go_ret
    exact ⟨ret_i64 HX.out, rfl⟩

theorem at_is {v : Value} {bs : _root_.List Int} {i m x : Int} (hx : Hid (atv bs i m = x)) (hi1 : 0 ≤ i) (hi2 : i ≤ 1000) (hm1 : 1 ≤ m) (hm2 : m ≤ 1000) (W : World) (h : Drf v bs W) :
    Calls Tryd.prog 28 #[v, .int .i64 i, .int .i64 m] W fun e w' => e = .returned (.int .i64 x) ∧ w' = W := by
  obtain rfl := hx.out
  exact at_any v bs i m W h hi1 hi2 hm1 hm2

set_option maxRecDepth 100000 in
set_option maxHeartbeats 1000000 in
theorem clock17_any (v : Value) (bs : _root_.List Int) (i : Int) (W : World) (h : Drf v bs W) (hi1 : 0 ≤ i) (hi2 : i ≤ 900) :
    Calls Tryd.prog 29 #[v, .int .i64 i] W fun e w' => e = .returned (.agg #[.int .i64 (atv bs i 49 * 1800), .int .i64 (atv bs (i + 1) 3)]) ∧ Below W.heap.size W w' := by
  obtain ⟨A, cap, rfl⟩ := h.sl
  have H := Lib.hid h
  obtain ⟨n, hN⟩ : ∃ n, n = bs.length := ⟨_, rfl⟩
  clear h
  rw [← hN] at H ⊢
  clear hN
  obtain ⟨x, hx⟩ : ∃ x, atv bs i 49 = x := ⟨_, rfl⟩
  obtain ⟨y, hy⟩ : ∃ y, atv bs (i + 1) 3 = y := ⟨_, rfl⟩
  have hxb := atv_bd bs i 49 (by decide)
  have hyb := atv_bd bs (i + 1) 3 (by decide)
  rw [hx] at hxb ⊢
  rw [hy] at hyb ⊢
  have HX := Lib.hid hx
  have HY := Lib.hid hy
  obtain ⟨hx1, hx2⟩ := hxb
  obtain ⟨hy1, hy2⟩ := hyb
  clear hx hy
  have HD := Lib.hid (H.out.below (bel_alloc W (.cells #[.int .i64 0, .int .i64 0] 54)))
  go_enter Tryd.func29, Tryd.ntmps29
  go_wp2_with fail
  refine (at_any _ bs i 49 _ (by exact HD.out) (by omega) (by omega) (by decide) (by decide)).mono ?_
  rintro e w' ⟨rfl, rfl⟩
  rw [HX.out]
  go_wp2_with fail
  refine (at_any _ bs (i + 1) 3 _ (by exact HD.out) (by omega) (by omega) (by decide) (by decide)).mono ?_
  rintro e w' ⟨rfl, rfl⟩
  rw [HY.out]
  go_wp2_with fail
  refine bodyPost_ret (results_cell_row rfl _ _ _ _ _ _ _ rfl (heap_alloc_new _ _) Tryd.underlying54 rfl (by kernel_rfl)) rfl ?_
  exact ⟨rfl, bel_alloc _ _⟩
end Go.Proofs.YtdppmeeobpbfnaaDoor
