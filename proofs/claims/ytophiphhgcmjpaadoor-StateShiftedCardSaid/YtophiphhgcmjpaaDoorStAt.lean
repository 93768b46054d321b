/-
  The contract of state.At.
-/
import Derived.Test.YtophiphhgcmjpaaDoorStIns
namespace Go.Proofs.YtophiphhgcmjpaaDoor
open Go.RowKit Cv
set_option linter.unusedVariables false
set_option linter.unusedSimpArgs false

namespace Cv
/-- the state at an instant, looked for from a nominal time back, so many events far -/
def AtIs (rs : _root_.List Ru) (off t : Int) : Nat → Int → Sta → Prop
  | 0, N, s => ∃ o, BefIs rs N o ∧ s = befS rs o
  | n + 1, N, s => (BefIs rs N none ∧ s = initS rs) ∨ ∃ x z, BefIs rs N (some x) ∧ InstIs rs x off z ∧ ((z ≤ t ∧ s = behS rs x) ∨ (t < z ∧ AtIs rs off t n x.nom s))
def AtR (rs : _root_.List Ru) (off t : Int) (W : World) (e : Ending) (w' : World) : Prop := ∃ s, Hid (AtIs rs off t 3 (t + 259200) s) ∧ e = .returned (staV s) ∧ Below W.heap.size W w'
theorem ev_nomfit {rs : _root_.List Ru} {e : Ev} (h : IsEv rs e) : -70000000000000000 ≤ e.nom ∧ e.nom ≤ 70000000000000000 := by
  obtain ⟨r, hr, hh, hn⟩ := h
  have hb := baseL_bd rs
  have h1 := nom_bd hb.1 hb.2 hh
  have h2 := hh.year
  rw [← hn] at h1
  have h7 := fst_far (e.year + 1) 2000000001 (by omega)
  have h8 := fst_far (-2000000000) e.year h2.1
  have h9 : fst 2000000001 ≤ 800000000000 := by decide
  have h10 : -800000000000 ≤ fst (-2000000000) := by decide
  omega
end Cv

set_option maxRecDepth 100000 in
set_option maxHeartbeats 8000000 in
theorem stAt_any (v : Value) (rs : _root_.List Ru) (off t : Int) (W : World) (hT : Tabs W) (h : Rul v rs W) (ht : Tame rs) (hsv : SavOk rs) (ho1 : -1000000000000000000 ≤ off) (ho2 : off ≤ 1000000000000000000) (ht1 : -2000000000000000000 ≤ t) (ht2 : t ≤ 2000000000000000000) :
    Calls Tryd.prog 11 #[v, .int .i64 off, .int .i64 t] W (AtR rs off t W) := by
  obtain ⟨A, cap, rfl⟩ := h.sl
  have HT := Lib.hid hT
  have HR := Lib.hid h
  have HM := Lib.hid ht
  have HV := Lib.hid hsv
  obtain ⟨n, hn⟩ : ∃ n, n = rs.length := ⟨_, rfl⟩
  rw [← hn] at HR ⊢
  have HB0 := Lib.hid (bel_alloc W (.cells #[.int .i64 0, .string ⟨#[]⟩] 39))
  have K0 := Lib.hid (heap_alloc_new W (.cells #[.int .i64 0, .string ⟨#[]⟩] 39))
  clear hT h ht hn hsv
  go_enter Tryd.func11, Tryd.ntmps11
  go_wp2_with fail
  refine (chkAdd_any t 259200 _ (by omega) (by omega) (by omega) (by omega)).mono ?_
  rintro e w' ⟨rfl, rfl⟩
  go_wp2_with fail
  go_loopw [7, 18] (fun nv i wr => ∃ (k : Nat) (N : Int) (wq : World), k ≤ 3 ∧ i = .int .i64 (k : Int) ∧ nv = .int .i64 N ∧ -9223372036854775808 ≤ N ∧ N ≤ 9223372036854775807 ∧ wr = wq ∧ Hid (Below W.heap.size W wq) ∧ Hid (wq.heap[W.heap.size]? = some (.cells #[.int .i64 0, .string ⟨#[]⟩] 39)) ∧ Hid (∀ s, AtIs rs off t (3 - k) N s → AtIs rs off t 3 (t + 259200) s)) (fun _ i _ => 3 - (intOf i).toNat)
  case atStart => exact ⟨0, _, _, by omega, rfl, rfl, by omega, by omega, rfl, HB0, K0, Lib.hid (fun s h => h)⟩
  case round =>
    clear HB0 K0
    obtain ⟨k, N, wq, hk, rfl, rfl, hN1, hN2, rfl, HB, K0, HA⟩ := hrel
    by_cases hlt : k < 3
    · obtain ⟨d, hd⟩ : ∃ d, 3 - k = d + 1 := ⟨2 - k, by omega⟩
      have HA := Lib.hid (show ∀ s, AtIs rs off t (d + 1) N s → AtIs rs off t 3 (t + 259200) s by rw [← hd]; exact HA.out)
      have HD := Lib.hid hd
      have hk1 : (k : Int) < 3 := by omega
      clear hd
      go_wp2_with fail
      refine (evBefore_any _ rs N _ (by exact HT.out.below HB.out) (by exact HR.out.below HB.out) hN1 hN2).mono ?_
      intro e w1 hq; obtain ⟨o, ho, he, hb1⟩ := hq
      cases o with
      | none =>
        obtain rfl : e = .returned (.tuple #[.agg #[.int .i64 0, .int .i64 0, .int .i64 0], .bool false]) := he
        have HX := Lib.hid (bel_trans hb1 (bel_alloc w1 (.cells #[.int .i64 0, .int .i64 0, .int .i64 0] 31)))
        have HB := Lib.hid (bel_trans HB.out HX.out)
        have K1 := Lib.hid (block_below K0.out HX.out)
        have HO := ho
        clear hb1 ho
        go_wp2_with fail
        refine (initial_any _ rs _ (by exact HT.out.below HB.out) (by exact HR.out.below HB.out) HM.out).mono ?_
        intro e w3 hq; obtain ⟨rfl, hb1⟩ := StaR.to (v := .agg #[.int .i64 (initS rs).save, .string (initS rs).le]) rfl _ _ hq; clear hq
        have HB := Lib.hid (bel_trans HB.out hb1)
        have K1 := Lib.hid (block_below K1.out hb1)
        clear hb1
        have x0 := cellB K1.out (i := 0) rfl
        have x1 := cellB K1.out (i := 1) rfl
        have u0 := frzB K1.out 0
        have u1 := frzB K1.out 1
        go_wp2_with fail
        refine bodyPost_ret (res_cell_one rfl _ _ _ _ _ _ _ rfl (setcs (setcs K1.out rfl) rfl) Tryd.underlying39 rfl (by kernel_rfl)) rfl ?_
        exact ⟨initS rs, Lib.hid (HA.out _ (.inl ⟨HO.out, rfl⟩)), rfl, (HB.out.setCell (p := ⟨W.heap.size, 0, none⟩) (Nat.le_refl _) _).setCell (p := ⟨W.heap.size, 1, none⟩) (Nat.le_refl _) _⟩
      | some x =>
        obtain ⟨xy, xr, xn⟩ := x
        obtain rfl : e = .returned (.tuple #[.agg #[.int .i64 xy, .int .i64 xr, .int .i64 xn], .bool true]) := he
        have HZR := Lib.hid (ev_rule ho.out.1)
        obtain ⟨hn1, hn2⟩ := ev_nomfit ho.out.1
        dsimp only at hn1 hn2
        have HX := Lib.hid (bel_trans hb1 (bel_alloc w1 (.cells #[.int .i64 xy, .int .i64 xr, .int .i64 xn] 31)))
        have HB := Lib.hid (bel_trans HB.out HX.out)
        have K1 := Lib.hid (block_below K0.out HX.out)
        have K2 := Lib.hid (heap_alloc_new w1 (.cells #[.int .i64 xy, .int .i64 xr, .int .i64 xn] 31))
        have HO := ho
        clear hb1 ho HX K0
        have y0 := cellB K2.out (i := 0) rfl
        have y1 := cellB K2.out (i := 1) rfl
        have y2 := cellB K2.out (i := 2) rfl
        go_wp2_with fail
        refine (instant_any _ rs xy xr xn off _ (by exact HT.out.below HB.out) (by exact HR.out.below HB.out) HM.out HV.out HZR.out (by omega) (by omega) ho1 ho2).mono ?_
        rintro e w3 ⟨z, hz, rfl, hb1⟩
        have HB := Lib.hid (bel_trans HB.out hb1)
        have K1 := Lib.hid (block_below K1.out hb1)
        have K2 := Lib.hid (block_below K2.out hb1)
        have HZ := hz
        clear hb1 hz y0 y1 y2
        have y0 := cellB K2.out (i := 0) rfl
        have y1 := cellB K2.out (i := 1) rfl
        have y2 := cellB K2.out (i := 2) rfl
        by_cases hzt : z ≤ t
        · go_wp2_with fail
          refine (stBehind_any _ rs xy xr xn _ _ (by exact HR.out.below HB.out) HZR.out rfl).mono ?_
          intro e w4 hq; obtain ⟨rfl, hb1⟩ := StaR.to (v := .agg #[.int .i64 (behS rs ⟨xy, xr, xn⟩).save, .string (behS rs ⟨xy, xr, xn⟩).le]) rfl _ _ hq; clear hq
          have HB := Lib.hid (bel_trans HB.out hb1)
          have K1 := Lib.hid (block_below K1.out hb1)
          have HZT := Lib.hid hzt
          clear hb1 y0 y1 y2 hzt
          have x0 := cellB K1.out (i := 0) rfl
          have x1 := cellB K1.out (i := 1) rfl
          have u0 := frzB K1.out 0
          have u1 := frzB K1.out 1
          go_wp2_with fail
          refine bodyPost_ret (res_cell_one rfl _ _ _ _ _ _ _ rfl (setcs (setcs K1.out rfl) rfl) Tryd.underlying39 rfl (by kernel_rfl)) rfl ?_
          exact ⟨behS rs ⟨xy, xr, xn⟩, Lib.hid (HA.out _ (.inr ⟨_, z, HO.out, HZ.out, .inl ⟨HZT.out, rfl⟩⟩)), rfl, (HB.out.setCell (p := ⟨W.heap.size, 0, none⟩) (Nat.le_refl _) _).setCell (p := ⟨W.heap.size, 1, none⟩) (Nat.le_refl _) _⟩
        · have HA2 := Lib.hid (show ∀ s, AtIs rs off t (3 - (k + 1)) xn s → AtIs rs off t 3 (t + 259200) s from fun s h => HA.out s (.inr ⟨_, z, HO.out, HZ.out, .inr ⟨by omega, by have := HD.out; rw [show 3 - (k + 1) = d by omega] at h; exact h⟩⟩))
          go_wp2_with fail
          clear y0 y1 y2
          go_round
          case rel => exact ⟨k + 1, xn, _, by omega, by go_num, rfl, by omega, by omega, rfl, HB, K1, HA2⟩
          case measure => simp [intOf] <;> omega
    · obtain rfl : k = 3 := by omega
      go_wp2_with fail
      refine (stBefore_any _ rs N _ (by exact HT.out.below HB.out) (by exact HR.out.below HB.out) HM.out hN1 hN2).mono ?_
      intro e w1 hq; obtain ⟨o, ho, he, hb1⟩ := hq
      obtain rfl : e = .returned (.agg #[.int .i64 (befS rs o).save, .string (befS rs o).le]) := he
      have HB := Lib.hid (bel_trans HB.out hb1)
      have K1 := Lib.hid (block_below K0.out hb1)
      clear hb1
      have x0 := cellB K1.out (i := 0) rfl
      have x1 := cellB K1.out (i := 1) rfl
      have u0 := frzB K1.out 0
      have u1 := frzB K1.out 1
      go_wp2_with fail
      refine bodyPost_ret (res_cell_one rfl _ _ _ _ _ _ _ rfl (setcs (setcs K1.out rfl) rfl) Tryd.underlying39 rfl (by kernel_rfl)) rfl ?_
      exact ⟨befS rs o, Lib.hid (HA.out _ ⟨o, ho.out, rfl⟩), rfl, (HB.out.setCell (p := ⟨W.heap.size, 0, none⟩) (Nat.le_refl _) _).setCell (p := ⟨W.heap.size, 1, none⟩) (Nat.le_refl _) _⟩
end Go.Proofs.YtophiphhgcmjpaaDoor
