/-
  The reference's Before and After (analemmaref17).
-/
import Derived.Test.YtpimibchameakaaDoorEvRefM
import Derived.Test.YtpimibchameakaaDoorEvBest
import Derived.Deep.RegionHeld3
namespace Go.Proofs.YtpimibchameakaaDoor
open Go.RowKit Cv
set_option linter.unusedVariables false
set_option linter.unusedSimpArgs false

namespace Cv
theorem new2 (w : World) (o p : Obj) : ((w.alloc o).alloc p).heap[w.heap.size + 1]? = some p := by
  have h := heap_alloc_new (w.alloc o) p
  have e : (w.alloc o).heap.size = w.heap.size + 1 := by simp
  rw [e] at h; exact h
theorem range_of11 {w : World} {g o : Nat} {na le : ByteArray} {fr ut mo kk ww d sec base save : Int} (h : w.cell? ⟨g, o, none⟩ = some (.string na) ∧ w.cell? ⟨g, o + 1, none⟩ = some (.int .i64 fr) ∧ w.cell? ⟨g, o + 2, none⟩ = some (.int .i64 ut) ∧ w.cell? ⟨g, o + 3, none⟩ = some (.int .i64 mo) ∧ w.cell? ⟨g, o + 4, none⟩ = some (.int .i64 kk) ∧ w.cell? ⟨g, o + 5, none⟩ = some (.int .i64 ww) ∧ w.cell? ⟨g, o + 6, none⟩ = some (.int .i64 d) ∧ w.cell? ⟨g, o + 7, none⟩ = some (.int .i64 sec) ∧ w.cell? ⟨g, o + 8, none⟩ = some (.int .i64 base) ∧ w.cell? ⟨g, o + 9, none⟩ = some (.int .i64 save) ∧ w.cell? ⟨g, o + 10, none⟩ = some (.string le)) : w.rangeAt g o (Ru.arr ⟨na, fr, ut, mo, kk, ww, d, sec, base, save, le⟩).toList := by
  intro j u hu
  have hj : j < 11 := (_root_.List.getElem?_eq_some_iff.1 hu).1
  obtain ⟨h0, h1, h2, h3, h4, h5, h6, h7, h8, h9, h10⟩ := h
  have hc : j = 0 ∨ j = 1 ∨ j = 2 ∨ j = 3 ∨ j = 4 ∨ j = 5 ∨ j = 6 ∨ j = 7 ∨ j = 8 ∨ j = 9 ∨ j = 10 := by omega
  rcases hc with rfl | rfl | rfl | rfl | rfl | rfl | rfl | rfl | rfl | rfl | rfl
  · rw [Nat.add_zero, h0]; exact hu
  · rw [h1]; exact hu
  · rw [h2]; exact hu
  · rw [h3]; exact hu
  · rw [h4]; exact hu
  · rw [h5]; exact hu
  · rw [h6]; exact hu
  · rw [h7]; exact hu
  · rw [h8]; exact hu
  · rw [h9]; exact hu
  · rw [h10]; exact hu
theorem near_bd {r : Ru} {q a b : Int} {up : Bool} (h : NearIs r q up a b) (hab : a ≤ b) : -2000000000 ≤ a ∧ b ≤ 2000000000 := by
  have hF : -2000000000 ≤ firstY r := by unfold firstY; omega
  have hL : lastY r ≤ 2000000000 := by unfold lastY; split <;> omega
  cases up with
  | true =>
    obtain ⟨h1, h2, h3⟩ := h.1 rfl
    by_cases h4 : a ≤ lastY r
    · have := h2 h4; omega
    · have := h3 (by omega); omega
  | false =>
    obtain ⟨h1, h2, h3⟩ := h.2 rfl
    by_cases h4 : firstY r ≤ b
    · have := h2 h4; omega
    · have := h3 (by omega); omega
theorem yearD_ex (n : Int) : ∃ y r, YearD n y r := by
  have key : ∀ (k : Nat) (lo : Int), fst lo ≤ n → n < fst (lo + k) → ∃ y, fst y ≤ n ∧ n < fst (y + 1) := by
    intro k
    induction k with
    | zero => intro lo h1 h2; rw [show lo + ((0 : Nat) : Int) = lo by omega] at h2; omega
    | succ k ih =>
      intro lo h1 h2
      by_cases h : n < fst (lo + k)
      · exact ih lo h1 h
      · exact ⟨lo + k, by omega, by rw [show lo + (k : Int) + 1 = lo + ((k + 1 : Nat) : Int) by omega]; exact h2⟩
  obtain ⟨m, hm⟩ : ∃ m : Nat, -(m : Int) ≤ n ∧ n ≤ m := ⟨n.natAbs, by omega⟩
  obtain ⟨y, h1, h2⟩ := key (2 * m + 4000) (-(m : Int) - 1000) (by unfold fst; omega) (by unfold fst; omega)
  have hs := fst_succ y
  exact ⟨y, n - fst y, by omega, by omega, by omega⟩
theorem yearD_uniq {n y r z s : Int} (h : YearD n y r) (k : YearD n z s) : y = z := by
  obtain ⟨h1, h2, h3⟩ := h
  obtain ⟨k1, k2, k3⟩ := k
  have hs := fst_succ y
  have ks := fst_succ z
  rcases Int.lt_trichotomy y z with h | h | h
  · have := fst_mono (y + 1) z (by omega); omega
  · exact h
  · have := fst_mono (z + 1) y (by omega); omega
end Cv

theorem refYearQ {N y r : Int} (hN1 : -9223372036854775808 ≤ N) (hN2 : N ≤ 9223372036854775807) (hy : YearD (N / 86400) y r) (V : World) : Calls Tryd.prog 45 #[.int .i64 N] V fun e w' => e = .returned (.int .i64 (clamp y)) ∧ w' = V :=
  (refYearS_any N V hN1 hN2).mono fun e w' ⟨⟨y', r', h', he⟩, hw⟩ => ⟨by rw [he, yearD_uniq h'.out hy], hw.symm⟩

set_option maxRecDepth 100000 in
set_option maxHeartbeats 16000000 in
theorem refBefore_any (v : Value) (rs : _root_.List Ru) (N : Int) (W : World) (h : Rul v rs W) (hN1 : -9223372036854775808 ≤ N) (hN2 : N ≤ 9223372036854775807) :
    Calls Tryd.prog 18 #[v, .int .i64 N] W (LookR (BefIs rs N) W) := by
  obtain ⟨yy, rr, hyd⟩ := yearD_ex (N / 86400)
  have HYO := Lib.hid (yearOf_d hyd)
  have HY := Lib.hid (fun V => refYearQ hN1 hN2 hyd V)
  obtain ⟨q, hq⟩ : ∃ q, clamp yy = q := ⟨_, rfl⟩
  have hqb : -2000000000 ≤ q ∧ q ≤ 2000000000 := by rw [← hq]; exact ⟨HYO.out.lo, HYO.out.hi⟩
  rw [hq] at HYO HY
  obtain ⟨hqb1, hqb2⟩ := hqb
  clear hyd hq
  obtain ⟨A, cap, rfl⟩ := h.sl
  have H := Lib.hid h
  have hn := h.len
  clear h
  obtain ⟨n, hN⟩ : ∃ n, n = rs.length := ⟨_, rfl⟩
  rw [← hN] at hn H ⊢
  have HN := Lib.hid hN
  clear hN
  go_enter Tryd.func18, Tryd.ntmps18
  go_wp2_with fail
  go_loopw [7, 8] (fun f i wr => ∃ (k : Nat) (wq : World), k ≤ n ∧ i = .int .i64 (k : Int) ∧ wr = wq ∧ Hid (Below W.heap.size W wq) ∧ Hid (wq.heap[W.heap.size]? = some (.cells #[.int .i64 0, .int .i64 0, .int .i64 0] 34)) ∧ (((f = .bool false) ∧ Hid (wq.heap[W.heap.size + 1]? = some (evC none)) ∧ Hid (MaxOf (fun e => PG rs (fun x => x < N) (fun r y => InDn r q y) e ∧ e.rule < (k : Int)) none)) ∨ (∃ ey er en : Int, f = .bool true ∧ Hid (wq.heap[W.heap.size + 1]? = some (evC (some ⟨ey, er, en⟩))) ∧ Hid (MaxOf (fun e => PG rs (fun x => x < N) (fun r y => InDn r q y) e ∧ e.rule < (k : Int)) (some ⟨ey, er, en⟩))))) (fun _ i _ => n - (intOf i).toNat)
  case atStart => exact ⟨0, _, by omega, rfl, rfl, Lib.hid (bel_trans (bel_alloc _ _) (bel_alloc _ _)), Lib.hid (block_below (heap_alloc_new _ _) (bel_alloc _ _)), .inl ⟨rfl, Lib.hid (new2 _ _ _), Lib.hid (fun e => pg_zero e)⟩⟩
  case round =>
    obtain ⟨k, wq, hk, rfl, rfl, HB, HR4, hst⟩ := hrel
    by_cases hlt : k < n
    · obtain ⟨r, hr⟩ : ∃ r, rs[k]? = some r := by rw [_root_.List.getElem?_eq_getElem (by rw [← HN.out]; exact hlt)]; exact ⟨_, rfl⟩
      obtain ⟨g, off, rfl, hrg⟩ := H.out.at_ hr
      have hfit := H.out.fits hr
      obtain ⟨na, fr, ut, mo, kk, w, d, sec, base, save, le⟩ := r
      have hS := range11 (range_below (Below.drew HB.out) hrg)
      dsimp only at hS
      have HS := Lib.hid hS
      have HNR := Lib.hid (fun V => refNear_false na fr ut mo kk w d sec base save le q V hqb1 hqb2 hfit.1.1 hfit.1.2 hfit.2.1.1)
      have HRK := Lib.hid hr
      clear hr hrg hfit
      go_wp2_with fail
      clear hS
      have HST := Lib.hid hst
      clear hst
      go_region_held3 (fun w' => w'.cell? ⟨g, off + k * 11, none⟩ = some (.string na) ∧ w'.cell? ⟨g, off + k * 11 + 1, none⟩ = some (.int .i64 fr) ∧ w'.cell? ⟨g, off + k * 11 + 2, none⟩ = some (.int .i64 ut) ∧ w'.cell? ⟨g, off + k * 11 + 3, none⟩ = some (.int .i64 mo) ∧ w'.cell? ⟨g, off + k * 11 + 4, none⟩ = some (.int .i64 kk) ∧ w'.cell? ⟨g, off + k * 11 + 5, none⟩ = some (.int .i64 w) ∧ w'.cell? ⟨g, off + k * 11 + 6, none⟩ = some (.int .i64 d) ∧ w'.cell? ⟨g, off + k * 11 + 7, none⟩ = some (.int .i64 sec) ∧ w'.cell? ⟨g, off + k * 11 + 8, none⟩ = some (.int .i64 base) ∧ w'.cell? ⟨g, off + k * 11 + 9, none⟩ = some (.int .i64 save) ∧ w'.cell? ⟨g, off + k * 11 + 10, none⟩ = some (.string le))
        (first | exact HS.out | exact range11 (range_below hb3 (range_of11 HS.out)))
        (first
         | (go_at_call 45; (with_reducible refine (HY.out _).mono ?_); rintro e w' ⟨rfl, rfl⟩)
         | (go_at_call 44; (with_reducible refine (HNR.out _).mono ?_); rintro e w3 ⟨lo, hi, hnear, rfl, hb3⟩))
      have HBn := Lib.hid (bel_trans (Below.drew HB.out) hb3)
      have HR4n := Lib.hid (block_below (show wr.drew.heap[W.heap.size]? = some (.cells #[.int .i64 0, .int .i64 0, .int .i64 0] 34) from HR4.out) hb3)
      have HSTn : Hid (((u7 = .bool false) ∧ Hid (w3.heap[W.heap.size + 1]? = some (evC none)) ∧ Hid (MaxOf (fun e => PG rs (fun x => x < N) (fun r y => InDn r q y) e ∧ e.rule < (k : Int)) none)) ∨ (∃ ey er en : Int, u7 = .bool true ∧ Hid (w3.heap[W.heap.size + 1]? = some (evC (some ⟨ey, er, en⟩))) ∧ Hid (MaxOf (fun e => PG rs (fun x => x < N) (fun r y => InDn r q y) e ∧ e.rule < (k : Int)) (some ⟨ey, er, en⟩)))) := Lib.hid (by
        rcases HST.out with ⟨hf, h6, hm⟩ | ⟨ey, er, en, hf, h6, hm⟩
        · exact .inl ⟨hf, Lib.hid (block_below (show wr.drew.heap[W.heap.size + 1]? = _ from h6.out) hb3), hm⟩
        · exact .inr ⟨ey, er, en, hf, Lib.hid (block_below (show wr.drew.heap[W.heap.size + 1]? = _ from h6.out) hb3), hm⟩)
      clear HST HS HB HR4 hb3
      go_wp2_with fail
      go_loopw [7, 11] (fun f i wx => ∃ (t : Int) (wz : World), lo ≤ t ∧ (t ≤ hi + 1 ∨ t = lo) ∧ i = .int .i64 t ∧ wx = wz ∧ Hid (Below W.heap.size W wz) ∧ Hid (wz.heap[W.heap.size]? = some (.cells #[.int .i64 0, .int .i64 0, .int .i64 0] 34)) ∧ (((f = .bool false) ∧ Hid (wz.heap[W.heap.size + 1]? = some (evC none)) ∧ Hid (MaxOf (PI rs (fun x => x < N) (fun r y => InDn r q y) (k : Int) lo t) none)) ∨ (∃ ey er en : Int, f = .bool true ∧ Hid (wz.heap[W.heap.size + 1]? = some (evC (some ⟨ey, er, en⟩))) ∧ Hid (MaxOf (PI rs (fun x => x < N) (fun r y => InDn r q y) (k : Int) lo t) (some ⟨ey, er, en⟩))))) (fun _ i _ => (hi + 1 - intOf i).toNat)
      case atStart =>
        refine ⟨lo, _, by omega, .inr rfl, rfl, rfl, HBn, HR4n, ?_⟩
        rcases HSTn.out with ⟨hf, h6, hm⟩ | ⟨ey, er, en, hf, h6, hm⟩
        · exact .inl ⟨hf, h6, Lib.hid (MaxOf.congr hm.out (fun e => pi_start e))⟩
        · exact .inr ⟨ey, er, en, hf, h6, Lib.hid (MaxOf.congr hm.out (fun e => pi_start e))⟩
      case round =>
        clear HBn HR4n HSTn
        obtain ⟨t, wz, ht1, ht2, rfl, rfl, HBz, HR4z, hst⟩ := hrel
        by_cases htl : t ≤ hi
        · obtain ⟨hbd1, hbd2⟩ := near_bd hnear.out (by omega)
          have HST := Lib.hid hst
          clear hst
          go_wp2_with fail
          refine (refEvOn_any (.slice (some ⟨g, off, none⟩) n cap) rs (k : Int) t _ (by exact H.out.below HBz.out) (by omega) (by omega)).mono ?_
          intro e w5 hq
          cases ho : evOn rs (k : Int) t with
          | none =>
            rw [ho] at hq
            obtain ⟨rfl, hb5⟩ := EvR.to (o := none) (v := .tuple #[.agg #[.int .i64 0, .int .i64 0, .int .i64 0], .bool false]) rfl _ _ hq; clear hq
            have HB5 := Lib.hid (bel_trans (bel_trans HBz.out hb5) (bel_alloc w5 (.cells #[.int .i64 0, .int .i64 0, .int .i64 0] 34)))
            have HR5 := Lib.hid (block_below HR4z.out (bel_trans hb5 (bel_alloc w5 (.cells #[.int .i64 0, .int .i64 0, .int .i64 0] 34))))
            have HX := Lib.hid (pi_no (C := (fun x => x < N)) (R := (fun r y => InDn r q y)) (a := lo) (fun ev h => by rw [ho] at h; cases h))
            rcases HST.out with ⟨rfl, h6, hm⟩ | ⟨ey, er, en, rfl, h6, hm⟩
            · have h7 := Lib.hid (block_below h6.out (bel_trans hb5 (bel_alloc w5 (.cells #[.int .i64 0, .int .i64 0, .int .i64 0] 34))))
              clear hb5 ho HST h6
              go_wp2_with fail
              go_round
              case rel => exact ⟨t + 1, _, by omega, by omega, rfl, rfl, HB5, HR5, .inl ⟨rfl, h7, Lib.hid (MaxOf.congr hm.out HX.out)⟩⟩
              case measure => simp [intOf]; omega
            · have h7 := Lib.hid (block_below h6.out (bel_trans hb5 (bel_alloc w5 (.cells #[.int .i64 0, .int .i64 0, .int .i64 0] 34))))
              clear hb5 ho HST h6
              go_wp2_with fail
              go_round
              case rel => exact ⟨t + 1, _, by omega, by omega, rfl, rfl, HB5, HR5, .inr ⟨ey, er, en, rfl, h7, Lib.hid (MaxOf.congr hm.out HX.out)⟩⟩
              case measure => simp [intOf]; omega
          | some ev =>
            obtain ⟨_, hru, hye⟩ := evOn_is ho
            obtain ⟨ty, tk, nm⟩ := ev
            dsimp only at hru hye
            have hye2 := hye.symm
            subst hru hye2
            clear hye
            rw [ho] at hq
            obtain ⟨rfl, hb5⟩ := EvR.to (o := some ⟨t, (k : Int), nm⟩) (v := .tuple #[.agg #[.int .i64 t, .int .i64 (k : Int), .int .i64 nm], .bool true]) rfl _ _ hq; clear hq
            have HB5 := Lib.hid (bel_trans (bel_trans HBz.out hb5) (bel_alloc w5 (.cells #[.int .i64 t, .int .i64 (k : Int), .int .i64 nm] 34)))
            have HR5 := Lib.hid (block_below HR4z.out (bel_trans hb5 (bel_alloc w5 (.cells #[.int .i64 t, .int .i64 (k : Int), .int .i64 nm] 34))))
            have HE5 := Lib.hid (heap_alloc_new w5 (.cells #[.int .i64 t, .int .i64 (k : Int), .int .i64 nm] 34))
            have HO := Lib.hid ho
            by_cases hcn : nm < N
            · have HX := Lib.hid (pi_yes (C := (fun x => x < N)) (R := (fun r y => InDn r q y)) (a := lo) ho hcn ht1)
              rcases HST.out with ⟨rfl, h6, hm⟩ | ⟨ey, er, en, rfl, h6, hm⟩
              · have h7 := Lib.hid (show (w5.alloc (.cells #[.int .i64 t, .int .i64 (k : Int), .int .i64 nm] 34)).heap[W.heap.size + 1]? = some (.cells #[.int .i64 0, .int .i64 0, .int .i64 0] 34) from block_below h6.out (bel_trans hb5 (bel_alloc w5 (.cells #[.int .i64 t, .int .i64 (k : Int), .int .i64 nm] 34))))
                clear hb5 ho HST h6
                have y0 := cellB h7.out (i := 0) rfl
                have y1 := cellB h7.out (i := 1) rfl
                have y2 := cellB h7.out (i := 2) rfl
                have f0 := frzB h7.out 0
                have f1 := frzB h7.out 1
                have f2 := frzB h7.out 2
                have c0 := cellB HE5.out (i := 0) rfl
                have c1 := cellB HE5.out (i := 1) rfl
                have c2 := cellB HE5.out (i := 2) rfl
                go_wp2_with fail
                go_round
                case rel => exact ⟨t + 1, _, by omega, by omega, rfl, rfl, Lib.hid (bel_setCells (b := W.heap.size + 1) (o := 0) (l := [.int .i64 t, .int .i64 (k : Int), .int .i64 nm]) HB5.out (Nat.le_succ _)), Lib.hid (block_setCells (c := W.heap.size + 1) (o := 0) (l := [.int .i64 t, .int .i64 (k : Int), .int .i64 nm]) HR5.out (by omega)), .inr ⟨t, (k : Int), nm, rfl, Lib.hid (set3c (d0 := .int .i64 t) (d1 := .int .i64 (k : Int)) (d2 := .int .i64 nm) h7.out), Lib.hid (MaxOf.congr (MaxOf.first hm.out) HX.out)⟩⟩
                case measure => simp [intOf]; omega
              · have h7 := Lib.hid (show (w5.alloc (.cells #[.int .i64 t, .int .i64 (k : Int), .int .i64 nm] 34)).heap[W.heap.size + 1]? = some (.cells #[.int .i64 ey, .int .i64 er, .int .i64 en] 34) from block_below h6.out (bel_trans hb5 (bel_alloc w5 (.cells #[.int .i64 t, .int .i64 (k : Int), .int .i64 nm] 34))))
                clear hb5 ho HST h6
                have y0 := cellB h7.out (i := 0) rfl
                have y1 := cellB h7.out (i := 1) rfl
                have y2 := cellB h7.out (i := 2) rfl
                have c0 := cellB HE5.out (i := 0) rfl
                have c1 := cellB HE5.out (i := 1) rfl
                have c2 := cellB HE5.out (i := 2) rfl
                go_wp2_with fail
                by_cases hl : Ev.lt ⟨ey, er, en⟩ ⟨t, (k : Int), nm⟩
                · refine (refLess_any ey er en t (k : Int) nm true _ (Lib.hid (by simpa using hl))).mono ?_
                  rintro e w7 ⟨rfl, hb7⟩
                  have HB7 := Lib.hid (bel_trans HB5.out hb7)
                  have HR7 := Lib.hid (block_below HR5.out hb7)
                  have HE7 := Lib.hid (block_below HE5.out hb7)
                  have h8 := Lib.hid (block_below h7.out hb7)
                  clear y0 y1 y2 c0 c1 c2 hb7 HB5 HR5 HE5 h7
                  have y0 := cellB h8.out (i := 0) rfl
                  have y1 := cellB h8.out (i := 1) rfl
                  have y2 := cellB h8.out (i := 2) rfl
                  have f0 := frzB h8.out 0
                  have f1 := frzB h8.out 1
                  have f2 := frzB h8.out 2
                  have c0 := cellB HE7.out (i := 0) rfl
                  have c1 := cellB HE7.out (i := 1) rfl
                  have c2 := cellB HE7.out (i := 2) rfl
                  go_wp2_with fail
                  go_round
                  case rel => exact ⟨t + 1, _, by omega, by omega, rfl, rfl, Lib.hid (bel_setCells (b := W.heap.size + 1) (o := 0) (l := [.int .i64 t, .int .i64 (k : Int), .int .i64 nm]) HB7.out (Nat.le_succ _)), Lib.hid (block_setCells (c := W.heap.size + 1) (o := 0) (l := [.int .i64 t, .int .i64 (k : Int), .int .i64 nm]) HR7.out (by omega)), .inr ⟨t, (k : Int), nm, rfl, Lib.hid (set3c (d0 := .int .i64 t) (d1 := .int .i64 (k : Int)) (d2 := .int .i64 nm) h8.out), Lib.hid (MaxOf.congr (MaxOf.new hm.out hl) HX.out)⟩⟩
                  case measure => simp [intOf]; omega
                · refine (refLess_any ey er en t (k : Int) nm false _ (Lib.hid (by simpa using hl))).mono ?_
                  rintro e w7 ⟨rfl, hb7⟩
                  have HB7 := Lib.hid (bel_trans HB5.out hb7)
                  have HR7 := Lib.hid (block_below HR5.out hb7)
                  have h8 := Lib.hid (block_below h7.out hb7)
                  clear y0 y1 y2 c0 c1 c2 hb7 HB5 HR5 HE5 h7
                  go_wp2_with fail
                  go_round
                  case rel => exact ⟨t + 1, _, by omega, by omega, rfl, rfl, HB7, HR7, .inr ⟨ey, er, en, rfl, h8, Lib.hid (MaxOf.congr (MaxOf.old hm.out hl) HX.out)⟩⟩
                  case measure => simp [intOf]; omega
            · have HX := Lib.hid (pi_no (C := (fun x => x < N)) (R := (fun r y => InDn r q y)) (a := lo) (fun ev h => by rw [ho] at h; cases h; exact hcn))
              have hcn2 : N ≤ nm := by omega
              have cc2 := cellB HE5.out (i := 2) rfl
              rcases HST.out with ⟨rfl, h6, hm⟩ | ⟨ey, er, en, rfl, h6, hm⟩
              · have h7 := Lib.hid (block_below h6.out (bel_trans hb5 (bel_alloc w5 (.cells #[.int .i64 t, .int .i64 (k : Int), .int .i64 nm] 34))))
                clear hb5 ho HST h6
                go_wp2_with fail
                go_round
                case rel => exact ⟨t + 1, _, by omega, by omega, rfl, rfl, HB5, HR5, .inl ⟨rfl, h7, Lib.hid (MaxOf.congr hm.out HX.out)⟩⟩
                case measure => simp [intOf]; omega
              · have h7 := Lib.hid (block_below h6.out (bel_trans hb5 (bel_alloc w5 (.cells #[.int .i64 t, .int .i64 (k : Int), .int .i64 nm] 34))))
                clear hb5 ho HST h6
                go_wp2_with fail
                go_round
                case rel => exact ⟨t + 1, _, by omega, by omega, rfl, rfl, HB5, HR5, .inr ⟨ey, er, en, rfl, h7, Lib.hid (MaxOf.congr hm.out HX.out)⟩⟩
                case measure => simp [intOf]; omega
        · have HEND := Lib.hid (pi_end (C := (fun x => x < N)) (R := (fun r y => InDn r q y)) HRK.out (fun y => hnear.out.dn y) (by omega : hi < t) ht2)
          rcases hst with ⟨rfl, h6, hm⟩ | ⟨ey, er, en, rfl, h6, hm⟩
          · go_wp2_with fail
            exact ⟨⟨k + 1, _, by omega, by go_num, rfl, HBz, HR4z, .inl ⟨rfl, h6, Lib.hid (MaxOf.congr hm.out HEND.out)⟩⟩, by simp [intOf]; omega⟩
          · go_wp2_with fail
            exact ⟨⟨k + 1, _, by omega, by go_num, rfl, HBz, HR4z, .inr ⟨ey, er, en, rfl, h6, Lib.hid (MaxOf.congr hm.out HEND.out)⟩⟩, by simp [intOf]; omega⟩
    · obtain rfl : n = k := by omega
      rcases hst with ⟨rfl, h6, hm⟩ | ⟨ey, er, en, rfl, h6, hm⟩
      · have h7 := Lib.hid (show wr.heap[W.heap.size + 1]? = some (.cells #[.int .i64 0, .int .i64 0, .int .i64 0] 34) from h6.out)
        have HP := Lib.hid (bef_of HYO.out (MaxOf.congr hm.out (fun e => pg_full HN.out e)))
        have y0 := cellB HR4.out (i := 0) rfl
        have y1 := cellB HR4.out (i := 1) rfl
        have y2 := cellB HR4.out (i := 2) rfl
        have f0 := frzB HR4.out 0
        have f1 := frzB HR4.out 1
        have f2 := frzB HR4.out 2
        have c0 := cellB h7.out (i := 0) rfl
        have c1 := cellB h7.out (i := 1) rfl
        have c2 := cellB h7.out (i := 2) rfl
        go_wp2_with fail
        refine bodyPost_ret (res_cell_tmp rfl _ _ _ _ _ _ _ rfl (set3c HR4.out) Tryd.underlying34 rfl (by kernel_rfl)) rfl ?_
        exact LookR.none_ HP.out (bel_setCells (o := 0) (l := [.int .i64 0, .int .i64 0, .int .i64 0]) HB.out (Nat.le_refl _))
      · have h7 := Lib.hid (show wr.heap[W.heap.size + 1]? = some (.cells #[.int .i64 ey, .int .i64 er, .int .i64 en] 34) from h6.out)
        have HP := Lib.hid (bef_of HYO.out (MaxOf.congr hm.out (fun e => pg_full HN.out e)))
        have y0 := cellB HR4.out (i := 0) rfl
        have y1 := cellB HR4.out (i := 1) rfl
        have y2 := cellB HR4.out (i := 2) rfl
        have f0 := frzB HR4.out 0
        have f1 := frzB HR4.out 1
        have f2 := frzB HR4.out 2
        have c0 := cellB h7.out (i := 0) rfl
        have c1 := cellB h7.out (i := 1) rfl
        have c2 := cellB h7.out (i := 2) rfl
        go_wp2_with fail
        refine bodyPost_ret (res_cell_tmp rfl _ _ _ _ _ _ _ rfl (set3c HR4.out) Tryd.underlying34 rfl (by kernel_rfl)) rfl ?_
        exact LookR.some_ HP.out (bel_setCells (o := 0) (l := [.int .i64 ey, .int .i64 er, .int .i64 en]) HB.out (Nat.le_refl _))

set_option maxRecDepth 100000 in
set_option maxHeartbeats 16000000 in
theorem refAfter_any (v : Value) (rs : _root_.List Ru) (N : Int) (W : World) (h : Rul v rs W) (hN1 : -9223372036854775808 ≤ N) (hN2 : N ≤ 9223372036854775807) :
    Calls Tryd.prog 19 #[v, .int .i64 N] W (LookR (AftIs rs N) W) := by
  obtain ⟨yy, rr, hyd⟩ := yearD_ex (N / 86400)
  have HYO := Lib.hid (yearOf_d hyd)
  have HY := Lib.hid (fun V => refYearQ hN1 hN2 hyd V)
  obtain ⟨q, hq⟩ : ∃ q, clamp yy = q := ⟨_, rfl⟩
  have hqb : -2000000000 ≤ q ∧ q ≤ 2000000000 := by rw [← hq]; exact ⟨HYO.out.lo, HYO.out.hi⟩
  rw [hq] at HYO HY
  obtain ⟨hqb1, hqb2⟩ := hqb
  clear hyd hq
  obtain ⟨A, cap, rfl⟩ := h.sl
  have H := Lib.hid h
  have hn := h.len
  clear h
  obtain ⟨n, hN⟩ : ∃ n, n = rs.length := ⟨_, rfl⟩
  rw [← hN] at hn H ⊢
  have HN := Lib.hid hN
  clear hN
  go_enter Tryd.func19, Tryd.ntmps19
  go_wp2_with fail
  go_loopw [7, 8] (fun f i wr => ∃ (k : Nat) (wq : World), k ≤ n ∧ i = .int .i64 (k : Int) ∧ wr = wq ∧ Hid (Below W.heap.size W wq) ∧ Hid (wq.heap[W.heap.size]? = some (.cells #[.int .i64 0, .int .i64 0, .int .i64 0] 34)) ∧ (((f = .bool false) ∧ Hid (wq.heap[W.heap.size + 1]? = some (evC none)) ∧ Hid (MinOf (fun e => PG rs (fun x => N < x) (fun r y => InUp r q y) e ∧ e.rule < (k : Int)) none)) ∨ (∃ ey er en : Int, f = .bool true ∧ Hid (wq.heap[W.heap.size + 1]? = some (evC (some ⟨ey, er, en⟩))) ∧ Hid (MinOf (fun e => PG rs (fun x => N < x) (fun r y => InUp r q y) e ∧ e.rule < (k : Int)) (some ⟨ey, er, en⟩))))) (fun _ i _ => n - (intOf i).toNat)
  case atStart => exact ⟨0, _, by omega, rfl, rfl, Lib.hid (bel_trans (bel_alloc _ _) (bel_alloc _ _)), Lib.hid (block_below (heap_alloc_new _ _) (bel_alloc _ _)), .inl ⟨rfl, Lib.hid (new2 _ _ _), Lib.hid (fun e => pg_zero e)⟩⟩
  case round =>
    obtain ⟨k, wq, hk, rfl, rfl, HB, HR4, hst⟩ := hrel
    by_cases hlt : k < n
    · obtain ⟨r, hr⟩ : ∃ r, rs[k]? = some r := by rw [_root_.List.getElem?_eq_getElem (by rw [← HN.out]; exact hlt)]; exact ⟨_, rfl⟩
      obtain ⟨g, off, rfl, hrg⟩ := H.out.at_ hr
      have hfit := H.out.fits hr
      obtain ⟨na, fr, ut, mo, kk, w, d, sec, base, save, le⟩ := r
      have hS := range11 (range_below (Below.drew HB.out) hrg)
      dsimp only at hS
      have HS := Lib.hid hS
      have HNR := Lib.hid (fun V => refNear_true na fr ut mo kk w d sec base save le q V hqb1 hqb2 hfit.1.1 hfit.1.2 hfit.2.1.1)
      have HRK := Lib.hid hr
      clear hr hrg hfit
      go_wp2_with fail
      clear hS
      have HST := Lib.hid hst
      clear hst
      go_region_held3 (fun w' => w'.cell? ⟨g, off + k * 11, none⟩ = some (.string na) ∧ w'.cell? ⟨g, off + k * 11 + 1, none⟩ = some (.int .i64 fr) ∧ w'.cell? ⟨g, off + k * 11 + 2, none⟩ = some (.int .i64 ut) ∧ w'.cell? ⟨g, off + k * 11 + 3, none⟩ = some (.int .i64 mo) ∧ w'.cell? ⟨g, off + k * 11 + 4, none⟩ = some (.int .i64 kk) ∧ w'.cell? ⟨g, off + k * 11 + 5, none⟩ = some (.int .i64 w) ∧ w'.cell? ⟨g, off + k * 11 + 6, none⟩ = some (.int .i64 d) ∧ w'.cell? ⟨g, off + k * 11 + 7, none⟩ = some (.int .i64 sec) ∧ w'.cell? ⟨g, off + k * 11 + 8, none⟩ = some (.int .i64 base) ∧ w'.cell? ⟨g, off + k * 11 + 9, none⟩ = some (.int .i64 save) ∧ w'.cell? ⟨g, off + k * 11 + 10, none⟩ = some (.string le))
        (first | exact HS.out | exact range11 (range_below hb3 (range_of11 HS.out)))
        (first
         | (go_at_call 45; (with_reducible refine (HY.out _).mono ?_); rintro e w' ⟨rfl, rfl⟩)
         | (go_at_call 44; (with_reducible refine (HNR.out _).mono ?_); rintro e w3 ⟨lo, hi, hnear, rfl, hb3⟩))
      have HBn := Lib.hid (bel_trans (Below.drew HB.out) hb3)
      have HR4n := Lib.hid (block_below (show wr.drew.heap[W.heap.size]? = some (.cells #[.int .i64 0, .int .i64 0, .int .i64 0] 34) from HR4.out) hb3)
      have HSTn : Hid (((u7 = .bool false) ∧ Hid (w3.heap[W.heap.size + 1]? = some (evC none)) ∧ Hid (MinOf (fun e => PG rs (fun x => N < x) (fun r y => InUp r q y) e ∧ e.rule < (k : Int)) none)) ∨ (∃ ey er en : Int, u7 = .bool true ∧ Hid (w3.heap[W.heap.size + 1]? = some (evC (some ⟨ey, er, en⟩))) ∧ Hid (MinOf (fun e => PG rs (fun x => N < x) (fun r y => InUp r q y) e ∧ e.rule < (k : Int)) (some ⟨ey, er, en⟩)))) := Lib.hid (by
        rcases HST.out with ⟨hf, h6, hm⟩ | ⟨ey, er, en, hf, h6, hm⟩
        · exact .inl ⟨hf, Lib.hid (block_below (show wr.drew.heap[W.heap.size + 1]? = _ from h6.out) hb3), hm⟩
        · exact .inr ⟨ey, er, en, hf, Lib.hid (block_below (show wr.drew.heap[W.heap.size + 1]? = _ from h6.out) hb3), hm⟩)
      clear HST HS HB HR4 hb3
      go_wp2_with fail
      go_loopw [7, 11] (fun f i wx => ∃ (t : Int) (wz : World), lo ≤ t ∧ (t ≤ hi + 1 ∨ t = lo) ∧ i = .int .i64 t ∧ wx = wz ∧ Hid (Below W.heap.size W wz) ∧ Hid (wz.heap[W.heap.size]? = some (.cells #[.int .i64 0, .int .i64 0, .int .i64 0] 34)) ∧ (((f = .bool false) ∧ Hid (wz.heap[W.heap.size + 1]? = some (evC none)) ∧ Hid (MinOf (PI rs (fun x => N < x) (fun r y => InUp r q y) (k : Int) lo t) none)) ∨ (∃ ey er en : Int, f = .bool true ∧ Hid (wz.heap[W.heap.size + 1]? = some (evC (some ⟨ey, er, en⟩))) ∧ Hid (MinOf (PI rs (fun x => N < x) (fun r y => InUp r q y) (k : Int) lo t) (some ⟨ey, er, en⟩))))) (fun _ i _ => (hi + 1 - intOf i).toNat)
      case atStart =>
        refine ⟨lo, _, by omega, .inr rfl, rfl, rfl, HBn, HR4n, ?_⟩
        rcases HSTn.out with ⟨hf, h6, hm⟩ | ⟨ey, er, en, hf, h6, hm⟩
        · exact .inl ⟨hf, h6, Lib.hid (MinOf.congr hm.out (fun e => pi_start e))⟩
        · exact .inr ⟨ey, er, en, hf, h6, Lib.hid (MinOf.congr hm.out (fun e => pi_start e))⟩
      case round =>
        clear HBn HR4n HSTn
        obtain ⟨t, wz, ht1, ht2, rfl, rfl, HBz, HR4z, hst⟩ := hrel
        by_cases htl : t ≤ hi
        · obtain ⟨hbd1, hbd2⟩ := near_bd hnear.out (by omega)
          have HST := Lib.hid hst
          clear hst
          go_wp2_with fail
          refine (refEvOn_any (.slice (some ⟨g, off, none⟩) n cap) rs (k : Int) t _ (by exact H.out.below HBz.out) (by omega) (by omega)).mono ?_
          intro e w5 hq
          cases ho : evOn rs (k : Int) t with
          | none =>
            rw [ho] at hq
            obtain ⟨rfl, hb5⟩ := EvR.to (o := none) (v := .tuple #[.agg #[.int .i64 0, .int .i64 0, .int .i64 0], .bool false]) rfl _ _ hq; clear hq
            have HB5 := Lib.hid (bel_trans (bel_trans HBz.out hb5) (bel_alloc w5 (.cells #[.int .i64 0, .int .i64 0, .int .i64 0] 34)))
            have HR5 := Lib.hid (block_below HR4z.out (bel_trans hb5 (bel_alloc w5 (.cells #[.int .i64 0, .int .i64 0, .int .i64 0] 34))))
            have HX := Lib.hid (pi_no (C := (fun x => N < x)) (R := (fun r y => InUp r q y)) (a := lo) (fun ev h => by rw [ho] at h; cases h))
            rcases HST.out with ⟨rfl, h6, hm⟩ | ⟨ey, er, en, rfl, h6, hm⟩
            · have h7 := Lib.hid (block_below h6.out (bel_trans hb5 (bel_alloc w5 (.cells #[.int .i64 0, .int .i64 0, .int .i64 0] 34))))
              clear hb5 ho HST h6
              go_wp2_with fail
              go_round
              case rel => exact ⟨t + 1, _, by omega, by omega, rfl, rfl, HB5, HR5, .inl ⟨rfl, h7, Lib.hid (MinOf.congr hm.out HX.out)⟩⟩
              case measure => simp [intOf]; omega
            · have h7 := Lib.hid (block_below h6.out (bel_trans hb5 (bel_alloc w5 (.cells #[.int .i64 0, .int .i64 0, .int .i64 0] 34))))
              clear hb5 ho HST h6
              go_wp2_with fail
              go_round
              case rel => exact ⟨t + 1, _, by omega, by omega, rfl, rfl, HB5, HR5, .inr ⟨ey, er, en, rfl, h7, Lib.hid (MinOf.congr hm.out HX.out)⟩⟩
              case measure => simp [intOf]; omega
          | some ev =>
            obtain ⟨_, hru, hye⟩ := evOn_is ho
            obtain ⟨ty, tk, nm⟩ := ev
            dsimp only at hru hye
            have hye2 := hye.symm
            subst hru hye2
            clear hye
            rw [ho] at hq
            obtain ⟨rfl, hb5⟩ := EvR.to (o := some ⟨t, (k : Int), nm⟩) (v := .tuple #[.agg #[.int .i64 t, .int .i64 (k : Int), .int .i64 nm], .bool true]) rfl _ _ hq; clear hq
            have HB5 := Lib.hid (bel_trans (bel_trans HBz.out hb5) (bel_alloc w5 (.cells #[.int .i64 t, .int .i64 (k : Int), .int .i64 nm] 34)))
            have HR5 := Lib.hid (block_below HR4z.out (bel_trans hb5 (bel_alloc w5 (.cells #[.int .i64 t, .int .i64 (k : Int), .int .i64 nm] 34))))
            have HE5 := Lib.hid (heap_alloc_new w5 (.cells #[.int .i64 t, .int .i64 (k : Int), .int .i64 nm] 34))
            have HO := Lib.hid ho
            by_cases hcn : N < nm
            · have HX := Lib.hid (pi_yes (C := (fun x => N < x)) (R := (fun r y => InUp r q y)) (a := lo) ho hcn ht1)
              rcases HST.out with ⟨rfl, h6, hm⟩ | ⟨ey, er, en, rfl, h6, hm⟩
              · have h7 := Lib.hid (show (w5.alloc (.cells #[.int .i64 t, .int .i64 (k : Int), .int .i64 nm] 34)).heap[W.heap.size + 1]? = some (.cells #[.int .i64 0, .int .i64 0, .int .i64 0] 34) from block_below h6.out (bel_trans hb5 (bel_alloc w5 (.cells #[.int .i64 t, .int .i64 (k : Int), .int .i64 nm] 34))))
                clear hb5 ho HST h6
                have y0 := cellB h7.out (i := 0) rfl
                have y1 := cellB h7.out (i := 1) rfl
                have y2 := cellB h7.out (i := 2) rfl
                have f0 := frzB h7.out 0
                have f1 := frzB h7.out 1
                have f2 := frzB h7.out 2
                have c0 := cellB HE5.out (i := 0) rfl
                have c1 := cellB HE5.out (i := 1) rfl
                have c2 := cellB HE5.out (i := 2) rfl
                go_wp2_with fail
                go_round
                case rel => exact ⟨t + 1, _, by omega, by omega, rfl, rfl, Lib.hid (bel_setCells (b := W.heap.size + 1) (o := 0) (l := [.int .i64 t, .int .i64 (k : Int), .int .i64 nm]) HB5.out (Nat.le_succ _)), Lib.hid (block_setCells (c := W.heap.size + 1) (o := 0) (l := [.int .i64 t, .int .i64 (k : Int), .int .i64 nm]) HR5.out (by omega)), .inr ⟨t, (k : Int), nm, rfl, Lib.hid (set3c (d0 := .int .i64 t) (d1 := .int .i64 (k : Int)) (d2 := .int .i64 nm) h7.out), Lib.hid (MinOf.congr (MinOf.first hm.out) HX.out)⟩⟩
                case measure => simp [intOf]; omega
              · have h7 := Lib.hid (show (w5.alloc (.cells #[.int .i64 t, .int .i64 (k : Int), .int .i64 nm] 34)).heap[W.heap.size + 1]? = some (.cells #[.int .i64 ey, .int .i64 er, .int .i64 en] 34) from block_below h6.out (bel_trans hb5 (bel_alloc w5 (.cells #[.int .i64 t, .int .i64 (k : Int), .int .i64 nm] 34))))
                clear hb5 ho HST h6
                have y0 := cellB h7.out (i := 0) rfl
                have y1 := cellB h7.out (i := 1) rfl
                have y2 := cellB h7.out (i := 2) rfl
                have c0 := cellB HE5.out (i := 0) rfl
                have c1 := cellB HE5.out (i := 1) rfl
                have c2 := cellB HE5.out (i := 2) rfl
                go_wp2_with fail
                by_cases hl : Ev.lt ⟨t, (k : Int), nm⟩ ⟨ey, er, en⟩
                · refine (refLess_any t (k : Int) nm ey er en true _ (Lib.hid (by simpa using hl))).mono ?_
                  rintro e w7 ⟨rfl, hb7⟩
                  have HB7 := Lib.hid (bel_trans HB5.out hb7)
                  have HR7 := Lib.hid (block_below HR5.out hb7)
                  have HE7 := Lib.hid (block_below HE5.out hb7)
                  have h8 := Lib.hid (block_below h7.out hb7)
                  clear y0 y1 y2 c0 c1 c2 hb7 HB5 HR5 HE5 h7
                  have y0 := cellB h8.out (i := 0) rfl
                  have y1 := cellB h8.out (i := 1) rfl
                  have y2 := cellB h8.out (i := 2) rfl
                  have f0 := frzB h8.out 0
                  have f1 := frzB h8.out 1
                  have f2 := frzB h8.out 2
                  have c0 := cellB HE7.out (i := 0) rfl
                  have c1 := cellB HE7.out (i := 1) rfl
                  have c2 := cellB HE7.out (i := 2) rfl
                  go_wp2_with fail
                  go_round
                  case rel => exact ⟨t + 1, _, by omega, by omega, rfl, rfl, Lib.hid (bel_setCells (b := W.heap.size + 1) (o := 0) (l := [.int .i64 t, .int .i64 (k : Int), .int .i64 nm]) HB7.out (Nat.le_succ _)), Lib.hid (block_setCells (c := W.heap.size + 1) (o := 0) (l := [.int .i64 t, .int .i64 (k : Int), .int .i64 nm]) HR7.out (by omega)), .inr ⟨t, (k : Int), nm, rfl, Lib.hid (set3c (d0 := .int .i64 t) (d1 := .int .i64 (k : Int)) (d2 := .int .i64 nm) h8.out), Lib.hid (MinOf.congr (MinOf.new hm.out hl) HX.out)⟩⟩
                  case measure => simp [intOf]; omega
                · refine (refLess_any t (k : Int) nm ey er en false _ (Lib.hid (by simpa using hl))).mono ?_
                  rintro e w7 ⟨rfl, hb7⟩
                  have HB7 := Lib.hid (bel_trans HB5.out hb7)
                  have HR7 := Lib.hid (block_below HR5.out hb7)
                  have h8 := Lib.hid (block_below h7.out hb7)
                  clear y0 y1 y2 c0 c1 c2 hb7 HB5 HR5 HE5 h7
                  go_wp2_with fail
                  go_round
                  case rel => exact ⟨t + 1, _, by omega, by omega, rfl, rfl, HB7, HR7, .inr ⟨ey, er, en, rfl, h8, Lib.hid (MinOf.congr (MinOf.old hm.out hl) HX.out)⟩⟩
                  case measure => simp [intOf]; omega
            · have HX := Lib.hid (pi_no (C := (fun x => N < x)) (R := (fun r y => InUp r q y)) (a := lo) (fun ev h => by rw [ho] at h; cases h; exact hcn))
              have hcn2 : nm ≤ N := by omega
              have cc2 := cellB HE5.out (i := 2) rfl
              rcases HST.out with ⟨rfl, h6, hm⟩ | ⟨ey, er, en, rfl, h6, hm⟩
              · have h7 := Lib.hid (block_below h6.out (bel_trans hb5 (bel_alloc w5 (.cells #[.int .i64 t, .int .i64 (k : Int), .int .i64 nm] 34))))
                clear hb5 ho HST h6
                go_wp2_with fail
                go_round
                case rel => exact ⟨t + 1, _, by omega, by omega, rfl, rfl, HB5, HR5, .inl ⟨rfl, h7, Lib.hid (MinOf.congr hm.out HX.out)⟩⟩
                case measure => simp [intOf]; omega
              · have h7 := Lib.hid (block_below h6.out (bel_trans hb5 (bel_alloc w5 (.cells #[.int .i64 t, .int .i64 (k : Int), .int .i64 nm] 34))))
                clear hb5 ho HST h6
                go_wp2_with fail
                go_round
                case rel => exact ⟨t + 1, _, by omega, by omega, rfl, rfl, HB5, HR5, .inr ⟨ey, er, en, rfl, h7, Lib.hid (MinOf.congr hm.out HX.out)⟩⟩
                case measure => simp [intOf]; omega
        · have HEND := Lib.hid (pi_end (C := (fun x => N < x)) (R := (fun r y => InUp r q y)) HRK.out (fun y => hnear.out.up y) (by omega : hi < t) ht2)
          rcases hst with ⟨rfl, h6, hm⟩ | ⟨ey, er, en, rfl, h6, hm⟩
          · go_wp2_with fail
            exact ⟨⟨k + 1, _, by omega, by go_num, rfl, HBz, HR4z, .inl ⟨rfl, h6, Lib.hid (MinOf.congr hm.out HEND.out)⟩⟩, by simp [intOf]; omega⟩
          · go_wp2_with fail
            exact ⟨⟨k + 1, _, by omega, by go_num, rfl, HBz, HR4z, .inr ⟨ey, er, en, rfl, h6, Lib.hid (MinOf.congr hm.out HEND.out)⟩⟩, by simp [intOf]; omega⟩
    · obtain rfl : n = k := by omega
      rcases hst with ⟨rfl, h6, hm⟩ | ⟨ey, er, en, rfl, h6, hm⟩
      · have h7 := Lib.hid (show wr.heap[W.heap.size + 1]? = some (.cells #[.int .i64 0, .int .i64 0, .int .i64 0] 34) from h6.out)
        have HP := Lib.hid (aft_of HYO.out (MinOf.congr hm.out (fun e => pg_full HN.out e)))
        have y0 := cellB HR4.out (i := 0) rfl
        have y1 := cellB HR4.out (i := 1) rfl
        have y2 := cellB HR4.out (i := 2) rfl
        have f0 := frzB HR4.out 0
        have f1 := frzB HR4.out 1
        have f2 := frzB HR4.out 2
        have c0 := cellB h7.out (i := 0) rfl
        have c1 := cellB h7.out (i := 1) rfl
        have c2 := cellB h7.out (i := 2) rfl
        go_wp2_with fail
        refine bodyPost_ret (res_cell_tmp rfl _ _ _ _ _ _ _ rfl (set3c HR4.out) Tryd.underlying34 rfl (by kernel_rfl)) rfl ?_
        exact LookR.none_ HP.out (bel_setCells (o := 0) (l := [.int .i64 0, .int .i64 0, .int .i64 0]) HB.out (Nat.le_refl _))
      · have h7 := Lib.hid (show wr.heap[W.heap.size + 1]? = some (.cells #[.int .i64 ey, .int .i64 er, .int .i64 en] 34) from h6.out)
        have HP := Lib.hid (aft_of HYO.out (MinOf.congr hm.out (fun e => pg_full HN.out e)))
        have y0 := cellB HR4.out (i := 0) rfl
        have y1 := cellB HR4.out (i := 1) rfl
        have y2 := cellB HR4.out (i := 2) rfl
        have f0 := frzB HR4.out 0
        have f1 := frzB HR4.out 1
        have f2 := frzB HR4.out 2
        have c0 := cellB h7.out (i := 0) rfl
        have c1 := cellB h7.out (i := 1) rfl
        have c2 := cellB h7.out (i := 2) rfl
        go_wp2_with fail
        refine bodyPost_ret (res_cell_tmp rfl _ _ _ _ _ _ _ rfl (set3c HR4.out) Tryd.underlying34 rfl (by kernel_rfl)) rfl ?_
        exact LookR.some_ HP.out (bel_setCells (o := 0) (l := [.int .i64 ey, .int .i64 er, .int .i64 en]) HB.out (Nat.le_refl _))

end Go.Proofs.YtpimibchameakaaDoor
