/-
  The walk of the law UntilNear.
-/
import Derived.Test.YtoaimfadccepiaaDoorUntEra
import Derived.Test.YtoaimfadccepiaaDoorUntNam
import Derived.Test.YtoaimfadccepiaaDoorUntLawM
import Derived.Test.YtoaimfadccepiaaDoorUntWk
import Derived.Test.YtoaimfadccepiaaDoorUntDr
import Derived.Deep.RegionHeld3
namespace Go.Proofs.YtoaimfadccepiaaDoor
open Go.RowKit Cv
set_option linter.unusedVariables false
set_option linter.unusedSimpArgs false

namespace Cv
theorem u8_of {n : Int} (h : (Lit.int .u8 n).wf = true) : 0 ≤ n ∧ n ≤ 255 := byte_of h
end Cv

set_option maxRecDepth 100000 in
set_option maxHeartbeats 32000000 in
theorem untNear0 (y m b k w n at_ kind off save : Int) (v : Value) (bs : _root_.List Int) (W : World) (hT : Tabs W) (h : Drf v bs W) (wy : (Lit.int .u16 y).wf = true) (wm : (Lit.int .u8 m).wf = true) (wb : (Lit.int .u8 b).wf = true) (wk : (Lit.int .u8 k).wf = true) (ww : (Lit.int .u8 w).wf = true) (wn : (Lit.int .u8 n).wf = true) (wa : (Lit.int .i32 at_).wf = true) (kd1 : 0 ≤ kind) (kd2 : kind ≤ 255) (of1 : -2147483648 ≤ off) (of2 : off ≤ 2147483647) (sv1 : -2147483648 ≤ save) (sv2 : save ≤ 2147483647) (hq : kind % 3 = 0) :
    Calls Tryd.prog 4 #[.agg #[.int .u16 y, .int .u8 m, .int .u8 b, .int .u8 k, .int .u8 w, .int .u8 n, .int .i32 at_], .int .u8 kind, .int .i32 off, .int .i32 save, v] W fun e w' => e = .returned (.bool true) ∧ Below W.heap.size W w' := by
  have HT := Lib.hid hT
  have HD := Lib.hid (h.below (bel_alloc W (.cells #[.int .u16 y, .int .u8 m, .int .u8 b, .int .u8 k, .int .u8 w, .int .u8 n, .int .i32 at_] 38)))
  have HB := Lib.hid (bel_alloc W (.cells #[.int .u16 y, .int .u8 m, .int .u8 b, .int .u8 k, .int .u8 w, .int .u8 n, .int .i32 at_] 38))
  have HK := Lib.hid (heap_alloc_new W (.cells #[.int .u16 y, .int .u8 m, .int .u8 b, .int .u8 k, .int .u8 w, .int .u8 n, .int .i32 at_] 38))
  have HW := Lib.hid (And.intro wy (And.intro wm (And.intro wb (And.intro wk (And.intro ww (And.intro wn wa))))))
  have HQ := Lib.hid hq
  have HFS := fieldSta
  clear hT h wy wm wb wk ww wn wa hq
  go_enter Tryd.func4, Tryd.ntmps4
  go_wp2_with fail
  refine (made17s_any _ bs ⟨#[82]⟩ _ (by exact HD.out)).mono ?_
  rintro e w1 ⟨ov, rs, sv, rfl, h2, h5, hmp, _, hown, hb1⟩
  have HMP := Lib.hid hmp
  have HR := Lib.hid (rul_of_own hown (by omega) (fun r hr => (hmp.each r hr).ok.fits))
  have HK := Lib.hid (block_below HK.out hb1)
  have HB := Lib.hid (bel_trans HB.out hb1)
  clear hmp hown hb1 h2 h5 HD
  obtain ⟨Al, cl, hol⟩ := HR.out.sl
  obtain ⟨nl, hnl⟩ : ∃ nl, nl = rs.length := ⟨_, rfl⟩
  rw [← hnl] at hol
  subst hol
  clear hnl
  obtain ⟨ml1, ml2, mlb⟩ := made_least HMP.out
  obtain ⟨ls, hls⟩ : ∃ ls, ls = leastL rs := ⟨_, rfl⟩
  have HL := Lib.hid hls
  have HLB := Lib.hid (show baseL rs = ls by rw [mlb, hls])
  rw [← hls] at ml1 ml2
  clear mlb hls
  go_wp2_with fail
  refine (least_any _ rs _ (by exact HR.out)).mono ?_
  rw [← HL.out]
  rintro e w2 ⟨rfl, hb⟩
  have HK := Lib.hid (block_below HK.out hb)
  have HB := Lib.hid (bel_trans HB.out hb)
  have HR := Lib.hid (Rul.below HR.out hb)
  clear hb
  have d0 := cellB HK.out (i := 0) rfl
  have d1 := cellB HK.out (i := 1) rfl
  have d2 := cellB HK.out (i := 2) rfl
  have d3 := cellB HK.out (i := 3) rfl
  have d4 := cellB HK.out (i := 4) rfl
  have d5 := cellB HK.out (i := 5) rfl
  have d6 := cellB HK.out (i := 6) rfl
  go_wp2_with fail
  clear d0 d1 d2 d3 d4 d5 d6
  obtain ⟨o, ho⟩ : ∃ o, off.tmod 21600 = o := ⟨_, rfl⟩
  have hob := tmod_bd off 21600 (by omega)
  rw [ho] at hob
  obtain ⟨o1, o2⟩ := hob
  obtain ⟨s, hs⟩ : ∃ s, save.tmod 10800 = s := ⟨_, rfl⟩
  have hsb := tmod_bd save 10800 (by omega)
  rw [hs] at hsb
  obtain ⟨s1, s2⟩ := hsb
  refine (era0_any y m b k w n at_ kind off save ls o _ HW.out.1 HW.out.2.1 HW.out.2.2.1 HW.out.2.2.2.1 HW.out.2.2.2.2.1 HW.out.2.2.2.2.2.1 HW.out.2.2.2.2.2.2 kd1 kd2 of1 of2 sv1 sv2 (by omega) (by omega) HQ.out ho o1 o2).mono ?_
  rintro e w3 ⟨uy, um, uk, uw, ud, us, ub, HU, rfl, hb⟩
  have HB := Lib.hid (bel_trans HB.out hb)
  have HR := Lib.hid (Rul.below HR.out hb)
  obtain ⟨-, -, -, hok⟩ := untC_zero HU.out
  have hy1 : 1850 ≤ uy := hok.1
  have hy2 : uy ≤ 2149 := hok.2.1
  have hub : ub = 0 ∨ ub = 1 ∨ ub = 2 := by have := hok.2.2.1; have := hok.2.2.2.1; omega
  clear hb HK HW hok ho hs HQ kd1 kd2 of1 of2 sv1 sv2
  obtain ⟨x, c, hx⟩ : ∃ x c, on uy um uk uw ud = (x, c) := ⟨_, _, rfl⟩
  have HX := Lib.hid hx
  obtain ⟨-, -, -, -, -, -, -, x1, x2, us1, us2⟩ := unt_known HU.out hx
  clear hx
  have HN0 := Lib.hid (bel_alloc w3 (.cells #[.int .i64 o, .int .i64 0, .int .i64 0, .string ⟨#[]⟩, .string ⟨#[88]⟩, .bool true, .int .i64 uy, .int .i64 um, .int .i64 uk, .int .i64 uw, .int .i64 ud, .int .i64 us, .int .i64 ub] 45))
  have HK := Lib.hid (heap_alloc_new w3 (.cells #[.int .i64 o, .int .i64 0, .int .i64 0, .string ⟨#[]⟩, .string ⟨#[88]⟩, .bool true, .int .i64 uy, .int .i64 um, .int .i64 uk, .int .i64 uw, .int .i64 ud, .int .i64 us, .int .i64 ub] 45))
  have HB := Lib.hid (bel_trans HB.out HN0.out)
  have HR := Lib.hid (HR.out.below HN0.out)
  clear HN0
  rcases hub with rfl | rfl | rfl
  · obtain ⟨N, hN⟩ : ∃ N, N = 86400 * x + us := ⟨_, rfl⟩
    have HNN := Lib.hid (show untN true uy um uk uw ud us 0 0 = N by rw [hN]; exact (untN_not (by decide) HU.out HX.out))
    have c0 := cellB HK.out (i := 0) rfl
    have c1 := cellB HK.out (i := 1) rfl
    have c2 := cellB HK.out (i := 2) rfl
    have c3 := cellB HK.out (i := 3) rfl
    have c4 := cellB HK.out (i := 4) rfl
    have c5 := cellB HK.out (i := 5) rfl
    have c6 := cellB HK.out (i := 6) rfl
    have c7 := cellB HK.out (i := 7) rfl
    have c8 := cellB HK.out (i := 8) rfl
    have c9 := cellB HK.out (i := 9) rfl
    have c10 := cellB HK.out (i := 10) rfl
    have c11 := cellB HK.out (i := 11) rfl
    have c12 := cellB HK.out (i := 12) rfl
    go_wp2_with fail
    refine (untNom_any true uy um uk uw ud us 0 0 _ (by exact HT.out.below HB.out) (by omega) (by omega)).mono ?_
    intro e w4 hq; obtain ⟨rfl, hb⟩ := NomU.to HNN.out HU.out _ _ hq; clear hq
    have HK := Lib.hid (block_below HK.out hb)
    have HB := Lib.hid (bel_trans HB.out hb)
    have HR := Lib.hid (Rul.below HR.out hb)
    clear hb c0 c1 c2 c3 c4 c5 c6 c7 c8 c9 c10 c11 c12
    have c0 := cellB HK.out (i := 0) rfl
    have c1 := cellB HK.out (i := 1) rfl
    have c2 := cellB HK.out (i := 2) rfl
    have c3 := cellB HK.out (i := 3) rfl
    have c4 := cellB HK.out (i := 4) rfl
    have c5 := cellB HK.out (i := 5) rfl
    have c6 := cellB HK.out (i := 6) rfl
    have c7 := cellB HK.out (i := 7) rfl
    have c8 := cellB HK.out (i := 8) rfl
    have c9 := cellB HK.out (i := 9) rfl
    have c10 := cellB HK.out (i := 10) rfl
    have c11 := cellB HK.out (i := 11) rfl
    have c12 := cellB HK.out (i := 12) rfl
    go_wp2_with fail
    refine (untInst00 o 0 ⟨#[]⟩ ⟨#[88]⟩ uy um uk uw ud us x c _ _ (by exact HT.out.below HB.out) (by exact HU.out) HX.out (by omega) (by omega) (by omega) (by omega)).mono ?_
    rintro e w5 ⟨rfl, hb⟩
    have HK := Lib.hid (block_below HK.out hb)
    have HB := Lib.hid (bel_trans HB.out hb)
    have HR := Lib.hid (Rul.below HR.out hb)
    clear hb c0 c1 c2 c3 c4 c5 c6 c7 c8 c9 c10 c11 c12
    have c0 := cellB HK.out (i := 0) rfl
    have c1 := cellB HK.out (i := 1) rfl
    have c2 := cellB HK.out (i := 2) rfl
    have c3 := cellB HK.out (i := 3) rfl
    have c4 := cellB HK.out (i := 4) rfl
    have c5 := cellB HK.out (i := 5) rfl
    have c6 := cellB HK.out (i := 6) rfl
    have c7 := cellB HK.out (i := 7) rfl
    have c8 := cellB HK.out (i := 8) rfl
    have c9 := cellB HK.out (i := 9) rfl
    have c10 := cellB HK.out (i := 10) rfl
    have c11 := cellB HK.out (i := 11) rfl
    have c12 := cellB HK.out (i := 12) rfl
    go_wp2_with fail
    refine (untCheck_any true uy um uk uw ud us 0 0 _ (by exact HT.out.below HB.out) (by omega) (by omega)).mono ?_
    intro e w6 hq; obtain ⟨rfl, hb⟩ := CodeU.to HU.out _ _ hq; clear hq
    have HK := Lib.hid (block_below HK.out hb)
    have HB := Lib.hid (bel_trans HB.out hb)
    have HR := Lib.hid (Rul.below HR.out hb)
    clear hb c0 c1 c2 c3 c4 c5 c6 c7 c8 c9 c10 c11 c12
    have c0 := cellB HK.out (i := 0) rfl
    have c1 := cellB HK.out (i := 1) rfl
    have c2 := cellB HK.out (i := 2) rfl
    have c3 := cellB HK.out (i := 3) rfl
    have c4 := cellB HK.out (i := 4) rfl
    have c5 := cellB HK.out (i := 5) rfl
    have c6 := cellB HK.out (i := 6) rfl
    have c7 := cellB HK.out (i := 7) rfl
    have c8 := cellB HK.out (i := 8) rfl
    have c9 := cellB HK.out (i := 9) rfl
    have c10 := cellB HK.out (i := 10) rfl
    have c11 := cellB HK.out (i := 11) rfl
    have c12 := cellB HK.out (i := 12) rfl
    go_wp2_with fail
    refine (works_any _ (by exact HT.out.below HB.out)).mono ?_
    rintro e w8 ⟨rfl, hb⟩
    have HB := Lib.hid (bel_trans HB.out hb)
    clear hb
    go_wp2_with fail
    go_ret
    exact ⟨rfl, HB.out⟩
  · obtain ⟨N, hN⟩ : ∃ N, N = 86400 * x + us + 0 := ⟨_, rfl⟩
    have HNN := Lib.hid (show untN true uy um uk uw ud us 1 0 = N by rw [hN]; exact (untN_std HU.out HX.out))
    have c0 := cellB HK.out (i := 0) rfl
    have c1 := cellB HK.out (i := 1) rfl
    have c2 := cellB HK.out (i := 2) rfl
    have c3 := cellB HK.out (i := 3) rfl
    have c4 := cellB HK.out (i := 4) rfl
    have c5 := cellB HK.out (i := 5) rfl
    have c6 := cellB HK.out (i := 6) rfl
    have c7 := cellB HK.out (i := 7) rfl
    have c8 := cellB HK.out (i := 8) rfl
    have c9 := cellB HK.out (i := 9) rfl
    have c10 := cellB HK.out (i := 10) rfl
    have c11 := cellB HK.out (i := 11) rfl
    have c12 := cellB HK.out (i := 12) rfl
    go_wp2_with fail
    refine (untNom_any true uy um uk uw ud us 1 0 _ (by exact HT.out.below HB.out) (by omega) (by omega)).mono ?_
    intro e w4 hq; obtain ⟨rfl, hb⟩ := NomU.to HNN.out HU.out _ _ hq; clear hq
    have HK := Lib.hid (block_below HK.out hb)
    have HB := Lib.hid (bel_trans HB.out hb)
    have HR := Lib.hid (Rul.below HR.out hb)
    clear hb c0 c1 c2 c3 c4 c5 c6 c7 c8 c9 c10 c11 c12
    have c0 := cellB HK.out (i := 0) rfl
    have c1 := cellB HK.out (i := 1) rfl
    have c2 := cellB HK.out (i := 2) rfl
    have c3 := cellB HK.out (i := 3) rfl
    have c4 := cellB HK.out (i := 4) rfl
    have c5 := cellB HK.out (i := 5) rfl
    have c6 := cellB HK.out (i := 6) rfl
    have c7 := cellB HK.out (i := 7) rfl
    have c8 := cellB HK.out (i := 8) rfl
    have c9 := cellB HK.out (i := 9) rfl
    have c10 := cellB HK.out (i := 10) rfl
    have c11 := cellB HK.out (i := 11) rfl
    have c12 := cellB HK.out (i := 12) rfl
    go_wp2_with fail
    refine (untInst01 o 0 ⟨#[]⟩ ⟨#[88]⟩ uy um uk uw ud us x c _ _ (by exact HT.out.below HB.out) (by exact HU.out) HX.out (by omega) (by omega) (by omega) (by omega)).mono ?_
    rintro e w5 ⟨rfl, hb⟩
    have HK := Lib.hid (block_below HK.out hb)
    have HB := Lib.hid (bel_trans HB.out hb)
    have HR := Lib.hid (Rul.below HR.out hb)
    clear hb c0 c1 c2 c3 c4 c5 c6 c7 c8 c9 c10 c11 c12
    have c0 := cellB HK.out (i := 0) rfl
    have c1 := cellB HK.out (i := 1) rfl
    have c2 := cellB HK.out (i := 2) rfl
    have c3 := cellB HK.out (i := 3) rfl
    have c4 := cellB HK.out (i := 4) rfl
    have c5 := cellB HK.out (i := 5) rfl
    have c6 := cellB HK.out (i := 6) rfl
    have c7 := cellB HK.out (i := 7) rfl
    have c8 := cellB HK.out (i := 8) rfl
    have c9 := cellB HK.out (i := 9) rfl
    have c10 := cellB HK.out (i := 10) rfl
    have c11 := cellB HK.out (i := 11) rfl
    have c12 := cellB HK.out (i := 12) rfl
    go_wp2_with fail
    refine (untCheck_any true uy um uk uw ud us 1 0 _ (by exact HT.out.below HB.out) (by omega) (by omega)).mono ?_
    intro e w6 hq; obtain ⟨rfl, hb⟩ := CodeU.to HU.out _ _ hq; clear hq
    have HK := Lib.hid (block_below HK.out hb)
    have HB := Lib.hid (bel_trans HB.out hb)
    have HR := Lib.hid (Rul.below HR.out hb)
    clear hb c0 c1 c2 c3 c4 c5 c6 c7 c8 c9 c10 c11 c12
    have c0 := cellB HK.out (i := 0) rfl
    have c1 := cellB HK.out (i := 1) rfl
    have c2 := cellB HK.out (i := 2) rfl
    have c3 := cellB HK.out (i := 3) rfl
    have c4 := cellB HK.out (i := 4) rfl
    have c5 := cellB HK.out (i := 5) rfl
    have c6 := cellB HK.out (i := 6) rfl
    have c7 := cellB HK.out (i := 7) rfl
    have c8 := cellB HK.out (i := 8) rfl
    have c9 := cellB HK.out (i := 9) rfl
    have c10 := cellB HK.out (i := 10) rfl
    have c11 := cellB HK.out (i := 11) rfl
    have c12 := cellB HK.out (i := 12) rfl
    go_wp2_with fail
    refine (works_any _ (by exact HT.out.below HB.out)).mono ?_
    rintro e w8 ⟨rfl, hb⟩
    have HB := Lib.hid (bel_trans HB.out hb)
    clear hb
    go_wp2_with fail
    go_ret
    exact ⟨rfl, HB.out⟩
  · obtain ⟨N, hN⟩ : ∃ N, N = 86400 * x + us := ⟨_, rfl⟩
    have HNN := Lib.hid (show untN true uy um uk uw ud us 2 0 = N by rw [hN]; exact (untN_not (by decide) HU.out HX.out))
    have c0 := cellB HK.out (i := 0) rfl
    have c1 := cellB HK.out (i := 1) rfl
    have c2 := cellB HK.out (i := 2) rfl
    have c3 := cellB HK.out (i := 3) rfl
    have c4 := cellB HK.out (i := 4) rfl
    have c5 := cellB HK.out (i := 5) rfl
    have c6 := cellB HK.out (i := 6) rfl
    have c7 := cellB HK.out (i := 7) rfl
    have c8 := cellB HK.out (i := 8) rfl
    have c9 := cellB HK.out (i := 9) rfl
    have c10 := cellB HK.out (i := 10) rfl
    have c11 := cellB HK.out (i := 11) rfl
    have c12 := cellB HK.out (i := 12) rfl
    go_wp2_with fail
    refine (untNom_any true uy um uk uw ud us 2 0 _ (by exact HT.out.below HB.out) (by omega) (by omega)).mono ?_
    intro e w4 hq; obtain ⟨rfl, hb⟩ := NomU.to HNN.out HU.out _ _ hq; clear hq
    have HK := Lib.hid (block_below HK.out hb)
    have HB := Lib.hid (bel_trans HB.out hb)
    have HR := Lib.hid (Rul.below HR.out hb)
    clear hb c0 c1 c2 c3 c4 c5 c6 c7 c8 c9 c10 c11 c12
    have c0 := cellB HK.out (i := 0) rfl
    have c1 := cellB HK.out (i := 1) rfl
    have c2 := cellB HK.out (i := 2) rfl
    have c3 := cellB HK.out (i := 3) rfl
    have c4 := cellB HK.out (i := 4) rfl
    have c5 := cellB HK.out (i := 5) rfl
    have c6 := cellB HK.out (i := 6) rfl
    have c7 := cellB HK.out (i := 7) rfl
    have c8 := cellB HK.out (i := 8) rfl
    have c9 := cellB HK.out (i := 9) rfl
    have c10 := cellB HK.out (i := 10) rfl
    have c11 := cellB HK.out (i := 11) rfl
    have c12 := cellB HK.out (i := 12) rfl
    go_wp2_with fail
    refine (untInst02 o 0 ⟨#[]⟩ ⟨#[88]⟩ uy um uk uw ud us x c _ _ (by exact HT.out.below HB.out) (by exact HU.out) HX.out (by omega) (by omega) (by omega) (by omega)).mono ?_
    rintro e w5 ⟨rfl, hb⟩
    have HK := Lib.hid (block_below HK.out hb)
    have HB := Lib.hid (bel_trans HB.out hb)
    have HR := Lib.hid (Rul.below HR.out hb)
    clear hb c0 c1 c2 c3 c4 c5 c6 c7 c8 c9 c10 c11 c12
    have c0 := cellB HK.out (i := 0) rfl
    have c1 := cellB HK.out (i := 1) rfl
    have c2 := cellB HK.out (i := 2) rfl
    have c3 := cellB HK.out (i := 3) rfl
    have c4 := cellB HK.out (i := 4) rfl
    have c5 := cellB HK.out (i := 5) rfl
    have c6 := cellB HK.out (i := 6) rfl
    have c7 := cellB HK.out (i := 7) rfl
    have c8 := cellB HK.out (i := 8) rfl
    have c9 := cellB HK.out (i := 9) rfl
    have c10 := cellB HK.out (i := 10) rfl
    have c11 := cellB HK.out (i := 11) rfl
    have c12 := cellB HK.out (i := 12) rfl
    go_wp2_with fail
    refine (untCheck_any true uy um uk uw ud us 2 0 _ (by exact HT.out.below HB.out) (by omega) (by omega)).mono ?_
    intro e w6 hq; obtain ⟨rfl, hb⟩ := CodeU.to HU.out _ _ hq; clear hq
    have HK := Lib.hid (block_below HK.out hb)
    have HB := Lib.hid (bel_trans HB.out hb)
    have HR := Lib.hid (Rul.below HR.out hb)
    clear hb c0 c1 c2 c3 c4 c5 c6 c7 c8 c9 c10 c11 c12
    have c0 := cellB HK.out (i := 0) rfl
    have c1 := cellB HK.out (i := 1) rfl
    have c2 := cellB HK.out (i := 2) rfl
    have c3 := cellB HK.out (i := 3) rfl
    have c4 := cellB HK.out (i := 4) rfl
    have c5 := cellB HK.out (i := 5) rfl
    have c6 := cellB HK.out (i := 6) rfl
    have c7 := cellB HK.out (i := 7) rfl
    have c8 := cellB HK.out (i := 8) rfl
    have c9 := cellB HK.out (i := 9) rfl
    have c10 := cellB HK.out (i := 10) rfl
    have c11 := cellB HK.out (i := 11) rfl
    have c12 := cellB HK.out (i := 12) rfl
    go_wp2_with fail
    refine (works_any _ (by exact HT.out.below HB.out)).mono ?_
    rintro e w8 ⟨rfl, hb⟩
    have HB := Lib.hid (bel_trans HB.out hb)
    clear hb
    go_wp2_with fail
    go_ret
    exact ⟨rfl, HB.out⟩

set_option maxRecDepth 100000 in
set_option maxHeartbeats 32000000 in
theorem untNear1 (y m b k w n at_ kind off save : Int) (v : Value) (bs : _root_.List Int) (W : World) (hT : Tabs W) (h : Drf v bs W) (wy : (Lit.int .u16 y).wf = true) (wm : (Lit.int .u8 m).wf = true) (wb : (Lit.int .u8 b).wf = true) (wk : (Lit.int .u8 k).wf = true) (ww : (Lit.int .u8 w).wf = true) (wn : (Lit.int .u8 n).wf = true) (wa : (Lit.int .i32 at_).wf = true) (kd1 : 0 ≤ kind) (kd2 : kind ≤ 255) (of1 : -2147483648 ≤ off) (of2 : off ≤ 2147483647) (sv1 : -2147483648 ≤ save) (sv2 : save ≤ 2147483647) (hq : kind % 3 = 1) :
    Calls Tryd.prog 4 #[.agg #[.int .u16 y, .int .u8 m, .int .u8 b, .int .u8 k, .int .u8 w, .int .u8 n, .int .i32 at_], .int .u8 kind, .int .i32 off, .int .i32 save, v] W fun e w' => e = .returned (.bool true) ∧ Below W.heap.size W w' := by
  have HT := Lib.hid hT
  have HD := Lib.hid (h.below (bel_alloc W (.cells #[.int .u16 y, .int .u8 m, .int .u8 b, .int .u8 k, .int .u8 w, .int .u8 n, .int .i32 at_] 38)))
  have HB := Lib.hid (bel_alloc W (.cells #[.int .u16 y, .int .u8 m, .int .u8 b, .int .u8 k, .int .u8 w, .int .u8 n, .int .i32 at_] 38))
  have HK := Lib.hid (heap_alloc_new W (.cells #[.int .u16 y, .int .u8 m, .int .u8 b, .int .u8 k, .int .u8 w, .int .u8 n, .int .i32 at_] 38))
  have HW := Lib.hid (And.intro wy (And.intro wm (And.intro wb (And.intro wk (And.intro ww (And.intro wn wa))))))
  have HQ := Lib.hid hq
  have HFS := fieldSta
  clear hT h wy wm wb wk ww wn wa hq
  go_enter Tryd.func4, Tryd.ntmps4
  go_wp2_with fail
  refine (made17s_any _ bs ⟨#[82]⟩ _ (by exact HD.out)).mono ?_
  rintro e w1 ⟨ov, rs, sv, rfl, h2, h5, hmp, _, hown, hb1⟩
  have HMP := Lib.hid hmp
  have HR := Lib.hid (rul_of_own hown (by omega) (fun r hr => (hmp.each r hr).ok.fits))
  have HK := Lib.hid (block_below HK.out hb1)
  have HB := Lib.hid (bel_trans HB.out hb1)
  clear hmp hown hb1 h2 h5 HD
  obtain ⟨Al, cl, hol⟩ := HR.out.sl
  obtain ⟨nl, hnl⟩ : ∃ nl, nl = rs.length := ⟨_, rfl⟩
  rw [← hnl] at hol
  subst hol
  clear hnl
  obtain ⟨ml1, ml2, mlb⟩ := made_least HMP.out
  obtain ⟨ls, hls⟩ : ∃ ls, ls = leastL rs := ⟨_, rfl⟩
  have HL := Lib.hid hls
  have HLB := Lib.hid (show baseL rs = ls by rw [mlb, hls])
  rw [← hls] at ml1 ml2
  clear mlb hls
  go_wp2_with fail
  refine (least_any _ rs _ (by exact HR.out)).mono ?_
  rw [← HL.out]
  rintro e w2 ⟨rfl, hb⟩
  have HK := Lib.hid (block_below HK.out hb)
  have HB := Lib.hid (bel_trans HB.out hb)
  have HR := Lib.hid (Rul.below HR.out hb)
  clear hb
  have d0 := cellB HK.out (i := 0) rfl
  have d1 := cellB HK.out (i := 1) rfl
  have d2 := cellB HK.out (i := 2) rfl
  have d3 := cellB HK.out (i := 3) rfl
  have d4 := cellB HK.out (i := 4) rfl
  have d5 := cellB HK.out (i := 5) rfl
  have d6 := cellB HK.out (i := 6) rfl
  go_wp2_with fail
  clear d0 d1 d2 d3 d4 d5 d6
  obtain ⟨o, ho⟩ : ∃ o, off.tmod 21600 = o := ⟨_, rfl⟩
  have hob := tmod_bd off 21600 (by omega)
  rw [ho] at hob
  obtain ⟨o1, o2⟩ := hob
  obtain ⟨s, hs⟩ : ∃ s, save.tmod 10800 = s := ⟨_, rfl⟩
  have hsb := tmod_bd save 10800 (by omega)
  rw [hs] at hsb
  obtain ⟨s1, s2⟩ := hsb
  refine (era1_any y m b k w n at_ kind off save ls o s _ HW.out.1 HW.out.2.1 HW.out.2.2.1 HW.out.2.2.2.1 HW.out.2.2.2.2.1 HW.out.2.2.2.2.2.1 HW.out.2.2.2.2.2.2 kd1 kd2 of1 of2 sv1 sv2 (by omega) (by omega) HQ.out ho o1 o2 hs s1 s2).mono ?_
  rintro e w3 ⟨uy, um, uk, uw, ud, us, ub, HU, rfl, hb⟩
  have HB := Lib.hid (bel_trans HB.out hb)
  have HR := Lib.hid (Rul.below HR.out hb)
  obtain ⟨-, -, -, hok⟩ := untC_zero HU.out
  have hy1 : 1850 ≤ uy := hok.1
  have hy2 : uy ≤ 2149 := hok.2.1
  have hub : ub = 0 ∨ ub = 1 ∨ ub = 2 := by have := hok.2.2.1; have := hok.2.2.2.1; omega
  clear hb HK HW hok ho hs HQ kd1 kd2 of1 of2 sv1 sv2
  obtain ⟨x, c, hx⟩ : ∃ x c, on uy um uk uw ud = (x, c) := ⟨_, _, rfl⟩
  have HX := Lib.hid hx
  obtain ⟨-, -, -, -, -, -, -, x1, x2, us1, us2⟩ := unt_known HU.out hx
  clear hx
  have HN0 := Lib.hid (bel_alloc w3 (.cells #[.int .i64 o, .int .i64 1, .int .i64 s, .string ⟨#[]⟩, .string ⟨#[88]⟩, .bool true, .int .i64 uy, .int .i64 um, .int .i64 uk, .int .i64 uw, .int .i64 ud, .int .i64 us, .int .i64 ub] 45))
  have HK := Lib.hid (heap_alloc_new w3 (.cells #[.int .i64 o, .int .i64 1, .int .i64 s, .string ⟨#[]⟩, .string ⟨#[88]⟩, .bool true, .int .i64 uy, .int .i64 um, .int .i64 uk, .int .i64 uw, .int .i64 ud, .int .i64 us, .int .i64 ub] 45))
  have HB := Lib.hid (bel_trans HB.out HN0.out)
  have HR := Lib.hid (HR.out.below HN0.out)
  clear HN0
  rcases hub with rfl | rfl | rfl
  · obtain ⟨N, hN⟩ : ∃ N, N = 86400 * x + us := ⟨_, rfl⟩
    have HNN := Lib.hid (show untN true uy um uk uw ud us 0 0 = N by rw [hN]; exact (untN_not (by decide) HU.out HX.out))
    have c0 := cellB HK.out (i := 0) rfl
    have c1 := cellB HK.out (i := 1) rfl
    have c2 := cellB HK.out (i := 2) rfl
    have c3 := cellB HK.out (i := 3) rfl
    have c4 := cellB HK.out (i := 4) rfl
    have c5 := cellB HK.out (i := 5) rfl
    have c6 := cellB HK.out (i := 6) rfl
    have c7 := cellB HK.out (i := 7) rfl
    have c8 := cellB HK.out (i := 8) rfl
    have c9 := cellB HK.out (i := 9) rfl
    have c10 := cellB HK.out (i := 10) rfl
    have c11 := cellB HK.out (i := 11) rfl
    have c12 := cellB HK.out (i := 12) rfl
    go_wp2_with fail
    refine (untNom_any true uy um uk uw ud us 0 0 _ (by exact HT.out.below HB.out) (by omega) (by omega)).mono ?_
    intro e w4 hq; obtain ⟨rfl, hb⟩ := NomU.to HNN.out HU.out _ _ hq; clear hq
    have HK := Lib.hid (block_below HK.out hb)
    have HB := Lib.hid (bel_trans HB.out hb)
    have HR := Lib.hid (Rul.below HR.out hb)
    clear hb c0 c1 c2 c3 c4 c5 c6 c7 c8 c9 c10 c11 c12
    have c0 := cellB HK.out (i := 0) rfl
    have c1 := cellB HK.out (i := 1) rfl
    have c2 := cellB HK.out (i := 2) rfl
    have c3 := cellB HK.out (i := 3) rfl
    have c4 := cellB HK.out (i := 4) rfl
    have c5 := cellB HK.out (i := 5) rfl
    have c6 := cellB HK.out (i := 6) rfl
    have c7 := cellB HK.out (i := 7) rfl
    have c8 := cellB HK.out (i := 8) rfl
    have c9 := cellB HK.out (i := 9) rfl
    have c10 := cellB HK.out (i := 10) rfl
    have c11 := cellB HK.out (i := 11) rfl
    have c12 := cellB HK.out (i := 12) rfl
    go_wp2_with fail
    refine (untInst10 o s ⟨#[]⟩ ⟨#[88]⟩ uy um uk uw ud us x c _ _ (by exact HT.out.below HB.out) (by exact HU.out) HX.out (by omega) (by omega) (by omega) (by omega)).mono ?_
    rintro e w5 ⟨rfl, hb⟩
    have HK := Lib.hid (block_below HK.out hb)
    have HB := Lib.hid (bel_trans HB.out hb)
    have HR := Lib.hid (Rul.below HR.out hb)
    clear hb c0 c1 c2 c3 c4 c5 c6 c7 c8 c9 c10 c11 c12
    have c0 := cellB HK.out (i := 0) rfl
    have c1 := cellB HK.out (i := 1) rfl
    have c2 := cellB HK.out (i := 2) rfl
    have c3 := cellB HK.out (i := 3) rfl
    have c4 := cellB HK.out (i := 4) rfl
    have c5 := cellB HK.out (i := 5) rfl
    have c6 := cellB HK.out (i := 6) rfl
    have c7 := cellB HK.out (i := 7) rfl
    have c8 := cellB HK.out (i := 8) rfl
    have c9 := cellB HK.out (i := 9) rfl
    have c10 := cellB HK.out (i := 10) rfl
    have c11 := cellB HK.out (i := 11) rfl
    have c12 := cellB HK.out (i := 12) rfl
    go_wp2_with fail
    refine (untCheck_any true uy um uk uw ud us 0 0 _ (by exact HT.out.below HB.out) (by omega) (by omega)).mono ?_
    intro e w6 hq; obtain ⟨rfl, hb⟩ := CodeU.to HU.out _ _ hq; clear hq
    have HK := Lib.hid (block_below HK.out hb)
    have HB := Lib.hid (bel_trans HB.out hb)
    have HR := Lib.hid (Rul.below HR.out hb)
    clear hb c0 c1 c2 c3 c4 c5 c6 c7 c8 c9 c10 c11 c12
    have c0 := cellB HK.out (i := 0) rfl
    have c1 := cellB HK.out (i := 1) rfl
    have c2 := cellB HK.out (i := 2) rfl
    have c3 := cellB HK.out (i := 3) rfl
    have c4 := cellB HK.out (i := 4) rfl
    have c5 := cellB HK.out (i := 5) rfl
    have c6 := cellB HK.out (i := 6) rfl
    have c7 := cellB HK.out (i := 7) rfl
    have c8 := cellB HK.out (i := 8) rfl
    have c9 := cellB HK.out (i := 9) rfl
    have c10 := cellB HK.out (i := 10) rfl
    have c11 := cellB HK.out (i := 11) rfl
    have c12 := cellB HK.out (i := 12) rfl
    go_wp2_with fail
    refine (works_any _ (by exact HT.out.below HB.out)).mono ?_
    rintro e w8 ⟨rfl, hb⟩
    have HB := Lib.hid (bel_trans HB.out hb)
    clear hb
    go_wp2_with fail
    go_ret
    exact ⟨rfl, HB.out⟩
  · obtain ⟨N, hN⟩ : ∃ N, N = 86400 * x + us + 0 := ⟨_, rfl⟩
    have HNN := Lib.hid (show untN true uy um uk uw ud us 1 0 = N by rw [hN]; exact (untN_std HU.out HX.out))
    have c0 := cellB HK.out (i := 0) rfl
    have c1 := cellB HK.out (i := 1) rfl
    have c2 := cellB HK.out (i := 2) rfl
    have c3 := cellB HK.out (i := 3) rfl
    have c4 := cellB HK.out (i := 4) rfl
    have c5 := cellB HK.out (i := 5) rfl
    have c6 := cellB HK.out (i := 6) rfl
    have c7 := cellB HK.out (i := 7) rfl
    have c8 := cellB HK.out (i := 8) rfl
    have c9 := cellB HK.out (i := 9) rfl
    have c10 := cellB HK.out (i := 10) rfl
    have c11 := cellB HK.out (i := 11) rfl
    have c12 := cellB HK.out (i := 12) rfl
    go_wp2_with fail
    refine (untNom_any true uy um uk uw ud us 1 0 _ (by exact HT.out.below HB.out) (by omega) (by omega)).mono ?_
    intro e w4 hq; obtain ⟨rfl, hb⟩ := NomU.to HNN.out HU.out _ _ hq; clear hq
    have HK := Lib.hid (block_below HK.out hb)
    have HB := Lib.hid (bel_trans HB.out hb)
    have HR := Lib.hid (Rul.below HR.out hb)
    clear hb c0 c1 c2 c3 c4 c5 c6 c7 c8 c9 c10 c11 c12
    have c0 := cellB HK.out (i := 0) rfl
    have c1 := cellB HK.out (i := 1) rfl
    have c2 := cellB HK.out (i := 2) rfl
    have c3 := cellB HK.out (i := 3) rfl
    have c4 := cellB HK.out (i := 4) rfl
    have c5 := cellB HK.out (i := 5) rfl
    have c6 := cellB HK.out (i := 6) rfl
    have c7 := cellB HK.out (i := 7) rfl
    have c8 := cellB HK.out (i := 8) rfl
    have c9 := cellB HK.out (i := 9) rfl
    have c10 := cellB HK.out (i := 10) rfl
    have c11 := cellB HK.out (i := 11) rfl
    have c12 := cellB HK.out (i := 12) rfl
    go_wp2_with fail
    refine (untInst11 o s ⟨#[]⟩ ⟨#[88]⟩ uy um uk uw ud us x c _ _ (by exact HT.out.below HB.out) (by exact HU.out) HX.out (by omega) (by omega) (by omega) (by omega)).mono ?_
    rintro e w5 ⟨rfl, hb⟩
    have HK := Lib.hid (block_below HK.out hb)
    have HB := Lib.hid (bel_trans HB.out hb)
    have HR := Lib.hid (Rul.below HR.out hb)
    clear hb c0 c1 c2 c3 c4 c5 c6 c7 c8 c9 c10 c11 c12
    have c0 := cellB HK.out (i := 0) rfl
    have c1 := cellB HK.out (i := 1) rfl
    have c2 := cellB HK.out (i := 2) rfl
    have c3 := cellB HK.out (i := 3) rfl
    have c4 := cellB HK.out (i := 4) rfl
    have c5 := cellB HK.out (i := 5) rfl
    have c6 := cellB HK.out (i := 6) rfl
    have c7 := cellB HK.out (i := 7) rfl
    have c8 := cellB HK.out (i := 8) rfl
    have c9 := cellB HK.out (i := 9) rfl
    have c10 := cellB HK.out (i := 10) rfl
    have c11 := cellB HK.out (i := 11) rfl
    have c12 := cellB HK.out (i := 12) rfl
    go_wp2_with fail
    refine (untCheck_any true uy um uk uw ud us 1 0 _ (by exact HT.out.below HB.out) (by omega) (by omega)).mono ?_
    intro e w6 hq; obtain ⟨rfl, hb⟩ := CodeU.to HU.out _ _ hq; clear hq
    have HK := Lib.hid (block_below HK.out hb)
    have HB := Lib.hid (bel_trans HB.out hb)
    have HR := Lib.hid (Rul.below HR.out hb)
    clear hb c0 c1 c2 c3 c4 c5 c6 c7 c8 c9 c10 c11 c12
    have c0 := cellB HK.out (i := 0) rfl
    have c1 := cellB HK.out (i := 1) rfl
    have c2 := cellB HK.out (i := 2) rfl
    have c3 := cellB HK.out (i := 3) rfl
    have c4 := cellB HK.out (i := 4) rfl
    have c5 := cellB HK.out (i := 5) rfl
    have c6 := cellB HK.out (i := 6) rfl
    have c7 := cellB HK.out (i := 7) rfl
    have c8 := cellB HK.out (i := 8) rfl
    have c9 := cellB HK.out (i := 9) rfl
    have c10 := cellB HK.out (i := 10) rfl
    have c11 := cellB HK.out (i := 11) rfl
    have c12 := cellB HK.out (i := 12) rfl
    go_wp2_with fail
    refine (works_any _ (by exact HT.out.below HB.out)).mono ?_
    rintro e w8 ⟨rfl, hb⟩
    have HB := Lib.hid (bel_trans HB.out hb)
    clear hb
    go_wp2_with fail
    go_ret
    exact ⟨rfl, HB.out⟩
  · obtain ⟨N, hN⟩ : ∃ N, N = 86400 * x + us := ⟨_, rfl⟩
    have HNN := Lib.hid (show untN true uy um uk uw ud us 2 0 = N by rw [hN]; exact (untN_not (by decide) HU.out HX.out))
    have c0 := cellB HK.out (i := 0) rfl
    have c1 := cellB HK.out (i := 1) rfl
    have c2 := cellB HK.out (i := 2) rfl
    have c3 := cellB HK.out (i := 3) rfl
    have c4 := cellB HK.out (i := 4) rfl
    have c5 := cellB HK.out (i := 5) rfl
    have c6 := cellB HK.out (i := 6) rfl
    have c7 := cellB HK.out (i := 7) rfl
    have c8 := cellB HK.out (i := 8) rfl
    have c9 := cellB HK.out (i := 9) rfl
    have c10 := cellB HK.out (i := 10) rfl
    have c11 := cellB HK.out (i := 11) rfl
    have c12 := cellB HK.out (i := 12) rfl
    go_wp2_with fail
    refine (untNom_any true uy um uk uw ud us 2 0 _ (by exact HT.out.below HB.out) (by omega) (by omega)).mono ?_
    intro e w4 hq; obtain ⟨rfl, hb⟩ := NomU.to HNN.out HU.out _ _ hq; clear hq
    have HK := Lib.hid (block_below HK.out hb)
    have HB := Lib.hid (bel_trans HB.out hb)
    have HR := Lib.hid (Rul.below HR.out hb)
    clear hb c0 c1 c2 c3 c4 c5 c6 c7 c8 c9 c10 c11 c12
    have c0 := cellB HK.out (i := 0) rfl
    have c1 := cellB HK.out (i := 1) rfl
    have c2 := cellB HK.out (i := 2) rfl
    have c3 := cellB HK.out (i := 3) rfl
    have c4 := cellB HK.out (i := 4) rfl
    have c5 := cellB HK.out (i := 5) rfl
    have c6 := cellB HK.out (i := 6) rfl
    have c7 := cellB HK.out (i := 7) rfl
    have c8 := cellB HK.out (i := 8) rfl
    have c9 := cellB HK.out (i := 9) rfl
    have c10 := cellB HK.out (i := 10) rfl
    have c11 := cellB HK.out (i := 11) rfl
    have c12 := cellB HK.out (i := 12) rfl
    go_wp2_with fail
    refine (untInst12 o s ⟨#[]⟩ ⟨#[88]⟩ uy um uk uw ud us x c _ _ (by exact HT.out.below HB.out) (by exact HU.out) HX.out (by omega) (by omega) (by omega) (by omega)).mono ?_
    rintro e w5 ⟨rfl, hb⟩
    have HK := Lib.hid (block_below HK.out hb)
    have HB := Lib.hid (bel_trans HB.out hb)
    have HR := Lib.hid (Rul.below HR.out hb)
    clear hb c0 c1 c2 c3 c4 c5 c6 c7 c8 c9 c10 c11 c12
    have c0 := cellB HK.out (i := 0) rfl
    have c1 := cellB HK.out (i := 1) rfl
    have c2 := cellB HK.out (i := 2) rfl
    have c3 := cellB HK.out (i := 3) rfl
    have c4 := cellB HK.out (i := 4) rfl
    have c5 := cellB HK.out (i := 5) rfl
    have c6 := cellB HK.out (i := 6) rfl
    have c7 := cellB HK.out (i := 7) rfl
    have c8 := cellB HK.out (i := 8) rfl
    have c9 := cellB HK.out (i := 9) rfl
    have c10 := cellB HK.out (i := 10) rfl
    have c11 := cellB HK.out (i := 11) rfl
    have c12 := cellB HK.out (i := 12) rfl
    go_wp2_with fail
    refine (untCheck_any true uy um uk uw ud us 2 0 _ (by exact HT.out.below HB.out) (by omega) (by omega)).mono ?_
    intro e w6 hq; obtain ⟨rfl, hb⟩ := CodeU.to HU.out _ _ hq; clear hq
    have HK := Lib.hid (block_below HK.out hb)
    have HB := Lib.hid (bel_trans HB.out hb)
    have HR := Lib.hid (Rul.below HR.out hb)
    clear hb c0 c1 c2 c3 c4 c5 c6 c7 c8 c9 c10 c11 c12
    have c0 := cellB HK.out (i := 0) rfl
    have c1 := cellB HK.out (i := 1) rfl
    have c2 := cellB HK.out (i := 2) rfl
    have c3 := cellB HK.out (i := 3) rfl
    have c4 := cellB HK.out (i := 4) rfl
    have c5 := cellB HK.out (i := 5) rfl
    have c6 := cellB HK.out (i := 6) rfl
    have c7 := cellB HK.out (i := 7) rfl
    have c8 := cellB HK.out (i := 8) rfl
    have c9 := cellB HK.out (i := 9) rfl
    have c10 := cellB HK.out (i := 10) rfl
    have c11 := cellB HK.out (i := 11) rfl
    have c12 := cellB HK.out (i := 12) rfl
    go_wp2_with fail
    refine (works_any _ (by exact HT.out.below HB.out)).mono ?_
    rintro e w8 ⟨rfl, hb⟩
    have HB := Lib.hid (bel_trans HB.out hb)
    clear hb
    go_wp2_with fail
    go_ret
    exact ⟨rfl, HB.out⟩

set_option maxRecDepth 100000 in
set_option maxHeartbeats 32000000 in
theorem untNear2 (y m b k w n at_ kind off save : Int) (v : Value) (bs : _root_.List Int) (W : World) (hT : Tabs W) (h : Drf v bs W) (wy : (Lit.int .u16 y).wf = true) (wm : (Lit.int .u8 m).wf = true) (wb : (Lit.int .u8 b).wf = true) (wk : (Lit.int .u8 k).wf = true) (ww : (Lit.int .u8 w).wf = true) (wn : (Lit.int .u8 n).wf = true) (wa : (Lit.int .i32 at_).wf = true) (kd1 : 0 ≤ kind) (kd2 : kind ≤ 255) (of1 : -2147483648 ≤ off) (of2 : off ≤ 2147483647) (sv1 : -2147483648 ≤ save) (sv2 : save ≤ 2147483647) (hq : kind % 3 = 2) :
    Calls Tryd.prog 4 #[.agg #[.int .u16 y, .int .u8 m, .int .u8 b, .int .u8 k, .int .u8 w, .int .u8 n, .int .i32 at_], .int .u8 kind, .int .i32 off, .int .i32 save, v] W fun e w' => e = .returned (.bool true) ∧ Below W.heap.size W w' := by
  have HT := Lib.hid hT
  have HD := Lib.hid (h.below (bel_alloc W (.cells #[.int .u16 y, .int .u8 m, .int .u8 b, .int .u8 k, .int .u8 w, .int .u8 n, .int .i32 at_] 38)))
  have HB := Lib.hid (bel_alloc W (.cells #[.int .u16 y, .int .u8 m, .int .u8 b, .int .u8 k, .int .u8 w, .int .u8 n, .int .i32 at_] 38))
  have HK := Lib.hid (heap_alloc_new W (.cells #[.int .u16 y, .int .u8 m, .int .u8 b, .int .u8 k, .int .u8 w, .int .u8 n, .int .i32 at_] 38))
  have HW := Lib.hid (And.intro wy (And.intro wm (And.intro wb (And.intro wk (And.intro ww (And.intro wn wa))))))
  have HQ := Lib.hid hq
  have HFS := fieldSta
  clear hT h wy wm wb wk ww wn wa hq
  go_enter Tryd.func4, Tryd.ntmps4
  go_wp2_with fail
  refine (made17s_any _ bs ⟨#[82]⟩ _ (by exact HD.out)).mono ?_
  rintro e w1 ⟨ov, rs, sv, rfl, h2, h5, hmp, _, hown, hb1⟩
  have HMP := Lib.hid hmp
  have HR := Lib.hid (rul_of_own hown (by omega) (fun r hr => (hmp.each r hr).ok.fits))
  have HK := Lib.hid (block_below HK.out hb1)
  have HB := Lib.hid (bel_trans HB.out hb1)
  clear hmp hown hb1 h2 h5 HD
  obtain ⟨Al, cl, hol⟩ := HR.out.sl
  obtain ⟨nl, hnl⟩ : ∃ nl, nl = rs.length := ⟨_, rfl⟩
  rw [← hnl] at hol
  subst hol
  clear hnl
  obtain ⟨ml1, ml2, mlb⟩ := made_least HMP.out
  obtain ⟨ls, hls⟩ : ∃ ls, ls = leastL rs := ⟨_, rfl⟩
  have HL := Lib.hid hls
  have HLB := Lib.hid (show baseL rs = ls by rw [mlb, hls])
  rw [← hls] at ml1 ml2
  clear mlb hls
  go_wp2_with fail
  refine (least_any _ rs _ (by exact HR.out)).mono ?_
  rw [← HL.out]
  rintro e w2 ⟨rfl, hb⟩
  have HK := Lib.hid (block_below HK.out hb)
  have HB := Lib.hid (bel_trans HB.out hb)
  have HR := Lib.hid (Rul.below HR.out hb)
  clear hb
  have d0 := cellB HK.out (i := 0) rfl
  have d1 := cellB HK.out (i := 1) rfl
  have d2 := cellB HK.out (i := 2) rfl
  have d3 := cellB HK.out (i := 3) rfl
  have d4 := cellB HK.out (i := 4) rfl
  have d5 := cellB HK.out (i := 5) rfl
  have d6 := cellB HK.out (i := 6) rfl
  go_wp2_with fail
  clear d0 d1 d2 d3 d4 d5 d6
  obtain ⟨o, ho⟩ : ∃ o, off.tmod 21600 = o := ⟨_, rfl⟩
  have hob := tmod_bd off 21600 (by omega)
  rw [ho] at hob
  obtain ⟨o1, o2⟩ := hob
  obtain ⟨s, hs⟩ : ∃ s, save.tmod 10800 = s := ⟨_, rfl⟩
  have hsb := tmod_bd save 10800 (by omega)
  rw [hs] at hsb
  obtain ⟨s1, s2⟩ := hsb
  refine (era2_any y m b k w n at_ kind off save ls o _ HW.out.1 HW.out.2.1 HW.out.2.2.1 HW.out.2.2.2.1 HW.out.2.2.2.2.1 HW.out.2.2.2.2.2.1 HW.out.2.2.2.2.2.2 kd1 kd2 of1 of2 sv1 sv2 (by omega) (by omega) HQ.out ho o1 o2).mono ?_
  rintro e w3 ⟨uy, um, uk, uw, ud, us, ub, HU, rfl, hb⟩
  have HB := Lib.hid (bel_trans HB.out hb)
  have HR := Lib.hid (Rul.below HR.out hb)
  obtain ⟨-, -, -, hok⟩ := untC_zero HU.out
  have hy1 : 1850 ≤ uy := hok.1
  have hy2 : uy ≤ 2149 := hok.2.1
  have hub : ub = 0 ∨ ub = 1 ∨ ub = 2 := by have := hok.2.2.1; have := hok.2.2.2.1; omega
  clear hb HK HW hok ho hs HQ kd1 kd2 of1 of2 sv1 sv2
  obtain ⟨x, c, hx⟩ : ∃ x c, on uy um uk uw ud = (x, c) := ⟨_, _, rfl⟩
  have HX := Lib.hid hx
  obtain ⟨-, -, -, -, -, -, -, x1, x2, us1, us2⟩ := unt_known HU.out hx
  clear hx
  have HN0 := Lib.hid (bel_alloc w3 (.cells #[.int .i64 o, .int .i64 2, .int .i64 0, .string ⟨#[82]⟩, .string ⟨#[88]⟩, .bool true, .int .i64 uy, .int .i64 um, .int .i64 uk, .int .i64 uw, .int .i64 ud, .int .i64 us, .int .i64 ub] 45))
  have HK := Lib.hid (heap_alloc_new w3 (.cells #[.int .i64 o, .int .i64 2, .int .i64 0, .string ⟨#[82]⟩, .string ⟨#[88]⟩, .bool true, .int .i64 uy, .int .i64 um, .int .i64 uk, .int .i64 uw, .int .i64 ud, .int .i64 us, .int .i64 ub] 45))
  have HB := Lib.hid (bel_trans HB.out HN0.out)
  have HR := Lib.hid (HR.out.below HN0.out)
  clear HN0
  rcases hub with rfl | rfl | rfl
  · obtain ⟨N, hN⟩ : ∃ N, N = 86400 * x + us := ⟨_, rfl⟩
    have HNN := Lib.hid (show untN true uy um uk uw ud us 0 ls = N by rw [hN]; exact (untN_not (by decide) HU.out HX.out))
    have c0 := cellB HK.out (i := 0) rfl
    have c1 := cellB HK.out (i := 1) rfl
    have c2 := cellB HK.out (i := 2) rfl
    have c3 := cellB HK.out (i := 3) rfl
    have c4 := cellB HK.out (i := 4) rfl
    have c5 := cellB HK.out (i := 5) rfl
    have c6 := cellB HK.out (i := 6) rfl
    have c7 := cellB HK.out (i := 7) rfl
    have c8 := cellB HK.out (i := 8) rfl
    have c9 := cellB HK.out (i := 9) rfl
    have c10 := cellB HK.out (i := 10) rfl
    have c11 := cellB HK.out (i := 11) rfl
    have c12 := cellB HK.out (i := 12) rfl
    go_wp2_with fail
    refine (untNom_any true uy um uk uw ud us 0 ls _ (by exact HT.out.below HB.out) (by omega) (by omega)).mono ?_
    intro e w4 hq; obtain ⟨rfl, hb⟩ := NomU.to HNN.out HU.out _ _ hq; clear hq
    have HK := Lib.hid (block_below HK.out hb)
    have HB := Lib.hid (bel_trans HB.out hb)
    have HR := Lib.hid (Rul.below HR.out hb)
    clear hb c0 c1 c2 c3 c4 c5 c6 c7 c8 c9 c10 c11 c12
    have c0 := cellB HK.out (i := 0) rfl
    have c1 := cellB HK.out (i := 1) rfl
    have c2 := cellB HK.out (i := 2) rfl
    have c3 := cellB HK.out (i := 3) rfl
    have c4 := cellB HK.out (i := 4) rfl
    have c5 := cellB HK.out (i := 5) rfl
    have c6 := cellB HK.out (i := 6) rfl
    have c7 := cellB HK.out (i := 7) rfl
    have c8 := cellB HK.out (i := 8) rfl
    have c9 := cellB HK.out (i := 9) rfl
    have c10 := cellB HK.out (i := 10) rfl
    have c11 := cellB HK.out (i := 11) rfl
    have c12 := cellB HK.out (i := 12) rfl
    go_wp2_with fail
    refine (untInst20 o 0 ⟨#[82]⟩ ⟨#[88]⟩ uy um uk uw ud us x c _ rs _ (by exact HT.out.below HB.out) (by exact HR.out) (made_tame HMP.out) (fun z => by have := made_befS HMP.out z; omega) (by rw [HLB.out]; exact HU.out) HX.out (by omega) (by omega)).mono ?_
    rw [HLB.out, HNN.out]
    rintro e w5 ⟨ob, HBE, rfl, hb⟩
    have HBE := Lib.hid (show BefIs rs (86400 * x + us) ob by rw [← hN]; exact HBE.out)
    have hbs := made_befS HMP.out ob
    obtain ⟨sb, hsb⟩ : ∃ sb, sb = befS rs ob := ⟨_, rfl⟩
    rw [← hsb] at hbs ⊢
    have HSB := Lib.hid hsb
    obtain ⟨sbs, sbl⟩ := sb
    dsimp only at hbs ⊢
    clear hsb
    obtain ⟨bs1, bs2⟩ := hbs
    have HK := Lib.hid (block_below HK.out hb)
    have HB := Lib.hid (bel_trans HB.out hb)
    have HR := Lib.hid (Rul.below HR.out hb)
    clear hb c0 c1 c2 c3 c4 c5 c6 c7 c8 c9 c10 c11 c12
    have c0 := cellB HK.out (i := 0) rfl
    have c1 := cellB HK.out (i := 1) rfl
    have c2 := cellB HK.out (i := 2) rfl
    have c3 := cellB HK.out (i := 3) rfl
    have c4 := cellB HK.out (i := 4) rfl
    have c5 := cellB HK.out (i := 5) rfl
    have c6 := cellB HK.out (i := 6) rfl
    have c7 := cellB HK.out (i := 7) rfl
    have c8 := cellB HK.out (i := 8) rfl
    have c9 := cellB HK.out (i := 9) rfl
    have c10 := cellB HK.out (i := 10) rfl
    have c11 := cellB HK.out (i := 11) rfl
    have c12 := cellB HK.out (i := 12) rfl
    go_wp2_with fail
    refine (untCheck_any true uy um uk uw ud us 0 ls _ (by exact HT.out.below HB.out) (by omega) (by omega)).mono ?_
    intro e w6 hq; obtain ⟨rfl, hb⟩ := CodeU.to HU.out _ _ hq; clear hq
    have HK := Lib.hid (block_below HK.out hb)
    have HB := Lib.hid (bel_trans HB.out hb)
    have HR := Lib.hid (Rul.below HR.out hb)
    clear hb c0 c1 c2 c3 c4 c5 c6 c7 c8 c9 c10 c11 c12
    have c0 := cellB HK.out (i := 0) rfl
    have c1 := cellB HK.out (i := 1) rfl
    have c2 := cellB HK.out (i := 2) rfl
    have c3 := cellB HK.out (i := 3) rfl
    have c4 := cellB HK.out (i := 4) rfl
    have c5 := cellB HK.out (i := 5) rfl
    have c6 := cellB HK.out (i := 6) rfl
    have c7 := cellB HK.out (i := 7) rfl
    have c8 := cellB HK.out (i := 8) rfl
    have c9 := cellB HK.out (i := 9) rfl
    have c10 := cellB HK.out (i := 10) rfl
    have c11 := cellB HK.out (i := 11) rfl
    have c12 := cellB HK.out (i := 12) rfl
    go_upto_region 15 with fail
    go_wp2_with fail
    refine (stBefore_any _ rs (86400 * x + us) _ (by exact HT.out.below HB.out) (by exact HR.out) (made_tame HMP.out) (by omega) (by omega)).mono ?_
    intro e w7 hq; obtain ⟨he, hb⟩ := BefR.ex HBE.out _ _ hq; clear hq
    rw [← HSB.out] at he
    subst he
    have HK := Lib.hid (block_below HK.out hb)
    have HB := Lib.hid (bel_trans HB.out hb)
    clear hb c0 c1 c2 c3 c4 c5 c6 c7 c8 c9 c10 c11 c12
    have c0 := cellB HK.out (i := 0) rfl
    have c1 := cellB HK.out (i := 1) rfl
    have c2 := cellB HK.out (i := 2) rfl
    have c3 := cellB HK.out (i := 3) rfl
    have c4 := cellB HK.out (i := 4) rfl
    have c5 := cellB HK.out (i := 5) rfl
    have c6 := cellB HK.out (i := 6) rfl
    have c7 := cellB HK.out (i := 7) rfl
    have c8 := cellB HK.out (i := 8) rfl
    have c9 := cellB HK.out (i := 9) rfl
    have c10 := cellB HK.out (i := 10) rfl
    have c11 := cellB HK.out (i := 11) rfl
    have c12 := cellB HK.out (i := 12) rfl
    go_wp2_with fail
    refine (works_any _ (by exact HT.out.below HB.out)).mono ?_
    rintro e w8 ⟨rfl, hb⟩
    have HB := Lib.hid (bel_trans HB.out hb)
    clear hb
    go_wp2_with fail
    go_ret
    exact ⟨rfl, HB.out⟩
  · obtain ⟨N, hN⟩ : ∃ N, N = 86400 * x + us + ls := ⟨_, rfl⟩
    have HNN := Lib.hid (show untN true uy um uk uw ud us 1 ls = N by rw [hN]; exact (untN_std HU.out HX.out))
    have c0 := cellB HK.out (i := 0) rfl
    have c1 := cellB HK.out (i := 1) rfl
    have c2 := cellB HK.out (i := 2) rfl
    have c3 := cellB HK.out (i := 3) rfl
    have c4 := cellB HK.out (i := 4) rfl
    have c5 := cellB HK.out (i := 5) rfl
    have c6 := cellB HK.out (i := 6) rfl
    have c7 := cellB HK.out (i := 7) rfl
    have c8 := cellB HK.out (i := 8) rfl
    have c9 := cellB HK.out (i := 9) rfl
    have c10 := cellB HK.out (i := 10) rfl
    have c11 := cellB HK.out (i := 11) rfl
    have c12 := cellB HK.out (i := 12) rfl
    go_wp2_with fail
    refine (untNom_any true uy um uk uw ud us 1 ls _ (by exact HT.out.below HB.out) (by omega) (by omega)).mono ?_
    intro e w4 hq; obtain ⟨rfl, hb⟩ := NomU.to HNN.out HU.out _ _ hq; clear hq
    have HK := Lib.hid (block_below HK.out hb)
    have HB := Lib.hid (bel_trans HB.out hb)
    have HR := Lib.hid (Rul.below HR.out hb)
    clear hb c0 c1 c2 c3 c4 c5 c6 c7 c8 c9 c10 c11 c12
    have c0 := cellB HK.out (i := 0) rfl
    have c1 := cellB HK.out (i := 1) rfl
    have c2 := cellB HK.out (i := 2) rfl
    have c3 := cellB HK.out (i := 3) rfl
    have c4 := cellB HK.out (i := 4) rfl
    have c5 := cellB HK.out (i := 5) rfl
    have c6 := cellB HK.out (i := 6) rfl
    have c7 := cellB HK.out (i := 7) rfl
    have c8 := cellB HK.out (i := 8) rfl
    have c9 := cellB HK.out (i := 9) rfl
    have c10 := cellB HK.out (i := 10) rfl
    have c11 := cellB HK.out (i := 11) rfl
    have c12 := cellB HK.out (i := 12) rfl
    go_wp2_with fail
    refine (untInst21 o 0 ⟨#[82]⟩ ⟨#[88]⟩ uy um uk uw ud us x c _ rs _ (by exact HT.out.below HB.out) (by exact HR.out) (made_tame HMP.out) (fun z => by have := made_befS HMP.out z; omega) (by rw [HLB.out]; exact HU.out) HX.out (by omega) (by omega)).mono ?_
    rw [HLB.out, HNN.out]
    rintro e w5 ⟨ob, HBE, rfl, hb⟩
    have HBE := Lib.hid (show BefIs rs (86400 * x + us + ls) ob by rw [← hN]; exact HBE.out)
    have hbs := made_befS HMP.out ob
    obtain ⟨sb, hsb⟩ : ∃ sb, sb = befS rs ob := ⟨_, rfl⟩
    rw [← hsb] at hbs 
    have HSB := Lib.hid hsb
    obtain ⟨sbs, sbl⟩ := sb
    dsimp only at hbs 
    clear hsb
    obtain ⟨bs1, bs2⟩ := hbs
    have HK := Lib.hid (block_below HK.out hb)
    have HB := Lib.hid (bel_trans HB.out hb)
    have HR := Lib.hid (Rul.below HR.out hb)
    clear hb c0 c1 c2 c3 c4 c5 c6 c7 c8 c9 c10 c11 c12
    have c0 := cellB HK.out (i := 0) rfl
    have c1 := cellB HK.out (i := 1) rfl
    have c2 := cellB HK.out (i := 2) rfl
    have c3 := cellB HK.out (i := 3) rfl
    have c4 := cellB HK.out (i := 4) rfl
    have c5 := cellB HK.out (i := 5) rfl
    have c6 := cellB HK.out (i := 6) rfl
    have c7 := cellB HK.out (i := 7) rfl
    have c8 := cellB HK.out (i := 8) rfl
    have c9 := cellB HK.out (i := 9) rfl
    have c10 := cellB HK.out (i := 10) rfl
    have c11 := cellB HK.out (i := 11) rfl
    have c12 := cellB HK.out (i := 12) rfl
    go_wp2_with fail
    refine (untCheck_any true uy um uk uw ud us 1 ls _ (by exact HT.out.below HB.out) (by omega) (by omega)).mono ?_
    intro e w6 hq; obtain ⟨rfl, hb⟩ := CodeU.to HU.out _ _ hq; clear hq
    have HK := Lib.hid (block_below HK.out hb)
    have HB := Lib.hid (bel_trans HB.out hb)
    have HR := Lib.hid (Rul.below HR.out hb)
    clear hb c0 c1 c2 c3 c4 c5 c6 c7 c8 c9 c10 c11 c12
    have c0 := cellB HK.out (i := 0) rfl
    have c1 := cellB HK.out (i := 1) rfl
    have c2 := cellB HK.out (i := 2) rfl
    have c3 := cellB HK.out (i := 3) rfl
    have c4 := cellB HK.out (i := 4) rfl
    have c5 := cellB HK.out (i := 5) rfl
    have c6 := cellB HK.out (i := 6) rfl
    have c7 := cellB HK.out (i := 7) rfl
    have c8 := cellB HK.out (i := 8) rfl
    have c9 := cellB HK.out (i := 9) rfl
    have c10 := cellB HK.out (i := 10) rfl
    have c11 := cellB HK.out (i := 11) rfl
    have c12 := cellB HK.out (i := 12) rfl
    go_upto_region 15 with fail
    go_wp2_with fail
    refine (stBefore_any _ rs (86400 * x + us + ls) _ (by exact HT.out.below HB.out) (by exact HR.out) (made_tame HMP.out) (by omega) (by omega)).mono ?_
    intro e w7 hq; obtain ⟨he, hb⟩ := BefR.ex HBE.out _ _ hq; clear hq
    rw [← HSB.out] at he
    subst he
    have HK := Lib.hid (block_below HK.out hb)
    have HB := Lib.hid (bel_trans HB.out hb)
    clear hb c0 c1 c2 c3 c4 c5 c6 c7 c8 c9 c10 c11 c12
    have c0 := cellB HK.out (i := 0) rfl
    have c1 := cellB HK.out (i := 1) rfl
    have c2 := cellB HK.out (i := 2) rfl
    have c3 := cellB HK.out (i := 3) rfl
    have c4 := cellB HK.out (i := 4) rfl
    have c5 := cellB HK.out (i := 5) rfl
    have c6 := cellB HK.out (i := 6) rfl
    have c7 := cellB HK.out (i := 7) rfl
    have c8 := cellB HK.out (i := 8) rfl
    have c9 := cellB HK.out (i := 9) rfl
    have c10 := cellB HK.out (i := 10) rfl
    have c11 := cellB HK.out (i := 11) rfl
    have c12 := cellB HK.out (i := 12) rfl
    go_wp2_with fail
    refine (works_any _ (by exact HT.out.below HB.out)).mono ?_
    rintro e w8 ⟨rfl, hb⟩
    have HB := Lib.hid (bel_trans HB.out hb)
    clear hb
    go_wp2_with fail
    go_ret
    exact ⟨rfl, HB.out⟩
  · obtain ⟨N, hN⟩ : ∃ N, N = 86400 * x + us := ⟨_, rfl⟩
    have HNN := Lib.hid (show untN true uy um uk uw ud us 2 ls = N by rw [hN]; exact (untN_not (by decide) HU.out HX.out))
    have c0 := cellB HK.out (i := 0) rfl
    have c1 := cellB HK.out (i := 1) rfl
    have c2 := cellB HK.out (i := 2) rfl
    have c3 := cellB HK.out (i := 3) rfl
    have c4 := cellB HK.out (i := 4) rfl
    have c5 := cellB HK.out (i := 5) rfl
    have c6 := cellB HK.out (i := 6) rfl
    have c7 := cellB HK.out (i := 7) rfl
    have c8 := cellB HK.out (i := 8) rfl
    have c9 := cellB HK.out (i := 9) rfl
    have c10 := cellB HK.out (i := 10) rfl
    have c11 := cellB HK.out (i := 11) rfl
    have c12 := cellB HK.out (i := 12) rfl
    go_wp2_with fail
    refine (untNom_any true uy um uk uw ud us 2 ls _ (by exact HT.out.below HB.out) (by omega) (by omega)).mono ?_
    intro e w4 hq; obtain ⟨rfl, hb⟩ := NomU.to HNN.out HU.out _ _ hq; clear hq
    have HK := Lib.hid (block_below HK.out hb)
    have HB := Lib.hid (bel_trans HB.out hb)
    have HR := Lib.hid (Rul.below HR.out hb)
    clear hb c0 c1 c2 c3 c4 c5 c6 c7 c8 c9 c10 c11 c12
    have c0 := cellB HK.out (i := 0) rfl
    have c1 := cellB HK.out (i := 1) rfl
    have c2 := cellB HK.out (i := 2) rfl
    have c3 := cellB HK.out (i := 3) rfl
    have c4 := cellB HK.out (i := 4) rfl
    have c5 := cellB HK.out (i := 5) rfl
    have c6 := cellB HK.out (i := 6) rfl
    have c7 := cellB HK.out (i := 7) rfl
    have c8 := cellB HK.out (i := 8) rfl
    have c9 := cellB HK.out (i := 9) rfl
    have c10 := cellB HK.out (i := 10) rfl
    have c11 := cellB HK.out (i := 11) rfl
    have c12 := cellB HK.out (i := 12) rfl
    go_wp2_with fail
    refine (untInst22 o 0 ⟨#[82]⟩ ⟨#[88]⟩ uy um uk uw ud us x c _ rs _ (by exact HT.out.below HB.out) (by exact HR.out) (made_tame HMP.out) (fun z => by have := made_befS HMP.out z; omega) (by rw [HLB.out]; exact HU.out) HX.out (by omega) (by omega)).mono ?_
    rw [HLB.out, HNN.out]
    rintro e w5 ⟨ob, HBE, rfl, hb⟩
    have HBE := Lib.hid (show BefIs rs (86400 * x + us) ob by rw [← hN]; exact HBE.out)
    have hbs := made_befS HMP.out ob
    obtain ⟨sb, hsb⟩ : ∃ sb, sb = befS rs ob := ⟨_, rfl⟩
    rw [← hsb] at hbs 
    have HSB := Lib.hid hsb
    obtain ⟨sbs, sbl⟩ := sb
    dsimp only at hbs 
    clear hsb
    obtain ⟨bs1, bs2⟩ := hbs
    have HK := Lib.hid (block_below HK.out hb)
    have HB := Lib.hid (bel_trans HB.out hb)
    have HR := Lib.hid (Rul.below HR.out hb)
    clear hb c0 c1 c2 c3 c4 c5 c6 c7 c8 c9 c10 c11 c12
    have c0 := cellB HK.out (i := 0) rfl
    have c1 := cellB HK.out (i := 1) rfl
    have c2 := cellB HK.out (i := 2) rfl
    have c3 := cellB HK.out (i := 3) rfl
    have c4 := cellB HK.out (i := 4) rfl
    have c5 := cellB HK.out (i := 5) rfl
    have c6 := cellB HK.out (i := 6) rfl
    have c7 := cellB HK.out (i := 7) rfl
    have c8 := cellB HK.out (i := 8) rfl
    have c9 := cellB HK.out (i := 9) rfl
    have c10 := cellB HK.out (i := 10) rfl
    have c11 := cellB HK.out (i := 11) rfl
    have c12 := cellB HK.out (i := 12) rfl
    go_wp2_with fail
    refine (untCheck_any true uy um uk uw ud us 2 ls _ (by exact HT.out.below HB.out) (by omega) (by omega)).mono ?_
    intro e w6 hq; obtain ⟨rfl, hb⟩ := CodeU.to HU.out _ _ hq; clear hq
    have HK := Lib.hid (block_below HK.out hb)
    have HB := Lib.hid (bel_trans HB.out hb)
    have HR := Lib.hid (Rul.below HR.out hb)
    clear hb c0 c1 c2 c3 c4 c5 c6 c7 c8 c9 c10 c11 c12
    have c0 := cellB HK.out (i := 0) rfl
    have c1 := cellB HK.out (i := 1) rfl
    have c2 := cellB HK.out (i := 2) rfl
    have c3 := cellB HK.out (i := 3) rfl
    have c4 := cellB HK.out (i := 4) rfl
    have c5 := cellB HK.out (i := 5) rfl
    have c6 := cellB HK.out (i := 6) rfl
    have c7 := cellB HK.out (i := 7) rfl
    have c8 := cellB HK.out (i := 8) rfl
    have c9 := cellB HK.out (i := 9) rfl
    have c10 := cellB HK.out (i := 10) rfl
    have c11 := cellB HK.out (i := 11) rfl
    have c12 := cellB HK.out (i := 12) rfl
    go_upto_region 15 with fail
    go_wp2_with fail
    refine (stBefore_any _ rs (86400 * x + us) _ (by exact HT.out.below HB.out) (by exact HR.out) (made_tame HMP.out) (by omega) (by omega)).mono ?_
    intro e w7 hq; obtain ⟨he, hb⟩ := BefR.ex HBE.out _ _ hq; clear hq
    rw [← HSB.out] at he
    subst he
    have HK := Lib.hid (block_below HK.out hb)
    have HB := Lib.hid (bel_trans HB.out hb)
    clear hb c0 c1 c2 c3 c4 c5 c6 c7 c8 c9 c10 c11 c12
    have c0 := cellB HK.out (i := 0) rfl
    have c1 := cellB HK.out (i := 1) rfl
    have c2 := cellB HK.out (i := 2) rfl
    have c3 := cellB HK.out (i := 3) rfl
    have c4 := cellB HK.out (i := 4) rfl
    have c5 := cellB HK.out (i := 5) rfl
    have c6 := cellB HK.out (i := 6) rfl
    have c7 := cellB HK.out (i := 7) rfl
    have c8 := cellB HK.out (i := 8) rfl
    have c9 := cellB HK.out (i := 9) rfl
    have c10 := cellB HK.out (i := 10) rfl
    have c11 := cellB HK.out (i := 11) rfl
    have c12 := cellB HK.out (i := 12) rfl
    go_wp2_with fail
    refine (works_any _ (by exact HT.out.below HB.out)).mono ?_
    rintro e w8 ⟨rfl, hb⟩
    have HB := Lib.hid (bel_trans HB.out hb)
    clear hb
    go_wp2_with fail
    go_ret
    exact ⟨rfl, HB.out⟩


set_option maxRecDepth 100000 in
theorem untilNear.untilNear_walk (W : World) (hL : laidMetH Tryd.prog Rows.untilNearRow.laid W) (v : Value) {H : Type} {enc : TypeId × Value → H} {base : Nat} {d : DataW H} {p : List MemPlace} (hv : Value.okWide Tryd.prog W .any base 38 v)
    (h : DataW.Trod enc Tryd.prog W 0 (fun _ => true) true 38 v d p) (q : Int) (wq : (Lit.int .u8 q).wf = true) (o : Int) (wo : (Lit.int .i32 o).wf = true) (s : Int) (ws : (Lit.int .i32 s).wf = true) (v' : Value) {base' : Nat} {d' : DataW H} {p' : List MemPlace} (hv' : Value.okWide Tryd.prog W .any base' 40 v')
    (h' : DataW.Trod enc Tryd.prog W 0 (fun _ => true) true 40 v' d' p') :
    Calls Tryd.prog 4 #[v, .int .u8 q, .int .i32 o, .int .i32 s, v'] W fun e w' => e = .returned (.bool true) ∧ Below W.heap.size W w' := by
  obtain ⟨y, m, b, k, w, n, a, rfl, w0, w1, w2, w3, w4, w5, w6⟩ := draft_of hv h
  obtain ⟨bs, hD⟩ := drf_of hv' h'
  obtain ⟨q1, q2⟩ := byte_of wq
  obtain ⟨o1, o2⟩ := i32_bd wo
  obtain ⟨s1, s2⟩ := i32_bd ws
  have hT : Tabs W := ⟨tab_of hL, ktab_of hL⟩
  have hc : q % 3 = 0 ∨ q % 3 = 1 ∨ q % 3 = 2 := by omega
  rcases hc with hc | hc | hc
  · exact untNear0 y m b k w n a q o s v' bs W hT hD w0 w1 w2 w3 w4 w5 w6 q1 q2 o1 o2 s1 s2 hc
  · exact untNear1 y m b k w n a q o s v' bs W hT hD w0 w1 w2 w3 w4 w5 w6 q1 q2 o1 o2 s1 s2 hc
  · exact untNear2 y m b k w n a q o s v' bs W hT hD w0 w1 w2 w3 w4 w5 w6 q1 q2 o1 o2 s1 s2 hc
end Go.Proofs.YtoaimfadccepiaaDoor
