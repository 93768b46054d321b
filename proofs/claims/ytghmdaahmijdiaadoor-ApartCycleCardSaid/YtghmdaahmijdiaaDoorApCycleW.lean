/-
  The walk of the law ApartCycle.
-/
import Derived.Test.YtghmdaahmijdiaaDoorApEx
namespace Go.Proofs.YtghmdaahmijdiaaDoor
open Go.RowKit Cv
set_option linter.unusedVariables false
set_option linter.unusedSimpArgs false

namespace Cv
theorem duo_on0 {r0 r1 : Ru} {lo hi : Int} {n0 n1 : Int → Int} (h : Duo r0 r1 lo hi n0 n1) {y : Int} (a : lo ≤ y) (b : y ≤ hi) : evOn [r0, r1] 0 y = some ⟨y, 0, n0 y⟩ :=
  is_evOn (e := ⟨y, 0, n0 y⟩) ((h.ev _).2 ⟨a, b, .inl ⟨rfl, rfl⟩⟩)
theorem duo_on1 {r0 r1 : Ru} {lo hi : Int} {n0 n1 : Int → Int} (h : Duo r0 r1 lo hi n0 n1) {y : Int} (a : lo ≤ y) (b : y ≤ hi) : evOn [r0, r1] 1 y = some ⟨y, 1, n1 y⟩ :=
  is_evOn (e := ⟨y, 1, n1 y⟩) ((h.ev _).2 ⟨a, b, .inr ⟨rfl, rfl⟩⟩)
theorem beh_cyc (x w : Int) : beh (x + 146097) w = beh x w + 146097 := by unfold beh; omega
theorem lp_cyc1 (y : Int) : lp (y + 400) = lp y := by unfold lp; split <;> split <;> omega
theorem fst_cyc1 (y : Int) : fst (y + 400) = fst y + 146097 := by unfold fst; omega
theorem gap_cyc (y w a b u : Int) : (86400 * (fst (y + 400) + lp (y + 400) + 58 + b) + u) - 86400 * beh (fst (y + 400) + lp (y + 400) + 58 + a) w = (86400 * (fst y + lp y + 58 + b) + u) - 86400 * beh (fst y + lp y + 58 + a) w := by
  rw [fst_cyc1, lp_cyc1, show fst y + 146097 + lp y + 58 + a = (fst y + lp y + 58 + a) + 146097 by omega, beh_cyc]
  omega
end Cv

set_option maxRecDepth 100000 in
set_option maxHeartbeats 16000000 in
theorem apCycle_core (a b c d k w pa pb p h : Int) (W : World) (hT : Tabs W) (hk : k.tmod 7 = w) (ha : a.tmod 28 = pa) (hb : b.tmod 28 = pb) (hc : c.tmod 200 = p) (hd : d.tmod 25 = h) (w1 : 0 ≤ w) (w2 : w ≤ 6) (a1 : 0 ≤ pa) (a2 : pa ≤ 27) (b1 : 0 ≤ pb) (b2 : pb ≤ 27) (c1 : 0 ≤ p) (c2 : p ≤ 199) (d1 : 0 ≤ h) (d2 : h ≤ 24) :
    Calls Tryd.prog 6 #[.int .u8 k, .int .u8 a, .int .u8 b, .int .u8 c, .int .u8 d] W fun e w' => e = .returned (.bool true) ∧ Below W.heap.size W w' := by
  have heq := eqEv
  have HT := Lib.hid hT
  clear hT
  have hfit : (sn (1900 + p) 1048576 w (1 + pa)).fits ∧ (fx (1900 + p) 1048576 (1 + pb) (3600 * h)).fits := by unfold Ru.fits fit sn fx; dsimp only; omega
  have HFIT := Lib.hid hfit
  have HDUO := Lib.hid (sn_duo (f := 1900 + p) (t := 1048576) (w := w) (a := 1 + pa) (b := 1 + pb) (u := 3600 * h) (by omega) (by omega) w1 w2 (by omega) (by omega) (by omega))
  have HW := Lib.hid (And.intro w1 w2)
  clear hfit
  go_enter Tryd.func6, Tryd.ntmps6
  go_wp2_with fail
  refine (fixed18_any (1900 + p) 1048576 1 _).mono ?_
  rintro e w1 ⟨rfl, hb1⟩
  have HB := Lib.hid (bel_trans hb1 (bel_trans (bel_alloc w1 (.cells #[.string ⟨#[82]⟩, .int .i64 (1900 + p), .int .i64 1048576, .int .i64 3, .int .i64 3, .int .i64 w, .int .i64 (1 + pa), .int .i64 0, .int .i64 0, .int .i64 0, .string ⟨#[]⟩] 34)) (bel_trans (bel_alloc _ (.cells #[.string ⟨#[82]⟩, .int .i64 (1900 + p), .int .i64 1048576, .int .i64 3, .int .i64 1, .int .i64 0, .int .i64 (1 + pb), .int .i64 (3600 * h), .int .i64 0, .int .i64 0, .string ⟨#[]⟩] 34)) (bel_alloc _ (.cells #[.string ⟨#[82]⟩, .int .i64 (1900 + p), .int .i64 1048576, .int .i64 3, .int .i64 3, .int .i64 w, .int .i64 (1 + pa), .int .i64 0, .int .i64 0, .int .i64 0, .string ⟨#[]⟩, .string ⟨#[82]⟩, .int .i64 (1900 + p), .int .i64 1048576, .int .i64 3, .int .i64 1, .int .i64 0, .int .i64 (1 + pb), .int .i64 (3600 * h), .int .i64 0, .int .i64 0, .string ⟨#[]⟩] 34)))))
  have HX := Lib.hid (show (((w1.alloc (.cells #[.string ⟨#[82]⟩, .int .i64 (1900 + p), .int .i64 1048576, .int .i64 3, .int .i64 3, .int .i64 w, .int .i64 (1 + pa), .int .i64 0, .int .i64 0, .int .i64 0, .string ⟨#[]⟩] 34)).alloc (.cells #[.string ⟨#[82]⟩, .int .i64 (1900 + p), .int .i64 1048576, .int .i64 3, .int .i64 1, .int .i64 0, .int .i64 (1 + pb), .int .i64 (3600 * h), .int .i64 0, .int .i64 0, .string ⟨#[]⟩] 34)).alloc (.cells #[.string ⟨#[82]⟩, .int .i64 (1900 + p), .int .i64 1048576, .int .i64 3, .int .i64 3, .int .i64 w, .int .i64 (1 + pa), .int .i64 0, .int .i64 0, .int .i64 0, .string ⟨#[]⟩, .string ⟨#[82]⟩, .int .i64 (1900 + p), .int .i64 1048576, .int .i64 3, .int .i64 1, .int .i64 0, .int .i64 (1 + pb), .int .i64 (3600 * h), .int .i64 0, .int .i64 0, .string ⟨#[]⟩] 34)).heap[w1.heap.size]? = some (.cells #[.string ⟨#[82]⟩, .int .i64 (1900 + p), .int .i64 1048576, .int .i64 3, .int .i64 3, .int .i64 w, .int .i64 (1 + pa), .int .i64 0, .int .i64 0, .int .i64 0, .string ⟨#[]⟩] 34) from block_below (block_below (heap_alloc_new w1 _) (bel_alloc _ _)) (bel_alloc _ _))
  have HR := Lib.hid (show Rul (.slice (some ⟨w1.heap.size + 1 + 1, 0, none⟩) 2 2) [sn (1900 + p) 1048576 w (1 + pa), fx (1900 + p) 1048576 (1 + pb) (3600 * h)] (((w1.alloc (.cells #[.string ⟨#[82]⟩, .int .i64 (1900 + p), .int .i64 1048576, .int .i64 3, .int .i64 3, .int .i64 w, .int .i64 (1 + pa), .int .i64 0, .int .i64 0, .int .i64 0, .string ⟨#[]⟩] 34)).alloc (.cells #[.string ⟨#[82]⟩, .int .i64 (1900 + p), .int .i64 1048576, .int .i64 3, .int .i64 1, .int .i64 0, .int .i64 (1 + pb), .int .i64 (3600 * h), .int .i64 0, .int .i64 0, .string ⟨#[]⟩] 34)).alloc (.cells #[.string ⟨#[82]⟩, .int .i64 (1900 + p), .int .i64 1048576, .int .i64 3, .int .i64 3, .int .i64 w, .int .i64 (1 + pa), .int .i64 0, .int .i64 0, .int .i64 0, .string ⟨#[]⟩, .string ⟨#[82]⟩, .int .i64 (1900 + p), .int .i64 1048576, .int .i64 3, .int .i64 1, .int .i64 0, .int .i64 (1 + pb), .int .i64 (3600 * h), .int .i64 0, .int .i64 0, .string ⟨#[]⟩] 34)) from
    duo_rul (r0 := sn (1900 + p) 1048576 w (1 + pa)) (r1 := fx (1900 + p) 1048576 (1 + pb) (3600 * h)) (new_atx (w := ((w1.alloc (.cells #[.string ⟨#[82]⟩, .int .i64 (1900 + p), .int .i64 1048576, .int .i64 3, .int .i64 3, .int .i64 w, .int .i64 (1 + pa), .int .i64 0, .int .i64 0, .int .i64 0, .string ⟨#[]⟩] 34)).alloc (.cells #[.string ⟨#[82]⟩, .int .i64 (1900 + p), .int .i64 1048576, .int .i64 3, .int .i64 1, .int .i64 0, .int .i64 (1 + pb), .int .i64 (3600 * h), .int .i64 0, .int .i64 0, .string ⟨#[]⟩] 34))) (.cells #[.string ⟨#[82]⟩, .int .i64 (1900 + p), .int .i64 1048576, .int .i64 3, .int .i64 3, .int .i64 w, .int .i64 (1 + pa), .int .i64 0, .int .i64 0, .int .i64 0, .string ⟨#[]⟩, .string ⟨#[82]⟩, .int .i64 (1900 + p), .int .i64 1048576, .int .i64 3, .int .i64 1, .int .i64 0, .int .i64 (1 + pb), .int .i64 (3600 * h), .int .i64 0, .int .i64 0, .string ⟨#[]⟩] 34) (by simp)) HFIT.out.1 HFIT.out.2)
  clear hb1
  have x1 := cellB HX.out (i := 1) rfl
  go_wp2_with fail
  clear x1
  go_loopw [14] (fun i wr => ∃ (t : Int) (wq : World), 0 ≤ t ∧ t ≤ 400 ∧ i = .int .i64 (1900 + p + t) ∧ wr = wq ∧ Hid (Below W.heap.size W wq) ∧ Hid (wq.heap[w1.heap.size]? = some (.cells #[.string ⟨#[82]⟩, .int .i64 (1900 + p), .int .i64 1048576, .int .i64 3, .int .i64 3, .int .i64 w, .int .i64 (1 + pa), .int .i64 0, .int .i64 0, .int .i64 0, .string ⟨#[]⟩] 34)) ∧ Hid (Rul (.slice (some ⟨w1.heap.size + 1 + 1, 0, none⟩) 2 2) [sn (1900 + p) 1048576 w (1 + pa), fx (1900 + p) 1048576 (1 + pb) (3600 * h)] wq) ∧ Hid (∀ z : Int, 1900 + p ≤ z → z < 1900 + p + t → ¬ ((86400 * (fst z + lp z + 58 + (1 + pb)) + 3600 * h) - (86400 * beh (fst z + lp z + 58 + (1 + pa)) w) < 259200 ∧ (86400 * beh (fst z + lp z + 58 + (1 + pa)) w) - (86400 * (fst z + lp z + 58 + (1 + pb)) + 3600 * h) < 259200))) (fun i _ => (2300 + p - intOf i).toNat)
  case atStart => exact ⟨0, _, by omega, by omega, by congr 1; omega, rfl, HB, HX, HR, Lib.hid (fun z h1 h2 => by omega)⟩
  case round =>
    clear HB HX HR
    obtain ⟨t, wq, ht1, ht2, rfl, rfl, HB, HX, HR, HN⟩ := hrel
    have x1 := cellB HX.out (i := 1) rfl
    obtain ⟨y, hy⟩ : ∃ y, y = 1900 + p + t := ⟨_, rfl⟩
    rw [← hy]
    rw [← hy] at HN
    by_cases hlt : t < 400
    · have hy1 : y < 1900 + p + 400 := by omega
      have hy2 : 1900 ≤ y := by omega
      have hy3 : 1900 + p ≤ y := by omega
      obtain ⟨m0, hm0⟩ : ∃ m, m = (86400 * beh (fst y + lp y + 58 + (1 + pa)) w) := ⟨_, rfl⟩
      obtain ⟨m1, hm1⟩ : ∃ m, m = (86400 * (fst y + lp y + 58 + (1 + pb)) + 3600 * h) := ⟨_, rfl⟩
      have H0 := Lib.hid (show evV (evOn [sn (1900 + p) 1048576 w (1 + pa), fx (1900 + p) 1048576 (1 + pb) (3600 * h)] 0 y) = .tuple #[.agg #[.int .i64 y, .int .i64 0, .int .i64 m0], .bool true] by rw [hm0, duo_on0 HDUO.out (by omega) (by dsimp; omega)]; rfl)
      have H1 := Lib.hid (show evV (evOn [sn (1900 + p) 1048576 w (1 + pa), fx (1900 + p) 1048576 (1 + pb) (3600 * h)] 1 y) = .tuple #[.agg #[.int .i64 y, .int .i64 1, .int .i64 m1], .bool true] by rw [hm1, duo_on1 HDUO.out (by omega) (by dsimp; omega)]; rfl)
      have hf1 := nom_fit (evOn_is (duo_on0 HDUO.out (y := y) (by omega) (by dsimp; omega))).1
      have hf2 := nom_fit (evOn_is (duo_on1 HDUO.out (y := y) (by omega) (by dsimp; omega))).1
      dsimp only at hf1 hf2
      rw [← hm0] at hf1
      rw [← hm1] at hf2
      obtain ⟨q1, q2⟩ := hf1
      obtain ⟨q3, q4⟩ := hf2
      have HM0 := Lib.hid hm0
      have HM1 := Lib.hid hm1
      have HY := Lib.hid hy
      clear hm0 hm1 hy
      go_wp2_with fail
      clear x1
      refine (evOn_any _ [sn (1900 + p) 1048576 w (1 + pa), fx (1900 + p) 1048576 (1 + pb) (3600 * h)] 0 y _ (by exact HT.out.below HB.out) (by exact HR.out) (by omega) (by omega)).mono ?_
      intro e w2 hq; obtain ⟨rfl, hb⟩ := EvR.to H0.out _ _ hq; clear hq
      have HB := Lib.hid (bel_trans (bel_trans HB.out hb) (bel_alloc w2 (.cells #[.int .i64 y, .int .i64 0, .int .i64 m0] 25)))
      have HX := Lib.hid (block_below HX.out (bel_trans hb (bel_alloc w2 (.cells #[.int .i64 y, .int .i64 0, .int .i64 m0] 25))))
      have HR := Lib.hid (Rul.below HR.out (bel_trans hb (bel_alloc w2 (.cells #[.int .i64 y, .int .i64 0, .int .i64 m0] 25))))
      have HE0 := Lib.hid (heap_alloc_new w2 (.cells #[.int .i64 y, .int .i64 0, .int .i64 m0] 25))
      clear hb
      go_wp2_with fail
      refine (evOn_any _ [sn (1900 + p) 1048576 w (1 + pa), fx (1900 + p) 1048576 (1 + pb) (3600 * h)] 1 y _ (by exact HT.out.below HB.out) (by exact HR.out) (by omega) (by omega)).mono ?_
      intro e w3 hq; obtain ⟨rfl, hb⟩ := EvR.to H1.out _ _ hq; clear hq
      have HB := Lib.hid (bel_trans (bel_trans HB.out hb) (bel_alloc w3 (.cells #[.int .i64 y, .int .i64 1, .int .i64 m1] 25)))
      have HX := Lib.hid (block_below HX.out (bel_trans hb (bel_alloc w3 (.cells #[.int .i64 y, .int .i64 1, .int .i64 m1] 25))))
      have HR := Lib.hid (Rul.below HR.out (bel_trans hb (bel_alloc w3 (.cells #[.int .i64 y, .int .i64 1, .int .i64 m1] 25))))
      have HE0 := Lib.hid (block_below HE0.out (bel_trans hb (bel_alloc w3 (.cells #[.int .i64 y, .int .i64 1, .int .i64 m1] 25))))
      have HE1 := Lib.hid (heap_alloc_new w3 (.cells #[.int .i64 y, .int .i64 1, .int .i64 m1] 25))
      clear hb
      have e0 := cellB HE0.out (i := 2) rfl
      have e1 := cellB HE1.out (i := 2) rfl
      by_cases hg : m1 - m0 < 259200 ∧ m0 - m1 < 259200
      · obtain ⟨g1, g2⟩ := hg
        have hsome := HDUO.out.some_ y (by omega) (by dsimp; omega) (by omega) (by omega) (by rw [← HM0.out, ← HM1.out]; exact ⟨g1, g2⟩) (fun z h1 h2 h3 h4 => HN.out z h1 h4)
        rw [← HM0.out, ← HM1.out] at hsome
        have g3 : -259200 < m1 - m0 := by omega
        by_cases hl : m1 < m0
        · rw [if_pos hl] at hsome
          have HS := Lib.hid hsome
          have g4 : m1 - m0 < 0 := by omega
          clear hsome
          go_wp2_with fail
          refine (close18_any _ _ _ _ _ _ (by exact HT.out.below HB.out) (by exact HR.out) HS.out).mono ?_
          rintro e w4 ⟨rfl, hb⟩
          have HB := Lib.hid (bel_trans HB.out hb)
          go_wp2_with fail
          refine (works18_any _ (by exact HT.out.below HB.out)).mono ?_
          rintro e w5 ⟨rfl, hb5⟩
          go_wp2_with fail
          go_ret
          exact ⟨rfl, bel_trans HB.out hb5⟩
        · rw [if_neg hl] at hsome
          have HS := Lib.hid hsome
          have g4 : 0 ≤ m1 - m0 := by omega
          clear hsome
          go_wp2_with fail
          refine (close18_any _ _ _ _ _ _ (by exact HT.out.below HB.out) (by exact HR.out) HS.out).mono ?_
          rintro e w4 ⟨rfl, hb⟩
          have HB := Lib.hid (bel_trans HB.out hb)
          go_wp2_with fail
          refine (works18_any _ (by exact HT.out.below HB.out)).mono ?_
          rintro e w5 ⟨rfl, hb5⟩
          go_wp2_with fail
          go_ret
          exact ⟨rfl, bel_trans HB.out hb5⟩
      · have HN2 := Lib.hid (show ∀ z : Int, 1900 + p ≤ z → z < 1900 + p + (t + 1) → ¬ ((86400 * (fst z + lp z + 58 + (1 + pb)) + 3600 * h) - (86400 * beh (fst z + lp z + 58 + (1 + pa)) w) < 259200 ∧ (86400 * beh (fst z + lp z + 58 + (1 + pa)) w) - (86400 * (fst z + lp z + 58 + (1 + pb)) + 3600 * h) < 259200) from fun z h1 h2 => by
          rcases Int.lt_or_le z y with h3 | h3
          · exact HN.out z h1 h3
          · obtain rfl : y = z := by have := HY.out; omega
            rw [← HM0.out, ← HM1.out]; exact hg)
        rcases (show 259200 ≤ m1 - m0 ∨ m1 - m0 ≤ -259200 by omega) with g1 | g1
        · clear hg
          go_wp2_with fail
          exact ⟨⟨t + 1, _, by omega, by omega, by have := HY.out; congr 1; omega, rfl, HB, HX, HR, HN2⟩, by have := HY.out; simp [intOf]; omega⟩
        · have g2 : m1 - m0 < 259200 := by omega
          clear hg
          go_wp2_with fail
          exact ⟨⟨t + 1, _, by omega, by omega, by have := HY.out; congr 1; omega, rfl, HB, HX, HR, HN2⟩, by have := HY.out; simp [intOf]; omega⟩
    · have hy1 : y = 1900 + p + 400 := by omega
      have hy3 : 1900 + p + 400 ≤ y := by omega
      have hnone := HDUO.out.none_ (fun z h1 h2 h3 h4 => by
        rcases Int.lt_or_le z y with h5 | h5
        · exact HN.out z h1 h5
        · obtain ⟨x, rfl⟩ : ∃ x, z = x + 400 := ⟨z - 400, by omega⟩
          have h6 := HN.out x (by omega) (by omega)
          have h7 := gap_cyc x w (1 + pa) (1 + pb) (3600 * h)
          omega)
      have HS := Lib.hid hnone
      clear hnone hy hy1
      go_wp2_with fail
      clear x1
      refine (apCheck_any _ _ _ (by exact HT.out.below HB.out) (by exact HR.out)).mono ?_
      intro e w2 hq; obtain ⟨rfl, hb⟩ := ChkR.to (v := .tuple #[.agg #[.int .i64 0, .int .i64 0, .int .i64 0], .int .i64 0]) HS.out rfl _ _ hq; clear hq
      have HB := Lib.hid (bel_trans (bel_trans HB.out hb) (bel_alloc w2 (.cells #[.int .i64 0, .int .i64 0, .int .i64 0] 25)))
      have HE := Lib.hid (heap_alloc_new w2 (.cells #[.int .i64 0, .int .i64 0, .int .i64 0] 25))
      clear hb
      have e0 := cellB HE.out (i := 0) rfl
      have e1 := cellB HE.out (i := 1) rfl
      have e2 := cellB HE.out (i := 2) rfl
      go_wp2_with fail
      refine (works18_any _ (by exact HT.out.below HB.out)).mono ?_
      rintro e w3 ⟨rfl, hb⟩
      go_wp2_with fail
      go_ret
      exact ⟨rfl, bel_trans HB.out hb⟩

set_option maxRecDepth 100000 in
theorem apartCycle.apartCycle_walk (W : World) (hL : laidMetH Tryd.prog Rows.apartCycleRow.laid W) (k : Int) (wk : (Lit.int .u8 k).wf = true) (a : Int) (wa : (Lit.int .u8 a).wf = true) (b : Int) (wb : (Lit.int .u8 b).wf = true) (c : Int) (wc : (Lit.int .u8 c).wf = true) (d : Int) (wd : (Lit.int .u8 d).wf = true) :
    Calls Tryd.prog 6 #[.int .u8 k, .int .u8 a, .int .u8 b, .int .u8 c, .int .u8 d] W fun e w' => e = .returned (.bool true) ∧ Below W.heap.size W w' := by
  obtain ⟨k1, k2⟩ := byte_of wk
  obtain ⟨a1, a2⟩ := byte_of wa
  obtain ⟨b1, b2⟩ := byte_of wb
  obtain ⟨c1, c2⟩ := byte_of wc
  obtain ⟨d1, d2⟩ := byte_of wd
  have tk := Int.tmod_eq_emod_of_nonneg (b := 7) k1
  have ta := Int.tmod_eq_emod_of_nonneg (b := 28) a1
  have tb := Int.tmod_eq_emod_of_nonneg (b := 28) b1
  have tc := Int.tmod_eq_emod_of_nonneg (b := 200) c1
  have td := Int.tmod_eq_emod_of_nonneg (b := 25) d1
  exact apCycle_core a b c d k _ _ _ _ _ W ⟨tab_of hL, ktab_of hL⟩ rfl rfl rfl rfl rfl (by omega) (by omega) (by omega) (by omega) (by omega) (by omega) (by omega) (by omega) (by omega) (by omega)
end Go.Proofs.YtghmdaahmijdiaaDoor
