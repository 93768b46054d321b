/-
  The walk of the law ApartMoved.
-/
import Derived.Test.YtghmdaahmijdiaaDoorApEx
namespace Go.Proofs.YtghmdaahmijdiaaDoor
open Go.RowKit Cv
set_option linter.unusedVariables false
set_option linter.unusedSimpArgs false

namespace Cv
theorem moved_none {f t a b s : Int} (hf : -2000000000 ≤ f) (ht : t ≤ 2000000000) (ha : 1 ≤ a ∧ a ≤ 31) (hb : 1 ≤ b ∧ b ≤ 31) (hs : -100000 ≤ s ∧ s ≤ 100000) (h : 3 ≤ a - b ∨ 3 ≤ b - a) : MinOf (Close [fx f t a s, fx f t b s]) none :=
  (fx_duo hf ht ha hb hs hs).none_ (fun y _ _ _ _ h => by omega)
theorem moved_some {f t a b s : Int} (hf : 1850 ≤ f) (hf2 : f ≤ 2550) (ht : t ≤ 2000000000) (hft : f ≤ t) (ha : 1 ≤ a ∧ a ≤ 31) (hb : 1 ≤ b ∧ b ≤ 31) (hs : -100000 ≤ s ∧ s ≤ 100000) (h : a - b < 3 ∧ b - a < 3) :
    MinOf (Close [fx f t a s, fx f t b s]) (some ⟨f, if b < a then 0 else 1, 86400 * (fst f + lp f + 58 + (if b < a then a else b)) + s⟩) := by
  have h2 := (fx_duo (f := f) (t := t) (a := a) (b := b) (s := s) (u := s) (by omega) ht ha hb hs hs).some_ f (by omega) (by split <;> omega) hf hf2 (by omega) (fun z h1 h2 h3 h4 => by omega)
  by_cases hl : b < a
  · rw [if_pos (by omega)] at h2
    rw [if_pos hl, if_pos hl]
    exact h2
  · rw [if_neg (by omega)] at h2
    rw [if_neg hl, if_neg hl]
    exact h2
end Cv

set_option maxRecDepth 100000 in
set_option maxHeartbeats 16000000 in
theorem apMoved_core (a b c d s pa pb p1 p2 : Int) (W : World) (hT : Tabs W) (ha : a.tmod 28 = pa) (hb : b.tmod 28 = pb) (hc : c.tmod 200 = p1) (hd : d.tmod 40 = p2) (a1 : 0 ≤ pa) (a2 : pa ≤ 27) (b1 : 0 ≤ pb) (b2 : pb ≤ 27) (c1 : 0 ≤ p1) (c2 : p1 ≤ 199) (d1 : 0 ≤ p2) (d2 : p2 ≤ 39) (s1 : -32768 ≤ s) (s2 : s ≤ 32767) :
    Calls Tryd.prog 7 #[.int .u8 a, .int .u8 b, .int .u8 c, .int .u8 d, .int .i16 s] W fun e w' => e = .returned (.bool true) ∧ Below W.heap.size W w' := by
  have HT := Lib.hid hT
  clear hT
  have hfit : ∀ x y : Int, 0 ≤ x → x ≤ 27 → -32768 ≤ y → y ≤ 32767 → (fx (1900 + p1) (1900 + p1 + p2) (1 + x) y).fits := fun x y _ _ _ _ => by unfold Ru.fits fit fx; dsimp only; omega
  have HFIT := Lib.hid hfit
  clear hfit
  go_enter Tryd.func7, Tryd.ntmps7
  go_wp2_with fail
  refine (fixed18_any (1900 + p1) (1900 + p1 + p2) (1 + pa) _).mono ?_
  rintro e w1 ⟨rfl, hb1⟩
  have HB := Lib.hid (bel_trans hb1 (bel_trans (bel_alloc w1 (.cells #[.string ⟨#[82]⟩, .int .i64 (1900 + p1), .int .i64 (1900 + p1 + p2), .int .i64 3, .int .i64 1, .int .i64 0, .int .i64 (1 + pa), .int .i64 0, .int .i64 0, .int .i64 0, .string ⟨#[]⟩] 34)) (bel_trans (bel_alloc _ (.cells #[.string ⟨#[82]⟩, .int .i64 (1900 + p1), .int .i64 (1900 + p1 + p2), .int .i64 3, .int .i64 1, .int .i64 0, .int .i64 (1 + pb), .int .i64 0, .int .i64 0, .int .i64 0, .string ⟨#[]⟩] 34)) (bel_alloc _ (.cells #[.string ⟨#[82]⟩, .int .i64 (1900 + p1), .int .i64 (1900 + p1 + p2), .int .i64 3, .int .i64 1, .int .i64 0, .int .i64 (1 + pa), .int .i64 0, .int .i64 0, .int .i64 0, .string ⟨#[]⟩, .string ⟨#[82]⟩, .int .i64 (1900 + p1), .int .i64 (1900 + p1 + p2), .int .i64 3, .int .i64 1, .int .i64 0, .int .i64 (1 + pb), .int .i64 0, .int .i64 0, .int .i64 0, .string ⟨#[]⟩] 34)))))
  have HX := Lib.hid (show (((w1.alloc (.cells #[.string ⟨#[82]⟩, .int .i64 (1900 + p1), .int .i64 (1900 + p1 + p2), .int .i64 3, .int .i64 1, .int .i64 0, .int .i64 (1 + pa), .int .i64 0, .int .i64 0, .int .i64 0, .string ⟨#[]⟩] 34)).alloc (.cells #[.string ⟨#[82]⟩, .int .i64 (1900 + p1), .int .i64 (1900 + p1 + p2), .int .i64 3, .int .i64 1, .int .i64 0, .int .i64 (1 + pb), .int .i64 0, .int .i64 0, .int .i64 0, .string ⟨#[]⟩] 34)).alloc (.cells #[.string ⟨#[82]⟩, .int .i64 (1900 + p1), .int .i64 (1900 + p1 + p2), .int .i64 3, .int .i64 1, .int .i64 0, .int .i64 (1 + pa), .int .i64 0, .int .i64 0, .int .i64 0, .string ⟨#[]⟩, .string ⟨#[82]⟩, .int .i64 (1900 + p1), .int .i64 (1900 + p1 + p2), .int .i64 3, .int .i64 1, .int .i64 0, .int .i64 (1 + pb), .int .i64 0, .int .i64 0, .int .i64 0, .string ⟨#[]⟩] 34)).heap[w1.heap.size]? = some (.cells #[.string ⟨#[82]⟩, .int .i64 (1900 + p1), .int .i64 (1900 + p1 + p2), .int .i64 3, .int .i64 1, .int .i64 0, .int .i64 (1 + pa), .int .i64 0, .int .i64 0, .int .i64 0, .string ⟨#[]⟩] 34) from block_below (block_below (heap_alloc_new w1 _) (bel_alloc _ _)) (bel_alloc _ _))
  have HZ := Lib.hid (show (((w1.alloc (.cells #[.string ⟨#[82]⟩, .int .i64 (1900 + p1), .int .i64 (1900 + p1 + p2), .int .i64 3, .int .i64 1, .int .i64 0, .int .i64 (1 + pa), .int .i64 0, .int .i64 0, .int .i64 0, .string ⟨#[]⟩] 34)).alloc (.cells #[.string ⟨#[82]⟩, .int .i64 (1900 + p1), .int .i64 (1900 + p1 + p2), .int .i64 3, .int .i64 1, .int .i64 0, .int .i64 (1 + pb), .int .i64 0, .int .i64 0, .int .i64 0, .string ⟨#[]⟩] 34)).alloc (.cells #[.string ⟨#[82]⟩, .int .i64 (1900 + p1), .int .i64 (1900 + p1 + p2), .int .i64 3, .int .i64 1, .int .i64 0, .int .i64 (1 + pa), .int .i64 0, .int .i64 0, .int .i64 0, .string ⟨#[]⟩, .string ⟨#[82]⟩, .int .i64 (1900 + p1), .int .i64 (1900 + p1 + p2), .int .i64 3, .int .i64 1, .int .i64 0, .int .i64 (1 + pb), .int .i64 0, .int .i64 0, .int .i64 0, .string ⟨#[]⟩] 34)).heap[w1.heap.size + 1]? = some (.cells #[.string ⟨#[82]⟩, .int .i64 (1900 + p1), .int .i64 (1900 + p1 + p2), .int .i64 3, .int .i64 1, .int .i64 0, .int .i64 (1 + pb), .int .i64 0, .int .i64 0, .int .i64 0, .string ⟨#[]⟩] 34) from block_below (new_atx (w := w1.alloc (.cells #[.string ⟨#[82]⟩, .int .i64 (1900 + p1), .int .i64 (1900 + p1 + p2), .int .i64 3, .int .i64 1, .int .i64 0, .int .i64 (1 + pa), .int .i64 0, .int .i64 0, .int .i64 0, .string ⟨#[]⟩] 34)) (.cells #[.string ⟨#[82]⟩, .int .i64 (1900 + p1), .int .i64 (1900 + p1 + p2), .int .i64 3, .int .i64 1, .int .i64 0, .int .i64 (1 + pb), .int .i64 0, .int .i64 0, .int .i64 0, .string ⟨#[]⟩] 34) (by simp)) (bel_alloc _ _))
  have HR := Lib.hid (show Rul (.slice (some ⟨w1.heap.size + 1 + 1, 0, none⟩) 2 2) [fx (1900 + p1) (1900 + p1 + p2) (1 + pa) 0, fx (1900 + p1) (1900 + p1 + p2) (1 + pb) 0] (((w1.alloc (.cells #[.string ⟨#[82]⟩, .int .i64 (1900 + p1), .int .i64 (1900 + p1 + p2), .int .i64 3, .int .i64 1, .int .i64 0, .int .i64 (1 + pa), .int .i64 0, .int .i64 0, .int .i64 0, .string ⟨#[]⟩] 34)).alloc (.cells #[.string ⟨#[82]⟩, .int .i64 (1900 + p1), .int .i64 (1900 + p1 + p2), .int .i64 3, .int .i64 1, .int .i64 0, .int .i64 (1 + pb), .int .i64 0, .int .i64 0, .int .i64 0, .string ⟨#[]⟩] 34)).alloc (.cells #[.string ⟨#[82]⟩, .int .i64 (1900 + p1), .int .i64 (1900 + p1 + p2), .int .i64 3, .int .i64 1, .int .i64 0, .int .i64 (1 + pa), .int .i64 0, .int .i64 0, .int .i64 0, .string ⟨#[]⟩, .string ⟨#[82]⟩, .int .i64 (1900 + p1), .int .i64 (1900 + p1 + p2), .int .i64 3, .int .i64 1, .int .i64 0, .int .i64 (1 + pb), .int .i64 0, .int .i64 0, .int .i64 0, .string ⟨#[]⟩] 34)) from
    duo_rul (r0 := fx (1900 + p1) (1900 + p1 + p2) (1 + pa) 0) (r1 := fx (1900 + p1) (1900 + p1 + p2) (1 + pb) 0) (new_atx (w := ((w1.alloc (.cells #[.string ⟨#[82]⟩, .int .i64 (1900 + p1), .int .i64 (1900 + p1 + p2), .int .i64 3, .int .i64 1, .int .i64 0, .int .i64 (1 + pa), .int .i64 0, .int .i64 0, .int .i64 0, .string ⟨#[]⟩] 34)).alloc (.cells #[.string ⟨#[82]⟩, .int .i64 (1900 + p1), .int .i64 (1900 + p1 + p2), .int .i64 3, .int .i64 1, .int .i64 0, .int .i64 (1 + pb), .int .i64 0, .int .i64 0, .int .i64 0, .string ⟨#[]⟩] 34))) (.cells #[.string ⟨#[82]⟩, .int .i64 (1900 + p1), .int .i64 (1900 + p1 + p2), .int .i64 3, .int .i64 1, .int .i64 0, .int .i64 (1 + pa), .int .i64 0, .int .i64 0, .int .i64 0, .string ⟨#[]⟩, .string ⟨#[82]⟩, .int .i64 (1900 + p1), .int .i64 (1900 + p1 + p2), .int .i64 3, .int .i64 1, .int .i64 0, .int .i64 (1 + pb), .int .i64 0, .int .i64 0, .int .i64 0, .string ⟨#[]⟩] 34) (by simp)) (HFIT.out _ _ a1 a2 (by decide) (by decide)) (HFIT.out _ _ b1 b2 (by decide) (by decide)))
  clear hb1

  rcases (show (pa - pb < 3 ∧ -3 < pa - pb) ∨ 3 ≤ pa - pb ∨ pa - pb ≤ -3 by omega) with ⟨h1, h2⟩ | h1 | h1
  · obtain ⟨r, hr⟩ : ∃ r : Int, r = (if 1 + pb < 1 + pa then 0 else 1) := ⟨_, rfl⟩
    obtain ⟨m, hm⟩ : ∃ m : Int, m = 86400 * (fst (1900 + p1) + lp (1900 + p1) + 58 + (if 1 + pb < 1 + pa then 1 + pa else 1 + pb)) + 0 := ⟨_, rfl⟩
    have HM1 := Lib.hid (moved_some (f := 1900 + p1) (t := 1900 + p1 + p2) (a := 1 + pa) (b := 1 + pb) (s := 0) (by omega) (by omega) (by omega) (by omega) (by omega) (by omega) (by omega) (by omega))
    have HM2 := Lib.hid (moved_some (f := 1900 + p1) (t := 1900 + p1 + p2) (a := 1 + pa) (b := 1 + pb) (s := s) (by omega) (by omega) (by omega) (by omega) (by omega) (by omega) (by omega) (by omega))
    have hm2 : 86400 * (fst (1900 + p1) + lp (1900 + p1) + 58 + (if 1 + pb < 1 + pa then 1 + pa else 1 + pb)) + s = m + s := by omega
    rw [← hr, ← hm] at HM1
    rw [← hr, hm2] at HM2
    have hmb := nom_fit HM1.out.1.1.1
    dsimp only at hmb
    obtain ⟨hm3, hm4⟩ := hmb
    clear hr hm hm2
    go_wp2_with fail
    refine (apCheck_any _ _ _ (by exact HT.out.below HB.out) (by exact HR.out)).mono ?_
    intro e w2 hq; obtain ⟨rfl, hb⟩ := ChkR.to (v := .tuple #[.agg #[.int .i64 (1900 + p1), .int .i64 r, .int .i64 m], .int .i64 13]) HM1.out rfl _ _ hq; clear hq
    have HB1 := Lib.hid (bel_trans (bel_trans HB.out hb) (bel_alloc w2 (.cells #[.int .i64 (1900 + p1), .int .i64 r, .int .i64 m] 25)))
    have HX1 := Lib.hid (block_below HX.out (bel_trans hb (bel_alloc w2 (.cells #[.int .i64 (1900 + p1), .int .i64 r, .int .i64 m] 25))))
    have HZ1 := Lib.hid (block_below HZ.out (bel_trans hb (bel_alloc w2 (.cells #[.int .i64 (1900 + p1), .int .i64 r, .int .i64 m] 25))))
    have HE1 := Lib.hid (heap_alloc_new w2 (.cells #[.int .i64 (1900 + p1), .int .i64 r, .int .i64 m] 25))
    have HE2 := Lib.hid (block_below HE1.out (bel_alloc _ (.cells #[.string ⟨#[82]⟩, .int .i64 (1900 + p1), .int .i64 (1900 + p1 + p2), .int .i64 3, .int .i64 1, .int .i64 0, .int .i64 (1 + pa), .int .i64 s, .int .i64 0, .int .i64 0, .string ⟨#[]⟩, .string ⟨#[82]⟩, .int .i64 (1900 + p1), .int .i64 (1900 + p1 + p2), .int .i64 3, .int .i64 1, .int .i64 0, .int .i64 (1 + pb), .int .i64 s, .int .i64 0, .int .i64 0, .string ⟨#[]⟩] 34)))
    have HX2 := Lib.hid (block_below HX1.out (bel_alloc _ (.cells #[.string ⟨#[82]⟩, .int .i64 (1900 + p1), .int .i64 (1900 + p1 + p2), .int .i64 3, .int .i64 1, .int .i64 0, .int .i64 (1 + pa), .int .i64 s, .int .i64 0, .int .i64 0, .string ⟨#[]⟩, .string ⟨#[82]⟩, .int .i64 (1900 + p1), .int .i64 (1900 + p1 + p2), .int .i64 3, .int .i64 1, .int .i64 0, .int .i64 (1 + pb), .int .i64 s, .int .i64 0, .int .i64 0, .string ⟨#[]⟩] 34)))
    have HR2 := Lib.hid (duo_rul (r0 := fx (1900 + p1) (1900 + p1 + p2) (1 + pa) s) (r1 := fx (1900 + p1) (1900 + p1 + p2) (1 + pb) s) (new_atx (w := (w2.alloc (.cells #[.int .i64 (1900 + p1), .int .i64 r, .int .i64 m] 25))) (n := w2.heap.size + 1) (.cells #[.string ⟨#[82]⟩, .int .i64 (1900 + p1), .int .i64 (1900 + p1 + p2), .int .i64 3, .int .i64 1, .int .i64 0, .int .i64 (1 + pa), .int .i64 s, .int .i64 0, .int .i64 0, .string ⟨#[]⟩, .string ⟨#[82]⟩, .int .i64 (1900 + p1), .int .i64 (1900 + p1 + p2), .int .i64 3, .int .i64 1, .int .i64 0, .int .i64 (1 + pb), .int .i64 s, .int .i64 0, .int .i64 0, .string ⟨#[]⟩] 34) (by simp)) (HFIT.out _ _ a1 a2 s1 s2) (HFIT.out _ _ b1 b2 s1 s2))
    have HB2 := Lib.hid (bel_trans HB1.out (bel_alloc _ (.cells #[.string ⟨#[82]⟩, .int .i64 (1900 + p1), .int .i64 (1900 + p1 + p2), .int .i64 3, .int .i64 1, .int .i64 0, .int .i64 (1 + pa), .int .i64 s, .int .i64 0, .int .i64 0, .string ⟨#[]⟩, .string ⟨#[82]⟩, .int .i64 (1900 + p1), .int .i64 (1900 + p1 + p2), .int .i64 3, .int .i64 1, .int .i64 0, .int .i64 (1 + pb), .int .i64 s, .int .i64 0, .int .i64 0, .string ⟨#[]⟩] 34)))
    clear hb
    have x0 := cellB HX1.out (i := 0) rfl
    have x1 := cellB HX1.out (i := 1) rfl
    have x2 := cellB HX1.out (i := 2) rfl
    have x3 := cellB HX1.out (i := 3) rfl
    have x4 := cellB HX1.out (i := 4) rfl
    have x5 := cellB HX1.out (i := 5) rfl
    have x6 := cellB HX1.out (i := 6) rfl
    have x7 := cellB HX1.out (i := 7) rfl
    have x8 := cellB HX1.out (i := 8) rfl
    have x9 := cellB HX1.out (i := 9) rfl
    have x10 := cellB HX1.out (i := 10) rfl
    have z0 := cellB HZ1.out (i := 0) rfl
    have z1 := cellB HZ1.out (i := 1) rfl
    have z2 := cellB HZ1.out (i := 2) rfl
    have z3 := cellB HZ1.out (i := 3) rfl
    have z4 := cellB HZ1.out (i := 4) rfl
    have z5 := cellB HZ1.out (i := 5) rfl
    have z6 := cellB HZ1.out (i := 6) rfl
    have z7 := cellB HZ1.out (i := 7) rfl
    have z8 := cellB HZ1.out (i := 8) rfl
    have z9 := cellB HZ1.out (i := 9) rfl
    have z10 := cellB HZ1.out (i := 10) rfl
    go_wp2_with fail
    clear x0 x1 x2 x3 x4 x5 x6 x7 x8 x9 x10 z0 z1 z2 z3 z4 z5 z6 z7 z8 z9 z10
    go_loopw [17] (fun i wr => (i = .int .i64 0 ∧ wr = (w2.alloc (.cells #[.int .i64 (1900 + p1), .int .i64 r, .int .i64 m] 25)).alloc (.cells #[.string ⟨#[82]⟩, .int .i64 (1900 + p1), .int .i64 (1900 + p1 + p2), .int .i64 3, .int .i64 1, .int .i64 0, .int .i64 (1 + pa), .int .i64 0, .int .i64 0, .int .i64 0, .string ⟨#[]⟩, .string ⟨#[82]⟩, .int .i64 (1900 + p1), .int .i64 (1900 + p1 + p2), .int .i64 3, .int .i64 1, .int .i64 0, .int .i64 (1 + pb), .int .i64 0, .int .i64 0, .int .i64 0, .string ⟨#[]⟩] 34)) ∨ (i = .int .i64 1 ∧ wr = (w2.alloc (.cells #[.int .i64 (1900 + p1), .int .i64 r, .int .i64 m] 25)).alloc (.cells #[.string ⟨#[82]⟩, .int .i64 (1900 + p1), .int .i64 (1900 + p1 + p2), .int .i64 3, .int .i64 1, .int .i64 0, .int .i64 (1 + pa), .int .i64 s, .int .i64 0, .int .i64 0, .string ⟨#[]⟩, .string ⟨#[82]⟩, .int .i64 (1900 + p1), .int .i64 (1900 + p1 + p2), .int .i64 3, .int .i64 1, .int .i64 0, .int .i64 (1 + pb), .int .i64 0, .int .i64 0, .int .i64 0, .string ⟨#[]⟩] 34)) ∨ (i = .int .i64 2 ∧ wr = (w2.alloc (.cells #[.int .i64 (1900 + p1), .int .i64 r, .int .i64 m] 25)).alloc (.cells #[.string ⟨#[82]⟩, .int .i64 (1900 + p1), .int .i64 (1900 + p1 + p2), .int .i64 3, .int .i64 1, .int .i64 0, .int .i64 (1 + pa), .int .i64 s, .int .i64 0, .int .i64 0, .string ⟨#[]⟩, .string ⟨#[82]⟩, .int .i64 (1900 + p1), .int .i64 (1900 + p1 + p2), .int .i64 3, .int .i64 1, .int .i64 0, .int .i64 (1 + pb), .int .i64 s, .int .i64 0, .int .i64 0, .string ⟨#[]⟩] 34))) (fun i _ => 2 - (intOf i).toNat)
    case atStart => exact .inl ⟨rfl, rfl⟩
    case round =>
      rcases hrel with ⟨rfl, rfl⟩ | ⟨rfl, rfl⟩ | ⟨rfl, rfl⟩
      · go_wp2_with fail
        first
          | exact ⟨.inr (.inl ⟨(by first | rfl | trivial), (by first | rfl | trivial)⟩), by simp [intOf]⟩
          | (go_round
             case rel => exact .inr (.inl ⟨(by first | rfl | trivial), (by first | rfl | trivial)⟩)
             case measure => simp [intOf])
      · go_wp2_with fail
        first
          | exact ⟨.inr (.inr ⟨(by first | rfl | trivial), (by first | rfl | trivial)⟩), by simp [intOf]⟩
          | (go_round
             case rel => exact .inr (.inr ⟨(by first | rfl | trivial), (by first | rfl | trivial)⟩)
             case measure => simp [intOf])
      · go_wp2_with fail
        refine (apCheck_any _ _ _ (by exact HT.out.below HB2.out) (by exact HR2.out)).mono ?_
        intro e w3 hq; obtain ⟨rfl, hb⟩ := ChkR.to (v := .tuple #[.agg #[.int .i64 (1900 + p1), .int .i64 r, .int .i64 (m + s)], .int .i64 13]) HM2.out rfl _ _ hq; clear hq
        have HB3 := Lib.hid (bel_trans (bel_trans HB2.out hb) (bel_alloc w3 (.cells #[.int .i64 (1900 + p1), .int .i64 r, .int .i64 (m + s)] 25)))
        have HX3 := Lib.hid (block_below HX2.out (bel_trans hb (bel_alloc w3 (.cells #[.int .i64 (1900 + p1), .int .i64 r, .int .i64 (m + s)] 25))))
        have HE3 := Lib.hid (block_below HE2.out (bel_trans hb (bel_alloc w3 (.cells #[.int .i64 (1900 + p1), .int .i64 r, .int .i64 (m + s)] 25))))
        have HG3 := Lib.hid (heap_alloc_new w3 (.cells #[.int .i64 (1900 + p1), .int .i64 r, .int .i64 (m + s)] 25))
        clear hb
        have x1 := cellB HX3.out (i := 1) rfl
        have x2 := cellB HX3.out (i := 2) rfl
        have e0 := cellB HE3.out (i := 0) rfl
        have e1 := cellB HE3.out (i := 1) rfl
        have e2 := cellB HE3.out (i := 2) rfl
        have g0 := cellB HG3.out (i := 0) rfl
        have g1 := cellB HG3.out (i := 1) rfl
        have g2 := cellB HG3.out (i := 2) rfl
        go_wp2_with fail
        refine (works18_any _ (by exact HT.out.below HB3.out)).mono ?_
        rintro e w4 ⟨rfl, hb⟩
        go_wp2_with fail
        go_ret
        exact ⟨rfl, bel_trans HB3.out hb⟩
  · have HM1 := Lib.hid (moved_none (f := 1900 + p1) (t := 1900 + p1 + p2) (a := 1 + pa) (b := 1 + pb) (s := 0) (by omega) (by omega) (by omega) (by omega) (by omega) (by omega))
    have HM2 := Lib.hid (moved_none (f := 1900 + p1) (t := 1900 + p1 + p2) (a := 1 + pa) (b := 1 + pb) (s := s) (by omega) (by omega) (by omega) (by omega) (by omega) (by omega))
    go_wp2_with fail
    refine (apCheck_any _ _ _ (by exact HT.out.below HB.out) (by exact HR.out)).mono ?_
    intro e w2 hq; obtain ⟨rfl, hb⟩ := ChkR.to (v := .tuple #[.agg #[.int .i64 0, .int .i64 0, .int .i64 0], .int .i64 0]) HM1.out rfl _ _ hq; clear hq
    have HB1 := Lib.hid (bel_trans (bel_trans HB.out hb) (bel_alloc w2 (.cells #[.int .i64 0, .int .i64 0, .int .i64 0] 25)))
    have HX1 := Lib.hid (block_below HX.out (bel_trans hb (bel_alloc w2 (.cells #[.int .i64 0, .int .i64 0, .int .i64 0] 25))))
    have HZ1 := Lib.hid (block_below HZ.out (bel_trans hb (bel_alloc w2 (.cells #[.int .i64 0, .int .i64 0, .int .i64 0] 25))))
    have HE1 := Lib.hid (heap_alloc_new w2 (.cells #[.int .i64 0, .int .i64 0, .int .i64 0] 25))
    have HE2 := Lib.hid (block_below HE1.out (bel_alloc _ (.cells #[.string ⟨#[82]⟩, .int .i64 (1900 + p1), .int .i64 (1900 + p1 + p2), .int .i64 3, .int .i64 1, .int .i64 0, .int .i64 (1 + pa), .int .i64 s, .int .i64 0, .int .i64 0, .string ⟨#[]⟩, .string ⟨#[82]⟩, .int .i64 (1900 + p1), .int .i64 (1900 + p1 + p2), .int .i64 3, .int .i64 1, .int .i64 0, .int .i64 (1 + pb), .int .i64 s, .int .i64 0, .int .i64 0, .string ⟨#[]⟩] 34)))
    have HX2 := Lib.hid (block_below HX1.out (bel_alloc _ (.cells #[.string ⟨#[82]⟩, .int .i64 (1900 + p1), .int .i64 (1900 + p1 + p2), .int .i64 3, .int .i64 1, .int .i64 0, .int .i64 (1 + pa), .int .i64 s, .int .i64 0, .int .i64 0, .string ⟨#[]⟩, .string ⟨#[82]⟩, .int .i64 (1900 + p1), .int .i64 (1900 + p1 + p2), .int .i64 3, .int .i64 1, .int .i64 0, .int .i64 (1 + pb), .int .i64 s, .int .i64 0, .int .i64 0, .string ⟨#[]⟩] 34)))
    have HR2 := Lib.hid (duo_rul (r0 := fx (1900 + p1) (1900 + p1 + p2) (1 + pa) s) (r1 := fx (1900 + p1) (1900 + p1 + p2) (1 + pb) s) (new_atx (w := (w2.alloc (.cells #[.int .i64 0, .int .i64 0, .int .i64 0] 25))) (n := w2.heap.size + 1) (.cells #[.string ⟨#[82]⟩, .int .i64 (1900 + p1), .int .i64 (1900 + p1 + p2), .int .i64 3, .int .i64 1, .int .i64 0, .int .i64 (1 + pa), .int .i64 s, .int .i64 0, .int .i64 0, .string ⟨#[]⟩, .string ⟨#[82]⟩, .int .i64 (1900 + p1), .int .i64 (1900 + p1 + p2), .int .i64 3, .int .i64 1, .int .i64 0, .int .i64 (1 + pb), .int .i64 s, .int .i64 0, .int .i64 0, .string ⟨#[]⟩] 34) (by simp)) (HFIT.out _ _ a1 a2 s1 s2) (HFIT.out _ _ b1 b2 s1 s2))
    have HB2 := Lib.hid (bel_trans HB1.out (bel_alloc _ (.cells #[.string ⟨#[82]⟩, .int .i64 (1900 + p1), .int .i64 (1900 + p1 + p2), .int .i64 3, .int .i64 1, .int .i64 0, .int .i64 (1 + pa), .int .i64 s, .int .i64 0, .int .i64 0, .string ⟨#[]⟩, .string ⟨#[82]⟩, .int .i64 (1900 + p1), .int .i64 (1900 + p1 + p2), .int .i64 3, .int .i64 1, .int .i64 0, .int .i64 (1 + pb), .int .i64 s, .int .i64 0, .int .i64 0, .string ⟨#[]⟩] 34)))
    clear hb
    have x0 := cellB HX1.out (i := 0) rfl
    have x1 := cellB HX1.out (i := 1) rfl
    have x2 := cellB HX1.out (i := 2) rfl
    have x3 := cellB HX1.out (i := 3) rfl
    have x4 := cellB HX1.out (i := 4) rfl
    have x5 := cellB HX1.out (i := 5) rfl
    have x6 := cellB HX1.out (i := 6) rfl
    have x7 := cellB HX1.out (i := 7) rfl
    have x8 := cellB HX1.out (i := 8) rfl
    have x9 := cellB HX1.out (i := 9) rfl
    have x10 := cellB HX1.out (i := 10) rfl
    have z0 := cellB HZ1.out (i := 0) rfl
    have z1 := cellB HZ1.out (i := 1) rfl
    have z2 := cellB HZ1.out (i := 2) rfl
    have z3 := cellB HZ1.out (i := 3) rfl
    have z4 := cellB HZ1.out (i := 4) rfl
    have z5 := cellB HZ1.out (i := 5) rfl
    have z6 := cellB HZ1.out (i := 6) rfl
    have z7 := cellB HZ1.out (i := 7) rfl
    have z8 := cellB HZ1.out (i := 8) rfl
    have z9 := cellB HZ1.out (i := 9) rfl
    have z10 := cellB HZ1.out (i := 10) rfl
    go_wp2_with fail
    clear x0 x1 x2 x3 x4 x5 x6 x7 x8 x9 x10 z0 z1 z2 z3 z4 z5 z6 z7 z8 z9 z10
    go_loopw [17] (fun i wr => (i = .int .i64 0 ∧ wr = (w2.alloc (.cells #[.int .i64 0, .int .i64 0, .int .i64 0] 25)).alloc (.cells #[.string ⟨#[82]⟩, .int .i64 (1900 + p1), .int .i64 (1900 + p1 + p2), .int .i64 3, .int .i64 1, .int .i64 0, .int .i64 (1 + pa), .int .i64 0, .int .i64 0, .int .i64 0, .string ⟨#[]⟩, .string ⟨#[82]⟩, .int .i64 (1900 + p1), .int .i64 (1900 + p1 + p2), .int .i64 3, .int .i64 1, .int .i64 0, .int .i64 (1 + pb), .int .i64 0, .int .i64 0, .int .i64 0, .string ⟨#[]⟩] 34)) ∨ (i = .int .i64 1 ∧ wr = (w2.alloc (.cells #[.int .i64 0, .int .i64 0, .int .i64 0] 25)).alloc (.cells #[.string ⟨#[82]⟩, .int .i64 (1900 + p1), .int .i64 (1900 + p1 + p2), .int .i64 3, .int .i64 1, .int .i64 0, .int .i64 (1 + pa), .int .i64 s, .int .i64 0, .int .i64 0, .string ⟨#[]⟩, .string ⟨#[82]⟩, .int .i64 (1900 + p1), .int .i64 (1900 + p1 + p2), .int .i64 3, .int .i64 1, .int .i64 0, .int .i64 (1 + pb), .int .i64 0, .int .i64 0, .int .i64 0, .string ⟨#[]⟩] 34)) ∨ (i = .int .i64 2 ∧ wr = (w2.alloc (.cells #[.int .i64 0, .int .i64 0, .int .i64 0] 25)).alloc (.cells #[.string ⟨#[82]⟩, .int .i64 (1900 + p1), .int .i64 (1900 + p1 + p2), .int .i64 3, .int .i64 1, .int .i64 0, .int .i64 (1 + pa), .int .i64 s, .int .i64 0, .int .i64 0, .string ⟨#[]⟩, .string ⟨#[82]⟩, .int .i64 (1900 + p1), .int .i64 (1900 + p1 + p2), .int .i64 3, .int .i64 1, .int .i64 0, .int .i64 (1 + pb), .int .i64 s, .int .i64 0, .int .i64 0, .string ⟨#[]⟩] 34))) (fun i _ => 2 - (intOf i).toNat)
    case atStart => exact .inl ⟨rfl, rfl⟩
    case round =>
      rcases hrel with ⟨rfl, rfl⟩ | ⟨rfl, rfl⟩ | ⟨rfl, rfl⟩
      · go_wp2_with fail
        first
          | exact ⟨.inr (.inl ⟨(by first | rfl | trivial), (by first | rfl | trivial)⟩), by simp [intOf]⟩
          | (go_round
             case rel => exact .inr (.inl ⟨(by first | rfl | trivial), (by first | rfl | trivial)⟩)
             case measure => simp [intOf])
      · go_wp2_with fail
        first
          | exact ⟨.inr (.inr ⟨(by first | rfl | trivial), (by first | rfl | trivial)⟩), by simp [intOf]⟩
          | (go_round
             case rel => exact .inr (.inr ⟨(by first | rfl | trivial), (by first | rfl | trivial)⟩)
             case measure => simp [intOf])
      · go_wp2_with fail
        refine (apCheck_any _ _ _ (by exact HT.out.below HB2.out) (by exact HR2.out)).mono ?_
        intro e w3 hq; obtain ⟨rfl, hb⟩ := ChkR.to (v := .tuple #[.agg #[.int .i64 0, .int .i64 0, .int .i64 0], .int .i64 0]) HM2.out rfl _ _ hq; clear hq
        have HB3 := Lib.hid (bel_trans (bel_trans HB2.out hb) (bel_alloc w3 (.cells #[.int .i64 0, .int .i64 0, .int .i64 0] 25)))
        have HX3 := Lib.hid (block_below HX2.out (bel_trans hb (bel_alloc w3 (.cells #[.int .i64 0, .int .i64 0, .int .i64 0] 25))))
        have HE3 := Lib.hid (block_below HE2.out (bel_trans hb (bel_alloc w3 (.cells #[.int .i64 0, .int .i64 0, .int .i64 0] 25))))
        have HG3 := Lib.hid (heap_alloc_new w3 (.cells #[.int .i64 0, .int .i64 0, .int .i64 0] 25))
        clear hb
        have x1 := cellB HX3.out (i := 1) rfl
        have x2 := cellB HX3.out (i := 2) rfl
        have e0 := cellB HE3.out (i := 0) rfl
        have e1 := cellB HE3.out (i := 1) rfl
        have e2 := cellB HE3.out (i := 2) rfl
        have g0 := cellB HG3.out (i := 0) rfl
        have g1 := cellB HG3.out (i := 1) rfl
        have g2 := cellB HG3.out (i := 2) rfl
        go_wp2_with fail
        refine (works18_any _ (by exact HT.out.below HB3.out)).mono ?_
        rintro e w4 ⟨rfl, hb⟩
        go_wp2_with fail
        go_ret
        exact ⟨rfl, bel_trans HB3.out hb⟩
  · have HM1 := Lib.hid (moved_none (f := 1900 + p1) (t := 1900 + p1 + p2) (a := 1 + pa) (b := 1 + pb) (s := 0) (by omega) (by omega) (by omega) (by omega) (by omega) (by omega))
    have HM2 := Lib.hid (moved_none (f := 1900 + p1) (t := 1900 + p1 + p2) (a := 1 + pa) (b := 1 + pb) (s := s) (by omega) (by omega) (by omega) (by omega) (by omega) (by omega))
    go_wp2_with fail
    refine (apCheck_any _ _ _ (by exact HT.out.below HB.out) (by exact HR.out)).mono ?_
    intro e w2 hq; obtain ⟨rfl, hb⟩ := ChkR.to (v := .tuple #[.agg #[.int .i64 0, .int .i64 0, .int .i64 0], .int .i64 0]) HM1.out rfl _ _ hq; clear hq
    have HB1 := Lib.hid (bel_trans (bel_trans HB.out hb) (bel_alloc w2 (.cells #[.int .i64 0, .int .i64 0, .int .i64 0] 25)))
    have HX1 := Lib.hid (block_below HX.out (bel_trans hb (bel_alloc w2 (.cells #[.int .i64 0, .int .i64 0, .int .i64 0] 25))))
    have HZ1 := Lib.hid (block_below HZ.out (bel_trans hb (bel_alloc w2 (.cells #[.int .i64 0, .int .i64 0, .int .i64 0] 25))))
    have HE1 := Lib.hid (heap_alloc_new w2 (.cells #[.int .i64 0, .int .i64 0, .int .i64 0] 25))
    have HE2 := Lib.hid (block_below HE1.out (bel_alloc _ (.cells #[.string ⟨#[82]⟩, .int .i64 (1900 + p1), .int .i64 (1900 + p1 + p2), .int .i64 3, .int .i64 1, .int .i64 0, .int .i64 (1 + pa), .int .i64 s, .int .i64 0, .int .i64 0, .string ⟨#[]⟩, .string ⟨#[82]⟩, .int .i64 (1900 + p1), .int .i64 (1900 + p1 + p2), .int .i64 3, .int .i64 1, .int .i64 0, .int .i64 (1 + pb), .int .i64 s, .int .i64 0, .int .i64 0, .string ⟨#[]⟩] 34)))
    have HX2 := Lib.hid (block_below HX1.out (bel_alloc _ (.cells #[.string ⟨#[82]⟩, .int .i64 (1900 + p1), .int .i64 (1900 + p1 + p2), .int .i64 3, .int .i64 1, .int .i64 0, .int .i64 (1 + pa), .int .i64 s, .int .i64 0, .int .i64 0, .string ⟨#[]⟩, .string ⟨#[82]⟩, .int .i64 (1900 + p1), .int .i64 (1900 + p1 + p2), .int .i64 3, .int .i64 1, .int .i64 0, .int .i64 (1 + pb), .int .i64 s, .int .i64 0, .int .i64 0, .string ⟨#[]⟩] 34)))
    have HR2 := Lib.hid (duo_rul (r0 := fx (1900 + p1) (1900 + p1 + p2) (1 + pa) s) (r1 := fx (1900 + p1) (1900 + p1 + p2) (1 + pb) s) (new_atx (w := (w2.alloc (.cells #[.int .i64 0, .int .i64 0, .int .i64 0] 25))) (n := w2.heap.size + 1) (.cells #[.string ⟨#[82]⟩, .int .i64 (1900 + p1), .int .i64 (1900 + p1 + p2), .int .i64 3, .int .i64 1, .int .i64 0, .int .i64 (1 + pa), .int .i64 s, .int .i64 0, .int .i64 0, .string ⟨#[]⟩, .string ⟨#[82]⟩, .int .i64 (1900 + p1), .int .i64 (1900 + p1 + p2), .int .i64 3, .int .i64 1, .int .i64 0, .int .i64 (1 + pb), .int .i64 s, .int .i64 0, .int .i64 0, .string ⟨#[]⟩] 34) (by simp)) (HFIT.out _ _ a1 a2 s1 s2) (HFIT.out _ _ b1 b2 s1 s2))
    have HB2 := Lib.hid (bel_trans HB1.out (bel_alloc _ (.cells #[.string ⟨#[82]⟩, .int .i64 (1900 + p1), .int .i64 (1900 + p1 + p2), .int .i64 3, .int .i64 1, .int .i64 0, .int .i64 (1 + pa), .int .i64 s, .int .i64 0, .int .i64 0, .string ⟨#[]⟩, .string ⟨#[82]⟩, .int .i64 (1900 + p1), .int .i64 (1900 + p1 + p2), .int .i64 3, .int .i64 1, .int .i64 0, .int .i64 (1 + pb), .int .i64 s, .int .i64 0, .int .i64 0, .string ⟨#[]⟩] 34)))
    clear hb
    have x0 := cellB HX1.out (i := 0) rfl
    have x1 := cellB HX1.out (i := 1) rfl
    have x2 := cellB HX1.out (i := 2) rfl
    have x3 := cellB HX1.out (i := 3) rfl
    have x4 := cellB HX1.out (i := 4) rfl
    have x5 := cellB HX1.out (i := 5) rfl
    have x6 := cellB HX1.out (i := 6) rfl
    have x7 := cellB HX1.out (i := 7) rfl
    have x8 := cellB HX1.out (i := 8) rfl
    have x9 := cellB HX1.out (i := 9) rfl
    have x10 := cellB HX1.out (i := 10) rfl
    have z0 := cellB HZ1.out (i := 0) rfl
    have z1 := cellB HZ1.out (i := 1) rfl
    have z2 := cellB HZ1.out (i := 2) rfl
    have z3 := cellB HZ1.out (i := 3) rfl
    have z4 := cellB HZ1.out (i := 4) rfl
    have z5 := cellB HZ1.out (i := 5) rfl
    have z6 := cellB HZ1.out (i := 6) rfl
    have z7 := cellB HZ1.out (i := 7) rfl
    have z8 := cellB HZ1.out (i := 8) rfl
    have z9 := cellB HZ1.out (i := 9) rfl
    have z10 := cellB HZ1.out (i := 10) rfl
    go_wp2_with fail
    clear x0 x1 x2 x3 x4 x5 x6 x7 x8 x9 x10 z0 z1 z2 z3 z4 z5 z6 z7 z8 z9 z10
    go_loopw [17] (fun i wr => (i = .int .i64 0 ∧ wr = (w2.alloc (.cells #[.int .i64 0, .int .i64 0, .int .i64 0] 25)).alloc (.cells #[.string ⟨#[82]⟩, .int .i64 (1900 + p1), .int .i64 (1900 + p1 + p2), .int .i64 3, .int .i64 1, .int .i64 0, .int .i64 (1 + pa), .int .i64 0, .int .i64 0, .int .i64 0, .string ⟨#[]⟩, .string ⟨#[82]⟩, .int .i64 (1900 + p1), .int .i64 (1900 + p1 + p2), .int .i64 3, .int .i64 1, .int .i64 0, .int .i64 (1 + pb), .int .i64 0, .int .i64 0, .int .i64 0, .string ⟨#[]⟩] 34)) ∨ (i = .int .i64 1 ∧ wr = (w2.alloc (.cells #[.int .i64 0, .int .i64 0, .int .i64 0] 25)).alloc (.cells #[.string ⟨#[82]⟩, .int .i64 (1900 + p1), .int .i64 (1900 + p1 + p2), .int .i64 3, .int .i64 1, .int .i64 0, .int .i64 (1 + pa), .int .i64 s, .int .i64 0, .int .i64 0, .string ⟨#[]⟩, .string ⟨#[82]⟩, .int .i64 (1900 + p1), .int .i64 (1900 + p1 + p2), .int .i64 3, .int .i64 1, .int .i64 0, .int .i64 (1 + pb), .int .i64 0, .int .i64 0, .int .i64 0, .string ⟨#[]⟩] 34)) ∨ (i = .int .i64 2 ∧ wr = (w2.alloc (.cells #[.int .i64 0, .int .i64 0, .int .i64 0] 25)).alloc (.cells #[.string ⟨#[82]⟩, .int .i64 (1900 + p1), .int .i64 (1900 + p1 + p2), .int .i64 3, .int .i64 1, .int .i64 0, .int .i64 (1 + pa), .int .i64 s, .int .i64 0, .int .i64 0, .string ⟨#[]⟩, .string ⟨#[82]⟩, .int .i64 (1900 + p1), .int .i64 (1900 + p1 + p2), .int .i64 3, .int .i64 1, .int .i64 0, .int .i64 (1 + pb), .int .i64 s, .int .i64 0, .int .i64 0, .string ⟨#[]⟩] 34))) (fun i _ => 2 - (intOf i).toNat)
    case atStart => exact .inl ⟨rfl, rfl⟩
    case round =>
      rcases hrel with ⟨rfl, rfl⟩ | ⟨rfl, rfl⟩ | ⟨rfl, rfl⟩
      · go_wp2_with fail
        first
          | exact ⟨.inr (.inl ⟨(by first | rfl | trivial), (by first | rfl | trivial)⟩), by simp [intOf]⟩
          | (go_round
             case rel => exact .inr (.inl ⟨(by first | rfl | trivial), (by first | rfl | trivial)⟩)
             case measure => simp [intOf])
      · go_wp2_with fail
        first
          | exact ⟨.inr (.inr ⟨(by first | rfl | trivial), (by first | rfl | trivial)⟩), by simp [intOf]⟩
          | (go_round
             case rel => exact .inr (.inr ⟨(by first | rfl | trivial), (by first | rfl | trivial)⟩)
             case measure => simp [intOf])
      · go_wp2_with fail
        refine (apCheck_any _ _ _ (by exact HT.out.below HB2.out) (by exact HR2.out)).mono ?_
        intro e w3 hq; obtain ⟨rfl, hb⟩ := ChkR.to (v := .tuple #[.agg #[.int .i64 0, .int .i64 0, .int .i64 0], .int .i64 0]) HM2.out rfl _ _ hq; clear hq
        have HB3 := Lib.hid (bel_trans (bel_trans HB2.out hb) (bel_alloc w3 (.cells #[.int .i64 0, .int .i64 0, .int .i64 0] 25)))
        have HX3 := Lib.hid (block_below HX2.out (bel_trans hb (bel_alloc w3 (.cells #[.int .i64 0, .int .i64 0, .int .i64 0] 25))))
        have HE3 := Lib.hid (block_below HE2.out (bel_trans hb (bel_alloc w3 (.cells #[.int .i64 0, .int .i64 0, .int .i64 0] 25))))
        have HG3 := Lib.hid (heap_alloc_new w3 (.cells #[.int .i64 0, .int .i64 0, .int .i64 0] 25))
        clear hb
        have x1 := cellB HX3.out (i := 1) rfl
        have x2 := cellB HX3.out (i := 2) rfl
        have e0 := cellB HE3.out (i := 0) rfl
        have e1 := cellB HE3.out (i := 1) rfl
        have e2 := cellB HE3.out (i := 2) rfl
        have g0 := cellB HG3.out (i := 0) rfl
        have g1 := cellB HG3.out (i := 1) rfl
        have g2 := cellB HG3.out (i := 2) rfl
        go_wp2_with fail
        refine (works18_any _ (by exact HT.out.below HB3.out)).mono ?_
        rintro e w4 ⟨rfl, hb⟩
        go_wp2_with fail
        go_ret
        exact ⟨rfl, bel_trans HB3.out hb⟩

set_option maxRecDepth 100000 in
theorem apartMoved.apartMoved_walk (W : World) (hL : laidMetH Tryd.prog Rows.apartMovedRow.laid W) (a : Int) (wa : (Lit.int .u8 a).wf = true) (b : Int) (wb : (Lit.int .u8 b).wf = true) (c : Int) (wc : (Lit.int .u8 c).wf = true) (d : Int) (wd : (Lit.int .u8 d).wf = true) (s : Int) (ws : (Lit.int .i16 s).wf = true) :
    Calls Tryd.prog 7 #[.int .u8 a, .int .u8 b, .int .u8 c, .int .u8 d, .int .i16 s] W fun e w' => e = .returned (.bool true) ∧ Below W.heap.size W w' := by
  obtain ⟨a1, a2⟩ := byte_of wa
  obtain ⟨b1, b2⟩ := byte_of wb
  obtain ⟨c1, c2⟩ := byte_of wc
  obtain ⟨d1, d2⟩ := byte_of wd
  obtain ⟨s1, s2⟩ : -32768 ≤ s ∧ s ≤ 32767 := by
    simp [Lit.wf, IntKind.min, IntKind.max, IntKind.signed, IntKind.bits] at ws
    omega
  have ta := Int.tmod_eq_emod_of_nonneg (b := 28) a1
  have tb := Int.tmod_eq_emod_of_nonneg (b := 28) b1
  have tc := Int.tmod_eq_emod_of_nonneg (b := 200) c1
  have td := Int.tmod_eq_emod_of_nonneg (b := 40) d1
  exact apMoved_core a b c d s _ _ _ _ W ⟨tab_of hL, ktab_of hL⟩ rfl rfl rfl rfl (by omega) (by omega) (by omega) (by omega) (by omega) (by omega) (by omega) (by omega) s1 s2
end Go.Proofs.YtghmdaahmijdiaaDoor
