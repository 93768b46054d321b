/-
  The walk of the law EventsRefuses.
-/
import Derived.Test.YtpimibchameakaaDoorDrMade
import Derived.Test.YtpimibchameakaaDoorDrArg
import Derived.Test.YtpimibchameakaaDoorEvWk
namespace Go.Proofs.YtpimibchameakaaDoor
open Go.RowKit Cv
set_option linter.unusedVariables false
set_option linter.unusedSimpArgs false

namespace Cv
theorem InR.big {rs : _root_.List Ru} {a b : Int} {W : World} (h1 : a ≤ b) (h2 : 1000 < b - a) : ∀ e w', InR rs a b W e w' → e = .returned (.tuple #[.slice none 0 0, .int .i64 3]) ∧ Below W.heap.size W w' := by
  rintro e w' ⟨hb, ⟨_, _, rfl⟩ | ⟨h, _⟩⟩
  · exact ⟨rfl, hb⟩
  · omega
theorem InR.none_ {rs : _root_.List Ru} {a b : Int} {W : World} (h : b < a ∨ b - a ≤ 1000) (hn : ∀ e, IsEv rs e → ¬ (a ≤ e.year ∧ e.year ≤ b)) : ∀ e w', InR rs a b W e w' → ∃ A c, e = .returned (.tuple #[.slice A 0 c, .int .i64 0]) ∧ Below W.heap.size W w' := by
  rintro e w' ⟨hb, ⟨h1, h2, _⟩ | ⟨_, v, l, hI, rfl, ho, _⟩⟩
  · omega
  · have hl : l = [] := by
      cases l with
      | nil => rfl
      | cons x l =>
        have := (hI.out.2 x).1 (_root_.List.mem_cons_self ..)
        exact (hn x this.1 this.2).elim
    subst hl
    rcases ho.out.2 with ⟨rfl, _⟩ | ⟨g, c, cur, rfl, _⟩
    · exact ⟨none, 0, rfl, hb⟩
    · exact ⟨_, c, rfl, hb⟩
theorem ruleAt_mem {rs : _root_.List Ru} {i : Int} {r : Ru} (h : ruleAt rs i = some r) : r ∈ rs := by
  unfold ruleAt at h
  split at h
  · exact _root_.List.mem_of_getElem? h
  · cases h
theorem firstY_ok {r : Ru} (h : RuOk r) : firstY r = r.fr := by unfold firstY; have := h.fr; omega
theorem ev_year {rs : _root_.List Ru} (h : ∀ r ∈ rs, RuOk r) {e : Ev} (he : IsEv rs e) : 1900 ≤ e.year ∧ e.year ≤ 2000000000 := by
  obtain ⟨r, hr, hh, _⟩ := he
  have hk := h r (ruleAt_mem hr)
  have h1 := hh.1
  rw [firstY_ok hk] at h1
  have := hk.fr
  exact ⟨by omega, hh.year.2⟩
theorem ev_nom {rs : _root_.List Ru} (h : ∀ r ∈ rs, RuOk r) {e : Ev} (he : IsEv rs e) : -9223372036854775808 < e.nom ∧ e.nom < 9223372036854775807 := by
  have hy := ev_year h he
  obtain ⟨r, hr, hh, hn⟩ := he
  obtain ⟨b1, b2⟩ := baseL_bd rs
  have hb := nom_bd b1 b2 hh
  rw [← hn] at hb
  have f1 : 0 ≤ fst e.year + 800000000000 ∧ fst (e.year + 1) ≤ 800000000000 := by unfold fst; omega
  omega
theorem bef_nil (N : Int) : BefIs [] N none := by
  rintro e ⟨r, hr, _⟩
  unfold ruleAt at hr; split at hr <;> simp at hr
theorem aft_nil (N : Int) : AftIs [] N none := by
  rintro e ⟨r, hr, _⟩
  unfold ruleAt at hr; split at hr <;> simp at hr
theorem rul_nil (w : World) : Rul (.slice none 0 0) [] w := ⟨none, 0, rfl, by simp, fun r hr => (by cases hr), fun i r hr => by simp at hr⟩
theorem on_neg (rs : _root_.List Ru) {i : Int} (y : Int) (h : i < 0) : evV (evOn rs i y) = .tuple #[.agg #[.int .i64 0, .int .i64 0, .int .i64 0], .bool false] := by
  unfold evOn ruleAt; rw [if_neg (by omega)]; rfl
theorem on_far (rs : _root_.List Ru) {i : Int} (y : Int) (h : (rs.length : Int) ≤ i) : evV (evOn rs i y) = .tuple #[.agg #[.int .i64 0, .int .i64 0, .int .i64 0], .bool false] := by
  unfold evOn ruleAt; rw [if_pos (by omega), _root_.List.getElem?_eq_none (by omega)]; rfl
theorem Rul.rng {g off n cp i : Nat} {rs : _root_.List Ru} {w : World} {r : Ru} (h : Rul (.slice (some ⟨g, off, none⟩) n cp) rs w) (hr : rs[i]? = some r) : w.rangeAt g (off + i * 11) r.arr.toList := by
  obtain ⟨g', off', e, h2⟩ := h.at_ hr
  cases e
  exact h2
end Cv

set_option maxRecDepth 100000 in
set_option maxHeartbeats 16000000 in
theorem evRefuses_core (v : Value) (bs : _root_.List Int) (q f : Int) (W : World) (hT : Tabs W) (h : Drf v bs W) (hq1 : 0 ≤ q) (hq2 : q ≤ 255) (hf1 : 0 ≤ f) (hf2 : f ≤ 4294967295) :
    Calls Tryd.prog 6 #[v, .int .u8 q, .int .u32 f] W fun e w' => e = .returned (.bool true) ∧ Below W.heap.size W w' := by
  have HT := Lib.hid hT
  have HD := Lib.hid h
  clear hT h
  go_enter Tryd.func6, Tryd.ntmps6
  go_wp2_with fail
  refine (made17_any _ bs ⟨#[82]⟩ _ (by exact HD.out)).mono ?_
  rintro e w1 ⟨ov, rs, rfl, h2, h5, hok, hown, hb1⟩
  have hr1 := rul_of_own hown (by omega) (fun r hr => (hok r hr).1.fits)
  have HOK : Hid (∀ r ∈ rs, RuOk r) := Lib.hid (fun r hr => (hok r hr).1)
  have HB1 := Lib.hid hb1
  have HT1 := Lib.hid (HT.out.below hb1)
  obtain ⟨A1, cp, n, rfl, hn⟩ : ∃ A c n, ov = .slice A n c ∧ n = rs.length := by
    obtain ⟨A, c, h⟩ := hr1.sl
    exact ⟨A, c, _, h, rfl⟩
  have HN := Lib.hid hn
  rw [← hn] at h2 h5
  have hk0 : 0 ≤ q % (n : Int) := Int.emod_nonneg _ (by omega)
  have hkn : q % (n : Int) < n := Int.emod_lt_of_pos _ (by omega)
  obtain ⟨k, hk⟩ : ∃ k : Nat, q % (n : Int) = (k : Int) := ⟨(q % (n : Int)).toNat, by omega⟩
  have hkl : k < n := by omega
  obtain ⟨r, hr⟩ : ∃ r, rs[k]? = some r := by rw [_root_.List.getElem?_eq_getElem (by rw [← hn]; exact hkl)]; exact ⟨_, rfl⟩
  obtain ⟨g, off, rfl, _⟩ := hr1.at_ hr
  have HR1 := Lib.hid hr1
  have hro := (hok r (_root_.List.mem_of_getElem? hr)).1
  have hfr := hro.fr
  have HRK := Lib.hid hr
  have HFY := Lib.hid (firstY_ok hro)
  obtain ⟨fr, hfr0⟩ : ∃ fr, r.fr = fr := ⟨_, rfl⟩
  rw [hfr0] at hfr
  obtain ⟨hfr1, hfr2⟩ := hfr
  have HFR := Lib.hid hfr0
  have ht1 : q.tmod (n : Int) = (k : Int) := by rw [Int.tmod_eq_emod_of_nonneg hq1]; exact hk
  clear hk0 hkn hn hok hown hb1 hr1 hr hro hfr0 HT HD
  go_wp2_with fail
  clear hk ht1
  go_loopw [53] (fun i wr => ∃ (j : Int) (wq : World), 0 ≤ j ∧ j ≤ 4 ∧ i = .int .i64 j ∧ wr = wq ∧ Hid (Tabs wq) ∧ Hid (Below W.heap.size W wq) ∧ Hid (Rul (.slice (some ⟨g, off, none⟩) n cp) rs wq) ∧ Hid (wq.heap[w1.heap.size]? = some (.cells #[.int .i64 0, .int .i64 (1001 + f), .int .i64 (-f), .int .i64 1001, .int .i64 (-9223372036854775808), .int .i64 9223372036854775807, .int .i64 1990, .int .i64 9223372036854775807] 46))) (fun i _ => (4 - intOf i).toNat)
  case atStart => exact ⟨0, _, by omega, by omega, rfl, rfl, Lib.hid (HT1.out.alloc _), Lib.hid (bel_trans HB1.out (bel_alloc _ _)), Lib.hid (Rul.below HR1.out (bel_alloc _ _)), Lib.hid (heap_alloc_new _ _)⟩
  case round =>
  clear HT1 HB1 HR1
  obtain ⟨j, wq, hj1, hj2, rfl, rfl, HTq, HBq, HRq, HSq⟩ := hrel
  have hjc : j = 0 ∨ j = 1 ∨ j = 2 ∨ j = 3 ∨ j = 4 := by omega
  clear hj1 hj2
  rcases hjc with rfl | rfl | rfl | rfl | rfl
  · skip
    have c0 := cellB HSq.out (i := 0) rfl
    have c1 := cellB HSq.out (i := 1) rfl
    go_wp2_with fail
    refine (evIn_any (.slice (some ⟨g, off, none⟩) n cp) rs (0) (1001 + f) _ (by exact HTq.out.alloc _) (by exact Rul.below HRq.out (bel_alloc _ _)) (by omega) (by omega) (by omega) (by omega)).mono ?_
    intro e w2 hq; obtain ⟨rfl, hb2⟩ := InR.big (by omega) (by omega) _ _ hq; clear hq
    clear c0 c1
    go_wp2_with fail
    go_round
    case rel => exact ⟨1, _, by omega, by omega, rfl, rfl, Lib.hid (Tabs.below (HTq.out.alloc _) hb2), Lib.hid (bel_trans HBq.out (bel_trans (bel_alloc _ _) hb2)), Lib.hid (Rul.below HRq.out (bel_trans (bel_alloc _ _) hb2)), Lib.hid (block_below HSq.out (bel_trans (bel_alloc _ _) hb2))⟩
    case measure => simp [intOf]
  · skip
    have c2 := cellB HSq.out (i := 2) rfl
    have c3 := cellB HSq.out (i := 3) rfl
    go_wp2_with fail
    refine (evIn_any (.slice (some ⟨g, off, none⟩) n cp) rs (-f) (1001) _ (by exact HTq.out.alloc _) (by exact Rul.below HRq.out (bel_alloc _ _)) (by omega) (by omega) (by omega) (by omega)).mono ?_
    intro e w2 hq; obtain ⟨rfl, hb2⟩ := InR.big (by omega) (by omega) _ _ hq; clear hq
    clear c2 c3
    go_wp2_with fail
    go_round
    case rel => exact ⟨2, _, by omega, by omega, rfl, rfl, Lib.hid (Tabs.below (HTq.out.alloc _) hb2), Lib.hid (bel_trans HBq.out (bel_trans (bel_alloc _ _) hb2)), Lib.hid (Rul.below HRq.out (bel_trans (bel_alloc _ _) hb2)), Lib.hid (block_below HSq.out (bel_trans (bel_alloc _ _) hb2))⟩
    case measure => simp [intOf]
  · skip
    have c4 := cellB HSq.out (i := 4) rfl
    have c5 := cellB HSq.out (i := 5) rfl
    go_wp2_with fail
    refine (evIn_any (.slice (some ⟨g, off, none⟩) n cp) rs (-9223372036854775808) (9223372036854775807) _ (by exact HTq.out.alloc _) (by exact Rul.below HRq.out (bel_alloc _ _)) (by omega) (by omega) (by omega) (by omega)).mono ?_
    intro e w2 hq; obtain ⟨rfl, hb2⟩ := InR.big (by omega) (by omega) _ _ hq; clear hq
    clear c4 c5
    go_wp2_with fail
    go_round
    case rel => exact ⟨3, _, by omega, by omega, rfl, rfl, Lib.hid (Tabs.below (HTq.out.alloc _) hb2), Lib.hid (bel_trans HBq.out (bel_trans (bel_alloc _ _) hb2)), Lib.hid (Rul.below HRq.out (bel_trans (bel_alloc _ _) hb2)), Lib.hid (block_below HSq.out (bel_trans (bel_alloc _ _) hb2))⟩
    case measure => simp [intOf]
  · skip
    have c6 := cellB HSq.out (i := 6) rfl
    have c7 := cellB HSq.out (i := 7) rfl
    go_wp2_with fail
    refine (evIn_any (.slice (some ⟨g, off, none⟩) n cp) rs (1990) (9223372036854775807) _ (by exact HTq.out.alloc _) (by exact Rul.below HRq.out (bel_alloc _ _)) (by omega) (by omega) (by omega) (by omega)).mono ?_
    intro e w2 hq; obtain ⟨rfl, hb2⟩ := InR.big (by omega) (by omega) _ _ hq; clear hq
    clear c6 c7
    go_wp2_with fail
    go_round
    case rel => exact ⟨4, _, by omega, by omega, rfl, rfl, Lib.hid (Tabs.below (HTq.out.alloc _) hb2), Lib.hid (bel_trans HBq.out (bel_trans (bel_alloc _ _) hb2)), Lib.hid (Rul.below HRq.out (bel_trans (bel_alloc _ _) hb2)), Lib.hid (block_below HSq.out (bel_trans (bel_alloc _ _) hb2))⟩
    case measure => simp [intOf]
  · clear HSq
    obtain ⟨W2, hW2⟩ : ∃ x, x = wr := ⟨_, rfl⟩
    subst hW2
    have HT2 := HTq; have HB2 := HBq; have HR2 := HRq
    clear HTq HBq HRq
    go_wp2_with fail
    go_loopw [87] (fun i wr => ∃ (j : Int) (wq : World), 0 ≤ j ∧ j ≤ 4 ∧ i = .int .i64 j ∧ wr = wq ∧ Hid (Tabs wq) ∧ Hid (Below W.heap.size W wq) ∧ Hid (Rul (.slice (some ⟨g, off, none⟩) n cp) rs wq) ∧ Hid (wq.heap[W2.heap.size]? = some (.cells #[.int .i64 f, .int .i64 (f - 1), .int .i64 9223372036854775807, .int .i64 (-9223372036854775808), .int .i64 (-1000), .int .i64 0, .int .i64 (2000000001 + f), .int .i64 (2000000002 + f)] 46))) (fun i _ => (4 - intOf i).toNat)
    case atStart => exact ⟨0, _, by omega, by omega, rfl, rfl, Lib.hid (HT2.out.alloc _), Lib.hid (bel_trans HB2.out (bel_alloc _ _)), Lib.hid (Rul.below HR2.out (bel_alloc _ _)), Lib.hid (heap_alloc_new _ _)⟩
    case round =>
    clear HT2 HB2 HR2
    obtain ⟨j, wq, hj1, hj2, rfl, rfl, HTq, HBq, HRq, HSq⟩ := hrel
    have hjc : j = 0 ∨ j = 1 ∨ j = 2 ∨ j = 3 ∨ j = 4 := by omega
    clear hj1 hj2
    rcases hjc with rfl | rfl | rfl | rfl | rfl
    · skip
      have c0 := cellB HSq.out (i := 0) rfl
      have c1 := cellB HSq.out (i := 1) rfl
      go_wp2_with fail
      refine (evIn_any (.slice (some ⟨g, off, none⟩) n cp) rs (f) (f - 1) _ (by exact HTq.out.alloc _) (by exact Rul.below HRq.out (bel_alloc _ _)) (by omega) (by omega) (by omega) (by omega)).mono ?_
      intro e w2 hq; obtain ⟨A2, cq, rfl, hb2⟩ := InR.none_ (by omega) (fun ev hev => by have := ev_year HOK.out hev; omega) _ _ hq; clear hq
      clear c0 c1
      go_wp2_with fail
      go_round
      case rel => exact ⟨1, _, by omega, by omega, rfl, rfl, Lib.hid (Tabs.below (HTq.out.alloc _) hb2), Lib.hid (bel_trans HBq.out (bel_trans (bel_alloc _ _) hb2)), Lib.hid (Rul.below HRq.out (bel_trans (bel_alloc _ _) hb2)), Lib.hid (block_below HSq.out (bel_trans (bel_alloc _ _) hb2))⟩
      case measure => simp [intOf]
    · skip
      have c2 := cellB HSq.out (i := 2) rfl
      have c3 := cellB HSq.out (i := 3) rfl
      go_wp2_with fail
      refine (evIn_any (.slice (some ⟨g, off, none⟩) n cp) rs (9223372036854775807) (-9223372036854775808) _ (by exact HTq.out.alloc _) (by exact Rul.below HRq.out (bel_alloc _ _)) (by omega) (by omega) (by omega) (by omega)).mono ?_
      intro e w2 hq; obtain ⟨A2, cq, rfl, hb2⟩ := InR.none_ (by omega) (fun ev hev => by have := ev_year HOK.out hev; omega) _ _ hq; clear hq
      clear c2 c3
      go_wp2_with fail
      go_round
      case rel => exact ⟨2, _, by omega, by omega, rfl, rfl, Lib.hid (Tabs.below (HTq.out.alloc _) hb2), Lib.hid (bel_trans HBq.out (bel_trans (bel_alloc _ _) hb2)), Lib.hid (Rul.below HRq.out (bel_trans (bel_alloc _ _) hb2)), Lib.hid (block_below HSq.out (bel_trans (bel_alloc _ _) hb2))⟩
      case measure => simp [intOf]
    · skip
      have c4 := cellB HSq.out (i := 4) rfl
      have c5 := cellB HSq.out (i := 5) rfl
      go_wp2_with fail
      refine (evIn_any (.slice (some ⟨g, off, none⟩) n cp) rs (-1000) (0) _ (by exact HTq.out.alloc _) (by exact Rul.below HRq.out (bel_alloc _ _)) (by omega) (by omega) (by omega) (by omega)).mono ?_
      intro e w2 hq; obtain ⟨A2, cq, rfl, hb2⟩ := InR.none_ (by omega) (fun ev hev => by have := ev_year HOK.out hev; omega) _ _ hq; clear hq
      clear c4 c5
      go_wp2_with fail
      go_round
      case rel => exact ⟨3, _, by omega, by omega, rfl, rfl, Lib.hid (Tabs.below (HTq.out.alloc _) hb2), Lib.hid (bel_trans HBq.out (bel_trans (bel_alloc _ _) hb2)), Lib.hid (Rul.below HRq.out (bel_trans (bel_alloc _ _) hb2)), Lib.hid (block_below HSq.out (bel_trans (bel_alloc _ _) hb2))⟩
      case measure => simp [intOf]
    · skip
      have c6 := cellB HSq.out (i := 6) rfl
      have c7 := cellB HSq.out (i := 7) rfl
      go_wp2_with fail
      refine (evIn_any (.slice (some ⟨g, off, none⟩) n cp) rs (2000000001 + f) (2000000002 + f) _ (by exact HTq.out.alloc _) (by exact Rul.below HRq.out (bel_alloc _ _)) (by omega) (by omega) (by omega) (by omega)).mono ?_
      intro e w2 hq; obtain ⟨A2, cq, rfl, hb2⟩ := InR.none_ (by omega) (fun ev hev => by have := ev_year HOK.out hev; omega) _ _ hq; clear hq
      clear c6 c7
      go_wp2_with fail
      go_round
      case rel => exact ⟨4, _, by omega, by omega, rfl, rfl, Lib.hid (Tabs.below (HTq.out.alloc _) hb2), Lib.hid (bel_trans HBq.out (bel_trans (bel_alloc _ _) hb2)), Lib.hid (Rul.below HRq.out (bel_trans (bel_alloc _ _) hb2)), Lib.hid (block_below HSq.out (bel_trans (bel_alloc _ _) hb2))⟩
      case measure => simp [intOf]
    · clear HSq
      have HT3 := HTq; have HB3 := HBq; have HR3 := HRq
      clear HTq HBq HRq
      go_wp2_with fail
      refine (evOn_any (.slice (some ⟨g, off, none⟩) n cp) rs (-1 - f) 1990 _ (by exact HT3.out) (by exact HR3.out) (by omega) (by omega)).mono ?_
      intro e w4 hq; obtain ⟨rfl, hb⟩ := EvR.to (on_neg rs 1990 (by omega)) _ _ hq; clear hq
      have HT4 := Lib.hid (Tabs.alloc (HT3.out.below hb) (.cells #[.int .i64 0, .int .i64 0, .int .i64 0] 34))
      have HR4 := Lib.hid (Rul.below HR3.out (bel_trans hb (bel_alloc _ (.cells #[.int .i64 0, .int .i64 0, .int .i64 0] 34))))
      have HB4 := Lib.hid (bel_trans (bel_trans HB3.out hb) (bel_alloc _ (.cells #[.int .i64 0, .int .i64 0, .int .i64 0] 34)))
      clear hb HT3 HR3 HB3
      go_wp2_with fail
      refine (evOn_any (.slice (some ⟨g, off, none⟩) n cp) rs ((n : Int) + f) 1990 _ (by exact HT4.out) (by exact HR4.out) (by omega) (by omega)).mono ?_
      intro e w5 hq; obtain ⟨rfl, hb⟩ := EvR.to (on_far rs 1990 (by rw [← HN.out]; omega)) _ _ hq; clear hq
      have HT5 := Lib.hid (Tabs.alloc (HT4.out.below hb) (.cells #[.int .i64 0, .int .i64 0, .int .i64 0] 34))
      have HR5 := Lib.hid (Rul.below HR4.out (bel_trans hb (bel_alloc _ (.cells #[.int .i64 0, .int .i64 0, .int .i64 0] 34))))
      have HB5 := Lib.hid (bel_trans (bel_trans HB4.out hb) (bel_alloc _ (.cells #[.int .i64 0, .int .i64 0, .int .i64 0] 34)))
      clear hb HT4 HR4 HB4
      have hcf := (range11 (HR5.out.rng HRK.out)).2.1
      rw [HFR.out] at hcf
      go_wp2_with fail
      refine (evOn_any (.slice (some ⟨g, off, none⟩) n cp) rs (k : Int) (fr - 1 - f) _ (by exact HT5.out) (by exact HR5.out) (by omega) (by omega)).mono ?_
      intro e w6 hq; obtain ⟨rfl, hb⟩ := EvR.to (evV_no HRK.out (fun hh => by have := hh.1; rw [HFY.out, HFR.out] at this; omega)) _ _ hq; clear hq
      have HT6 := Lib.hid (Tabs.alloc (HT5.out.below hb) (.cells #[.int .i64 0, .int .i64 0, .int .i64 0] 34))
      have HR6 := Lib.hid (Rul.below HR5.out (bel_trans hb (bel_alloc _ (.cells #[.int .i64 0, .int .i64 0, .int .i64 0] 34))))
      have HB6 := Lib.hid (bel_trans (bel_trans HB5.out hb) (bel_alloc _ (.cells #[.int .i64 0, .int .i64 0, .int .i64 0] 34)))
      clear hb HT5 HR5 HB5
      clear hcf
      go_wp2_with fail
      refine (evOn_any (.slice (some ⟨g, off, none⟩) n cp) rs (k : Int) (2000000001 + f) _ (by exact HT6.out) (by exact HR6.out) (by omega) (by omega)).mono ?_
      intro e w7 hq; obtain ⟨rfl, hb⟩ := EvR.to (evV_no HRK.out (fun hh => by have := hh.year; omega)) _ _ hq; clear hq
      have HT7 := Lib.hid (Tabs.alloc (HT6.out.below hb) (.cells #[.int .i64 0, .int .i64 0, .int .i64 0] 34))
      have HR7 := Lib.hid (Rul.below HR6.out (bel_trans hb (bel_alloc _ (.cells #[.int .i64 0, .int .i64 0, .int .i64 0] 34))))
      have HB7 := Lib.hid (bel_trans (bel_trans HB6.out hb) (bel_alloc _ (.cells #[.int .i64 0, .int .i64 0, .int .i64 0] 34)))
      clear hb HT6 HR6 HB6
      go_wp2_with fail
      refine (evBefore_any (.slice none 0 0) [] f _ (by exact HT7.out) (rul_nil _) (by omega) (by omega)).mono ?_
      intro e w8 hq; obtain ⟨rfl, hb⟩ := LookR.bef (o := none) (v := .tuple #[.agg #[.int .i64 0, .int .i64 0, .int .i64 0], .bool false]) (bef_nil f) rfl _ _ hq; clear hq
      have HT8 := Lib.hid (Tabs.alloc (HT7.out.below hb) (.cells #[.int .i64 0, .int .i64 0, .int .i64 0] 34))
      have HR8 := Lib.hid (Rul.below HR7.out (bel_trans hb (bel_alloc _ (.cells #[.int .i64 0, .int .i64 0, .int .i64 0] 34))))
      have HB8 := Lib.hid (bel_trans (bel_trans HB7.out hb) (bel_alloc _ (.cells #[.int .i64 0, .int .i64 0, .int .i64 0] 34)))
      clear hb HT7 HR7 HB7
      go_wp2_with fail
      refine (evAfter_any (.slice none 0 0) [] f _ (by exact HT8.out) (rul_nil _) (by omega) (by omega)).mono ?_
      intro e w9 hq; obtain ⟨rfl, hb⟩ := LookR.aft (o := none) (v := .tuple #[.agg #[.int .i64 0, .int .i64 0, .int .i64 0], .bool false]) (aft_nil f) rfl _ _ hq; clear hq
      have HT9 := Lib.hid (Tabs.alloc (HT8.out.below hb) (.cells #[.int .i64 0, .int .i64 0, .int .i64 0] 34))
      have HR9 := Lib.hid (Rul.below HR8.out (bel_trans hb (bel_alloc _ (.cells #[.int .i64 0, .int .i64 0, .int .i64 0] 34))))
      have HB9 := Lib.hid (bel_trans (bel_trans HB8.out hb) (bel_alloc _ (.cells #[.int .i64 0, .int .i64 0, .int .i64 0] 34)))
      clear hb HT8 HR8 HB8
      go_wp2_with fail
      refine (evBefore_any (.slice (some ⟨g, off, none⟩) n cp) rs (-9223372036854775808) _ (by exact HT9.out) (by exact HR9.out) (by omega) (by omega)).mono ?_
      intro e w10 hq; obtain ⟨rfl, hb⟩ := LookR.bef (o := none) (v := .tuple #[.agg #[.int .i64 0, .int .i64 0, .int .i64 0], .bool false]) (fun ev hev h => by have := ev_nom HOK.out hev; omega) rfl _ _ hq; clear hq
      have HT10 := Lib.hid (Tabs.alloc (HT9.out.below hb) (.cells #[.int .i64 0, .int .i64 0, .int .i64 0] 34))
      have HR10 := Lib.hid (Rul.below HR9.out (bel_trans hb (bel_alloc _ (.cells #[.int .i64 0, .int .i64 0, .int .i64 0] 34))))
      have HB10 := Lib.hid (bel_trans (bel_trans HB9.out hb) (bel_alloc _ (.cells #[.int .i64 0, .int .i64 0, .int .i64 0] 34)))
      clear hb HT9 HR9 HB9
      go_wp2_with fail
      refine (evAfter_any (.slice (some ⟨g, off, none⟩) n cp) rs 9223372036854775807 _ (by exact HT10.out) (by exact HR10.out) (by omega) (by omega)).mono ?_
      intro e w11 hq; obtain ⟨rfl, hb⟩ := LookR.aft (o := none) (v := .tuple #[.agg #[.int .i64 0, .int .i64 0, .int .i64 0], .bool false]) (fun ev hev h => by have := ev_nom HOK.out hev; omega) rfl _ _ hq; clear hq
      have HT11 := Lib.hid (Tabs.alloc (HT10.out.below hb) (.cells #[.int .i64 0, .int .i64 0, .int .i64 0] 34))
      have HR11 := Lib.hid (Rul.below HR10.out (bel_trans hb (bel_alloc _ (.cells #[.int .i64 0, .int .i64 0, .int .i64 0] 34))))
      have HB11 := Lib.hid (bel_trans (bel_trans HB10.out hb) (bel_alloc _ (.cells #[.int .i64 0, .int .i64 0, .int .i64 0] 34)))
      clear hb HT10 HR10 HB10
      go_wp2_with fail
      refine (works_any _ (by exact HT11.out)).mono ?_
      rintro e w12 ⟨rfl, hb⟩
      go_wp2_with fail
      go_ret
      exact ⟨rfl, bel_trans HB11.out hb⟩

set_option maxRecDepth 100000 in
theorem eventsRefuses.eventsRefuses_walk (W : World) (hL : laidMetH Tryd.prog Rows.eventsRefusesRow.laid W) (v : Value) {H : Type} {enc : TypeId × Value → H} {base : Nat} {d : DataW H} {p : List MemPlace} (hv : Value.okWide Tryd.prog W .any base 23 v)
    (h : DataW.Trod enc Tryd.prog W 0 (fun _ => true) true 23 v d p) (q : Int) (wq : (Lit.int .u8 q).wf = true) (f : Int) (wf : (Lit.int .u32 f).wf = true) :
    Calls Tryd.prog 6 #[v, .int .u8 q, .int .u32 f] W fun e w' => e = .returned (.bool true) ∧ Below W.heap.size W w' := by
  obtain ⟨bs, hD⟩ := drf_of hv h
  obtain ⟨hq1, hq2⟩ := byte_of wq
  obtain ⟨hf1, hf2⟩ := u32_of wf
  exact evRefuses_core v bs q f W ⟨tab_of hL, ktab_of hL⟩ hD hq1 hq2 hf1 hf2
end Go.Proofs.YtpimibchameakaaDoor
