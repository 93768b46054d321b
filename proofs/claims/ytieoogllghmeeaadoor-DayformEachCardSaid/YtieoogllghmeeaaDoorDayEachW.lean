/-
  The walk of the law DayformEach.
-/
import Derived.Test.YtieoogllghmeeaaDoorDayLaw
import Derived.Deep.RegionHeld3
import Derived.Deep.DeepCutAuto
namespace Go.Proofs.YtieoogllghmeeaaDoor
open Go.RowKit Cv
set_option linter.unusedVariables false
set_option linter.unusedSimpArgs false

namespace Cv
/-- every month of some years has a day -/
def allOk (a s m d : Int) : Prop := ∀ t, a ≤ t → t < s → d ≤ len t m
theorem allOk_0 (a m d : Int) : allOk a a m d := fun t h1 h2 => by omega
theorem allOk_s {a s m d : Int} (h : a ≤ s) : allOk a (s + 1) m d ↔ allOk a s m d ∧ d ≤ len s m := by
  constructor
  · exact fun k => ⟨fun t h1 h2 => k t h1 (by omega), k s h (by omega)⟩
  · rintro ⟨k, l⟩ t h1 h2
    by_cases e : t = s
    · rw [e]; exact l
    · exact k t h1 (by omega)
theorem len_oth (a b m : Int) (h : m ≠ 2) : len a m = len b m := by unfold len; simp [h]
theorem len_feb (a : Int) : len a 2 = 28 + lp a := by unfold len; simp
theorem lp_two (a : Int) (h1 : lp a = 1) (h2 : lp (a + 1) = 1) : False := by unfold lp at h1 h2; split at h1 <;> split at h2 <;> omega
theorem alw_all {a u m k w d : Int} (h : a ≤ u) (hu : u < 1048576) (hm : 1 ≤ m ∧ m ≤ 12) (hg : good k w d) : alw a u m k w d ↔ allOk a (u + 1) m d := by
  unfold alw
  have hA : ∀ t, m ≠ 2 → len t m = len 1 m := fun t h => len_oth t 1 m h
  have hl1 : len 1 2 = 28 := by decide
  constructor
  · rintro ⟨_, ⟨h1, h2⟩ | h1 | ⟨h1, h2, h3, h4⟩⟩ t ht1 ht2
    · omega
    · by_cases h2 : m = 2
      · subst h2; rw [len_feb]; have := lp_bd t; omega
      · rw [hA t h2]; exact h1
    · subst h3; have : t = a := by omega
      rw [this]; exact h4
  · intro k2
    refine ⟨⟨hm.1, hm.2, hg⟩, ?_⟩
    by_cases h2 : m = 2
    · subst h2
      have k3 := k2 a (Int.le_refl a) (by omega)
      by_cases h3 : d ≤ len 1 2
      · exact .inr (.inl h3)
      · refine .inr (.inr ⟨hu, ?_, rfl, k3⟩)
        by_cases h4 : a = u
        · exact h4
        · have k4 := k2 (a + 1) (by omega) (by omega)
          rw [len_feb] at k3 k4
          have b1 := lp_bd a; have b2 := lp_bd (a + 1)
          exact (lp_two a (by omega) (by omega)).elim
    · exact .inr (.inl (by rw [← hA a h2]; exact k2 a (Int.le_refl a) (by omega)))
theorem alw_ever {a m k w d : Int} (hm : 1 ≤ m ∧ m ≤ 12) (hg : good k w d) : alw a 1048576 m k w d ↔ d ≤ len 1 m := by
  unfold alw
  constructor
  · rintro ⟨_, ⟨h1, h2⟩ | h1 | ⟨h1, _⟩⟩
    · omega
    · exact h1
    · omega
  · exact fun h => ⟨⟨hm.1, hm.2, hg⟩, .inr (.inl h)⟩
theorem len_2001 (m : Int) : len 2001 m = len 1 m := by unfold len; rw [show lp 2001 = lp 1 by decide]
theorem on_code {t m k w d : Int} (hi : inr t ∧ ok t m 1) (hg : good k w d) : (d ≤ len t m ∧ ∃ x, on t m k w d = (x, 0)) ∨ (len t m < d ∧ ∃ x, on t m k w d = (x, 4)) := by
  by_cases h : d ≤ len t m
  · exact .inl ⟨h, _, on_day hi hg h⟩
  · exact .inr ⟨by omega, _, on_none hi hg (by omega)⟩
end Cv

set_option maxRecDepth 100000 in
set_option maxHeartbeats 4000000 in
theorem each_core (W : World) (hT : Tabs W) (k w n : Int) (wk : (Lit.int .u8 k).wf = true) (ww : (Lit.int .u8 w).wf = true) (wn : (Lit.int .u8 n).wf = true) (y : Int) (wy : (Lit.int .i32 y).wf = true) (m : Int) (wm : (Lit.int .u8 m).wf = true) (o : Int) (wo : (Lit.int .u8 o).wf = true) :
    Calls Tryd.prog 6 #[.agg #[.int .u8 k, .int .u8 w, .int .u8 n], .int .i32 y, .int .u8 m, .int .u8 o] W fun e w' => e = .returned (.bool true) ∧ Below W.heap.size W w' := by
  have HT := Lib.hid hT
  obtain ⟨hm1, hm2⟩ := byte_of wm
  obtain ⟨ho1, ho2⟩ := byte_of wo
  clear hT wm wo
  have hmm : 0 ≤ m % 12 ∧ m % 12 < 12 ∧ 0 ≤ o % 12 ∧ o % 12 < 12 := by omega
  obtain ⟨hmm1, hmm2, hoo1, hoo2⟩ := hmm
  go_enter Tryd.func6, Tryd.ntmps6
  go_wp2_with fail
  refine (made_any k w n _ wk ww wn).mono ?_
  rintro e w1 ⟨fk, fw, fd, hg, rfl, hb1⟩
  have HT1 : Hid (Tabs w1) := (HT.out.alloc _).below hb1
  have HB1 : Hid (Below W.heap.size W w1) := bel_trans (bel_alloc _ _) hb1
  clear hb1
  go_wp2_with fail
  refine (lawYear_any y _ wy).mono ?_
  rintro e w' ⟨⟨z, hz, rfl⟩, rfl⟩
  have hzb := hz.out
  obtain ⟨hz1, hz2⟩ := hzb
  have hgd : 0 ≤ fd ∧ fd ≤ 31 := by have := hg.out; unfold good at this; omega
  obtain ⟨hd1, hd2⟩ := hgd
  have HFC := Lib.hid (FC.new w1 fk fw fd 23)
  have HB2 := Lib.hid (bel_trans HB1.out (bel_alloc w1 (.cells #[.int .i64 fk, .int .i64 fw, .int .i64 fd] 23)))
  have HT2 := Lib.hid (HT1.out.alloc (.cells #[.int .i64 fk, .int .i64 fw, .int .i64 fd] 23))
  obtain ⟨u, hU⟩ : ∃ u, u = if z + o % 12 ≤ 2000000000 then z + o % 12 else 2000000000 := ⟨_, rfl⟩
  have hub : z ≤ u ∧ u ≤ 2000000000 := by split at hU <;> omega
  obtain ⟨hu1, hu2⟩ := hub
  have HM : Hid (∀ t, -2000000000 ≤ t → t ≤ 2000000000 → inr t ∧ ok t (1 + m % 12) 1) := fun t h1 h2 => ⟨⟨h1, h2⟩, (ok_first _ _).2 (by omega)⟩
  go_upto_region 2 with fail
  go_cut [12] (fun s w' => s = .int .i64 u ∧ w' = w1.alloc (.cells #[.int .i64 fk, .int .i64 fw, .int .i64 fd] 23))
  case first =>
    by_cases hu : z + o % 12 ≤ 2000000000
    · rw [if_pos hu] at hU
      go_wp2_with fail
      go_meet
      case rel => exact ⟨by rw [hU], rfl⟩
    · rw [if_neg hu] at hU
      go_wp2_with fail
      go_meet
      case rel => exact ⟨by rw [hU], rfl⟩
  case rest =>
    obtain ⟨rfl, rfl⟩ := hcut
    clear hU
    go_wp2_with fail
    go_loopw [13, 14] (fun s i wr => ∃ (b : Bool) (t : Int) (wq : World), z ≤ t ∧ t ≤ u + 1 ∧ s = .bool b ∧ i = .int .i64 t ∧ wr = wq ∧ Hid (Tabs wq) ∧ Hid (Below W.heap.size W wq) ∧ Hid (FC w1.heap.size fk fw fd wq) ∧ Hid (b = true ↔ allOk z t (1 + m % 12) fd)) (fun _ i _ => (u + 1 - intOf i).toNat)
    case atStart => exact ⟨true, z, _, by omega, by omega, rfl, rfl, rfl, HT2, HB2, HFC, Lib.hid (by simp [allOk_0])⟩
    case round =>
      obtain ⟨b, t, wq, ht1, ht2, rfl, rfl, rfl, hTq, hBq, hFq, hbq⟩ := hrel
      by_cases htu : t ≤ u
      · have hcode := on_code (HM.out t (by omega) (by omega)) hg.out
        obtain ⟨f0, f1, f2⟩ := hFq.out
        rcases hcode with ⟨hcl, x, hx⟩ | ⟨hcl, x, hx⟩
        · have HX := Lib.hid hx
          have HS : Hid (b = true ↔ allOk z (t + 1) (1 + m % 12) fd) := by
            show _ ↔ _
            rw [allOk_s ht1]; exact ⟨fun h => ⟨hbq.out.1 h, hcl⟩, fun h => hbq.out.2 h.1⟩
          clear hx hcl
          go_wp2_with fail
          refine (on_any t (1 + m % 12) fk fw fd _ (by exact hTq.out) (by omega) (by omega)).mono ?_
          intro e w2 hq; obtain ⟨rfl, hb2⟩ := OnR.to HX.out _ _ hq; clear hq
          have HT3 : Hid (Tabs w2) := hTq.out.below hb2
          have HB3 : Hid (Below W.heap.size W w2) := bel_trans hBq.out hb2
          have HF3 : Hid (FC w1.heap.size fk fw fd w2) := hFq.out.below hb2
          clear hb2
          cases b <;>
            (go_wp2_with fail
             go_round
             case rel => exact ⟨_, t + 1, _, by omega, by omega, rfl, rfl, rfl, HT3, HB3, HF3, Lib.hid (by simpa using HS.out)⟩
             case measure => simp [intOf]; omega)
        · have HX := Lib.hid hx
          have HS : Hid (false = true ↔ allOk z (t + 1) (1 + m % 12) fd) := by
            show _ ↔ _
            rw [allOk_s ht1]; exact ⟨fun h => (Bool.noConfusion h), fun h => by have := h.2; omega⟩
          clear hx hcl
          go_wp2_with fail
          refine (on_any t (1 + m % 12) fk fw fd _ (by exact hTq.out) (by omega) (by omega)).mono ?_
          intro e w2 hq; obtain ⟨rfl, hb2⟩ := OnR.to HX.out _ _ hq; clear hq
          have HT3 : Hid (Tabs w2) := hTq.out.below hb2
          have HB3 : Hid (Below W.heap.size W w2) := bel_trans hBq.out hb2
          have HF3 : Hid (FC w1.heap.size fk fw fd w2) := hFq.out.below hb2
          clear hb2
          cases b <;>
            (go_wp2_with fail
             go_round
             case rel => exact ⟨false, t + 1, _, by omega, by omega, rfl, rfl, rfl, HT3, HB3, HF3, Lib.hid (by simpa using HS.out)⟩
             case measure => simp [intOf]; omega)
      · have : t = u + 1 := by omega
        subst this
        go_upto_region 11 with fail
        go_cut [68] (fun s w' => s = .bool false ∧ Hid (Tabs w') ∧ Hid (Below W.heap.size W w') ∧ Hid (FC w1.heap.size fk fw fd w'))
        case first =>
          obtain ⟨f0, f1, f2⟩ := hFq.out
          by_cases hfe : u < 1048576
          · have HAL := Lib.hid (show decide (alw z u (1 + m % 12) fk fw fd) = b by
              rw [Bool.eq_iff_iff, decide_eq_true_iff, alw_all hu1 hfe (by omega) hg.out, hbq.out])
            go_wp2_with fail
            refine (always_any z u (1 + m % 12) fk fw fd _ (by exact hTq.out) (by omega) (by omega)).mono ?_
            intro e w2 hq; obtain ⟨rfl, hb2⟩ := YesB.to_b HAL.out _ _ hq; clear hq
            have HT3 : Hid (Tabs w2) := hTq.out.below hb2
            have HB3 : Hid (Below W.heap.size W w2) := bel_trans hBq.out hb2
            have HF3 : Hid (FC w1.heap.size fk fw fd w2) := hFq.out.below hb2
            clear hb2 f0 f1 f2
            go_wp2_with fail
            go_meet
            case rel => exact ⟨rfl, HT3, HB3, HF3⟩
          · clear f0 f1 f2
            go_wp2_with fail
            go_meet
            case rel => exact ⟨rfl, hTq, hBq, hFq⟩
        case rest =>
          obtain ⟨rfl, HT3, HB3, HF3⟩ := hcut
          go_wp2_with fail
          go_loopw [13, 17] (fun s i wr => ∃ (b : Bool) (t : Int) (wq : World), 0 ≤ t ∧ t ≤ 9 ∧ s = .bool b ∧ i = .int .i64 t ∧ wr = wq ∧ Hid (Tabs wq) ∧ Hid (Below W.heap.size W wq) ∧ Hid (FC w1.heap.size fk fw fd wq) ∧ Hid (1 ≤ t → b = true → fd ≤ len 1 (1 + m % 12))) (fun _ i _ => (9 - intOf i).toNat)
          case atStart => exact ⟨b, 0, _, by omega, by omega, rfl, rfl, rfl, HT3, HB3, HF3, Lib.hid (by omega)⟩
          case round =>
            clear hTq hBq hFq hbq HT3 HB3 HF3
            obtain ⟨b, t, wq, ht1, ht2, rfl, rfl, rfl, hTq, hBq, hFq, hbq⟩ := hrel
            by_cases htu : t < 9
            · have hcode := on_code (HM.out (2001 + t) (by omega) (by omega)) hg.out
              obtain ⟨f0, f1, f2⟩ := hFq.out
              rcases hcode with ⟨hcl, x, hx⟩ | ⟨hcl, x, hx⟩
              · have HX := Lib.hid hx
                cases b
                · go_wp2_with fail
                  refine (on_any (2001 + t) (1 + m % 12) fk fw fd _ (by exact hTq.out) (by omega) (by omega)).mono ?_
                  intro e w2 hq; obtain ⟨rfl, hb2⟩ := OnR.to HX.out _ _ hq; clear hq
                  have HT3 : Hid (Tabs w2) := hTq.out.below hb2
                  have HB3 : Hid (Below W.heap.size W w2) := bel_trans hBq.out hb2
                  have HF3 : Hid (FC w1.heap.size fk fw fd w2) := hFq.out.below hb2
                  clear hb2
                  go_wp2_with fail
                  go_round
                  case rel => exact ⟨false, t + 1, _, by omega, by omega, rfl, rfl, rfl, HT3, HB3, HF3, Lib.hid (fun _ h => Bool.noConfusion h)⟩
                  case measure => simp [intOf]; omega
                · have HS : Hid (fd ≤ len 1 (1 + m % 12)) := by
                    by_cases h0 : 1 ≤ t
                    · exact hbq.out h0 rfl
                    · rw [show t = 0 by omega] at hcl
                      show _ ≤ _
                      rw [← len_2001]; exact hcl
                  go_wp2_with fail
                  refine (on_any (2001 + t) (1 + m % 12) fk fw fd _ (by exact hTq.out) (by omega) (by omega)).mono ?_
                  intro e w2 hq; obtain ⟨rfl, hb2⟩ := OnR.to HX.out _ _ hq; clear hq
                  have HT3 : Hid (Tabs w2) := hTq.out.below hb2
                  have HB3 : Hid (Below W.heap.size W w2) := bel_trans hBq.out hb2
                  have HF3 : Hid (FC w1.heap.size fk fw fd w2) := hFq.out.below hb2
                  clear hb2
                  go_wp2_with fail
                  go_round
                  case rel => exact ⟨true, t + 1, _, by omega, by omega, rfl, rfl, rfl, HT3, HB3, HF3, Lib.hid (fun _ _ => HS.out)⟩
                  case measure => simp [intOf]; omega
              · have HX := Lib.hid hx
                go_wp2_with fail
                refine (on_any (2001 + t) (1 + m % 12) fk fw fd _ (by exact hTq.out) (by omega) (by omega)).mono ?_
                intro e w2 hq; obtain ⟨rfl, hb2⟩ := OnR.to HX.out _ _ hq; clear hq
                have HT3 : Hid (Tabs w2) := hTq.out.below hb2
                have HB3 : Hid (Below W.heap.size W w2) := bel_trans hBq.out hb2
                have HF3 : Hid (FC w1.heap.size fk fw fd w2) := hFq.out.below hb2
                clear hb2
                cases b <;>
                  (go_wp2_with fail
                   go_round
                   case rel => exact ⟨false, t + 1, _, by omega, by omega, rfl, rfl, rfl, HT3, HB3, HF3, Lib.hid (fun _ h => Bool.noConfusion h)⟩
                   case measure => simp [intOf]; omega)
            · have : t = 9 := by omega
              subst this
              have HB9 : Hid (b = true → fd ≤ len 1 (1 + m % 12)) := hbq.out (by omega)
              obtain ⟨l, hl⟩ : ∃ l, l = len 1 (1 + m % 12) := ⟨_, rfl⟩
              obtain ⟨hl1, hl2⟩ := len_bd 1 (1 + m % 12)
              rw [← hl] at hl1 hl2 HB9
              have HLN : Hid (∀ V : World, Calls Tryd.prog 19 #[.int .i64 2001, .int .i64 (1 + m % 12)] V fun e w' => e = .returned (.int .i64 l) ∧ V = w') := fun V =>
                (len_any 2001 (1 + m % 12) V (by decide) (by decide)).mono (len_to (by rw [len_2001, hl]))
              by_cases hq : fd ≤ l
              · have HAL := Lib.hid (show decide (alw z 1048576 (1 + m % 12) fk fw fd) = true by
                  rw [decide_eq_true_iff, alw_ever (by omega) hg.out, ← hl]; exact hq)
                clear hl
                obtain ⟨f0, f1, f2⟩ := hFq.out
                cases b
                · go_wp2_with fail
                  refine wp_region_held_drew (S := (fun w' => w'.cell? ⟨w1.heap.size, 0, none⟩ = some (.int .i64 fk) ∧ w'.cell? ⟨w1.heap.size, 1, none⟩ = some (.int .i64 fw) ∧ w'.cell? ⟨w1.heap.size, 2, none⟩ = some (.int .i64 fd))) (by kernel_rfl) (by exact hFq.out) (fun hHeld => ?_)
                  refine wpAnyH_take (i := 0) (v := ?_) rfl (by kernel_rfl) (by kernel_rfl) (by kernel_rfl) (fun _ _ _ h => h) (Or.inl ⟨by rfl, ?_⟩) (by assumption) ?_
                  rotate_left 1
                  · (intro w hSw; (try dsimp only at hSw); first | (go_simp; done) | (go_simp; with_reducible rfl))
                  try simp only [Act.put, List.getElem_toArray, List.getElem_cons_succ, List.getElem_cons_zero, List.setIfInBounds_toArray, List.set_cons_zero, List.set_cons_succ]
                  refine wpAnyH_take (i := 1) (v := ?_) rfl (by kernel_rfl) (by kernel_rfl) (by kernel_rfl) (fun _ _ _ h => h) (Or.inl ⟨by rfl, ?_⟩) (by assumption) ?_
                  rotate_left 1
                  · (intro w hSw; (try dsimp only at hSw); first | (go_simp; done) | (go_simp; with_reducible rfl))
                  try simp only [Act.put, List.getElem_toArray, List.getElem_cons_succ, List.getElem_cons_zero, List.setIfInBounds_toArray, List.set_cons_zero, List.set_cons_succ]
                  refine wpAnyH_take (i := 2) (v := ?_) rfl (by kernel_rfl) (by kernel_rfl) (by kernel_rfl) (fun _ _ _ h => h) (Or.inl ⟨by rfl, ?_⟩) (by assumption) ?_
                  rotate_left 1
                  · (intro w hSw; (try dsimp only at hSw); first | (go_simp; done) | (go_simp; with_reducible rfl))
                  try simp only [Act.put, List.getElem_toArray, List.getElem_cons_succ, List.getElem_cons_zero, List.setIfInBounds_toArray, List.set_cons_zero, List.set_cons_succ]
                  refine wpAnyH_take (i := 4) (v := ?_) rfl (by kernel_rfl) (by kernel_rfl) (by kernel_rfl) (fun _ _ _ h => h) (Or.inl ⟨by rfl, ?_⟩) (by assumption) ?_
                  rotate_left 1
                  · (intro w hSw; (try dsimp only at hSw); first | (go_simp; done) | (go_simp; with_reducible rfl))
                  try simp only [Act.put, List.getElem_toArray, List.getElem_cons_succ, List.getElem_cons_zero, List.setIfInBounds_toArray, List.set_cons_zero, List.set_cons_succ]
                  refine wpAnyH_take (i := 5) (v := ?_) rfl (by kernel_rfl) (by kernel_rfl) (by kernel_rfl) (fun _ _ _ h => h) (Or.inl ⟨by rfl, ?_⟩) (by assumption) ?_
                  rotate_left 1
                  · (intro w hSw; (try dsimp only at hSw); first | (go_simp; done) | (go_simp; with_reducible rfl))
                  try simp only [Act.put, List.getElem_toArray, List.getElem_cons_succ, List.getElem_cons_zero, List.setIfInBounds_toArray, List.set_cons_zero, List.set_cons_succ]
                  refine wpAnyH_take (i := 6) (v := ?_) rfl (by kernel_rfl) (by kernel_rfl) (by kernel_rfl) (fun _ _ _ h => h) (Or.inl ⟨by rfl, ?_⟩) (by assumption) ?_
                  rotate_left 1
                  · (intro w hSw; (try dsimp only at hSw); first | (go_simp; done) | (go_simp; with_reducible rfl))
                  try simp only [Act.put, List.getElem_toArray, List.getElem_cons_succ, List.getElem_cons_zero, List.setIfInBounds_toArray, List.set_cons_zero, List.set_cons_succ]
                  refine wpAnyH_ready (rs := [3]) (by kernel_rfl) (by simp) ?_
                  refine AllReadyH.cons rfl (fun K hK => ?_) AllReadyH.nil
                  go_simp
                  refine (always_any z 1048576 (1 + m % 12) fk fw fd _ (by exact hTq.out) (by omega) (by omega)).mono ?_
                  intro e w3 hq
                  obtain ⟨rfl, hb3⟩ := YesB.to_b HAL.out _ _ hq
                  clear hq
                  go_wp2_with fail
                  refine hK.out _ _ ?_ (fun hHeld => ?_)
                  · exact FC.below (by exact hFq.out) hb3
                  clear hK K
                  try simp only [Act.put, List.getElem_toArray, List.getElem_cons_succ, List.getElem_cons_zero, List.setIfInBounds_toArray, List.set_cons_zero, List.set_cons_succ]
                  refine wpAnyH_ready (rs := [7]) (by kernel_rfl) (by simp) ?_
                  refine AllReadyH.cons rfl (fun K hK => ?_) AllReadyH.nil
                  go_simp
                  refine (HLN.out _).mono ?_
                  rintro e w' ⟨rfl, rfl⟩
                  go_wp2_with fail
                  refine hK.out _ _ ?_ (fun hHeld => ?_)
                  · exact FC.below (by exact hFq.out) hb3
                  clear hK K
                  try simp only [Act.put, List.getElem_toArray, List.getElem_cons_succ, List.getElem_cons_zero, List.setIfInBounds_toArray, List.set_cons_zero, List.set_cons_succ]
                  refine wpAnyH_take (i := 8) (v := ?_) rfl (by kernel_rfl) (by kernel_rfl) (by kernel_rfl) (fun _ _ _ h => h) (Or.inl ⟨by rfl, ?_⟩) (by assumption) ?_
                  rotate_left 1
                  · (intro w hSw; (try dsimp only at hSw); first | (go_simp; done) | (go_simp; with_reducible rfl))
                  try simp only [Act.put, List.getElem_toArray, List.getElem_cons_succ, List.getElem_cons_zero, List.setIfInBounds_toArray, List.set_cons_zero, List.set_cons_succ]
                  refine wpAnyH_take (i := 9) (v := ?_) rfl (by kernel_rfl) (by kernel_rfl) (by kernel_rfl) (fun _ _ _ h => h) (Or.inl ⟨by rfl, ?_⟩) (by assumption) ?_
                  rotate_left 1
                  · (intro w hSw; (try dsimp only at hSw); first | (go_simp; done) | (go_simp; with_reducible rfl))
                  try simp only [Act.put, List.getElem_toArray, List.getElem_cons_succ, List.getElem_cons_zero, List.setIfInBounds_toArray, List.set_cons_zero, List.set_cons_succ]
                  refine wpAnyH_take (i := 10) (v := ?_) rfl (by kernel_rfl) (by kernel_rfl) (by kernel_rfl) (fun _ _ _ h => h) (Or.inl ⟨by rfl, ?_⟩) (by assumption) ?_
                  rotate_left 1
                  · (intro w hSw; (try dsimp only at hSw); first | (go_simp; done) | (go_simp; with_reducible rfl))
                  try simp only [Act.put, List.getElem_toArray, List.getElem_cons_succ, List.getElem_cons_zero, List.setIfInBounds_toArray, List.set_cons_zero, List.set_cons_succ]
                  refine wpAnyH_take (i := 11) (v := ?_) rfl (by kernel_rfl) (by kernel_rfl) (by kernel_rfl) (fun _ _ _ h => h) (Or.inl ⟨by rfl, ?_⟩) (by assumption) ?_
                  rotate_left 1
                  · (intro w hSw; (try dsimp only at hSw); first | (go_simp; done) | (go_simp; with_reducible rfl))
                  try simp only [Act.put, List.getElem_toArray, List.getElem_cons_succ, List.getElem_cons_zero, List.setIfInBounds_toArray, List.set_cons_zero, List.set_cons_succ]
                  refine wpAnyH_take (i := 12) (v := ?_) rfl (by kernel_rfl) (by kernel_rfl) (by kernel_rfl) (fun _ _ _ h => h) (Or.inl ⟨by rfl, ?_⟩) (by assumption) ?_
                  rotate_left 1
                  · (intro w hSw; (try dsimp only at hSw); first | (go_simp; done) | (go_simp; with_reducible rfl))
                  try simp only [Act.put, List.getElem_toArray, List.getElem_cons_succ, List.getElem_cons_zero, List.setIfInBounds_toArray, List.set_cons_zero, List.set_cons_succ]
                  refine wpAnyH_take (i := 13) (v := ?_) rfl (by kernel_rfl) (by kernel_rfl) (by kernel_rfl) (fun _ _ _ h => h) (Or.inl ⟨by rfl, ?_⟩) (by assumption) ?_
                  rotate_left 1
                  · (intro w hSw; (try dsimp only at hSw); first | (go_simp; done) | (go_simp; with_reducible rfl))
                  try simp only [Act.put, List.getElem_toArray, List.getElem_cons_succ, List.getElem_cons_zero, List.setIfInBounds_toArray, List.set_cons_zero, List.set_cons_succ]
                  refine wpAnyH_take (i := 14) (v := undef) rfl (by kernel_rfl) (by kernel_rfl) (by kernel_rfl) (fun _ _ _ h => h) (Or.inr ⟨by rfl, rfl⟩) (by assumption) ?_
                  try simp only [Act.put, List.getElem_toArray, List.getElem_cons_succ, List.getElem_cons_zero, List.setIfInBounds_toArray, List.set_cons_zero, List.set_cons_succ]
                  refine wpAnyH_take (i := 15) (v := undef) rfl (by kernel_rfl) (by kernel_rfl) (by kernel_rfl) (fun _ _ _ h => h) (Or.inr ⟨by rfl, rfl⟩) (by assumption) ?_
                  try simp only [Act.put, List.getElem_toArray, List.getElem_cons_succ, List.getElem_cons_zero, List.setIfInBounds_toArray, List.set_cons_zero, List.set_cons_succ]
                  refine wpAnyH_take (i := 16) (v := undef) rfl (by kernel_rfl) (by kernel_rfl) (by kernel_rfl) (fun _ _ _ h => h) (Or.inr ⟨by rfl, rfl⟩) (by assumption) ?_
                  try simp only [Act.put, List.getElem_toArray, List.getElem_cons_succ, List.getElem_cons_zero, List.setIfInBounds_toArray, List.set_cons_zero, List.set_cons_succ]
                  refine wpAnyH_take (i := 17) (v := undef) rfl (by kernel_rfl) (by kernel_rfl) (by kernel_rfl) (fun _ _ _ h => h) (Or.inr ⟨by rfl, rfl⟩) (by assumption) ?_
                  try simp only [Act.put, List.getElem_toArray, List.getElem_cons_succ, List.getElem_cons_zero, List.setIfInBounds_toArray, List.set_cons_zero, List.set_cons_succ]
                  refine wpAnyH_take (i := 18) (v := ?_) rfl (by kernel_rfl) (by kernel_rfl) (by kernel_rfl) (fun _ _ _ h => h) (Or.inl ⟨by rfl, ?_⟩) (by assumption) ?_
                  rotate_left 1
                  · (intro w hSw; (try dsimp only at hSw); first | (go_simp; done) | (go_simp; with_reducible rfl))
                  try simp only [Act.put, List.getElem_toArray, List.getElem_cons_succ, List.getElem_cons_zero, List.setIfInBounds_toArray, List.set_cons_zero, List.set_cons_succ]
                  refine wpAnyH_take (i := 19) (v := ?_) rfl (by kernel_rfl) (by kernel_rfl) (by kernel_rfl) (fun _ _ _ h => h) (Or.inl ⟨by rfl, ?_⟩) (by assumption) ?_
                  rotate_left 1
                  · (intro w hSw; (try dsimp only at hSw); first | (go_simp; done) | (go_simp; with_reducible rfl))
                  try simp only [Act.put, List.getElem_toArray, List.getElem_cons_succ, List.getElem_cons_zero, List.setIfInBounds_toArray, List.set_cons_zero, List.set_cons_succ]
                  refine wpAnyH_take (i := 20) (v := ?_) rfl (by kernel_rfl) (by kernel_rfl) (by kernel_rfl) (fun _ _ _ h => h) (Or.inl ⟨by rfl, ?_⟩) (by assumption) ?_
                  rotate_left 1
                  · (intro w hSw; (try dsimp only at hSw); first | (go_simp; done) | (go_simp; with_reducible rfl))
                  try simp only [Act.put, List.getElem_toArray, List.getElem_cons_succ, List.getElem_cons_zero, List.setIfInBounds_toArray, List.set_cons_zero, List.set_cons_succ]
                  refine wpAnyH_ready (rs := [21]) (by kernel_rfl) (by simp) ?_
                  refine AllReadyH.cons rfl (fun K hK => ?_) AllReadyH.nil
                  go_simp
                  refine (works_any _ (by exact Tabs.below (by exact hTq.out) hb3)).mono ?_
                  rintro e w5 ⟨rfl, hb5⟩
                  go_wp2_with fail
                  refine hK.out _ _ ?_ (fun hHeld => ?_)
                  · exact FC.below (by exact FC.below (by exact hFq.out) hb3) hb5
                  clear hK K
                  try simp only [Act.put, List.getElem_toArray, List.getElem_cons_succ, List.getElem_cons_zero, List.setIfInBounds_toArray, List.set_cons_zero, List.set_cons_succ]
                  refine wpAnyH_take (i := 22) (v := ?_) rfl (by kernel_rfl) (by kernel_rfl) (by kernel_rfl) (fun _ _ _ h => h) (Or.inl ⟨by rfl, ?_⟩) (by assumption) ?_
                  rotate_left 1
                  · (intro w hSw; (try dsimp only at hSw); first | (go_simp; done) | (go_simp; with_reducible rfl))
                  try simp only [Act.put, List.getElem_toArray, List.getElem_cons_succ, List.getElem_cons_zero, List.setIfInBounds_toArray, List.set_cons_zero, List.set_cons_succ]
                  refine wpAnyH_take (i := 23) (v := ?_) rfl (by kernel_rfl) (by kernel_rfl) (by kernel_rfl) (fun _ _ _ h => h) (Or.inl ⟨by rfl, ?_⟩) (by assumption) ?_
                  rotate_left 1
                  · (intro w hSw; (try dsimp only at hSw); first | (go_simp; done) | (go_simp; with_reducible rfl))
                  try simp only [Act.put, List.getElem_toArray, List.getElem_cons_succ, List.getElem_cons_zero, List.setIfInBounds_toArray, List.set_cons_zero, List.set_cons_succ]
                  refine wpAnyH_done (by kernel_rfl) ?_ _
                  go_wp2_with fail
                  go_ret
                  exact ⟨by first | rfl | (simp; omega), bel_trans (bel_trans (Below.drew hBq.out) hb3) hb5⟩
                · go_wp2_with fail
                  first
                  | (go_region_held3 (fun w' => w'.cell? ⟨w1.heap.size, 0, none⟩ = some (.int .i64 fk) ∧ w'.cell? ⟨w1.heap.size, 1, none⟩ = some (.int .i64 fw) ∧ w'.cell? ⟨w1.heap.size, 2, none⟩ = some (.int .i64 fd))
                       (first | exact hFq.out | exact FC.below (by exact hFq.out) hb3 | exact FC.below (by exact FC.below (by exact hFq.out) hb3) hb4 | exact FC.below (by exact FC.below (by exact hFq.out) hb3) hb5 | exact FC.below (by exact FC.below (by exact FC.below (by exact hFq.out) hb3) hb4) hb5)
                       (first
                        | (go_at_call 14; refine (always_any z 1048576 (1 + m % 12) fk fw fd _ (by exact hTq.out) (by omega) (by omega)).mono ?_; intro e w3 hq; obtain ⟨rfl, hb3⟩ := YesB.to_b HAL.out _ _ hq; clear hq)
                        | (go_at_call 14; refine (always_any z 1048576 (1 + m % 12) fk fw fd _ (by exact Tabs.below (by exact hTq.out) hb3) (by omega) (by omega)).mono ?_; intro e w4 hq; obtain ⟨rfl, hb4⟩ := YesB.to_b HAL.out _ _ hq; clear hq)
                        | (go_at_call 19; refine (HLN.out _).mono ?_; rintro e w' ⟨rfl, rfl⟩)
                        | (go_at_call 13; refine (works_any _ (by first | exact Tabs.below (by exact Tabs.below (by exact hTq.out) hb3) hb4 | exact Tabs.below (by exact hTq.out) hb3)).mono ?_; rintro e w5 ⟨rfl, hb5⟩)))
                  | fail
                  go_wp2_with fail
                  go_ret
                  exact ⟨by first | rfl | (simp; omega), bel_trans (bel_trans (bel_trans (Below.drew hBq.out) hb3) hb4) hb5⟩
              · have HAL := Lib.hid (show decide (alw z 1048576 (1 + m % 12) fk fw fd) = false by
                  rw [decide_eq_false_iff_not, alw_ever (by omega) hg.out, ← hl]; exact hq)
                clear hl
                obtain ⟨f0, f1, f2⟩ := hFq.out
                cases b
                · have hqd : decide (fd ≤ l) = false := by simp; omega
                  go_wp2_with fail
                  refine wp_region_held_drew (S := (fun w' => w'.cell? ⟨w1.heap.size, 0, none⟩ = some (.int .i64 fk) ∧ w'.cell? ⟨w1.heap.size, 1, none⟩ = some (.int .i64 fw) ∧ w'.cell? ⟨w1.heap.size, 2, none⟩ = some (.int .i64 fd))) (by kernel_rfl) (by exact hFq.out) (fun hHeld => ?_)
                  refine wpAnyH_take (i := 0) (v := ?_) rfl (by kernel_rfl) (by kernel_rfl) (by kernel_rfl) (fun _ _ _ h => h) (Or.inl ⟨by rfl, ?_⟩) (by assumption) ?_
                  rotate_left 1
                  · (intro w hSw; (try dsimp only at hSw); first | (go_simp; done) | (go_simp; with_reducible rfl))
                  try simp only [Act.put, List.getElem_toArray, List.getElem_cons_succ, List.getElem_cons_zero, List.setIfInBounds_toArray, List.set_cons_zero, List.set_cons_succ]
                  refine wpAnyH_take (i := 1) (v := ?_) rfl (by kernel_rfl) (by kernel_rfl) (by kernel_rfl) (fun _ _ _ h => h) (Or.inl ⟨by rfl, ?_⟩) (by assumption) ?_
                  rotate_left 1
                  · (intro w hSw; (try dsimp only at hSw); first | (go_simp; done) | (go_simp; with_reducible rfl))
                  try simp only [Act.put, List.getElem_toArray, List.getElem_cons_succ, List.getElem_cons_zero, List.setIfInBounds_toArray, List.set_cons_zero, List.set_cons_succ]
                  refine wpAnyH_take (i := 2) (v := ?_) rfl (by kernel_rfl) (by kernel_rfl) (by kernel_rfl) (fun _ _ _ h => h) (Or.inl ⟨by rfl, ?_⟩) (by assumption) ?_
                  rotate_left 1
                  · (intro w hSw; (try dsimp only at hSw); first | (go_simp; done) | (go_simp; with_reducible rfl))
                  try simp only [Act.put, List.getElem_toArray, List.getElem_cons_succ, List.getElem_cons_zero, List.setIfInBounds_toArray, List.set_cons_zero, List.set_cons_succ]
                  refine wpAnyH_take (i := 4) (v := ?_) rfl (by kernel_rfl) (by kernel_rfl) (by kernel_rfl) (fun _ _ _ h => h) (Or.inl ⟨by rfl, ?_⟩) (by assumption) ?_
                  rotate_left 1
                  · (intro w hSw; (try dsimp only at hSw); first | (go_simp; done) | (go_simp; with_reducible rfl))
                  try simp only [Act.put, List.getElem_toArray, List.getElem_cons_succ, List.getElem_cons_zero, List.setIfInBounds_toArray, List.set_cons_zero, List.set_cons_succ]
                  refine wpAnyH_take (i := 5) (v := ?_) rfl (by kernel_rfl) (by kernel_rfl) (by kernel_rfl) (fun _ _ _ h => h) (Or.inl ⟨by rfl, ?_⟩) (by assumption) ?_
                  rotate_left 1
                  · (intro w hSw; (try dsimp only at hSw); first | (go_simp; done) | (go_simp; with_reducible rfl))
                  try simp only [Act.put, List.getElem_toArray, List.getElem_cons_succ, List.getElem_cons_zero, List.setIfInBounds_toArray, List.set_cons_zero, List.set_cons_succ]
                  refine wpAnyH_take (i := 6) (v := ?_) rfl (by kernel_rfl) (by kernel_rfl) (by kernel_rfl) (fun _ _ _ h => h) (Or.inl ⟨by rfl, ?_⟩) (by assumption) ?_
                  rotate_left 1
                  · (intro w hSw; (try dsimp only at hSw); first | (go_simp; done) | (go_simp; with_reducible rfl))
                  try simp only [Act.put, List.getElem_toArray, List.getElem_cons_succ, List.getElem_cons_zero, List.setIfInBounds_toArray, List.set_cons_zero, List.set_cons_succ]
                  refine wpAnyH_ready (rs := [3]) (by kernel_rfl) (by simp) ?_
                  refine AllReadyH.cons rfl (fun K hK => ?_) AllReadyH.nil
                  go_simp
                  refine (always_any z 1048576 (1 + m % 12) fk fw fd _ (by exact hTq.out) (by omega) (by omega)).mono ?_
                  intro e w3 hq
                  obtain ⟨rfl, hb3⟩ := YesB.to_b HAL.out _ _ hq
                  clear hq
                  go_wp2_with fail
                  refine hK.out _ _ ?_ (fun hHeld => ?_)
                  · exact FC.below (by exact hFq.out) hb3
                  clear hK K
                  try simp only [Act.put, List.getElem_toArray, List.getElem_cons_succ, List.getElem_cons_zero, List.setIfInBounds_toArray, List.set_cons_zero, List.set_cons_succ]
                  refine wpAnyH_ready (rs := [7]) (by kernel_rfl) (by simp) ?_
                  refine AllReadyH.cons rfl (fun K hK => ?_) AllReadyH.nil
                  go_simp
                  refine (HLN.out _).mono ?_
                  rintro e w' ⟨rfl, rfl⟩
                  go_wp2_with fail
                  refine hK.out _ _ ?_ (fun hHeld => ?_)
                  · exact FC.below (by exact hFq.out) hb3
                  clear hK K
                  try simp only [Act.put, List.getElem_toArray, List.getElem_cons_succ, List.getElem_cons_zero, List.setIfInBounds_toArray, List.set_cons_zero, List.set_cons_succ]
                  refine wpAnyH_take (i := 8) (v := ?_) rfl (by kernel_rfl) (by kernel_rfl) (by kernel_rfl) (fun _ _ _ h => h) (Or.inl ⟨by rfl, ?_⟩) (by assumption) ?_
                  rotate_left 1
                  · (intro w hSw; (try dsimp only at hSw); first | (go_simp; done) | (go_simp; with_reducible rfl))
                  try simp only [Act.put, List.getElem_toArray, List.getElem_cons_succ, List.getElem_cons_zero, List.setIfInBounds_toArray, List.set_cons_zero, List.set_cons_succ]
                  refine wpAnyH_take (i := 9) (v := ?_) rfl (by kernel_rfl) (by kernel_rfl) (by kernel_rfl) (fun _ _ _ h => h) (Or.inl ⟨by rfl, ?_⟩) (by assumption) ?_
                  rotate_left 1
                  · (intro w hSw; (try dsimp only at hSw); first | (go_simp; done) | (go_simp; with_reducible rfl))
                  try simp only [Act.put, List.getElem_toArray, List.getElem_cons_succ, List.getElem_cons_zero, List.setIfInBounds_toArray, List.set_cons_zero, List.set_cons_succ]
                  refine wpAnyH_take (i := 10) (v := ?_) rfl (by kernel_rfl) (by kernel_rfl) (by kernel_rfl) (fun _ _ _ h => h) (Or.inl ⟨by rfl, ?_⟩) (by assumption) ?_
                  rotate_left 1
                  · (intro w hSw; (try dsimp only at hSw); first | (go_simp; done) | (go_simp; with_reducible rfl))
                  try simp only [Act.put, List.getElem_toArray, List.getElem_cons_succ, List.getElem_cons_zero, List.setIfInBounds_toArray, List.set_cons_zero, List.set_cons_succ]
                  refine wpAnyH_take (i := 11) (v := ?_) rfl (by kernel_rfl) (by kernel_rfl) (by kernel_rfl) (fun _ _ _ h => h) (Or.inl ⟨by rfl, ?_⟩) (by assumption) ?_
                  rotate_left 1
                  · (intro w hSw; (try dsimp only at hSw); first | (go_simp; done) | (go_simp; with_reducible rfl))
                  try simp only [Act.put, List.getElem_toArray, List.getElem_cons_succ, List.getElem_cons_zero, List.setIfInBounds_toArray, List.set_cons_zero, List.set_cons_succ]
                  refine wpAnyH_take (i := 12) (v := ?_) rfl (by kernel_rfl) (by kernel_rfl) (by kernel_rfl) (fun _ _ _ h => h) (Or.inl ⟨by rfl, ?_⟩) (by assumption) ?_
                  rotate_left 1
                  · (intro w hSw; (try dsimp only at hSw); first | (go_simp; done) | (go_simp; with_reducible rfl))
                  try simp only [Act.put, List.getElem_toArray, List.getElem_cons_succ, List.getElem_cons_zero, List.setIfInBounds_toArray, List.set_cons_zero, List.set_cons_succ]
                  refine wpAnyH_take (i := 13) (v := ?_) rfl (by kernel_rfl) (by kernel_rfl) (by kernel_rfl) (fun _ _ _ h => h) (Or.inl ⟨by rfl, ?_⟩) (by assumption) ?_
                  rotate_left 1
                  · (intro w hSw; (try dsimp only at hSw); first | (go_simp; done) | (go_simp; with_reducible rfl))
                  try simp only [Act.put, List.getElem_toArray, List.getElem_cons_succ, List.getElem_cons_zero, List.setIfInBounds_toArray, List.set_cons_zero, List.set_cons_succ]
                  refine wpAnyH_take (i := 14) (v := undef) rfl (by kernel_rfl) (by kernel_rfl) (by kernel_rfl) (fun _ _ _ h => h) (Or.inr ⟨by rfl, rfl⟩) (by assumption) ?_
                  try simp only [Act.put, List.getElem_toArray, List.getElem_cons_succ, List.getElem_cons_zero, List.setIfInBounds_toArray, List.set_cons_zero, List.set_cons_succ]
                  refine wpAnyH_take (i := 15) (v := undef) rfl (by kernel_rfl) (by kernel_rfl) (by kernel_rfl) (fun _ _ _ h => h) (Or.inr ⟨by rfl, rfl⟩) (by assumption) ?_
                  try simp only [Act.put, List.getElem_toArray, List.getElem_cons_succ, List.getElem_cons_zero, List.setIfInBounds_toArray, List.set_cons_zero, List.set_cons_succ]
                  refine wpAnyH_take (i := 16) (v := undef) rfl (by kernel_rfl) (by kernel_rfl) (by kernel_rfl) (fun _ _ _ h => h) (Or.inr ⟨by rfl, rfl⟩) (by assumption) ?_
                  try simp only [Act.put, List.getElem_toArray, List.getElem_cons_succ, List.getElem_cons_zero, List.setIfInBounds_toArray, List.set_cons_zero, List.set_cons_succ]
                  refine wpAnyH_take (i := 17) (v := undef) rfl (by kernel_rfl) (by kernel_rfl) (by kernel_rfl) (fun _ _ _ h => h) (Or.inr ⟨by rfl, rfl⟩) (by assumption) ?_
                  try simp only [Act.put, List.getElem_toArray, List.getElem_cons_succ, List.getElem_cons_zero, List.setIfInBounds_toArray, List.set_cons_zero, List.set_cons_succ]
                  refine wpAnyH_take (i := 18) (v := ?_) rfl (by kernel_rfl) (by kernel_rfl) (by kernel_rfl) (fun _ _ _ h => h) (Or.inl ⟨by rfl, ?_⟩) (by assumption) ?_
                  rotate_left 1
                  · (intro w hSw; (try dsimp only at hSw); first | (go_simp; done) | (go_simp; with_reducible rfl))
                  try simp only [Act.put, List.getElem_toArray, List.getElem_cons_succ, List.getElem_cons_zero, List.setIfInBounds_toArray, List.set_cons_zero, List.set_cons_succ]
                  refine wpAnyH_take (i := 19) (v := ?_) rfl (by kernel_rfl) (by kernel_rfl) (by kernel_rfl) (fun _ _ _ h => h) (Or.inl ⟨by rfl, ?_⟩) (by assumption) ?_
                  rotate_left 1
                  · (intro w hSw; (try dsimp only at hSw); first | (go_simp; done) | (go_simp; with_reducible rfl))
                  try simp only [Act.put, List.getElem_toArray, List.getElem_cons_succ, List.getElem_cons_zero, List.setIfInBounds_toArray, List.set_cons_zero, List.set_cons_succ]
                  refine wpAnyH_take (i := 20) (v := ?_) rfl (by kernel_rfl) (by kernel_rfl) (by kernel_rfl) (fun _ _ _ h => h) (Or.inl ⟨by rfl, ?_⟩) (by assumption) ?_
                  rotate_left 1
                  · (intro w hSw; (try dsimp only at hSw); first | (go_simp; done) | (go_simp; with_reducible rfl))
                  try simp only [Act.put, List.getElem_toArray, List.getElem_cons_succ, List.getElem_cons_zero, List.setIfInBounds_toArray, List.set_cons_zero, List.set_cons_succ]
                  refine wpAnyH_ready (rs := [21]) (by kernel_rfl) (by simp) ?_
                  refine AllReadyH.cons rfl (fun K hK => ?_) AllReadyH.nil
                  go_simp
                  refine (works_any _ (by exact Tabs.below (by exact hTq.out) hb3)).mono ?_
                  rintro e w5 ⟨rfl, hb5⟩
                  go_wp2_with fail
                  refine hK.out _ _ ?_ (fun hHeld => ?_)
                  · exact FC.below (by exact FC.below (by exact hFq.out) hb3) hb5
                  clear hK K
                  try simp only [Act.put, List.getElem_toArray, List.getElem_cons_succ, List.getElem_cons_zero, List.setIfInBounds_toArray, List.set_cons_zero, List.set_cons_succ]
                  refine wpAnyH_take (i := 22) (v := ?_) rfl (by kernel_rfl) (by kernel_rfl) (by kernel_rfl) (fun _ _ _ h => h) (Or.inl ⟨by rfl, ?_⟩) (by assumption) ?_
                  rotate_left 1
                  · (intro w hSw; (try dsimp only at hSw); first | (go_simp; done) | (go_simp; with_reducible rfl))
                  try simp only [Act.put, List.getElem_toArray, List.getElem_cons_succ, List.getElem_cons_zero, List.setIfInBounds_toArray, List.set_cons_zero, List.set_cons_succ]
                  refine wpAnyH_take (i := 23) (v := ?_) rfl (by kernel_rfl) (by kernel_rfl) (by kernel_rfl) (fun _ _ _ h => h) (Or.inl ⟨by rfl, ?_⟩) (by assumption) ?_
                  rotate_left 1
                  · (intro w hSw; (try dsimp only at hSw); first | (go_simp; done) | (go_simp; with_reducible rfl))
                  try simp only [Act.put, List.getElem_toArray, List.getElem_cons_succ, List.getElem_cons_zero, List.setIfInBounds_toArray, List.set_cons_zero, List.set_cons_succ]
                  refine wpAnyH_done (by kernel_rfl) ?_ _
                  go_wp2_with fail
                  go_ret
                  exact ⟨by first | rfl | (simp; omega), bel_trans (bel_trans (Below.drew hBq.out) hb3) hb5⟩
                · exact absurd (by simpa using HB9.out) hq

theorem dayformEach.dayformEach_walk (W : World) (hL : laidMetH Tryd.prog Rows.dayformEachRow.laid W) (v : Value) {H : Type} {enc : TypeId × Value → H} {base : Nat} {d : DataW H} {p : List MemPlace} (hv : Value.okWide Tryd.prog W .any base 32 v)
    (h : DataW.Trod enc Tryd.prog W 0 (fun _ => true) true 32 v d p) (y : Int) (wy : (Lit.int .i32 y).wf = true) (m : Int) (wm : (Lit.int .u8 m).wf = true) (o : Int) (wo : (Lit.int .u8 o).wf = true) :
    Calls Tryd.prog 6 #[v, .int .i32 y, .int .u8 m, .int .u8 o] W fun e w' => e = .returned (.bool true) ∧ Below W.heap.size W w' := by
  obtain ⟨k, w, n, rfl, wk, ww, wn⟩ := draft_of hv h
  exact each_core W (tabs_of hL) k w n wk ww wn y wy m wm o wo
end Go.Proofs.YtieoogllghmeeaaDoor
