/-
  The walk of the law DayformWeeks.
-/
import Derived.Test.YtieoogllghmeeaaDoorDayLaw
import Derived.OwnWalk
import Derived.Maps.AppendAt
import Derived.Laws.OwnMore
namespace Go.Proofs.YtieoogllghmeeaaDoor
open Go.RowKit Cv
set_option linter.unusedVariables false
set_option linter.unusedSimpArgs false

namespace Cv
/-- the first c of a weekday's days, from the first one on -/
def wks (x : Int) (c : Nat) : _root_.List Value := (_root_.List.range c).map fun i : Nat => Value.int .i64 (x + 7 * (i : Int))
theorem wks_succ (x : Int) (c : Nat) : wks x (c + 1) = wks x c ++ [.int .i64 (x + 7 * (c : Int))] := by unfold wks; rw [List.range_succ, List.map_append]; rfl
theorem wks_at (x : Int) (c i : Nat) (h : i < c) : (wks x c)[i]? = some (.int .i64 (x + 7 * (i : Int))) := by unfold wks; simp [h]
/-- a row of days that lies in a block -/
def Wk (g c : Nat) (x : Int) (V : World) : Prop := ∀ i : Nat, i < c → V.cell? ⟨g, i, none⟩ = some (.int .i64 (x + 7 * (i : Int)))
theorem Wk.below {g c : Nat} {x : Int} {A B : World} (h : Wk g c x A) (hb : Below A.heap.size A B) : Wk g c x B := fun i hi => by
  have := h i hi
  rw [hb.cell (lt_of_cell this)]; exact this
theorem wk_of {V : World} {base c : Nat} {t : TypeId} {v : Value} {x : Int} (h : V.ownsRow base t 1 v c (wks x c)) (hc : 0 < c) : ∃ g cap, v = .slice (some ⟨g, 0, none⟩) c cap ∧ Wk g c x V := by
  have h' := h
  obtain ⟨_, ⟨_, h0⟩ | ⟨g, cap, cur, rfl, _⟩⟩ := h
  · omega
  · exact ⟨g, cap, rfl, fun i hi => by rw [h'.cellAt i (by omega)]; exact wks_at x c i hi⟩
theorem beh_bd (f w : Int) (h1 : 0 ≤ w) (h2 : w ≤ 6) : f ≤ beh f w ∧ beh f w ≤ f + 6 ∧ (beh f w + 4) % 7 = w := by unfold beh; omega
end Cv

theorem info_day : (Tryd.prog.info? 2).map (fun i => (i.zero, i.size, i.bytes)) = some (some (.int .i64 0), 1, 8) := by kernel_rfl

set_option maxRecDepth 100000 in
set_option maxHeartbeats 4000000 in
theorem weeks_core (W : World) (hT : Tabs W) (w : Int) (ww : (Lit.int .u8 w).wf = true) (y : Int) (wy : (Lit.int .i32 y).wf = true) (m : Int) (wm : (Lit.int .u8 m).wf = true) :
    Calls Tryd.prog 7 #[.int .u8 w, .int .i32 y, .int .u8 m] W fun e w' => e = .returned (.bool true) ∧ Below W.heap.size W w' := by
  have HT := Lib.hid hT
  obtain ⟨hm1, hm2⟩ := byte_of wm
  obtain ⟨hw1, hw2⟩ := byte_of ww
  clear hT wm ww
  have hmm : 0 ≤ m % 12 ∧ m % 12 < 12 ∧ 0 ≤ w % 7 ∧ w % 7 < 7 := by omega
  obtain ⟨hmm1, hmm2, hww1, hww2⟩ := hmm
  obtain ⟨i0, hi, hz0, hzs, hzb⟩ := info_parts info_day
  go_enter Tryd.func7, Tryd.ntmps7
  go_wp2_with fail
  refine (lawYear_any y _ wy).mono ?_
  rintro e w' ⟨⟨z, hz, rfl⟩, rfl⟩
  have hzb2 := hz.out
  obtain ⟨hz1, hz2⟩ := hzb2
  have HI := Lib.hid (show inr z ∧ ok z (1 + m % 12) 1 from ⟨hz.out, (ok_first _ _).2 (by omega)⟩)
  obtain ⟨hl1, hl2⟩ := len_bd z (1 + m % 12)
  have hl3 := len_in z (1 + m % 12) (by omega) (by omega)
  obtain ⟨hfb1, hfb2⟩ := num_far HI.out.1 HI.out.2
  obtain ⟨f, hf⟩ : ∃ f, f = num z (1 + m % 12) 1 := ⟨_, rfl⟩
  obtain ⟨l, hl⟩ : ∃ l, l = len z (1 + m % 12) := ⟨_, rfl⟩
  rw [← hf] at hfb1 hfb2
  rw [← hl] at hl1 hl2 hl3
  have HF := Lib.hid hf.symm
  have HL := Lib.hid hl.symm
  clear hf hl
  obtain ⟨x0, hx0⟩ : ∃ x0, x0 = beh f (w % 7) := ⟨_, rfl⟩
  obtain ⟨hx1, hx2, hx3⟩ := beh_bd f (w % 7) (by omega) (by omega)
  rw [← hx0] at hx1 hx2 hx3
  have HX0 := Lib.hid hx0.symm
  have HX3 := Lib.hid hx3
  clear hx0 hx3
  go_wp2_with fail
  refine (days_any z (1 + m % 12) 1 _ (by exact HT.out.1) (by omega) (by omega) (by decide) (by decide)).mono ?_
  intro e w' hq; obtain ⟨rfl, nd, rfl⟩ := DaysR.to_yes (v := f) HI.out HF.out _ _ hq; clear hq
  go_wp2_with fail
  refine (len_any z (1 + m % 12) _ (by omega) (by omega)).mono ?_
  intro e w' hq; obtain ⟨rfl, rfl⟩ := len_to (v := l) HL.out _ _ hq; clear hq
  go_wp2_with fail
  go_loopw [13, 14] (fun v i wr => ∃ (j : Int) (c : Nat) (wq : World), f ≤ j ∧ j ≤ f + l ∧ i = .int .i64 j ∧ wr = wq ∧ Hid (wq.ownsRow W.heap.size 2 1 v c (wks x0 c)) ∧ Hid (Below W.heap.size W wq) ∧ Hid (x0 + 7 * (c : Int) - 7 < j ∧ j ≤ x0 + 7 * (c : Int))) (fun _ i _ => (f + l - intOf i).toNat)
  case atStart => exact ⟨f, 0, _, by omega, by omega, rfl, rfl, Lib.hid (by exact World.ownsRow_nil _ _ _ _), Lib.hid (bel_drew (Below.refl _ _) _), Lib.hid (by omega)⟩
  case round =>
    obtain ⟨j, c, wq, hj1, hj2, rfl, rfl, HOW, HBq, HJ⟩ := hrel
    by_cases hjl : j < f + l
    · by_cases hjc : j = x0 + 7 * (c : Int)
      · have hwd : (j + 4) % 7 = w % 7 := by have := HX3.out; omega
        have hc4 : c ≤ 4 := by omega
        have HJ2 : Hid (x0 + 7 * ((c + 1 : Nat) : Int) - 7 < j + 1 ∧ j + 1 ≤ x0 + 7 * ((c + 1 : Nat) : Int)) := Lib.hid (by omega)
        have HJC := Lib.hid hjc
        have HWD := Lib.hid hwd
        clear hjc hwd
        go_wp2_with fail
        refine (weekday_any j _ (by omega) (by omega)).mono ?_
        intro e w' hq; obtain ⟨rfl, nd, rfl⟩ := wday_to (v := w % 7) HWD.out _ _ hq; clear hq
        have hown : (wr.drewN nd).ownsRow W.heap.size 2 1 u13 c (wks x0 c) := HOW.out
        have hsz : W.heap.size ≤ wr.heap.size := HBq.out.size
        go_wp2_with (at_builtin; refine wpList_append_own _ rfl (.tmp 58) (.tmp 60) 40 rfl W.heap.size 2 i0 (.int .i64 0) 1 8 Tryd.underlying40 hi hz0 hzs hzb rfl (by decide) _ _ _ rfl (hown.alloc _) ⟨wr.heap.size, 0, none⟩ 1 1 [.int .i64 j] rfl rfl (cell_one_new _ _ _) (by intro u hu; simp at hu; subst hu; rfl) (by unfold maxLen; omega) (by omega) (by simp; omega) ?_; intro v1 w1 hown1 hgrow1 hnil1)
        go_round
        case rel => exact ⟨j + 1, c + 1, _, by omega, by omega, rfl, rfl, Lib.hid (by rw [wks_succ, ← HJC.out]; exact hown1), Lib.hid (Below.grown (bel_trans (bel_drew HBq.out nd) (bel_alloc _ _)) hgrow1 (by simp; omega) (fun k hk => (hown.lt k (by exact hk)).1)), HJ2⟩
        case measure => simp [intOf]; omega
      · obtain ⟨u, hu⟩ : ∃ u, u = (j + 4) % 7 := ⟨_, rfl⟩
        have hne : (u == w % 7) = false := by have := HX3.out; have := HJ.out; simp; omega
        have HU := Lib.hid hu.symm
        have HJ2 : Hid (x0 + 7 * (c : Int) - 7 < j + 1 ∧ j + 1 ≤ x0 + 7 * (c : Int)) := Lib.hid (by have := HJ.out; omega)
        clear hu hjc
        go_wp2_with fail
        refine (weekday_any j _ (by omega) (by omega)).mono ?_
        intro e w' hq; obtain ⟨rfl, nd, rfl⟩ := wday_to (v := u) HU.out _ _ hq; clear hq
        go_wp2_with fail
        go_round
        case rel => exact ⟨j + 1, c, _, by omega, by omega, rfl, rfl, Lib.hid (by exact HOW.out), Lib.hid (bel_drew HBq.out nd), HJ2⟩
        case measure => simp [intOf]; omega
    · have hje : j = f + l := by omega
      subst hje
      have hcc : c = 4 ∨ c = 5 := by have := HJ.out; omega
      have hgd : ∀ d : Int, 1 ≤ d → d ≤ 31 → good 3 (w % 7) d := fun d h1 h2 => by unfold good; omega
      have hon : ∀ d : Int, 1 ≤ d → d ≤ l → on z (1 + m % 12) 3 (w % 7) d = (beh (f + d - 1) (w % 7), 0) := fun d h1 h2 => by
        rw [on_day HI.out (hgd d h1 (by omega)) (by rw [HL.out]; omega), HF.out]; rfl
      have hlast : on z (1 + m % 12) 2 (w % 7) 0 = (bef (f + l - 1) (w % 7), 0) := by
        rw [on_day HI.out (by unfold good; omega) (by rw [HL.out]; omega), HF.out, HL.out]; rfl
      have hto : on z (1 + m % 12) 4 (w % 7) l = (bef (f + l - 1) (w % 7), 0) := by
        rw [on_day HI.out (by unfold good; omega) (by rw [HL.out]; omega), HF.out]; rfl
      have HON0 : Hid (on z (1 + m % 12) 3 (w % 7) 1 = (x0 + 0, 0)) := by
        show _ = _
        rw [hon 1 (by omega) (by omega), show beh (f + 1 - 1) (w % 7) = x0 + 0 by have := HX3.out; unfold beh; omega]
      have HON1 : Hid (on z (1 + m % 12) 3 (w % 7) 8 = (x0 + 7, 0)) := by
        show _ = _
        rw [hon 8 (by omega) (by omega), show beh (f + 8 - 1) (w % 7) = x0 + 7 by have := HX3.out; unfold beh; omega]
      have HON2 : Hid (on z (1 + m % 12) 3 (w % 7) 15 = (x0 + 14, 0)) := by
        show _ = _
        rw [hon 15 (by omega) (by omega), show beh (f + 15 - 1) (w % 7) = x0 + 14 by have := HX3.out; unfold beh; omega]
      have HON3 : Hid (on z (1 + m % 12) 3 (w % 7) 22 = (x0 + 21, 0)) := by
        show _ = _
        rw [hon 22 (by omega) (by omega), show beh (f + 22 - 1) (w % 7) = x0 + 21 by have := HX3.out; unfold beh; omega]
      clear hgd hon
      rcases hcc with rfl | rfl
      · have he : bef (f + l - 1) (w % 7) = x0 + 21 := by have := HX3.out; have := HJ.out; unfold bef; omega
        rw [he] at hlast hto
        have HL4 := Lib.hid hlast
        have HM4 := Lib.hid hto
        clear hlast hto he
        obtain ⟨g, cap, rfl, hwk⟩ := wk_of HOW.out (by omega)
        have HWq : Hid (Wk g 4 x0 wr) := hwk
        clear hwk HOW
        go_wp2_with fail
        go_loopw [15] (fun i wz => ∃ (k : Int) (wq : World), 0 ≤ k ∧ k ≤ 4 ∧ i = .int .i64 k ∧ wz = wq ∧ Hid (Below W.heap.size W wq) ∧ Hid (Wk g 4 x0 wq)) (fun i _ => (4 - intOf i).toNat)
        case atStart => exact ⟨0, _, by omega, by omega, rfl, rfl, HBq, HWq⟩
        case round =>
          clear HBq HWq
          obtain ⟨k, wq, hk1, hk2, rfl, rfl, HBr, HWr⟩ := hrel
          have hkc : k = 0 ∨ k = 1 ∨ k = 2 ∨ k = 3 ∨ k = 4 := by omega
          clear hk1 hk2
          rcases hkc with rfl | rfl | rfl | rfl | rfl
          · go_wp2_with fail
            refine (from_any (w % 7) 1 _).mono ?_
            intro e w3 hq; obtain ⟨rfl, hb3⟩ := mk_bel _ _ hq; clear hq
            have HB3 : Hid (Below W.heap.size W w3) := bel_trans HBr.out hb3
            have HW3 : Hid (Wk g 4 x0 w3) := HWr.out.below hb3
            clear hb3
            go_wp2_with fail
            refine (on_any z (1 + m % 12) 3 (w % 7) 1 _ (by exact Tabs.below (by exact HT.out) HB3.out) (by omega) (by omega)).mono ?_
            intro e w4 hq; obtain ⟨rfl, hb4⟩ := OnR.to HON0.out _ _ hq; clear hq
            have HB4 : Hid (Below W.heap.size W w4) := bel_trans HB3.out hb4
            have HW4 : Hid (Wk g 4 x0 w4) := HW3.out.below hb4
            have hcell : w4.cell? ⟨g, 0, none⟩ = some (.int .i64 (x0 + 0)) := HW4.out 0 (by omega)
            clear hb4
            go_wp2_with fail
            go_round
            case rel => exact ⟨1, _, by omega, by omega, rfl, rfl, HB4, HW4⟩
            case measure => simp [intOf]
          · go_wp2_with fail
            refine (from_any (w % 7) 8 _).mono ?_
            intro e w3 hq; obtain ⟨rfl, hb3⟩ := mk_bel _ _ hq; clear hq
            have HB3 : Hid (Below W.heap.size W w3) := bel_trans HBr.out hb3
            have HW3 : Hid (Wk g 4 x0 w3) := HWr.out.below hb3
            clear hb3
            go_wp2_with fail
            refine (on_any z (1 + m % 12) 3 (w % 7) 8 _ (by exact Tabs.below (by exact HT.out) HB3.out) (by omega) (by omega)).mono ?_
            intro e w4 hq; obtain ⟨rfl, hb4⟩ := OnR.to HON1.out _ _ hq; clear hq
            have HB4 : Hid (Below W.heap.size W w4) := bel_trans HB3.out hb4
            have HW4 : Hid (Wk g 4 x0 w4) := HW3.out.below hb4
            have hcell : w4.cell? ⟨g, 1, none⟩ = some (.int .i64 (x0 + 7)) := HW4.out 1 (by omega)
            clear hb4
            go_wp2_with fail
            go_round
            case rel => exact ⟨2, _, by omega, by omega, rfl, rfl, HB4, HW4⟩
            case measure => simp [intOf]
          · go_wp2_with fail
            refine (from_any (w % 7) 15 _).mono ?_
            intro e w3 hq; obtain ⟨rfl, hb3⟩ := mk_bel _ _ hq; clear hq
            have HB3 : Hid (Below W.heap.size W w3) := bel_trans HBr.out hb3
            have HW3 : Hid (Wk g 4 x0 w3) := HWr.out.below hb3
            clear hb3
            go_wp2_with fail
            refine (on_any z (1 + m % 12) 3 (w % 7) 15 _ (by exact Tabs.below (by exact HT.out) HB3.out) (by omega) (by omega)).mono ?_
            intro e w4 hq; obtain ⟨rfl, hb4⟩ := OnR.to HON2.out _ _ hq; clear hq
            have HB4 : Hid (Below W.heap.size W w4) := bel_trans HB3.out hb4
            have HW4 : Hid (Wk g 4 x0 w4) := HW3.out.below hb4
            have hcell : w4.cell? ⟨g, 2, none⟩ = some (.int .i64 (x0 + 14)) := HW4.out 2 (by omega)
            clear hb4
            go_wp2_with fail
            go_round
            case rel => exact ⟨3, _, by omega, by omega, rfl, rfl, HB4, HW4⟩
            case measure => simp [intOf]
          · go_wp2_with fail
            refine (from_any (w % 7) 22 _).mono ?_
            intro e w3 hq; obtain ⟨rfl, hb3⟩ := mk_bel _ _ hq; clear hq
            have HB3 : Hid (Below W.heap.size W w3) := bel_trans HBr.out hb3
            have HW3 : Hid (Wk g 4 x0 w3) := HWr.out.below hb3
            clear hb3
            go_wp2_with fail
            refine (on_any z (1 + m % 12) 3 (w % 7) 22 _ (by exact Tabs.below (by exact HT.out) HB3.out) (by omega) (by omega)).mono ?_
            intro e w4 hq; obtain ⟨rfl, hb4⟩ := OnR.to HON3.out _ _ hq; clear hq
            have HB4 : Hid (Below W.heap.size W w4) := bel_trans HB3.out hb4
            have HW4 : Hid (Wk g 4 x0 w4) := HW3.out.below hb4
            have hcell : w4.cell? ⟨g, 3, none⟩ = some (.int .i64 (x0 + 21)) := HW4.out 3 (by omega)
            clear hb4
            go_wp2_with fail
            go_round
            case rel => exact ⟨4, _, by omega, by omega, rfl, rfl, HB4, HW4⟩
            case measure => simp [intOf]
          · go_wp2_with fail
            refine (last_any (w % 7) _).mono ?_
            intro e w3 hq; obtain ⟨rfl, hb3⟩ := mk_bel _ _ hq; clear hq
            have HB3 : Hid (Below W.heap.size W w3) := bel_trans HBr.out hb3
            have HW3 : Hid (Wk g 4 x0 w3) := HWr.out.below hb3
            clear hb3
            go_wp2_with fail
            refine (on_any z (1 + m % 12) 2 (w % 7) 0 _ (by exact Tabs.below (by exact HT.out) HB3.out) (by omega) (by omega)).mono ?_
            intro e w4 hq; obtain ⟨rfl, hb4⟩ := OnR.to HL4.out _ _ hq; clear hq
            have HB4 : Hid (Below W.heap.size W w4) := bel_trans HB3.out hb4
            have HW4 : Hid (Wk g 4 x0 w4) := HW3.out.below hb4
            clear hb4
            go_wp2_with fail
            refine (to_any (w % 7) l _).mono ?_
            intro e w5 hq; obtain ⟨rfl, hb5⟩ := mk_bel _ _ hq; clear hq
            have HB5 : Hid (Below W.heap.size W w5) := bel_trans HB4.out hb5
            have HW5 : Hid (Wk g 4 x0 w5) := HW4.out.below hb5
            clear hb5
            go_wp2_with fail
            refine (on_any z (1 + m % 12) 4 (w % 7) l _ (by exact Tabs.below (by exact HT.out) HB5.out) (by omega) (by omega)).mono ?_
            intro e w6 hq; obtain ⟨rfl, hb6⟩ := OnR.to HM4.out _ _ hq; clear hq
            have HB6 : Hid (Below W.heap.size W w6) := bel_trans HB5.out hb6
            have HW6 : Hid (Wk g 4 x0 w6) := HW5.out.below hb6
            have hcell : w6.cell? ⟨g, 3, none⟩ = some (.int .i64 (x0 + 21)) := HW6.out 3 (by omega)
            clear hb6
            go_wp2_with fail
            refine (works_any _ (by exact Tabs.below (by exact HT.out) HB6.out)).mono ?_
            intro e w7 hq; obtain ⟨rfl, hb7⟩ := (fun _ _ h => h) _ _ hq; clear hq
            go_wp2_with fail
            go_ret
            exact ⟨rfl, bel_trans HB6.out hb7⟩

      · have he : bef (f + l - 1) (w % 7) = x0 + 28 := by have := HX3.out; have := HJ.out; unfold bef; omega
        rw [he] at hlast hto
        have HL5 := Lib.hid hlast
        have HM5 := Lib.hid hto
        clear hlast hto he
        obtain ⟨g, cap, rfl, hwk⟩ := wk_of HOW.out (by omega)
        have HWq : Hid (Wk g 5 x0 wr) := hwk
        clear hwk HOW
        go_wp2_with fail
        go_loopw [15] (fun i wz => ∃ (k : Int) (wq : World), 0 ≤ k ∧ k ≤ 4 ∧ i = .int .i64 k ∧ wz = wq ∧ Hid (Below W.heap.size W wq) ∧ Hid (Wk g 5 x0 wq)) (fun i _ => (4 - intOf i).toNat)
        case atStart => exact ⟨0, _, by omega, by omega, rfl, rfl, HBq, HWq⟩
        case round =>
          clear HBq HWq
          obtain ⟨k, wq, hk1, hk2, rfl, rfl, HBr, HWr⟩ := hrel
          have hkc : k = 0 ∨ k = 1 ∨ k = 2 ∨ k = 3 ∨ k = 4 := by omega
          clear hk1 hk2
          rcases hkc with rfl | rfl | rfl | rfl | rfl
          · go_wp2_with fail
            refine (from_any (w % 7) 1 _).mono ?_
            intro e w3 hq; obtain ⟨rfl, hb3⟩ := mk_bel _ _ hq; clear hq
            have HB3 : Hid (Below W.heap.size W w3) := bel_trans HBr.out hb3
            have HW3 : Hid (Wk g 5 x0 w3) := HWr.out.below hb3
            clear hb3
            go_wp2_with fail
            refine (on_any z (1 + m % 12) 3 (w % 7) 1 _ (by exact Tabs.below (by exact HT.out) HB3.out) (by omega) (by omega)).mono ?_
            intro e w4 hq; obtain ⟨rfl, hb4⟩ := OnR.to HON0.out _ _ hq; clear hq
            have HB4 : Hid (Below W.heap.size W w4) := bel_trans HB3.out hb4
            have HW4 : Hid (Wk g 5 x0 w4) := HW3.out.below hb4
            have hcell : w4.cell? ⟨g, 0, none⟩ = some (.int .i64 (x0 + 0)) := HW4.out 0 (by omega)
            clear hb4
            go_wp2_with fail
            go_round
            case rel => exact ⟨1, _, by omega, by omega, rfl, rfl, HB4, HW4⟩
            case measure => simp [intOf]
          · go_wp2_with fail
            refine (from_any (w % 7) 8 _).mono ?_
            intro e w3 hq; obtain ⟨rfl, hb3⟩ := mk_bel _ _ hq; clear hq
            have HB3 : Hid (Below W.heap.size W w3) := bel_trans HBr.out hb3
            have HW3 : Hid (Wk g 5 x0 w3) := HWr.out.below hb3
            clear hb3
            go_wp2_with fail
            refine (on_any z (1 + m % 12) 3 (w % 7) 8 _ (by exact Tabs.below (by exact HT.out) HB3.out) (by omega) (by omega)).mono ?_
            intro e w4 hq; obtain ⟨rfl, hb4⟩ := OnR.to HON1.out _ _ hq; clear hq
            have HB4 : Hid (Below W.heap.size W w4) := bel_trans HB3.out hb4
            have HW4 : Hid (Wk g 5 x0 w4) := HW3.out.below hb4
            have hcell : w4.cell? ⟨g, 1, none⟩ = some (.int .i64 (x0 + 7)) := HW4.out 1 (by omega)
            clear hb4
            go_wp2_with fail
            go_round
            case rel => exact ⟨2, _, by omega, by omega, rfl, rfl, HB4, HW4⟩
            case measure => simp [intOf]
          · go_wp2_with fail
            refine (from_any (w % 7) 15 _).mono ?_
            intro e w3 hq; obtain ⟨rfl, hb3⟩ := mk_bel _ _ hq; clear hq
            have HB3 : Hid (Below W.heap.size W w3) := bel_trans HBr.out hb3
            have HW3 : Hid (Wk g 5 x0 w3) := HWr.out.below hb3
            clear hb3
            go_wp2_with fail
            refine (on_any z (1 + m % 12) 3 (w % 7) 15 _ (by exact Tabs.below (by exact HT.out) HB3.out) (by omega) (by omega)).mono ?_
            intro e w4 hq; obtain ⟨rfl, hb4⟩ := OnR.to HON2.out _ _ hq; clear hq
            have HB4 : Hid (Below W.heap.size W w4) := bel_trans HB3.out hb4
            have HW4 : Hid (Wk g 5 x0 w4) := HW3.out.below hb4
            have hcell : w4.cell? ⟨g, 2, none⟩ = some (.int .i64 (x0 + 14)) := HW4.out 2 (by omega)
            clear hb4
            go_wp2_with fail
            go_round
            case rel => exact ⟨3, _, by omega, by omega, rfl, rfl, HB4, HW4⟩
            case measure => simp [intOf]
          · go_wp2_with fail
            refine (from_any (w % 7) 22 _).mono ?_
            intro e w3 hq; obtain ⟨rfl, hb3⟩ := mk_bel _ _ hq; clear hq
            have HB3 : Hid (Below W.heap.size W w3) := bel_trans HBr.out hb3
            have HW3 : Hid (Wk g 5 x0 w3) := HWr.out.below hb3
            clear hb3
            go_wp2_with fail
            refine (on_any z (1 + m % 12) 3 (w % 7) 22 _ (by exact Tabs.below (by exact HT.out) HB3.out) (by omega) (by omega)).mono ?_
            intro e w4 hq; obtain ⟨rfl, hb4⟩ := OnR.to HON3.out _ _ hq; clear hq
            have HB4 : Hid (Below W.heap.size W w4) := bel_trans HB3.out hb4
            have HW4 : Hid (Wk g 5 x0 w4) := HW3.out.below hb4
            have hcell : w4.cell? ⟨g, 3, none⟩ = some (.int .i64 (x0 + 21)) := HW4.out 3 (by omega)
            clear hb4
            go_wp2_with fail
            go_round
            case rel => exact ⟨4, _, by omega, by omega, rfl, rfl, HB4, HW4⟩
            case measure => simp [intOf]
          · go_wp2_with fail
            refine (last_any (w % 7) _).mono ?_
            intro e w3 hq; obtain ⟨rfl, hb3⟩ := mk_bel _ _ hq; clear hq
            have HB3 : Hid (Below W.heap.size W w3) := bel_trans HBr.out hb3
            have HW3 : Hid (Wk g 5 x0 w3) := HWr.out.below hb3
            clear hb3
            go_wp2_with fail
            refine (on_any z (1 + m % 12) 2 (w % 7) 0 _ (by exact Tabs.below (by exact HT.out) HB3.out) (by omega) (by omega)).mono ?_
            intro e w4 hq; obtain ⟨rfl, hb4⟩ := OnR.to HL5.out _ _ hq; clear hq
            have HB4 : Hid (Below W.heap.size W w4) := bel_trans HB3.out hb4
            have HW4 : Hid (Wk g 5 x0 w4) := HW3.out.below hb4
            clear hb4
            go_wp2_with fail
            refine (to_any (w % 7) l _).mono ?_
            intro e w5 hq; obtain ⟨rfl, hb5⟩ := mk_bel _ _ hq; clear hq
            have HB5 : Hid (Below W.heap.size W w5) := bel_trans HB4.out hb5
            have HW5 : Hid (Wk g 5 x0 w5) := HW4.out.below hb5
            clear hb5
            go_wp2_with fail
            refine (on_any z (1 + m % 12) 4 (w % 7) l _ (by exact Tabs.below (by exact HT.out) HB5.out) (by omega) (by omega)).mono ?_
            intro e w6 hq; obtain ⟨rfl, hb6⟩ := OnR.to HM5.out _ _ hq; clear hq
            have HB6 : Hid (Below W.heap.size W w6) := bel_trans HB5.out hb6
            have HW6 : Hid (Wk g 5 x0 w6) := HW5.out.below hb6
            have hcell : w6.cell? ⟨g, 4, none⟩ = some (.int .i64 (x0 + 28)) := HW6.out 4 (by omega)
            clear hb6
            go_wp2_with fail
            refine (works_any _ (by exact Tabs.below (by exact HT.out) HB6.out)).mono ?_
            intro e w7 hq; obtain ⟨rfl, hb7⟩ := (fun _ _ h => h) _ _ hq; clear hq
            go_wp2_with fail
            go_ret
            exact ⟨rfl, bel_trans HB6.out hb7⟩

theorem dayformWeeks.dayformWeeks_walk (W : World) (hL : laidMetH Tryd.prog Rows.dayformWeeksRow.laid W) (w : Int) (ww : (Lit.int .u8 w).wf = true) (y : Int) (wy : (Lit.int .i32 y).wf = true) (m : Int) (wm : (Lit.int .u8 m).wf = true) :
    Calls Tryd.prog 7 #[.int .u8 w, .int .i32 y, .int .u8 m] W fun e w' => e = .returned (.bool true) ∧ Below W.heap.size W w' :=
  weeks_core W (tabs_of hL) w ww y wy m wm
end Go.Proofs.YtieoogllghmeeaaDoor
