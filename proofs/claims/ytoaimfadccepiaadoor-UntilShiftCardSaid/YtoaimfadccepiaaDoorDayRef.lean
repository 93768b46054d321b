/-
  The contracts of the reference of chapter 2 (package analemmaref02): they come to the same as package dayform's.
-/
import Derived.Test.YtoaimfadccepiaaDoorDayAlw
import Derived.Test.YtoaimfadccepiaaDoorCivRef
namespace Go.Proofs.YtoaimfadccepiaaDoor
open Go.RowKit Cv
set_option linter.unusedVariables false
set_option linter.unusedSimpArgs false

set_option maxHeartbeats 400000 in
theorem refIn2_any (n a b : Int) (W : World) : Calls Tryd.prog 39 #[.int .i64 n, .int .i64 a, .int .i64 b] W (Yes (a ≤ n ∧ n ≤ b) W) := by
  go_enter Tryd.func39, Tryd.ntmps39
  go_wp2
  all_goals (go_ret; refine Yes.of ?_; simp_all <;> omega)

namespace Cv
theorem Yes.dec {p : Prop} [Decidable p] {w : World} : ∀ e w', Yes p w e w' → e = .returned (.bool (decide p)) ∧ w = w' := by
  rintro e w' ⟨rfl, ⟨hp, rfl⟩ | ⟨hp, rfl⟩⟩ <;> simp [hp]
end Cv

set_option maxRecDepth 100000 in
set_option maxHeartbeats 1000000 in
theorem refCheck_any (k w d : Int) (W : World) : Calls Tryd.prog 40 #[form k w d] W (CheckR (good k w d) W) := by
  obtain ⟨p, hp⟩ : ∃ p, p = decide (0 ≤ w ∧ w ≤ 6) := ⟨_, rfl⟩
  obtain ⟨q, hq⟩ : ∃ q, q = decide (1 ≤ d ∧ d ≤ 31) := ⟨_, rfl⟩
  have HP := Lib.hid hp; have HQ := Lib.hid hq
  clear hp hq
  unfold form
  go_enter Tryd.func40, Tryd.ntmps40
  have hin : ∀ (n a b : Int) (V : World), Calls Tryd.prog 39 #[.int .i64 n, .int .i64 a, .int .i64 b] V fun e w' => e = .returned (.bool (decide (a ≤ n ∧ n ≤ b))) ∧ w' = V := fun n a b V =>
    (refIn2_any n a b V).mono fun e w' h => by obtain ⟨x, y⟩ := Yes.dec e w' h; exact ⟨x, y.symm⟩
  have HIN := Lib.hid hin
  clear hin
  go_wp2_with fail
  go_quiet ((go_at_call 39; exact Calls.quiet_of_same (HIN.out _ _ _ _)))
  go_wp2
  all_goals
    go_ret
    first
    | exact CheckR.no (bel_drew (bel_alloc _ _) _) (by unfold good; simp_all <;> omega)
    | exact CheckR.yes (bel_drew (bel_alloc _ _) _) (by unfold good; simp_all <;> omega)

set_option maxRecDepth 100000 in
set_option maxHeartbeats 2000000 in
theorem refOn_any (y m k w d : Int) (W : World) (hy1 : -9223372036854775808 ≤ y) (hy2 : y ≤ 9223372036854775807) :
    Calls Tryd.prog 23 #[.int .i64 y, .int .i64 m, form k w d] W (OnR y m k w d W) := by
  by_cases h : inr y ∧ ok y m 1
  · have HI := Lib.hid h
    rw [ok_first] at h
    obtain ⟨⟨hi1, hi2⟩, hm1, hm2⟩ := h
    obtain ⟨hf1, hf2⟩ := num_far HI.out.1 HI.out.2
    obtain ⟨hl1, hl2⟩ := len_bd y m
    obtain ⟨f, hf⟩ : ∃ f, f = num y m 1 := ⟨_, rfl⟩
    obtain ⟨l, hl⟩ : ∃ l, l = len y m := ⟨_, rfl⟩
    rw [← hf] at hf1 hf2
    rw [← hl] at hl1 hl2
    have HF := Lib.hid hf.symm
    have HL := Lib.hid hl.symm
    have HIN := Lib.hid (show 1 ≤ m ∧ m ≤ 12 from ⟨hm1, hm2⟩)
    have hln : ∀ V : World, Calls Tryd.prog 41 #[.int .i64 y, .int .i64 m] V fun e w' => e = .returned (.int .i64 l) ∧ w' = V := fun V =>
      (refLen_any y m V hy1 hy2).mono fun e w' h => by obtain ⟨x, z⟩ := len_to HL.out e w' h; exact ⟨x, z.symm⟩
    have HLN := Lib.hid hln
    have hwk : ∀ (V : World) (x u : Int), (x + 4) % 7 = u → -9223372036854775808 ≤ x → x ≤ 9223372036854775807 → Calls Tryd.prog 43 #[.int .i64 x] V fun e w' => e = .returned (.int .i64 u) ∧ w' = V := fun V x u hu h1 h2 =>
      (refWeekday_any x V h1 h2).mono fun e w' h => by obtain ⟨x, z⟩ := wday_ref hu e w' h; exact ⟨x, z.symm⟩
    have HWK := Lib.hid hwk
    clear hf hl hln hwk
    by_cases hg : good k w d
    · have HG := Lib.hid hg
      have hgd : 0 ≤ d ∧ d ≤ 31 := by unfold good at hg; omega
      obtain ⟨hd1, hd2⟩ := hgd
      by_cases hc : l < d
      · have HO := Lib.hid (on_none (k := k) (w := w) HI.out hg (by rw [HL.out]; exact hc))
        clear hg
        unfold form
        go_enter Tryd.func23, Tryd.ntmps23
        go_wp2_with fail
        refine (refIn2_any _ _ _ _).mono ?_
        intro e w' hq; obtain ⟨rfl, rfl⟩ := Yes.to_yes HIN.out _ _ hq; clear hq
        go_wp2_with fail
        refine (refCheck_any k w d _).mono ?_
        intro e w1 hq; obtain ⟨rfl, hb1⟩ := CheckR.to_yes HG.out _ _ hq; clear hq
        have fc : FC W.heap.size k w d w1 := (FC.new W k w d 23).below hb1
        obtain ⟨f0, f1, f2⟩ := fc
        go_wp2_with fail
        go_quiet ((go_at_call 41; exact Calls.quiet_of_same (HLN.out _)))
        go_wp2_with fail
        go_ret2
        exact OnR.of HO.out (bel_drew (bel_trans (bel_alloc _ _) hb1) _)
      · have HO := Lib.hid (on_day (k := k) (w := w) HI.out hg (by rw [HL.out]; omega))
        rw [HL.out, HF.out] at HO
        have hgc := hg
        have hcl : d ≤ l := by omega
        clear hg hc
        rcases hgc with ⟨rfl, rfl, h1, h2⟩ | ⟨rfl, h1, h2, rfl⟩ | ⟨rfl | rfl, h1, h2, h3, h4⟩
        · unfold form
          go_enter Tryd.func23, Tryd.ntmps23
          go_wp2_with fail
          refine (refIn2_any _ _ _ _).mono ?_
          intro e w' hq; obtain ⟨rfl, rfl⟩ := Yes.to_yes HIN.out _ _ hq; clear hq
          go_wp2_with fail
          refine (refCheck_any 1 0 d _).mono ?_
          intro e w1 hq; obtain ⟨rfl, hb1⟩ := CheckR.to_yes HG.out _ _ hq; clear hq
          have fc : FC W.heap.size 1 0 d w1 := (FC.new W 1 0 d 23).below hb1
          obtain ⟨f0, f1, f2⟩ := fc
          go_wp2_with fail
          go_quiet ((go_at_call 41; exact Calls.quiet_of_same (HLN.out _)))
          go_wp2_with fail
          refine (refDays_any y m 1 _ hy1 hy2 (by decide) (by decide)).mono ?_
          intro e w' hq; obtain ⟨rfl, rfl⟩ := DaysF.to_yes (v := f) HI.out HF.out _ _ hq; clear hq
          go_wp2_with fail
          go_ret2
          exact OnR.of HO.out (bel_drew (bel_trans (bel_alloc _ _) hb1) _)
        · unfold form
          go_enter Tryd.func23, Tryd.ntmps23
          go_wp2_with fail
          refine (refIn2_any _ _ _ _).mono ?_
          intro e w' hq; obtain ⟨rfl, rfl⟩ := Yes.to_yes HIN.out _ _ hq; clear hq
          go_wp2_with fail
          refine (refCheck_any 2 w 0 _).mono ?_
          intro e w1 hq; obtain ⟨rfl, hb1⟩ := CheckR.to_yes HG.out _ _ hq; clear hq
          have fc : FC W.heap.size 2 w 0 w1 := (FC.new W 2 w 0 23).below hb1
          obtain ⟨f0, f1, f2⟩ := fc
          go_wp2_with fail
          go_quiet ((go_at_call 41; exact Calls.quiet_of_same (HLN.out _)))
          go_wp2_with fail
          refine (refDays_any y m 1 _ hy1 hy2 (by decide) (by decide)).mono ?_
          intro e w' hq; obtain ⟨rfl, rfl⟩ := DaysF.to_yes (v := f) HI.out HF.out _ _ hq; clear hq
          go_wp2_with fail
          go_wp2_with fail
          refine (refLen_any y m _ hy1 hy2).mono ?_
          intro e w' hq; obtain ⟨rfl, rfl⟩ := len_to (v := l) HL.out _ _ hq; clear hq
          go_wp2_with fail
          go_loopw [11] (fun s wr => ∃ (v : Int) (nn : Nat), bef (f + l - 1) w ≤ v ∧ v ≤ f + l - 1 ∧ s = .int .i64 v ∧ wr = w1.drewN nn) (fun s _ => (intOf s - bef (f + l - 1) w).toNat)
          case atStart => exact ⟨f + l - 1, _, by first | omega | (simp only [bef, beh]; omega), by first | omega | (simp only [bef, beh]; omega), rfl, rfl⟩
          case round =>
            obtain ⟨v, nn, hv1, hv2, rfl, rfl⟩ := hrel
            have hvb : -810000000000 ≤ v ∧ v ≤ 810000000000 := by simp only [bef, beh] at hv1 hv2; omega
            obtain ⟨hvb1, hvb2⟩ := hvb
            obtain ⟨u, hu⟩ : ∃ u, u = (v + 4) % 7 := ⟨_, rfl⟩
            have HU := Lib.hid hu.symm
            by_cases hw : u = w
            · have HV := Lib.hid (show v = bef (f + l - 1) w by simp only [bef, beh] at hv1 hv2 ⊢; omega)
              subst hw
              clear hu hv1 hv2
              go_wp2_with fail
              go_quiet ((go_at_call 43; first | exact Calls.quiet_of_same (HWK.out _ _ _ HU.out (by omega) (by omega)) | exact quiet_more (HWK.out _ _ _ HU.out (by omega) (by omega))))
              go_wp2_with fail
              go_ret2
              rw [HV.out]
              exact OnR.of HO.out (bel_drew (bel_drew (bel_trans (bel_alloc _ _) hb1) _) _)
            · have HR := Lib.hid (show bef (f + l - 1) w ≤ v - 1 ∧ v - 1 ≤ f + l - 1 by simp only [bef, beh] at hv1 hv2 ⊢; omega)
              have HM := Lib.hid (show bef (f + l - 1) w < v by simp only [bef, beh] at hv1 hv2 ⊢; omega)
              have hne : (u != w) = true := by simp [hw]
              clear hu hv1 hv2 hw
              go_wp2_with fail
              go_quiet ((go_at_call 43; first | exact Calls.quiet_of_same (HWK.out _ _ _ HU.out (by omega) (by omega)) | exact quiet_more (HWK.out _ _ _ HU.out (by omega) (by omega))))
              go_wp2_with fail
              go_round
              case rel => exact ⟨v - 1, _, HR.out.1, HR.out.2, rfl, rfl⟩
              case measure => have := HM.out; simp [intOf]; omega
        · unfold form
          go_enter Tryd.func23, Tryd.ntmps23
          go_wp2_with fail
          refine (refIn2_any _ _ _ _).mono ?_
          intro e w' hq; obtain ⟨rfl, rfl⟩ := Yes.to_yes HIN.out _ _ hq; clear hq
          go_wp2_with fail
          refine (refCheck_any 3 w d _).mono ?_
          intro e w1 hq; obtain ⟨rfl, hb1⟩ := CheckR.to_yes HG.out _ _ hq; clear hq
          have fc : FC W.heap.size 3 w d w1 := (FC.new W 3 w d 23).below hb1
          obtain ⟨f0, f1, f2⟩ := fc
          go_wp2_with fail
          go_quiet ((go_at_call 41; exact Calls.quiet_of_same (HLN.out _)))
          go_wp2_with fail
          refine (refDays_any y m 1 _ hy1 hy2 (by decide) (by decide)).mono ?_
          intro e w' hq; obtain ⟨rfl, rfl⟩ := DaysF.to_yes (v := f) HI.out HF.out _ _ hq; clear hq
          go_wp2_with fail
          go_loopw [10] (fun s wr => ∃ (v : Int) (nn : Nat), f + d - 1 ≤ v ∧ v ≤ beh (f + d - 1) w ∧ s = .int .i64 v ∧ wr = w1.drewN nn) (fun s _ => (beh (f + d - 1) w - intOf s).toNat)
          case atStart => exact ⟨f + d - 1, _, by first | omega | (simp only [bef, beh]; omega), by first | omega | (simp only [bef, beh]; omega), rfl, rfl⟩
          case round =>
            obtain ⟨v, nn, hv1, hv2, rfl, rfl⟩ := hrel
            have hvb : -810000000000 ≤ v ∧ v ≤ 810000000000 := by simp only [bef, beh] at hv1 hv2; omega
            obtain ⟨hvb1, hvb2⟩ := hvb
            obtain ⟨u, hu⟩ : ∃ u, u = (v + 4) % 7 := ⟨_, rfl⟩
            have HU := Lib.hid hu.symm
            by_cases hw : u = w
            · have HV := Lib.hid (show v = beh (f + d - 1) w by simp only [bef, beh] at hv1 hv2 ⊢; omega)
              subst hw
              clear hu hv1 hv2
              go_wp2_with fail
              go_quiet ((go_at_call 43; first | exact Calls.quiet_of_same (HWK.out _ _ _ HU.out (by omega) (by omega)) | exact quiet_more (HWK.out _ _ _ HU.out (by omega) (by omega))))
              go_wp2_with fail
              go_ret2
              rw [HV.out]
              exact OnR.of HO.out (bel_drew (bel_drew (bel_trans (bel_alloc _ _) hb1) _) _)
            · have HR := Lib.hid (show f + d - 1 ≤ v + 1 ∧ v + 1 ≤ beh (f + d - 1) w by simp only [bef, beh] at hv1 hv2 ⊢; omega)
              have HM := Lib.hid (show v < beh (f + d - 1) w by simp only [bef, beh] at hv1 hv2 ⊢; omega)
              have hne : (u != w) = true := by simp [hw]
              clear hu hv1 hv2 hw
              go_wp2_with fail
              go_quiet ((go_at_call 43; first | exact Calls.quiet_of_same (HWK.out _ _ _ HU.out (by omega) (by omega)) | exact quiet_more (HWK.out _ _ _ HU.out (by omega) (by omega))))
              go_wp2_with fail
              go_round
              case rel => exact ⟨v + 1, _, HR.out.1, HR.out.2, rfl, rfl⟩
              case measure => have := HM.out; simp [intOf]; omega
        · unfold form
          go_enter Tryd.func23, Tryd.ntmps23
          go_wp2_with fail
          refine (refIn2_any _ _ _ _).mono ?_
          intro e w' hq; obtain ⟨rfl, rfl⟩ := Yes.to_yes HIN.out _ _ hq; clear hq
          go_wp2_with fail
          refine (refCheck_any 4 w d _).mono ?_
          intro e w1 hq; obtain ⟨rfl, hb1⟩ := CheckR.to_yes HG.out _ _ hq; clear hq
          have fc : FC W.heap.size 4 w d w1 := (FC.new W 4 w d 23).below hb1
          obtain ⟨f0, f1, f2⟩ := fc
          go_wp2_with fail
          go_quiet ((go_at_call 41; exact Calls.quiet_of_same (HLN.out _)))
          go_wp2_with fail
          refine (refDays_any y m 1 _ hy1 hy2 (by decide) (by decide)).mono ?_
          intro e w' hq; obtain ⟨rfl, rfl⟩ := DaysF.to_yes (v := f) HI.out HF.out _ _ hq; clear hq
          go_wp2_with fail
          go_loopw [11] (fun s wr => ∃ (v : Int) (nn : Nat), bef (f + d - 1) w ≤ v ∧ v ≤ f + d - 1 ∧ s = .int .i64 v ∧ wr = w1.drewN nn) (fun s _ => (intOf s - bef (f + d - 1) w).toNat)
          case atStart => exact ⟨f + d - 1, _, by first | omega | (simp only [bef, beh]; omega), by first | omega | (simp only [bef, beh]; omega), rfl, rfl⟩
          case round =>
            obtain ⟨v, nn, hv1, hv2, rfl, rfl⟩ := hrel
            have hvb : -810000000000 ≤ v ∧ v ≤ 810000000000 := by simp only [bef, beh] at hv1 hv2; omega
            obtain ⟨hvb1, hvb2⟩ := hvb
            obtain ⟨u, hu⟩ : ∃ u, u = (v + 4) % 7 := ⟨_, rfl⟩
            have HU := Lib.hid hu.symm
            by_cases hw : u = w
            · have HV := Lib.hid (show v = bef (f + d - 1) w by simp only [bef, beh] at hv1 hv2 ⊢; omega)
              subst hw
              clear hu hv1 hv2
              go_wp2_with fail
              go_quiet ((go_at_call 43; first | exact Calls.quiet_of_same (HWK.out _ _ _ HU.out (by omega) (by omega)) | exact quiet_more (HWK.out _ _ _ HU.out (by omega) (by omega))))
              go_wp2_with fail
              go_ret2
              rw [HV.out]
              exact OnR.of HO.out (bel_drew (bel_drew (bel_trans (bel_alloc _ _) hb1) _) _)
            · have HR := Lib.hid (show bef (f + d - 1) w ≤ v - 1 ∧ v - 1 ≤ f + d - 1 by simp only [bef, beh] at hv1 hv2 ⊢; omega)
              have HM := Lib.hid (show bef (f + d - 1) w < v by simp only [bef, beh] at hv1 hv2 ⊢; omega)
              have hne : (u != w) = true := by simp [hw]
              clear hu hv1 hv2 hw
              go_wp2_with fail
              go_quiet ((go_at_call 43; first | exact Calls.quiet_of_same (HWK.out _ _ _ HU.out (by omega) (by omega)) | exact quiet_more (HWK.out _ _ _ HU.out (by omega) (by omega))))
              go_wp2_with fail
              go_round
              case rel => exact ⟨v - 1, _, HR.out.1, HR.out.2, rfl, rfl⟩
              case measure => have := HM.out; simp [intOf]; omega
    · have HG := Lib.hid hg
      have HO := Lib.hid (on_form HI.out hg)
      clear hg
      unfold form
      go_enter Tryd.func23, Tryd.ntmps23
      go_wp2_with fail
      refine (refIn2_any _ _ _ _).mono ?_
      intro e w' hq; obtain ⟨rfl, rfl⟩ := Yes.to_yes HIN.out _ _ hq; clear hq
      go_wp2_with fail
      refine (refCheck_any k w d _).mono ?_
      intro e w1 hq; obtain ⟨rfl, hb1⟩ := CheckR.to_no HG.out _ _ hq; clear hq
      go_wp2_with fail
      go_ret2
      exact OnR.of HO.out (bel_trans (bel_alloc _ _) hb1)
  · have HN := Lib.hid (on_bad (k := k) (w := w) (d := d) h)
    rw [ok_first] at h
    unfold inr at h
    unfold form
    go_enter Tryd.func23, Tryd.ntmps23
    go_wp2_with fail
    refine (refIn2_any _ _ _ _).mono ?_
    rintro e w' ⟨rfl, ⟨h1, rfl⟩ | ⟨h1, rfl⟩⟩
    all_goals
      go_wp2_with fail
    all_goals
      first
      | (go_ret2; exact OnR.of HN.out (bel_alloc _ _))
      | (exfalso; simp_all; omega)

end Go.Proofs.YtoaimfadccepiaaDoor
