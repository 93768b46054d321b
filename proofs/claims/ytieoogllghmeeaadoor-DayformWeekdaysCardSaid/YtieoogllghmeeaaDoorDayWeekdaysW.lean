/-
  The walk of the law DayformWeekdays.
-/
import Derived.Test.YtieoogllghmeeaaDoorDayLaw
import Derived.Deep.RegionHeld3
namespace Go.Proofs.YtieoogllghmeeaaDoor
open Go.RowKit Cv
set_option linter.unusedVariables false
set_option linter.unusedSimpArgs false

set_option maxRecDepth 100000 in
set_option maxHeartbeats 4000000 in
theorem weekdays_core (W : World) (hT : Tabs W) (k w n : Int) (wk : (Lit.int .u8 k).wf = true) (ww : (Lit.int .u8 w).wf = true) (wn : (Lit.int .u8 n).wf = true) (y : Int) (wy : (Lit.int .i32 y).wf = true) (m : Int) (wm : (Lit.int .u8 m).wf = true) :
    Calls Tryd.prog 5 #[.agg #[.int .u8 k, .int .u8 w, .int .u8 n], .int .i32 y, .int .u8 m] W fun e w' => e = .returned (.bool true) ∧ Below W.heap.size W w' := by
  have HT := Lib.hid hT
  obtain ⟨hm1, hm2⟩ := byte_of wm
  clear hT wm
  have hmm : 0 ≤ m % 12 ∧ m % 12 < 12 := by omega
  obtain ⟨hmm1, hmm2⟩ := hmm
  go_enter Tryd.func5, Tryd.ntmps5
  go_wp2_with fail
  refine (made_any k w n _ wk ww wn).mono ?_
  rintro e w1 ⟨fk, fw, fd, hg, rfl, hb1⟩
  have HT1 : Hid (Tabs w1) := (HT.out.alloc _).below hb1
  have HB1 : Hid (Below W.heap.size W w1) := bel_trans (bel_alloc _ _) hb1
  clear hb1
  go_wp2_with fail
  refine (lawYear_any y _ wy).mono ?_
  rintro e w' ⟨⟨z, hz, rfl⟩, rfl⟩
  have hzb := hz.out
  obtain ⟨hz1, hz2⟩ := hzb
  have HI := Lib.hid (show inr z ∧ ok z (1 + m % 12) 1 from ⟨hz.out, (ok_first _ _).2 (by omega)⟩)
  obtain ⟨hl1, hl2⟩ := len_bd z (1 + m % 12)
  have hl3 := len_in z (1 + m % 12) (by omega) (by omega)
  obtain ⟨hfb1, hfb2⟩ := num_far HI.out.1 HI.out.2
  obtain ⟨f, hf⟩ : ∃ f, f = num z (1 + m % 12) 1 := ⟨_, rfl⟩
  obtain ⟨l, hl⟩ : ∃ l, l = len z (1 + m % 12) := ⟨_, rfl⟩
  rw [← hf] at hfb1 hfb2
  rw [← hl] at hl1 hl2 hl3
  have HF := Lib.hid hf.symm
  have HL := Lib.hid hl.symm
  have hgd : 0 ≤ fd ∧ fd ≤ 31 := by have := hg.out; unfold good at this; omega
  obtain ⟨hd1, hd2⟩ := hgd
  clear hf hl
  by_cases hc : l < fd
  · have HO := Lib.hid (on_none (k := fk) (w := fw) HI.out hg.out (by rw [HL.out]; exact hc))
    go_wp2_with fail
    refine (on_any z (1 + m % 12) fk fw fd _ (by exact HT1.out.alloc _) (by omega) (by omega)).mono ?_
    intro e w2 hq; obtain ⟨rfl, hb2⟩ := OnR.to HO.out _ _ hq; clear hq
    have HT2 : Hid (Tabs w2) := (HT1.out.alloc (.cells #[.int .i64 fk, .int .i64 fw, .int .i64 fd] 23)).below hb2
    have fc2 : FC w1.heap.size fk fw fd w2 := (FC.new w1 fk fw fd 23).below hb2
    have HB2 : Hid (Below W.heap.size W w2) := bel_trans (bel_trans HB1.out (bel_alloc _ _)) hb2
    have FC2 := Lib.hid fc2
    obtain ⟨g0, g1, g2⟩ := fc2
    clear hb2
    go_wp2_with fail
    refine (days_any z (1 + m % 12) 1 _ (by exact HT2.out.1) (by omega) (by omega) (by decide) (by decide)).mono ?_
    intro e w' hq; obtain ⟨rfl, nd, rfl⟩ := DaysR.to_yes (v := f) HI.out HF.out _ _ hq; clear hq
    go_wp2_with fail
    refine (len_any z (1 + m % 12) _ (by omega) (by omega)).mono ?_
    intro e w' hq; obtain ⟨rfl, rfl⟩ := len_to (v := l) HL.out _ _ hq; clear hq
    go_wp2_with fail
    refine (check_any fk fw fd _ (by exact HT2.out.2)).mono ?_
    intro e w3 hq; obtain ⟨rfl, hb3⟩ := CheckR.to_yes hg.out _ _ hq; clear hq
    have HT3 : Hid (Tabs w3) := (HT2.out.drewN nd).below hb3
    have fc3 : FC w1.heap.size fk fw fd w3 := (FC2.out.drewN nd).below hb3
    have HB3 : Hid (Below W.heap.size W w3) := bel_trans (bel_drew HB2.out nd) hb3
    obtain ⟨f0, f1, f2⟩ := fc3
    clear hb3 g0 g1 g2
    go_wp2_with fail
    refine (works_any _ (by exact HT3.out)).mono ?_
    intro e w4 hq; obtain ⟨rfl, hb4⟩ := (fun _ _ h => h) _ _ hq; clear hq
    go_wp2_with fail
    go_ret
    exact ⟨rfl, bel_trans HB3.out hb4⟩
  · have HO := Lib.hid (on_day (k := fk) (w := fw) HI.out hg.out (by rw [HL.out]; omega))
    rw [HF.out, HL.out] at HO
    have hgc := hg.out
    rcases hgc with ⟨rfl, rfl, h1, h2⟩ | ⟨rfl, h1, h2, rfl⟩ | ⟨rfl | rfl, h1, h2, h3, h4⟩
    · rw [show find f (f + l - 1) 1 0 fd = f + fd - 1 from rfl] at HO
      go_wp2_with fail
      refine (on_any z (1 + m % 12) 1 0 fd _ (by exact HT1.out.alloc _) (by omega) (by omega)).mono ?_
      intro e w2 hq; obtain ⟨rfl, hb2⟩ := OnR.to HO.out _ _ hq; clear hq
      have HT2 : Hid (Tabs w2) := (HT1.out.alloc (.cells #[.int .i64 1, .int .i64 0, .int .i64 fd] 23)).below hb2
      have fc2 : FC w1.heap.size 1 0 fd w2 := (FC.new w1 1 0 fd 23).below hb2
      have HB2 : Hid (Below W.heap.size W w2) := bel_trans (bel_trans HB1.out (bel_alloc _ _)) hb2
      have FC2 := Lib.hid fc2
      obtain ⟨g0, g1, g2⟩ := fc2
      clear hb2
      go_wp2_with fail
      refine (days_any z (1 + m % 12) 1 _ (by exact HT2.out.1) (by omega) (by omega) (by decide) (by decide)).mono ?_
      intro e w' hq; obtain ⟨rfl, nd, rfl⟩ := DaysR.to_yes (v := f) HI.out HF.out _ _ hq; clear hq
      go_wp2_with fail
      refine (len_any z (1 + m % 12) _ (by omega) (by omega)).mono ?_
      intro e w' hq; obtain ⟨rfl, rfl⟩ := len_to (v := l) HL.out _ _ hq; clear hq
      go_wp2_with fail
      refine (check_any 1 0 fd _ (by exact HT2.out.2)).mono ?_
      intro e w3 hq; obtain ⟨rfl, hb3⟩ := CheckR.to_yes hg.out _ _ hq; clear hq
      have HT3 : Hid (Tabs w3) := (HT2.out.drewN nd).below hb3
      have fc3 : FC w1.heap.size 1 0 fd w3 := (FC2.out.drewN nd).below hb3
      have HB3 : Hid (Below W.heap.size W w3) := bel_trans (bel_drew HB2.out nd) hb3
      have FC3 := Lib.hid fc3
      obtain ⟨f0, f1, f2⟩ := fc3
      clear hb3 g0 g1 g2
      go_wp2_with fail
      refine (works_any _ (by exact HT3.out)).mono ?_
      intro e w4 hq; obtain ⟨rfl, hb4⟩ := (fun _ _ h => h) _ _ hq; clear hq
      go_wp2_with fail
      go_ret
      exact ⟨rfl, bel_trans HB3.out hb4⟩
    · obtain ⟨x, hx⟩ : ∃ x, x = find f (f + l - 1) 2 fw 0 := ⟨_, rfl⟩
      rw [← hx] at HO
      have hxf : x ≤ f + l - 1 ∧ f + l - 1 - 7 < x ∧ (x + 4) % 7 = fw := by
        rw [hx, show find f (f + l - 1) 2 fw 0 = bef (f + l - 1) fw from rfl]; unfold bef; omega
      obtain ⟨hx1, hx2, hx3⟩ := hxf
      have HWD : Hid (∀ V : World, Calls Tryd.prog 20 #[.int .i64 x] V fun e w' => e = .returned (.int .i64 fw) ∧ ∃ n, w' = V.drewN n) := fun V =>
        (weekday_any x V (by omega) (by omega)).mono (wday_to hx3)
      have HX1 := Lib.hid hx1
      clear hx hx3
      go_wp2_with fail
      refine (on_any z (1 + m % 12) 2 fw 0 _ (by exact HT1.out.alloc _) (by omega) (by omega)).mono ?_
      intro e w2 hq; obtain ⟨rfl, hb2⟩ := OnR.to HO.out _ _ hq; clear hq
      have HT2 : Hid (Tabs w2) := (HT1.out.alloc (.cells #[.int .i64 2, .int .i64 fw, .int .i64 0] 23)).below hb2
      have fc2 : FC w1.heap.size 2 fw 0 w2 := (FC.new w1 2 fw 0 23).below hb2
      have HB2 : Hid (Below W.heap.size W w2) := bel_trans (bel_trans HB1.out (bel_alloc _ _)) hb2
      have FC2 := Lib.hid fc2
      obtain ⟨g0, g1, g2⟩ := fc2
      clear hb2
      go_wp2_with fail
      refine (days_any z (1 + m % 12) 1 _ (by exact HT2.out.1) (by omega) (by omega) (by decide) (by decide)).mono ?_
      intro e w' hq; obtain ⟨rfl, nd, rfl⟩ := DaysR.to_yes (v := f) HI.out HF.out _ _ hq; clear hq
      go_wp2_with fail
      refine (len_any z (1 + m % 12) _ (by omega) (by omega)).mono ?_
      intro e w' hq; obtain ⟨rfl, rfl⟩ := len_to (v := l) HL.out _ _ hq; clear hq
      go_wp2_with fail
      refine (check_any 2 fw 0 _ (by exact HT2.out.2)).mono ?_
      intro e w3 hq; obtain ⟨rfl, hb3⟩ := CheckR.to_yes hg.out _ _ hq; clear hq
      have HT3 : Hid (Tabs w3) := (HT2.out.drewN nd).below hb3
      have fc3 : FC w1.heap.size 2 fw 0 w3 := (FC2.out.drewN nd).below hb3
      have HB3 : Hid (Below W.heap.size W w3) := bel_trans (bel_drew HB2.out nd) hb3
      have FC3 := Lib.hid fc3
      obtain ⟨f0, f1, f2⟩ := fc3
      clear hb3 g0 g1 g2
      have hwr : IntKind.i64.wrap (f + l - 1 - 7) = f + l - 1 - 7 := IntWalk.i64_in _ (by omega)
      go_wp2_with fail
      go_region_held3 (fun w' => w'.cell? ⟨w1.heap.size, 1, none⟩ = some (.int .i64 fw)) (first | go_keep | exact f1 | exact (FC.below (b := w1.heap.size) (by exact FC3.out) hb4).2.1)
        (first | (go_at_call 20; refine (HWD.out _).mono ?_; rintro e w' ⟨rfl, nq, rfl⟩) | (go_at_call 13; refine (works_any _ (by exact HT3.out)).mono ?_; rintro e w4 ⟨rfl, hb4⟩))
      go_wp2_with fail
      go_ret
      exact ⟨rfl, bel_trans (by first | exact bel_drew (Below.drew HB3.out) _ | exact Below.drew (bel_drew HB3.out _) | exact bel_drew HB3.out _) hb4⟩
    · obtain ⟨x, hx⟩ : ∃ x, x = find f (f + l - 1) 3 fw fd := ⟨_, rfl⟩
      rw [← hx] at HO
      have hxf : f + fd - 1 ≤ x ∧ x < f + fd - 1 + 7 ∧ (x + 4) % 7 = fw := by
        rw [hx, show find f (f + l - 1) 3 fw fd = beh (f + fd - 1) fw from rfl]; unfold beh; omega
      obtain ⟨hx1, hx2, hx3⟩ := hxf
      have HWD : Hid (∀ V : World, Calls Tryd.prog 20 #[.int .i64 x] V fun e w' => e = .returned (.int .i64 fw) ∧ ∃ n, w' = V.drewN n) := fun V =>
        (weekday_any x V (by omega) (by omega)).mono (wday_to hx3)
      have HX1 := Lib.hid hx1
      clear hx hx3
      go_wp2_with fail
      refine (on_any z (1 + m % 12) 3 fw fd _ (by exact HT1.out.alloc _) (by omega) (by omega)).mono ?_
      intro e w2 hq; obtain ⟨rfl, hb2⟩ := OnR.to HO.out _ _ hq; clear hq
      have HT2 : Hid (Tabs w2) := (HT1.out.alloc (.cells #[.int .i64 3, .int .i64 fw, .int .i64 fd] 23)).below hb2
      have fc2 : FC w1.heap.size 3 fw fd w2 := (FC.new w1 3 fw fd 23).below hb2
      have HB2 : Hid (Below W.heap.size W w2) := bel_trans (bel_trans HB1.out (bel_alloc _ _)) hb2
      have FC2 := Lib.hid fc2
      obtain ⟨g0, g1, g2⟩ := fc2
      clear hb2
      go_wp2_with fail
      refine (days_any z (1 + m % 12) 1 _ (by exact HT2.out.1) (by omega) (by omega) (by decide) (by decide)).mono ?_
      intro e w' hq; obtain ⟨rfl, nd, rfl⟩ := DaysR.to_yes (v := f) HI.out HF.out _ _ hq; clear hq
      go_wp2_with fail
      refine (len_any z (1 + m % 12) _ (by omega) (by omega)).mono ?_
      intro e w' hq; obtain ⟨rfl, rfl⟩ := len_to (v := l) HL.out _ _ hq; clear hq
      go_wp2_with fail
      refine (check_any 3 fw fd _ (by exact HT2.out.2)).mono ?_
      intro e w3 hq; obtain ⟨rfl, hb3⟩ := CheckR.to_yes hg.out _ _ hq; clear hq
      have HT3 : Hid (Tabs w3) := (HT2.out.drewN nd).below hb3
      have fc3 : FC w1.heap.size 3 fw fd w3 := (FC2.out.drewN nd).below hb3
      have HB3 : Hid (Below W.heap.size W w3) := bel_trans (bel_drew HB2.out nd) hb3
      have FC3 := Lib.hid fc3
      obtain ⟨f0, f1, f2⟩ := fc3
      clear hb3 g0 g1 g2
      have hwr : IntKind.i64.wrap (f + fd - 1 + 7) = f + fd - 1 + 7 := IntWalk.i64_in _ (by omega)
      go_wp2_with fail
      go_region_held3 (fun w' => w'.cell? ⟨w1.heap.size, 1, none⟩ = some (.int .i64 fw)) (first | go_keep | exact f1 | exact (FC.below (b := w1.heap.size) (by exact FC3.out) hb4).2.1)
        (first | (go_at_call 20; refine (HWD.out _).mono ?_; rintro e w' ⟨rfl, nq, rfl⟩) | (go_at_call 13; refine (works_any _ (by exact HT3.out)).mono ?_; rintro e w4 ⟨rfl, hb4⟩))
      go_wp2_with fail
      go_ret
      exact ⟨rfl, bel_trans (by first | exact bel_drew (Below.drew HB3.out) _ | exact Below.drew (bel_drew HB3.out _) | exact bel_drew HB3.out _) hb4⟩
    · obtain ⟨x, hx⟩ : ∃ x, x = find f (f + l - 1) 4 fw fd := ⟨_, rfl⟩
      rw [← hx] at HO
      have hxf : x ≤ f + fd - 1 ∧ f + fd - 1 - 7 < x ∧ (x + 4) % 7 = fw := by
        rw [hx, show find f (f + l - 1) 4 fw fd = bef (f + fd - 1) fw from rfl]; unfold bef; omega
      obtain ⟨hx1, hx2, hx3⟩ := hxf
      have HWD : Hid (∀ V : World, Calls Tryd.prog 20 #[.int .i64 x] V fun e w' => e = .returned (.int .i64 fw) ∧ ∃ n, w' = V.drewN n) := fun V =>
        (weekday_any x V (by omega) (by omega)).mono (wday_to hx3)
      have HX1 := Lib.hid hx1
      clear hx hx3
      go_wp2_with fail
      refine (on_any z (1 + m % 12) 4 fw fd _ (by exact HT1.out.alloc _) (by omega) (by omega)).mono ?_
      intro e w2 hq; obtain ⟨rfl, hb2⟩ := OnR.to HO.out _ _ hq; clear hq
      have HT2 : Hid (Tabs w2) := (HT1.out.alloc (.cells #[.int .i64 4, .int .i64 fw, .int .i64 fd] 23)).below hb2
      have fc2 : FC w1.heap.size 4 fw fd w2 := (FC.new w1 4 fw fd 23).below hb2
      have HB2 : Hid (Below W.heap.size W w2) := bel_trans (bel_trans HB1.out (bel_alloc _ _)) hb2
      have FC2 := Lib.hid fc2
      obtain ⟨g0, g1, g2⟩ := fc2
      clear hb2
      go_wp2_with fail
      refine (days_any z (1 + m % 12) 1 _ (by exact HT2.out.1) (by omega) (by omega) (by decide) (by decide)).mono ?_
      intro e w' hq; obtain ⟨rfl, nd, rfl⟩ := DaysR.to_yes (v := f) HI.out HF.out _ _ hq; clear hq
      go_wp2_with fail
      refine (len_any z (1 + m % 12) _ (by omega) (by omega)).mono ?_
      intro e w' hq; obtain ⟨rfl, rfl⟩ := len_to (v := l) HL.out _ _ hq; clear hq
      go_wp2_with fail
      refine (check_any 4 fw fd _ (by exact HT2.out.2)).mono ?_
      intro e w3 hq; obtain ⟨rfl, hb3⟩ := CheckR.to_yes hg.out _ _ hq; clear hq
      have HT3 : Hid (Tabs w3) := (HT2.out.drewN nd).below hb3
      have fc3 : FC w1.heap.size 4 fw fd w3 := (FC2.out.drewN nd).below hb3
      have HB3 : Hid (Below W.heap.size W w3) := bel_trans (bel_drew HB2.out nd) hb3
      have FC3 := Lib.hid fc3
      obtain ⟨f0, f1, f2⟩ := fc3
      clear hb3 g0 g1 g2
      have hwr : IntKind.i64.wrap (f + fd - 1 - 7) = f + fd - 1 - 7 := IntWalk.i64_in _ (by omega)
      go_wp2_with fail
      go_region_held3 (fun w' => w'.cell? ⟨w1.heap.size, 1, none⟩ = some (.int .i64 fw)) (first | go_keep | exact f1 | exact (FC.below (b := w1.heap.size) (by exact FC3.out) hb4).2.1)
        (first | (go_at_call 20; refine (HWD.out _).mono ?_; rintro e w' ⟨rfl, nq, rfl⟩) | (go_at_call 13; refine (works_any _ (by exact HT3.out)).mono ?_; rintro e w4 ⟨rfl, hb4⟩))
      go_wp2_with fail
      go_ret
      exact ⟨rfl, bel_trans (by first | exact bel_drew (Below.drew HB3.out) _ | exact Below.drew (bel_drew HB3.out _) | exact bel_drew HB3.out _) hb4⟩

theorem dayformWeekdays.dayformWeekdays_walk (W : World) (hL : laidMetH Tryd.prog Rows.dayformWeekdaysRow.laid W) (v : Value) {H : Type} {enc : TypeId × Value → H} {base : Nat} {d : DataW H} {p : List MemPlace} (hv : Value.okWide Tryd.prog W .any base 32 v)
    (h : DataW.Trod enc Tryd.prog W 0 (fun _ => true) true 32 v d p) (y : Int) (wy : (Lit.int .i32 y).wf = true) (m : Int) (wm : (Lit.int .u8 m).wf = true) :
    Calls Tryd.prog 5 #[v, .int .i32 y, .int .u8 m] W fun e w' => e = .returned (.bool true) ∧ Below W.heap.size W w' := by
  obtain ⟨k, w, n, rfl, wk, ww, wn⟩ := draft_of hv h
  exact weekdays_core W (tabs_of hL) k w n wk ww wn y wy m wm
end Go.Proofs.YtieoogllghmeeaaDoor
