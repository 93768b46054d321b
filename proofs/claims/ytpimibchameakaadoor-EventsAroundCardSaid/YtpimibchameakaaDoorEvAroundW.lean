/-
  The walk of the law EventsAround.
-/
import Derived.Test.YtpimibchameakaaDoorEvWk
import Derived.Test.YtpimibchameakaaDoorRuArg
namespace Go.Proofs.YtpimibchameakaaDoor
open Go.RowKit Cv
set_option linter.unusedVariables false
set_option linter.unusedSimpArgs false

set_option maxRecDepth 100000 in
set_option maxHeartbeats 4000000 in
theorem around_core (W : World) (hT : Tabs W) (r : Ru) (hf : r.fits) (year : Int) (h1 : -9223372036854775808 ≤ year) (h2 : year ≤ 9223372036854775807) :
    Calls Tryd.prog 4 #[.agg r.arr, .int .i64 year] W fun e w' => e = .returned (.bool true) ∧ Below W.heap.size W w' := by
  obtain ⟨na, fr, ut, mo, kk, w, d, sec, base, save, le⟩ := r
  have HF := Lib.hid hf
  have heq := eqEv
  obtain ⟨y, hy⟩ : ∃ y, year.tmod 2000000000 = y := ⟨_, rfl⟩
  have hyb : -2000000000 < y ∧ y < 2000000000 := by
    rcases (show year < 0 ∨ 0 ≤ year by omega) with h | h
    · rw [(tdm_neg year 2000000000 h).2] at hy; omega
    · rw [(tdm_pos year 2000000000 h).2] at hy; omega
  obtain ⟨hy1, hy2⟩ := hyb
  have HB0 := Lib.hid (show Below W.heap.size W ((W.alloc (.cells #[.string na, .int .i64 fr, .int .i64 ut, .int .i64 mo, .int .i64 kk, .int .i64 w, .int .i64 d, .int .i64 sec, .int .i64 base, .int .i64 save, .string le] 32)).alloc (.cells #[.string na, .int .i64 fr, .int .i64 ut, .int .i64 mo, .int .i64 kk, .int .i64 w, .int .i64 d, .int .i64 sec, .int .i64 base, .int .i64 save, .string le] 32)) from bel_trans (bel_alloc _ _) (bel_alloc _ _))
  have HA0 := Lib.hid (show ((W.alloc (.cells #[.string na, .int .i64 fr, .int .i64 ut, .int .i64 mo, .int .i64 kk, .int .i64 w, .int .i64 d, .int .i64 sec, .int .i64 base, .int .i64 save, .string le] 32)).alloc (.cells #[.string na, .int .i64 fr, .int .i64 ut, .int .i64 mo, .int .i64 kk, .int .i64 w, .int .i64 d, .int .i64 sec, .int .i64 base, .int .i64 save, .string le] 32)).heap[W.heap.size]? = some (.cells #[.string na, .int .i64 fr, .int .i64 ut, .int .i64 mo, .int .i64 kk, .int .i64 w, .int .i64 d, .int .i64 sec, .int .i64 base, .int .i64 save, .string le] 32) from block_below (heap_alloc_new W _) (bel_alloc _ _))
  have HR0 := Lib.hid (show Rul (.slice (some ⟨W.heap.size + 1, 0, none⟩) 1 1) [⟨na, fr, ut, mo, kk, w, d, sec, base, save, le⟩] ((W.alloc (.cells #[.string na, .int .i64 fr, .int .i64 ut, .int .i64 mo, .int .i64 kk, .int .i64 w, .int .i64 d, .int .i64 sec, .int .i64 base, .int .i64 save, .string le] 32)).alloc (.cells #[.string na, .int .i64 fr, .int .i64 ut, .int .i64 mo, .int .i64 kk, .int .i64 w, .int .i64 d, .int .i64 sec, .int .i64 base, .int .i64 save, .string le] 32)) from Rul.block (rs := [⟨na, fr, ut, mo, kk, w, d, sec, base, save, le⟩]) (heap_alloc2_new W _ _) rfl (by simp) (by intro r hr; simp at hr; subst hr; exact hf))
  have HT0 := Lib.hid (hT.below HB0.out)
  have HI1 := Lib.hid (show inr y ∧ ok y 1 1 by unfold inr; exact ⟨by omega, (ok_first y 1).2 (by omega)⟩)
  have HI2 := Lib.hid (show inr (y + 1) ∧ ok (y + 1) 1 1 by unfold inr; exact ⟨by omega, (ok_first (y + 1) 1).2 (by omega)⟩)
  obtain ⟨f1, hf1⟩ : ∃ f1, f1 = fst y := ⟨_, rfl⟩
  obtain ⟨f2, hf2⟩ : ∃ f2, f2 = fst (y + 1) := ⟨_, rfl⟩
  have HF1 := Lib.hid (show num y 1 1 = f1 by rw [hf1]; unfold num cum; simp)
  have HF2 := Lib.hid (show num (y + 1) 1 1 = f2 by rw [hf2]; unfold num cum; simp)
  have hfb : -800000000000 ≤ f1 ∧ f1 ≤ 800000000000 ∧ -800000000000 ≤ f2 ∧ f2 ≤ 800000000000 := by rw [hf1, hf2]; unfold fst; omega
  obtain ⟨hfa, hfb, hfc, hfd⟩ := hfb
  have hr0 : ([⟨na, fr, ut, mo, kk, w, d, sec, base, save, le⟩] : _root_.List Ru)[0]? = some ⟨na, fr, ut, mo, kk, w, d, sec, base, save, le⟩ := rfl
  by_cases hh : Has ⟨na, fr, ut, mo, kk, w, d, sec, base, save, le⟩ y
  · obtain ⟨hbb1, hbb2⟩ := baseL_bd [⟨na, fr, ut, mo, kk, w, d, sec, base, save, le⟩]
    obtain ⟨hn1, hn2⟩ := nom_bd hbb1 hbb2 hh
    have HO := Lib.hid (evV_yes hr0 hh rfl)
    have hfy : fr ≤ y := by have := hh.1; unfold firstY at this; dsimp only at this; omega
    have hly : y ≤ ut ∨ (¬ y ≤ ut ∧ ut = 1048576) := by have := hh.2.1; unfold lastY at this; dsimp only at this; split at this <;> omega
    obtain ⟨m, hm⟩ : ∃ m, m = nomOf (baseL [⟨na, fr, ut, mo, kk, w, d, sec, base, save, le⟩]) ⟨na, fr, ut, mo, kk, w, d, sec, base, save, le⟩ y := ⟨_, rfl⟩
    rw [← hm, ← hf1] at hn1
    rw [← hm, ← hf2] at hn2
    rw [← hm] at HO
    clear hm hh hbb1 hbb2 hf1 hf2 hf hT hr0
    unfold Ru.arr
    dsimp only
    have hyl : y ≤ ut ∨ (ut < y ∧ ut = 1048576) := by omega
    clear hly
    rcases hyl with hyl | ⟨hyl, hut⟩
    · go_enter Tryd.func4, Tryd.ntmps4
      go_wp2_with fail
      refine (evOn_any (.slice (some ⟨W.heap.size + 1, 0, none⟩) 1 1) [⟨na, fr, ut, mo, kk, w, d, sec, base, save, le⟩] 0 y _ (by exact HT0.out) (by exact HR0.out) (by omega) (by omega)).mono ?_
      intro e w1 hq; obtain ⟨rfl, hb⟩ := EvR.to (v := .tuple #[.agg #[.int .i64 y, .int .i64 0, .int .i64 m], .bool true]) (HO.out) _ _ hq; clear hq
      have HT1 := Lib.hid ((HT0.out.below hb).below (bel_alloc w1 (.cells #[.int .i64 y, .int .i64 0, .int .i64 m] 34)))
      have HA1 := Lib.hid (block_below (block_below HA0.out hb) (bel_alloc w1 (.cells #[.int .i64 y, .int .i64 0, .int .i64 m] 34)))
      have HB1 := Lib.hid (bel_trans (bel_trans HB0.out hb) (bel_alloc w1 (.cells #[.int .i64 y, .int .i64 0, .int .i64 m] 34)))
      have HE1 := Lib.hid (heap_alloc_new w1 (.cells #[.int .i64 y, .int .i64 0, .int .i64 m] 34))
      clear hb
      go_wp2_with fail
      refine (days_any y 1 1 _ (by exact HT1.out.1) (by omega) (by omega) (by decide) (by decide)).mono ?_
      intro e w' hq; obtain ⟨rfl, nd, rfl⟩ := DaysR.to_yes (v := f1) HI1.out HF1.out _ _ hq; clear hq
      go_wp2_with fail
      refine (days_any (y + 1) 1 1 _ (by exact HT1.out.1) (by omega) (by omega) (by decide) (by decide)).mono ?_
      intro e w' hq; obtain ⟨rfl, nd, rfl⟩ := DaysR.to_yes (v := f2) HI2.out HF2.out _ _ hq; clear hq
      have c1 := cellB HA1.out (i := 1) rfl
      have c2 := cellB HA1.out (i := 2) rfl
      have d0 := cellB HE1.out (i := 0) rfl
      have d1 := cellB HE1.out (i := 1) rfl
      have d2 := cellB HE1.out (i := 2) rfl
      go_wp2_with fail
      refine (works_any _ (by exact HT1.out)).mono ?_
      rintro e w2 ⟨rfl, hb⟩
      have HB2 := Lib.hid (bel_trans (bel_drew HB1.out _) hb)
      clear hb
      go_wp2_with fail
      go_ret
      exact ⟨rfl, HB2.out⟩

    · have hub : (ut == 1048576) = true := by rw [hut]; rfl
      clear hut
      go_enter Tryd.func4, Tryd.ntmps4
      go_wp2_with fail
      refine (evOn_any (.slice (some ⟨W.heap.size + 1, 0, none⟩) 1 1) [⟨na, fr, ut, mo, kk, w, d, sec, base, save, le⟩] 0 y _ (by exact HT0.out) (by exact HR0.out) (by omega) (by omega)).mono ?_
      intro e w1 hq; obtain ⟨rfl, hb⟩ := EvR.to (v := .tuple #[.agg #[.int .i64 y, .int .i64 0, .int .i64 m], .bool true]) (HO.out) _ _ hq; clear hq
      have HT1 := Lib.hid ((HT0.out.below hb).below (bel_alloc w1 (.cells #[.int .i64 y, .int .i64 0, .int .i64 m] 34)))
      have HA1 := Lib.hid (block_below (block_below HA0.out hb) (bel_alloc w1 (.cells #[.int .i64 y, .int .i64 0, .int .i64 m] 34)))
      have HB1 := Lib.hid (bel_trans (bel_trans HB0.out hb) (bel_alloc w1 (.cells #[.int .i64 y, .int .i64 0, .int .i64 m] 34)))
      have HE1 := Lib.hid (heap_alloc_new w1 (.cells #[.int .i64 y, .int .i64 0, .int .i64 m] 34))
      clear hb
      go_wp2_with fail
      refine (days_any y 1 1 _ (by exact HT1.out.1) (by omega) (by omega) (by decide) (by decide)).mono ?_
      intro e w' hq; obtain ⟨rfl, nd, rfl⟩ := DaysR.to_yes (v := f1) HI1.out HF1.out _ _ hq; clear hq
      go_wp2_with fail
      refine (days_any (y + 1) 1 1 _ (by exact HT1.out.1) (by omega) (by omega) (by decide) (by decide)).mono ?_
      intro e w' hq; obtain ⟨rfl, nd, rfl⟩ := DaysR.to_yes (v := f2) HI2.out HF2.out _ _ hq; clear hq
      have c1 := cellB HA1.out (i := 1) rfl
      have c2 := cellB HA1.out (i := 2) rfl
      have d0 := cellB HE1.out (i := 0) rfl
      have d1 := cellB HE1.out (i := 1) rfl
      have d2 := cellB HE1.out (i := 2) rfl
      go_wp2_with fail
      refine (works_any _ (by exact HT1.out)).mono ?_
      rintro e w2 ⟨rfl, hb⟩
      have HB2 := Lib.hid (bel_trans (bel_drew HB1.out _) hb)
      clear hb
      go_wp2_with fail
      go_ret
      exact ⟨rfl, HB2.out⟩

  · have HO := Lib.hid (evV_no hr0 hh)
    clear hh hf1 hf2 hf hT hr0
    unfold Ru.arr
    dsimp only
    go_enter Tryd.func4, Tryd.ntmps4
    go_wp2_with fail
    refine (evOn_any (.slice (some ⟨W.heap.size + 1, 0, none⟩) 1 1) [⟨na, fr, ut, mo, kk, w, d, sec, base, save, le⟩] 0 y _ (by exact HT0.out) (by exact HR0.out) (by omega) (by omega)).mono ?_
    intro e w1 hq; obtain ⟨rfl, hb⟩ := EvR.to (v := .tuple #[.agg #[.int .i64 0, .int .i64 0, .int .i64 0], .bool false]) (HO.out) _ _ hq; clear hq
    have HT1 := Lib.hid ((HT0.out.below hb).below (bel_alloc w1 (.cells #[.int .i64 0, .int .i64 0, .int .i64 0] 34)))
    have HA1 := Lib.hid (block_below (block_below HA0.out hb) (bel_alloc w1 (.cells #[.int .i64 0, .int .i64 0, .int .i64 0] 34)))
    have HB1 := Lib.hid (bel_trans (bel_trans HB0.out hb) (bel_alloc w1 (.cells #[.int .i64 0, .int .i64 0, .int .i64 0] 34)))
    have HE1 := Lib.hid (heap_alloc_new w1 (.cells #[.int .i64 0, .int .i64 0, .int .i64 0] 34))
    clear hb
    go_wp2_with fail
    refine (days_any y 1 1 _ (by exact HT1.out.1) (by omega) (by omega) (by decide) (by decide)).mono ?_
    intro e w' hq; obtain ⟨rfl, nd, rfl⟩ := DaysR.to_yes (v := f1) HI1.out HF1.out _ _ hq; clear hq
    go_wp2_with fail
    refine (days_any (y + 1) 1 1 _ (by exact HT1.out.1) (by omega) (by omega) (by decide) (by decide)).mono ?_
    intro e w' hq; obtain ⟨rfl, nd, rfl⟩ := DaysR.to_yes (v := f2) HI2.out HF2.out _ _ hq; clear hq
    have d0 := cellB HE1.out (i := 0) rfl
    have d1 := cellB HE1.out (i := 1) rfl
    have d2 := cellB HE1.out (i := 2) rfl
    go_wp2_with fail
    refine (works_any _ (by exact HT1.out)).mono ?_
    rintro e w2 ⟨rfl, hb⟩
    have HB2 := Lib.hid (bel_trans (bel_drew HB1.out _) hb)
    clear hb
    go_wp2_with fail
    go_ret
    exact ⟨rfl, HB2.out⟩


set_option maxRecDepth 100000 in
theorem eventsAround.eventsAround_walk (W : World) (hL : laidMetH Tryd.prog Rows.eventsAroundRow.laid W) (v : Value) {H : Type} {enc : TypeId × Value → H} {base : Nat} {d : DataW H} {p : List MemPlace} (hv : Value.okWide Tryd.prog W .any base 32 v)
    (h : DataW.Trod enc Tryd.prog W 0 (fun _ => true) true 32 v d p) (y : Int) (wy : (Lit.int .i64 y).wf = true) :
    Calls Tryd.prog 4 #[v, .int .i64 y] W fun e w' => e = .returned (.bool true) ∧ Below W.heap.size W w' := by
  obtain ⟨r, rfl, hf, _, _⟩ := rule_of hv h
  obtain ⟨h1, h2⟩ := fit_of wy
  exact around_core W ⟨tab_of hL, ktab_of hL⟩ r hf y h1 h2
end Go.Proofs.YtpimibchameakaaDoor

