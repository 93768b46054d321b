/-
  Ends of eras: the contract of the reference's Check.
-/
import Derived.Test.YtoaimfadccepiaaDoorUnt
namespace Go.Proofs.YtoaimfadccepiaaDoor
open Go.RowKit Cv
set_option linter.unusedVariables false
set_option linter.unusedSimpArgs false

set_option maxRecDepth 100000 in
set_option maxHeartbeats 2000000 in
theorem refUntCheck_any (is : Bool) (y m k w d sec base least : Int) (W : World) (hy1 : -9223372036854775808 ≤ y) (hy2 : y ≤ 9223372036854775807) :
    Calls Tryd.prog 11 #[.agg #[.bool is, .int .i64 y, .int .i64 m, .int .i64 k, .int .i64 w, .int .i64 d, .int .i64 sec, .int .i64 base], .int .i64 least] W (CodeU (untC is y m k w d sec base least) W) := by
  have HB0 := Lib.hid (bel_alloc W (.cells #[.bool is, .int .i64 y, .int .i64 m, .int .i64 k, .int .i64 w, .int .i64 d, .int .i64 sec, .int .i64 base] 27))
  have HK0 := Lib.hid (heap_alloc_new W (.cells #[.bool is, .int .i64 y, .int .i64 m, .int .i64 k, .int .i64 w, .int .i64 d, .int .i64 sec, .int .i64 base] 27))
  by_cases ha : least < -10800
  · have HC := Lib.hid (untC_arg (is := is) (y := y) (m := m) (k := k) (w := w) (d := d) (sec := sec) (base := base) (Or.inl ha))
    go_enter Tryd.func11, Tryd.ntmps11
    go_wp2_with fail
    go_ret
    exact CodeU.of HC.out HB0.out
  by_cases hb : 0 < least
  · have HC := Lib.hid (untC_arg (is := is) (y := y) (m := m) (k := k) (w := w) (d := d) (sec := sec) (base := base) (Or.inr hb))
    go_enter Tryd.func11, Tryd.ntmps11
    go_wp2_with fail
    go_ret
    exact CodeU.of HC.out HB0.out
  have hl1 : -10800 ≤ least := by omega
  have hl2 : least ≤ 0 := by omega
  clear ha hb
  cases is
  · have HC := Lib.hid (untC_none (y := y) (m := m) (k := k) (w := w) (d := d) (sec := sec) (base := base) hl1 hl2)
    go_enter Tryd.func11, Tryd.ntmps11
    go_wp2_with fail
    go_ret
    exact CodeU.of HC.out HB0.out
  by_cases h1 : y < 1850
  · have HC := Lib.hid (untC_no (y := y) (m := m) (k := k) (w := w) (d := d) (sec := sec) (base := base) hl1 hl2 (fun h => by have := h.1; omega))
    go_enter Tryd.func11, Tryd.ntmps11
    go_wp2_with fail
    go_ret
    exact CodeU.of HC.out HB0.out
  by_cases h2 : 2149 < y
  · have HC := Lib.hid (untC_no (y := y) (m := m) (k := k) (w := w) (d := d) (sec := sec) (base := base) hl1 hl2 (fun h => by have := h.2.1; omega))
    go_enter Tryd.func11, Tryd.ntmps11
    go_wp2_with fail
    go_ret
    exact CodeU.of HC.out HB0.out
  have h1' : 1850 ≤ y := by omega
  have h2' : y ≤ 2149 := by omega
  clear h1 h2
  by_cases h1 : base < 0
  · have HC := Lib.hid (untC_no (y := y) (m := m) (k := k) (w := w) (d := d) (sec := sec) (base := base) hl1 hl2 (fun h => by have := h.2.2.1; omega))
    go_enter Tryd.func11, Tryd.ntmps11
    go_wp2_with fail
    go_ret
    exact CodeU.of HC.out HB0.out
  by_cases h2 : 2 < base
  · have HC := Lib.hid (untC_no (y := y) (m := m) (k := k) (w := w) (d := d) (sec := sec) (base := base) hl1 hl2 (fun h => by have := h.2.2.2.1; omega))
    go_enter Tryd.func11, Tryd.ntmps11
    go_wp2_with fail
    go_ret
    exact CodeU.of HC.out HB0.out
  have b1 : 0 ≤ base := by omega
  have b2 : base ≤ 2 := by omega
  clear h1 h2
  obtain ⟨x, c, hx⟩ : ∃ x c, on y m k w d = (x, c) := ⟨_, _, rfl⟩
  have HX := Lib.hid hx
  clear hx
  by_cases hz : c = 0
  · by_cases hs : base = 1
    · by_cases hlo : sec < -86400 - least
      · have HC := Lib.hid (untC_no (y := y) (m := m) (k := k) (w := w) (d := d) (sec := sec) (base := base) hl1 hl2 (fun h => by have := h.2.2.2.2.2.1; unfold untS at this; rw [if_pos hs] at this; omega))
        subst hz hs
        go_enter Tryd.func11, Tryd.ntmps11
        go_wp2_with fail
        refine (refOnC_any y m k w d _ hy1 hy2).mono ?_
        intro e w2 hq; obtain ⟨rfl, hb2⟩ := OnR.to HX.out _ _ hq; clear hq
        have HB2 := Lib.hid (bel_trans HB0.out hb2)
        have HA2 := Lib.hid (block_below HK0.out hb2)
        clear hb2
        have c0 := cellB HA2.out (i := 0) rfl
        have c1 := cellB HA2.out (i := 1) rfl
        have c2 := cellB HA2.out (i := 2) rfl
        have c3 := cellB HA2.out (i := 3) rfl
        have c4 := cellB HA2.out (i := 4) rfl
        have c5 := cellB HA2.out (i := 5) rfl
        have c6 := cellB HA2.out (i := 6) rfl
        have c7 := cellB HA2.out (i := 7) rfl
        go_wp2_with fail
        go_ret
        exact CodeU.of HC.out HB2.out
      by_cases hhi : 172800 - least < sec
      · have HC := Lib.hid (untC_no (y := y) (m := m) (k := k) (w := w) (d := d) (sec := sec) (base := base) hl1 hl2 (fun h => by have := h.2.2.2.2.2.2; unfold untS at this; rw [if_pos hs] at this; omega))
        subst hz hs
        go_enter Tryd.func11, Tryd.ntmps11
        go_wp2_with fail
        refine (refOnC_any y m k w d _ hy1 hy2).mono ?_
        intro e w2 hq; obtain ⟨rfl, hb2⟩ := OnR.to HX.out _ _ hq; clear hq
        have HB2 := Lib.hid (bel_trans HB0.out hb2)
        have HA2 := Lib.hid (block_below HK0.out hb2)
        clear hb2
        have c0 := cellB HA2.out (i := 0) rfl
        have c1 := cellB HA2.out (i := 1) rfl
        have c2 := cellB HA2.out (i := 2) rfl
        have c3 := cellB HA2.out (i := 3) rfl
        have c4 := cellB HA2.out (i := 4) rfl
        have c5 := cellB HA2.out (i := 5) rfl
        have c6 := cellB HA2.out (i := 6) rfl
        have c7 := cellB HA2.out (i := 7) rfl
        go_wp2_with fail
        go_ret
        exact CodeU.of HC.out HB2.out
      have hlo' : -86400 - least ≤ sec := by omega
      have hhi' : sec ≤ 172800 - least := by omega
      have HC := Lib.hid (untC_yes (y := y) (m := m) (k := k) (w := w) (d := d) (sec := sec) (base := base) hl1 hl2 ⟨h1', h2', b1, b2, by rw [HX.out]; exact hz, by unfold untS; rw [if_pos hs]; omega, by unfold untS; rw [if_pos hs]; omega⟩)
      clear hlo hhi
      subst hz hs
      go_enter Tryd.func11, Tryd.ntmps11
      go_wp2_with fail
      refine (refOnC_any y m k w d _ hy1 hy2).mono ?_
      intro e w2 hq; obtain ⟨rfl, hb2⟩ := OnR.to HX.out _ _ hq; clear hq
      have HB2 := Lib.hid (bel_trans HB0.out hb2)
      have HA2 := Lib.hid (block_below HK0.out hb2)
      clear hb2
      have c0 := cellB HA2.out (i := 0) rfl
      have c1 := cellB HA2.out (i := 1) rfl
      have c2 := cellB HA2.out (i := 2) rfl
      have c3 := cellB HA2.out (i := 3) rfl
      have c4 := cellB HA2.out (i := 4) rfl
      have c5 := cellB HA2.out (i := 5) rfl
      have c6 := cellB HA2.out (i := 6) rfl
      have c7 := cellB HA2.out (i := 7) rfl
      go_wp2_with fail
      go_ret
      exact CodeU.of HC.out HB2.out
    · by_cases hlo : sec < -86400
      · have HC := Lib.hid (untC_no (y := y) (m := m) (k := k) (w := w) (d := d) (sec := sec) (base := base) hl1 hl2 (fun h => by have := h.2.2.2.2.2.1; unfold untS at this; rw [if_neg hs] at this; omega))
        subst hz
        go_enter Tryd.func11, Tryd.ntmps11
        go_wp2_with fail
        refine (refOnC_any y m k w d _ hy1 hy2).mono ?_
        intro e w2 hq; obtain ⟨rfl, hb2⟩ := OnR.to HX.out _ _ hq; clear hq
        have HB2 := Lib.hid (bel_trans HB0.out hb2)
        have HA2 := Lib.hid (block_below HK0.out hb2)
        clear hb2
        have c0 := cellB HA2.out (i := 0) rfl
        have c1 := cellB HA2.out (i := 1) rfl
        have c2 := cellB HA2.out (i := 2) rfl
        have c3 := cellB HA2.out (i := 3) rfl
        have c4 := cellB HA2.out (i := 4) rfl
        have c5 := cellB HA2.out (i := 5) rfl
        have c6 := cellB HA2.out (i := 6) rfl
        have c7 := cellB HA2.out (i := 7) rfl
        go_wp2_with fail
        go_ret
        exact CodeU.of HC.out HB2.out
      by_cases hhi : 172800 < sec
      · have HC := Lib.hid (untC_no (y := y) (m := m) (k := k) (w := w) (d := d) (sec := sec) (base := base) hl1 hl2 (fun h => by have := h.2.2.2.2.2.2; unfold untS at this; rw [if_neg hs] at this; omega))
        subst hz
        go_enter Tryd.func11, Tryd.ntmps11
        go_wp2_with fail
        refine (refOnC_any y m k w d _ hy1 hy2).mono ?_
        intro e w2 hq; obtain ⟨rfl, hb2⟩ := OnR.to HX.out _ _ hq; clear hq
        have HB2 := Lib.hid (bel_trans HB0.out hb2)
        have HA2 := Lib.hid (block_below HK0.out hb2)
        clear hb2
        have c0 := cellB HA2.out (i := 0) rfl
        have c1 := cellB HA2.out (i := 1) rfl
        have c2 := cellB HA2.out (i := 2) rfl
        have c3 := cellB HA2.out (i := 3) rfl
        have c4 := cellB HA2.out (i := 4) rfl
        have c5 := cellB HA2.out (i := 5) rfl
        have c6 := cellB HA2.out (i := 6) rfl
        have c7 := cellB HA2.out (i := 7) rfl
        go_wp2_with fail
        go_ret
        exact CodeU.of HC.out HB2.out
      have hlo' : -86400 ≤ sec := by omega
      have hhi' : sec ≤ 172800 := by omega
      have HC := Lib.hid (untC_yes (y := y) (m := m) (k := k) (w := w) (d := d) (sec := sec) (base := base) hl1 hl2 ⟨h1', h2', b1, b2, by rw [HX.out]; exact hz, by unfold untS; rw [if_neg hs]; omega, by unfold untS; rw [if_neg hs]; omega⟩)
      clear hlo hhi
      subst hz
      go_enter Tryd.func11, Tryd.ntmps11
      go_wp2_with fail
      refine (refOnC_any y m k w d _ hy1 hy2).mono ?_
      intro e w2 hq; obtain ⟨rfl, hb2⟩ := OnR.to HX.out _ _ hq; clear hq
      have HB2 := Lib.hid (bel_trans HB0.out hb2)
      have HA2 := Lib.hid (block_below HK0.out hb2)
      clear hb2
      have c0 := cellB HA2.out (i := 0) rfl
      have c1 := cellB HA2.out (i := 1) rfl
      have c2 := cellB HA2.out (i := 2) rfl
      have c3 := cellB HA2.out (i := 3) rfl
      have c4 := cellB HA2.out (i := 4) rfl
      have c5 := cellB HA2.out (i := 5) rfl
      have c6 := cellB HA2.out (i := 6) rfl
      have c7 := cellB HA2.out (i := 7) rfl
      go_wp2_with fail
      go_ret
      exact CodeU.of HC.out HB2.out
  · have HC := Lib.hid (untC_no (y := y) (m := m) (k := k) (w := w) (d := d) (sec := sec) (base := base) hl1 hl2 (fun h => by have := h.2.2.2.2.1; rw [HX.out] at this; exact hz this))
    have hzb : (c == 0) = false := by simp [hz]
    go_enter Tryd.func11, Tryd.ntmps11
    go_wp2_with fail
    refine (refOnC_any y m k w d _ hy1 hy2).mono ?_
    intro e w2 hq; obtain ⟨rfl, hb2⟩ := OnR.to HX.out _ _ hq; clear hq
    have HB2 := Lib.hid (bel_trans HB0.out hb2)
    have HA2 := Lib.hid (block_below HK0.out hb2)
    clear hb2
    have c0 := cellB HA2.out (i := 0) rfl
    have c1 := cellB HA2.out (i := 1) rfl
    have c2 := cellB HA2.out (i := 2) rfl
    have c3 := cellB HA2.out (i := 3) rfl
    have c4 := cellB HA2.out (i := 4) rfl
    have c5 := cellB HA2.out (i := 5) rfl
    have c6 := cellB HA2.out (i := 6) rfl
    have c7 := cellB HA2.out (i := 7) rfl
    go_wp2_with fail
    go_ret
    exact CodeU.of HC.out HB2.out
end Go.Proofs.YtoaimfadccepiaaDoor
