/-
  Ends of eras: the contracts of until.Check, until.Nominal and of the reference's.
  Ends of eras: the contract of the reference's Check.
  Ends of eras: the contracts of until.seconds, until.Nominal and the reference's.
-/
import Derived.Test.YtdppmeeobpbfnaaDoorRuMem
import Derived.Test.YtdppmeeobpbfnaaDoorDayRef
namespace Go.Proofs.YtdppmeeobpbfnaaDoor
open Go.RowKit Cv
set_option linter.unusedVariables false
set_option linter.unusedSimpArgs false

namespace Cv
/-- the time of day that is compared -/
def untS (sec base least : Int) : Int := if base = 1 then sec + least else sec
/-- an end that is right -/
def UntOK (y m k w d sec base least : Int) : Prop := 1850 ≤ y ∧ y ≤ 2149 ∧ 0 ≤ base ∧ base ≤ 2 ∧ (on y m k w d).2 = 0 ∧ -86400 ≤ untS sec base least ∧ untS sec base least ≤ 172800
instance (y m k w d sec base least : Int) : Decidable (UntOK y m k w d sec base least) := by unfold UntOK; exact inferInstance
/-- the code of an end -/
def untC (is : Bool) (y m k w d sec base least : Int) : Int := if least < -10800 ∨ 0 < least then 2 else if is = false then 4 else if UntOK y m k w d sec base least then 0 else 3
/-- its nominal time -/
def untN (is : Bool) (y m k w d sec base least : Int) : Int := if untC is y m k w d sec base least = 0 then 86400 * (on y m k w d).1 + untS sec base least else 0
def untV (is : Bool) (y m k w d sec base : Int) : Value := .agg #[.bool is, .int .i64 y, .int .i64 m, .int .i64 k, .int .i64 w, .int .i64 d, .int .i64 sec, .int .i64 base]
theorem untC_arg {is : Bool} {y m k w d sec base least : Int} (h : least < -10800 ∨ 0 < least) : untC is y m k w d sec base least = 2 := by unfold untC; rw [if_pos h]
theorem untC_none {y m k w d sec base least : Int} (h1 : -10800 ≤ least) (h2 : least ≤ 0) : untC false y m k w d sec base least = 4 := by unfold untC; rw [if_neg (by omega), if_pos rfl]
theorem untC_yes {y m k w d sec base least : Int} (h1 : -10800 ≤ least) (h2 : least ≤ 0) (h : UntOK y m k w d sec base least) : untC true y m k w d sec base least = 0 := by unfold untC; rw [if_neg (by omega), if_neg (by simp), if_pos h]
theorem untC_no {y m k w d sec base least : Int} (h1 : -10800 ≤ least) (h2 : least ≤ 0) (h : ¬ UntOK y m k w d sec base least) : untC true y m k w d sec base least = 3 := by unfold untC; rw [if_neg (by omega), if_neg (by simp), if_neg h]
theorem untC_zero {is : Bool} {y m k w d sec base least : Int} (h : untC is y m k w d sec base least = 0) : is = true ∧ -10800 ≤ least ∧ least ≤ 0 ∧ UntOK y m k w d sec base least := by
  unfold untC at h
  split at h
  · omega
  · split at h
    · omega
    · split at h
      · rename_i h1 h2 h3
        exact ⟨by simpa using h2, by omega, by omega, h3⟩
      · omega
/-- a code, and all that was there stays -/
def CodeU (c : Int) (W : World) (e : Ending) (w' : World) : Prop := e = .returned (.int .i64 c) ∧ Below W.heap.size W w'
theorem CodeU.of {a c : Int} {W w' : World} (h : c = a) (hb : Below W.heap.size W w') : CodeU c W (.returned (.int .i64 a)) w' := by subst h; exact ⟨rfl, hb⟩
theorem CodeU.to {a c : Int} {W : World} (h : c = a) : ∀ e w', CodeU c W e w' → e = .returned (.int .i64 a) ∧ Below W.heap.size W w' := by subst h; rintro e w' ⟨h1, h2⟩; exact ⟨h1, h2⟩
theorem on_bd {y m k w d : Int} (h : (on y m k w d).2 = 0) (h1 : 1850 ≤ y) (h2 : y ≤ 2149) : -10000000 ≤ (on y m k w d).1 ∧ (on y m k w d).1 ≤ 10000000 := by
  obtain ⟨_, m1, m2, hg, hl, a1, a2⟩ := on_ok h
  have ha := anchor_year m1 m2 hg hl
  unfold fst at ha
  omega
end Cv

theorem onC_any (y m k w d : Int) (W : World) (hT : Tabs W) (hy1 : -9223372036854775808 ≤ y) (hy2 : y ≤ 9223372036854775807) :
    Calls Tryd.prog 45 #[.int .i64 y, .int .i64 m, .agg #[.int .i64 k, .int .i64 w, .int .i64 d]] W (OnR y m k w d W) := on_any y m k w d W hT hy1 hy2

set_option maxRecDepth 100000 in
set_option maxHeartbeats 2000000 in
theorem untCheck_any (is : Bool) (y m k w d sec base least : Int) (W : World) (hT : Tabs W) (hy1 : -9223372036854775808 ≤ y) (hy2 : y ≤ 9223372036854775807) :
    Calls Tryd.prog 42 #[.agg #[.bool is, .int .i64 y, .int .i64 m, .int .i64 k, .int .i64 w, .int .i64 d, .int .i64 sec, .int .i64 base], .int .i64 least] W (CodeU (untC is y m k w d sec base least) W) := by
  have HT := Lib.hid (hT.alloc (.cells #[.bool is, .int .i64 y, .int .i64 m, .int .i64 k, .int .i64 w, .int .i64 d, .int .i64 sec, .int .i64 base] 58))
  have HB0 := Lib.hid (bel_alloc W (.cells #[.bool is, .int .i64 y, .int .i64 m, .int .i64 k, .int .i64 w, .int .i64 d, .int .i64 sec, .int .i64 base] 58))
  have HK0 := Lib.hid (heap_alloc_new W (.cells #[.bool is, .int .i64 y, .int .i64 m, .int .i64 k, .int .i64 w, .int .i64 d, .int .i64 sec, .int .i64 base] 58))
  clear hT
  by_cases ha : least < -10800
  · have HC := Lib.hid (untC_arg (is := is) (y := y) (m := m) (k := k) (w := w) (d := d) (sec := sec) (base := base) (Or.inl ha))
    go_enter Tryd.func42, Tryd.ntmps42
    go_wp2_with fail
    go_ret
    exact CodeU.of HC.out HB0.out
  by_cases hb : 0 < least
  · have HC := Lib.hid (untC_arg (is := is) (y := y) (m := m) (k := k) (w := w) (d := d) (sec := sec) (base := base) (Or.inr hb))
    go_enter Tryd.func42, Tryd.ntmps42
    go_wp2_with fail
    go_ret
    exact CodeU.of HC.out HB0.out
  have hl1 : -10800 ≤ least := by omega
  have hl2 : least ≤ 0 := by omega
  clear ha hb
  cases is
  · have HC := Lib.hid (untC_none (y := y) (m := m) (k := k) (w := w) (d := d) (sec := sec) (base := base) hl1 hl2)
    go_enter Tryd.func42, Tryd.ntmps42
    go_wp2_with fail
    go_ret
    exact CodeU.of HC.out HB0.out
  by_cases h1 : y < 1850
  · have HC := Lib.hid (untC_no (y := y) (m := m) (k := k) (w := w) (d := d) (sec := sec) (base := base) hl1 hl2 (fun h => by have := h.1; omega))
    go_enter Tryd.func42, Tryd.ntmps42
    go_wp2_with fail
    go_ret
    exact CodeU.of HC.out HB0.out
  by_cases h2 : 2149 < y
  · have HC := Lib.hid (untC_no (y := y) (m := m) (k := k) (w := w) (d := d) (sec := sec) (base := base) hl1 hl2 (fun h => by have := h.2.1; omega))
    go_enter Tryd.func42, Tryd.ntmps42
    go_wp2_with fail
    go_ret
    exact CodeU.of HC.out HB0.out
  have h1' : 1850 ≤ y := by omega
  have h2' : y ≤ 2149 := by omega
  clear h1 h2
  by_cases hc : clk sec base
  · obtain ⟨x, c, hx⟩ : ∃ x c, on y m k w d = (x, c) := ⟨_, _, rfl⟩
    have HX := Lib.hid hx
    have HQ := Lib.hid (clkC_yes hc)
    obtain ⟨s1, s2, b1, b2⟩ := hc
    clear hx
    by_cases hz : c = 0
    · by_cases hs : base = 1
      · by_cases hlo : sec + least < -86400
        · have HC := Lib.hid (untC_no (y := y) (m := m) (k := k) (w := w) (d := d) (sec := sec) (base := base) hl1 hl2 (fun h => by have := h.2.2.2.2.2.1; unfold untS at this; rw [if_pos hs] at this; omega))
          subst hz hs
          go_enter Tryd.func42, Tryd.ntmps42
          go_wp2_with fail
          refine (clock_any sec 1 _).mono ?_
          intro e w1 hq; obtain ⟨rfl, hb1⟩ := (CodeU.to (W := _) HQ.out) _ _ hq; clear hq
          have HA1 := Lib.hid (block_below HK0.out hb1)
          have HB1 := Lib.hid (bel_trans HB0.out hb1)
          have HT1 := Lib.hid (HT.out.below hb1)
          clear hb1
          have c0 := cellB HA1.out (i := 0) rfl
          have c1 := cellB HA1.out (i := 1) rfl
          have c2 := cellB HA1.out (i := 2) rfl
          have c3 := cellB HA1.out (i := 3) rfl
          have c4 := cellB HA1.out (i := 4) rfl
          have c5 := cellB HA1.out (i := 5) rfl
          have c6 := cellB HA1.out (i := 6) rfl
          have c7 := cellB HA1.out (i := 7) rfl
          go_wp2_with fail
          refine (onC_any y m k w d _ (by exact HT1.out) hy1 hy2).mono ?_
          intro e w2 hq; obtain ⟨rfl, hb2⟩ := OnR.to HX.out _ _ hq; clear hq
          have HB2 := Lib.hid (bel_trans HB1.out hb2)
          clear hb2 c0 c1 c2 c3 c4 c5 c6 c7
          go_wp2_with fail
          go_ret
          exact CodeU.of HC.out HB2.out
        · by_cases hhi : 172800 < sec + least
          · have HC := Lib.hid (untC_no (y := y) (m := m) (k := k) (w := w) (d := d) (sec := sec) (base := base) hl1 hl2 (fun h => by have := h.2.2.2.2.2.2; unfold untS at this; rw [if_pos hs] at this; omega))
            subst hz hs
            go_enter Tryd.func42, Tryd.ntmps42
            go_wp2_with fail
            refine (clock_any sec 1 _).mono ?_
            intro e w1 hq; obtain ⟨rfl, hb1⟩ := (CodeU.to (W := _) HQ.out) _ _ hq; clear hq
            have HA1 := Lib.hid (block_below HK0.out hb1)
            have HB1 := Lib.hid (bel_trans HB0.out hb1)
            have HT1 := Lib.hid (HT.out.below hb1)
            clear hb1
            have c0 := cellB HA1.out (i := 0) rfl
            have c1 := cellB HA1.out (i := 1) rfl
            have c2 := cellB HA1.out (i := 2) rfl
            have c3 := cellB HA1.out (i := 3) rfl
            have c4 := cellB HA1.out (i := 4) rfl
            have c5 := cellB HA1.out (i := 5) rfl
            have c6 := cellB HA1.out (i := 6) rfl
            have c7 := cellB HA1.out (i := 7) rfl
            go_wp2_with fail
            refine (onC_any y m k w d _ (by exact HT1.out) hy1 hy2).mono ?_
            intro e w2 hq; obtain ⟨rfl, hb2⟩ := OnR.to HX.out _ _ hq; clear hq
            have HB2 := Lib.hid (bel_trans HB1.out hb2)
            clear hb2 c0 c1 c2 c3 c4 c5 c6 c7
            go_wp2_with fail
            go_ret
            exact CodeU.of HC.out HB2.out
          · have HC := Lib.hid (untC_yes (y := y) (m := m) (k := k) (w := w) (d := d) (sec := sec) (base := base) hl1 hl2 ⟨h1', h2', b1, b2, by rw [HX.out]; exact hz, by unfold untS; rw [if_pos hs]; omega, by unfold untS; rw [if_pos hs]; omega⟩)
            subst hz hs
            go_enter Tryd.func42, Tryd.ntmps42
            go_wp2_with fail
            refine (clock_any sec 1 _).mono ?_
            intro e w1 hq; obtain ⟨rfl, hb1⟩ := (CodeU.to (W := _) HQ.out) _ _ hq; clear hq
            have HA1 := Lib.hid (block_below HK0.out hb1)
            have HB1 := Lib.hid (bel_trans HB0.out hb1)
            have HT1 := Lib.hid (HT.out.below hb1)
            clear hb1
            have c0 := cellB HA1.out (i := 0) rfl
            have c1 := cellB HA1.out (i := 1) rfl
            have c2 := cellB HA1.out (i := 2) rfl
            have c3 := cellB HA1.out (i := 3) rfl
            have c4 := cellB HA1.out (i := 4) rfl
            have c5 := cellB HA1.out (i := 5) rfl
            have c6 := cellB HA1.out (i := 6) rfl
            have c7 := cellB HA1.out (i := 7) rfl
            go_wp2_with fail
            refine (onC_any y m k w d _ (by exact HT1.out) hy1 hy2).mono ?_
            intro e w2 hq; obtain ⟨rfl, hb2⟩ := OnR.to HX.out _ _ hq; clear hq
            have HB2 := Lib.hid (bel_trans HB1.out hb2)
            clear hb2 c0 c1 c2 c3 c4 c5 c6 c7
            go_wp2_with fail
            go_ret
            exact CodeU.of HC.out HB2.out
      · by_cases hlo : sec < -86400
        · have HC := Lib.hid (untC_no (y := y) (m := m) (k := k) (w := w) (d := d) (sec := sec) (base := base) hl1 hl2 (fun h => by have := h.2.2.2.2.2.1; unfold untS at this; rw [if_neg hs] at this; omega))
          subst hz
          go_enter Tryd.func42, Tryd.ntmps42
          go_wp2_with fail
          refine (clock_any sec base _).mono ?_
          intro e w1 hq; obtain ⟨rfl, hb1⟩ := (CodeU.to (W := _) HQ.out) _ _ hq; clear hq
          have HA1 := Lib.hid (block_below HK0.out hb1)
          have HB1 := Lib.hid (bel_trans HB0.out hb1)
          have HT1 := Lib.hid (HT.out.below hb1)
          clear hb1
          have c0 := cellB HA1.out (i := 0) rfl
          have c1 := cellB HA1.out (i := 1) rfl
          have c2 := cellB HA1.out (i := 2) rfl
          have c3 := cellB HA1.out (i := 3) rfl
          have c4 := cellB HA1.out (i := 4) rfl
          have c5 := cellB HA1.out (i := 5) rfl
          have c6 := cellB HA1.out (i := 6) rfl
          have c7 := cellB HA1.out (i := 7) rfl
          go_wp2_with fail
          refine (onC_any y m k w d _ (by exact HT1.out) hy1 hy2).mono ?_
          intro e w2 hq; obtain ⟨rfl, hb2⟩ := OnR.to HX.out _ _ hq; clear hq
          have HB2 := Lib.hid (bel_trans HB1.out hb2)
          clear hb2 c0 c1 c2 c3 c4 c5 c6 c7
          go_wp2_with fail
          go_ret
          exact CodeU.of HC.out HB2.out
        · by_cases hhi : 172800 < sec
          · have HC := Lib.hid (untC_no (y := y) (m := m) (k := k) (w := w) (d := d) (sec := sec) (base := base) hl1 hl2 (fun h => by have := h.2.2.2.2.2.2; unfold untS at this; rw [if_neg hs] at this; omega))
            subst hz
            go_enter Tryd.func42, Tryd.ntmps42
            go_wp2_with fail
            refine (clock_any sec base _).mono ?_
            intro e w1 hq; obtain ⟨rfl, hb1⟩ := (CodeU.to (W := _) HQ.out) _ _ hq; clear hq
            have HA1 := Lib.hid (block_below HK0.out hb1)
            have HB1 := Lib.hid (bel_trans HB0.out hb1)
            have HT1 := Lib.hid (HT.out.below hb1)
            clear hb1
            have c0 := cellB HA1.out (i := 0) rfl
            have c1 := cellB HA1.out (i := 1) rfl
            have c2 := cellB HA1.out (i := 2) rfl
            have c3 := cellB HA1.out (i := 3) rfl
            have c4 := cellB HA1.out (i := 4) rfl
            have c5 := cellB HA1.out (i := 5) rfl
            have c6 := cellB HA1.out (i := 6) rfl
            have c7 := cellB HA1.out (i := 7) rfl
            go_wp2_with fail
            refine (onC_any y m k w d _ (by exact HT1.out) hy1 hy2).mono ?_
            intro e w2 hq; obtain ⟨rfl, hb2⟩ := OnR.to HX.out _ _ hq; clear hq
            have HB2 := Lib.hid (bel_trans HB1.out hb2)
            clear hb2 c0 c1 c2 c3 c4 c5 c6 c7
            go_wp2_with fail
            go_ret
            exact CodeU.of HC.out HB2.out
          · have HC := Lib.hid (untC_yes (y := y) (m := m) (k := k) (w := w) (d := d) (sec := sec) (base := base) hl1 hl2 ⟨h1', h2', b1, b2, by rw [HX.out]; exact hz, by unfold untS; rw [if_neg hs]; omega, by unfold untS; rw [if_neg hs]; omega⟩)
            subst hz
            go_enter Tryd.func42, Tryd.ntmps42
            go_wp2_with fail
            refine (clock_any sec base _).mono ?_
            intro e w1 hq; obtain ⟨rfl, hb1⟩ := (CodeU.to (W := _) HQ.out) _ _ hq; clear hq
            have HA1 := Lib.hid (block_below HK0.out hb1)
            have HB1 := Lib.hid (bel_trans HB0.out hb1)
            have HT1 := Lib.hid (HT.out.below hb1)
            clear hb1
            have c0 := cellB HA1.out (i := 0) rfl
            have c1 := cellB HA1.out (i := 1) rfl
            have c2 := cellB HA1.out (i := 2) rfl
            have c3 := cellB HA1.out (i := 3) rfl
            have c4 := cellB HA1.out (i := 4) rfl
            have c5 := cellB HA1.out (i := 5) rfl
            have c6 := cellB HA1.out (i := 6) rfl
            have c7 := cellB HA1.out (i := 7) rfl
            go_wp2_with fail
            refine (onC_any y m k w d _ (by exact HT1.out) hy1 hy2).mono ?_
            intro e w2 hq; obtain ⟨rfl, hb2⟩ := OnR.to HX.out _ _ hq; clear hq
            have HB2 := Lib.hid (bel_trans HB1.out hb2)
            clear hb2 c0 c1 c2 c3 c4 c5 c6 c7
            go_wp2_with fail
            go_ret
            exact CodeU.of HC.out HB2.out
    · have HC := Lib.hid (untC_no (y := y) (m := m) (k := k) (w := w) (d := d) (sec := sec) (base := base) hl1 hl2 (fun h => by have := h.2.2.2.2.1; rw [HX.out] at this; exact hz this))
      have hzb : (c == 0) = false := by simp [hz]
      by_cases hs : base = 1
      · subst hs
        go_enter Tryd.func42, Tryd.ntmps42
        go_wp2_with fail
        refine (clock_any sec 1 _).mono ?_
        intro e w1 hq; obtain ⟨rfl, hb1⟩ := (CodeU.to (W := _) HQ.out) _ _ hq; clear hq
        have HA1 := Lib.hid (block_below HK0.out hb1)
        have HB1 := Lib.hid (bel_trans HB0.out hb1)
        have HT1 := Lib.hid (HT.out.below hb1)
        clear hb1
        have c0 := cellB HA1.out (i := 0) rfl
        have c1 := cellB HA1.out (i := 1) rfl
        have c2 := cellB HA1.out (i := 2) rfl
        have c3 := cellB HA1.out (i := 3) rfl
        have c4 := cellB HA1.out (i := 4) rfl
        have c5 := cellB HA1.out (i := 5) rfl
        have c6 := cellB HA1.out (i := 6) rfl
        have c7 := cellB HA1.out (i := 7) rfl
        go_wp2_with fail
        refine (onC_any y m k w d _ (by exact HT1.out) hy1 hy2).mono ?_
        intro e w2 hq; obtain ⟨rfl, hb2⟩ := OnR.to HX.out _ _ hq; clear hq
        have HB2 := Lib.hid (bel_trans HB1.out hb2)
        clear hb2 c0 c1 c2 c3 c4 c5 c6 c7
        go_wp2_with fail
        go_ret
        exact CodeU.of HC.out HB2.out
      · go_enter Tryd.func42, Tryd.ntmps42
        go_wp2_with fail
        refine (clock_any sec base _).mono ?_
        intro e w1 hq; obtain ⟨rfl, hb1⟩ := (CodeU.to (W := _) HQ.out) _ _ hq; clear hq
        have HA1 := Lib.hid (block_below HK0.out hb1)
        have HB1 := Lib.hid (bel_trans HB0.out hb1)
        have HT1 := Lib.hid (HT.out.below hb1)
        clear hb1
        have c0 := cellB HA1.out (i := 0) rfl
        have c1 := cellB HA1.out (i := 1) rfl
        have c2 := cellB HA1.out (i := 2) rfl
        have c3 := cellB HA1.out (i := 3) rfl
        have c4 := cellB HA1.out (i := 4) rfl
        have c5 := cellB HA1.out (i := 5) rfl
        have c6 := cellB HA1.out (i := 6) rfl
        have c7 := cellB HA1.out (i := 7) rfl
        go_wp2_with fail
        refine (onC_any y m k w d _ (by exact HT1.out) hy1 hy2).mono ?_
        intro e w2 hq; obtain ⟨rfl, hb2⟩ := OnR.to HX.out _ _ hq; clear hq
        have HB2 := Lib.hid (bel_trans HB1.out hb2)
        clear hb2 c0 c1 c2 c3 c4 c5 c6 c7
        go_wp2_with fail
        go_ret
        exact CodeU.of HC.out HB2.out
  · have HQ := Lib.hid (clkC_no hc)
    have HC := Lib.hid (untC_no (y := y) (m := m) (k := k) (w := w) (d := d) (sec := sec) (base := base) hl1 hl2 (fun h => hc (by have h3 := h.2.2.1; have h4 := h.2.2.2.1; have h5 := h.2.2.2.2.2.1; have h6 := h.2.2.2.2.2.2; unfold untS at h5 h6; unfold clk; split at h5 <;> simp_all <;> omega)))
    clear hc
    go_enter Tryd.func42, Tryd.ntmps42
    go_wp2_with fail
    refine (clock_any sec base _).mono ?_
    intro e w1 hq; obtain ⟨rfl, hb1⟩ := (CodeU.to (W := _) HQ.out) _ _ hq; clear hq
    have HB1 := Lib.hid (bel_trans HB0.out hb1)
    clear hb1
    go_wp2_with fail
    go_ret
    exact CodeU.of HC.out HB1.out
end Go.Proofs.YtdppmeeobpbfnaaDoor
namespace Go.Proofs.YtdppmeeobpbfnaaDoor
open Go.RowKit Cv
set_option linter.unusedVariables false
set_option linter.unusedSimpArgs false

end Go.Proofs.YtdppmeeobpbfnaaDoor
namespace Go.Proofs.YtdppmeeobpbfnaaDoor
open Go.RowKit Cv
set_option linter.unusedVariables false
set_option linter.unusedSimpArgs false

namespace Cv
def NomU (is : Bool) (y m k w d sec base least : Int) (W : World) (e : Ending) (w' : World) : Prop := e = .returned (.tuple #[.int .i64 (untN is y m k w d sec base least), .int .i64 (untC is y m k w d sec base least)]) ∧ Below W.heap.size W w'
theorem NomU.of {is : Bool} {y m k w d sec base least a c : Int} {W w' : World} (h1 : untN is y m k w d sec base least = a) (h2 : untC is y m k w d sec base least = c) (hb : Below W.heap.size W w') : NomU is y m k w d sec base least W (.returned (.tuple #[.int .i64 a, .int .i64 c])) w' := by subst h1 h2; exact ⟨rfl, hb⟩
theorem NomU.to {is : Bool} {y m k w d sec base least a c : Int} {W : World} (h1 : untN is y m k w d sec base least = a) (h2 : untC is y m k w d sec base least = c) : ∀ e w', NomU is y m k w d sec base least W e w' → e = .returned (.tuple #[.int .i64 a, .int .i64 c]) ∧ Below W.heap.size W w' := by subst h1 h2; rintro e w' ⟨rfl, hb⟩; exact ⟨rfl, hb⟩
theorem untN_no {is : Bool} {y m k w d sec base least : Int} (h : untC is y m k w d sec base least ≠ 0) : untN is y m k w d sec base least = 0 := by unfold untN; rw [if_neg h]
theorem untN_std {is : Bool} {y m k w d sec least x c : Int} (h : untC is y m k w d sec 1 least = 0) (hx : on y m k w d = (x, c)) : untN is y m k w d sec 1 least = 86400 * x + sec + least := by unfold untN untS; rw [if_pos h, if_pos rfl, hx]; omega
theorem untN_not {is : Bool} {y m k w d sec base least x c : Int} (hb : base ≠ 1) (h : untC is y m k w d sec base least = 0) (hx : on y m k w d = (x, c)) : untN is y m k w d sec base least = 86400 * x + sec := by unfold untN untS; rw [if_pos h, if_neg hb, hx]
/-- what is known of a right end -/
theorem unt_known {is : Bool} {y m k w d sec base least x c : Int} (h : untC is y m k w d sec base least = 0) (hx : on y m k w d = (x, c)) : is = true ∧ -10800 ≤ least ∧ least ≤ 0 ∧ 1850 ≤ y ∧ y ≤ 2149 ∧ 0 ≤ base ∧ base ≤ 2 ∧ -10000000 ≤ x ∧ x ≤ 10000000 ∧ -100000 ≤ sec ∧ sec ≤ 200000 := by
  obtain ⟨h1, h2, h3, a1, a2, a3, a4, a5, a6, a7⟩ := untC_zero h
  have hb := on_bd a5 a1 a2
  rw [hx] at hb
  dsimp only at hb
  unfold untS at a6 a7
  split at a6 <;> (simp_all; try omega)
end Cv

set_option maxRecDepth 100000 in
set_option maxHeartbeats 2000000 in
theorem untSecs_any (is : Bool) (y m k w d sec base x c : Int) (W : World) (hT : Tabs W) (hy1 : 1850 ≤ y) (hy2 : y ≤ 2149) (HX : Hid (on y m k w d = (x, c))) (x1 : -10000000 ≤ x) (x2 : x ≤ 10000000) (s1 : -100000 ≤ sec) (s2 : sec ≤ 200000) :
    Calls Tryd.prog 37 #[.agg #[.bool is, .int .i64 y, .int .i64 m, .int .i64 k, .int .i64 w, .int .i64 d, .int .i64 sec, .int .i64 base]] W fun e w' => e = .returned (.int .i64 (86400 * x + sec)) ∧ Below W.heap.size W w' := by
  have HB0 := Lib.hid (bel_alloc W (.cells #[.bool is, .int .i64 y, .int .i64 m, .int .i64 k, .int .i64 w, .int .i64 d, .int .i64 sec, .int .i64 base] 58))
  have HK0 := Lib.hid (heap_alloc_new W (.cells #[.bool is, .int .i64 y, .int .i64 m, .int .i64 k, .int .i64 w, .int .i64 d, .int .i64 sec, .int .i64 base] 58))
  have HT := Lib.hid (hT.alloc (.cells #[.bool is, .int .i64 y, .int .i64 m, .int .i64 k, .int .i64 w, .int .i64 d, .int .i64 sec, .int .i64 base] 58))
  clear hT
  go_enter Tryd.func37, Tryd.ntmps37
  go_wp2_with fail
  refine (onC_any y m k w d _ (by exact HT.out) (by omega) (by omega)).mono ?_
  intro e w2 hq; obtain ⟨rfl, hb2⟩ := OnR.to HX.out _ _ hq; clear hq
  have HB2 := Lib.hid (bel_trans HB0.out hb2)
  have HA2 := Lib.hid (block_below HK0.out hb2)
  clear hb2
  have c0 := cellB HA2.out (i := 0) rfl
  have c1 := cellB HA2.out (i := 1) rfl
  have c2 := cellB HA2.out (i := 2) rfl
  have c3 := cellB HA2.out (i := 3) rfl
  have c4 := cellB HA2.out (i := 4) rfl
  have c5 := cellB HA2.out (i := 5) rfl
  have c6 := cellB HA2.out (i := 6) rfl
  have c7 := cellB HA2.out (i := 7) rfl
  go_wp2_with fail
  go_ret
  exact ⟨ret_i64 (by omega), HB2.out⟩

set_option maxRecDepth 100000 in
set_option maxHeartbeats 2000000 in
theorem untNom_any (is : Bool) (y m k w d sec base least : Int) (W : World) (hT : Tabs W) (hy1 : -9223372036854775808 ≤ y) (hy2 : y ≤ 9223372036854775807) :
    Calls Tryd.prog 34 #[.agg #[.bool is, .int .i64 y, .int .i64 m, .int .i64 k, .int .i64 w, .int .i64 d, .int .i64 sec, .int .i64 base], .int .i64 least] W (NomU is y m k w d sec base least W) := by
  have HB0 := Lib.hid (bel_alloc W (.cells #[.bool is, .int .i64 y, .int .i64 m, .int .i64 k, .int .i64 w, .int .i64 d, .int .i64 sec, .int .i64 base] 58))
  have HK0 := Lib.hid (heap_alloc_new W (.cells #[.bool is, .int .i64 y, .int .i64 m, .int .i64 k, .int .i64 w, .int .i64 d, .int .i64 sec, .int .i64 base] 58))
  have HT := Lib.hid (hT.alloc (.cells #[.bool is, .int .i64 y, .int .i64 m, .int .i64 k, .int .i64 w, .int .i64 d, .int .i64 sec, .int .i64 base] 58))
  clear hT
  obtain ⟨x, c, hx⟩ : ∃ x c, on y m k w d = (x, c) := ⟨_, _, rfl⟩
  obtain ⟨q, hq⟩ : ∃ q, untC is y m k w d sec base least = q := ⟨_, rfl⟩
  by_cases hz : q = 0
  · subst hz
    obtain ⟨rfl, l1, l2, y1, y2, b1, b2, x1, x2, s1, s2⟩ := unt_known hq hx
    have HX := Lib.hid hx
    by_cases hs : base = 1
    · subst hs
      have HN := Lib.hid (untN_std hq hx)
      have HQ := Lib.hid hq
      clear hx hq
      go_enter Tryd.func34, Tryd.ntmps34
      go_wp2_with fail
      refine (untCheck_any true y m k w d sec 1 least _ (by exact HT.out) (by omega) (by omega)).mono ?_
      intro e w1 hq; obtain ⟨rfl, hb1⟩ := CodeU.to HQ.out _ _ hq; clear hq
      have HA1 := Lib.hid (block_below HK0.out hb1)
      have HB1 := Lib.hid (bel_trans HB0.out hb1)
      have HT1 := Lib.hid (HT.out.below hb1)
      clear hb1
      have c0 := cellB HA1.out (i := 0) rfl
      have c1 := cellB HA1.out (i := 1) rfl
      have c2 := cellB HA1.out (i := 2) rfl
      have c3 := cellB HA1.out (i := 3) rfl
      have c4 := cellB HA1.out (i := 4) rfl
      have c5 := cellB HA1.out (i := 5) rfl
      have c6 := cellB HA1.out (i := 6) rfl
      have c7 := cellB HA1.out (i := 7) rfl
      go_wp2_with fail
      refine (untSecs_any true y m k w d sec 1 x c _ (by exact HT1.out) y1 y2 HX x1 x2 s1 s2).mono ?_
      intro e w2 hq; obtain ⟨rfl, hb2⟩ := (CodeU.to (W := _) rfl) _ _ hq; clear hq
      have HB2 := Lib.hid (bel_trans HB1.out hb2)
      clear hb2
      go_wp2_with fail
      go_ret2
      exact NomU.of (by rw [HN.out]) HQ.out HB2.out
    · have HN := Lib.hid (untN_not hs hq hx)
      have HQ := Lib.hid hq
      clear hx hq
      go_enter Tryd.func34, Tryd.ntmps34
      go_wp2_with fail
      refine (untCheck_any true y m k w d sec base least _ (by exact HT.out) (by omega) (by omega)).mono ?_
      intro e w1 hq; obtain ⟨rfl, hb1⟩ := CodeU.to HQ.out _ _ hq; clear hq
      have HA1 := Lib.hid (block_below HK0.out hb1)
      have HB1 := Lib.hid (bel_trans HB0.out hb1)
      have HT1 := Lib.hid (HT.out.below hb1)
      clear hb1
      have c0 := cellB HA1.out (i := 0) rfl
      have c1 := cellB HA1.out (i := 1) rfl
      have c2 := cellB HA1.out (i := 2) rfl
      have c3 := cellB HA1.out (i := 3) rfl
      have c4 := cellB HA1.out (i := 4) rfl
      have c5 := cellB HA1.out (i := 5) rfl
      have c6 := cellB HA1.out (i := 6) rfl
      have c7 := cellB HA1.out (i := 7) rfl
      go_wp2_with fail
      refine (untSecs_any true y m k w d sec base x c _ (by exact HT1.out) y1 y2 HX x1 x2 s1 s2).mono ?_
      intro e w2 hq; obtain ⟨rfl, hb2⟩ := (CodeU.to (W := _) rfl) _ _ hq; clear hq
      have HB2 := Lib.hid (bel_trans HB1.out hb2)
      clear hb2
      go_wp2_with fail
      go_ret2
      exact NomU.of (by rw [HN.out]) HQ.out HB2.out
  · have HQ := Lib.hid hq
    have hzb : (q == 0) = false := by simp [hz]
    clear hx hq
    go_enter Tryd.func34, Tryd.ntmps34
    go_wp2_with fail
    refine (untCheck_any is y m k w d sec base least _ (by exact HT.out) hy1 hy2).mono ?_
    intro e w1 hq; obtain ⟨rfl, hb1⟩ := CodeU.to HQ.out _ _ hq; clear hq
    have HA1 := Lib.hid (block_below HK0.out hb1)
    have HB1 := Lib.hid (bel_trans HB0.out hb1)
    clear hb1
    go_wp2_with fail
    go_ret2
    exact NomU.of (untN_no (by rw [HQ.out]; exact hz)) HQ.out HB1.out

end Go.Proofs.YtdppmeeobpbfnaaDoor
