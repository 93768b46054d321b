/-
  Ends of eras: the contracts of until.seconds, until.Nominal and the reference's.
-/
import Derived.Test.YtdppmeeobpbfnaaDoorUntRef
namespace Go.Proofs.YtdppmeeobpbfnaaDoor
open Go.RowKit Cv
set_option linter.unusedVariables false
set_option linter.unusedSimpArgs false

namespace Cv
def NomU (is : Bool) (y m k w d sec base least : Int) (W : World) (e : Ending) (w' : World) : Prop := e = .returned (.tuple #[.int .i64 (untN is y m k w d sec base least), .int .i64 (untC is y m k w d sec base least)]) ∧ Below W.heap.size W w'
theorem NomU.of {is : Bool} {y m k w d sec base least a c : Int} {W w' : World} (h1 : untN is y m k w d sec base least = a) (h2 : untC is y m k w d sec base least = c) (hb : Below W.heap.size W w') : NomU is y m k w d sec base least W (.returned (.tuple #[.int .i64 a, .int .i64 c])) w' := by subst h1 h2; exact ⟨rfl, hb⟩
theorem NomU.to {is : Bool} {y m k w d sec base least a c : Int} {W : World} (h1 : untN is y m k w d sec base least = a) (h2 : untC is y m k w d sec base least = c) : ∀ e w', NomU is y m k w d sec base least W e w' → e = .returned (.tuple #[.int .i64 a, .int .i64 c]) ∧ Below W.heap.size W w' := by subst h1 h2; rintro e w' ⟨rfl, hb⟩; exact ⟨rfl, hb⟩
theorem untN_no {is : Bool} {y m k w d sec base least : Int} (h : untC is y m k w d sec base least ≠ 0) : untN is y m k w d sec base least = 0 := by unfold untN; rw [if_neg h]
theorem untN_std {is : Bool} {y m k w d sec least x c : Int} (h : untC is y m k w d sec 1 least = 0) (hx : on y m k w d = (x, c)) : untN is y m k w d sec 1 least = 86400 * x + sec + least := by unfold untN untS; rw [if_pos h, if_pos rfl, hx]; omega
theorem untN_not {is : Bool} {y m k w d sec base least x c : Int} (hb : base ≠ 1) (h : untC is y m k w d sec base least = 0) (hx : on y m k w d = (x, c)) : untN is y m k w d sec base least = 86400 * x + sec := by unfold untN untS; rw [if_pos h, if_neg hb, hx]
/-- what is known of a right end -/
theorem unt_known {is : Bool} {y m k w d sec base least x c : Int} (h : untC is y m k w d sec base least = 0) (hx : on y m k w d = (x, c)) : is = true ∧ -10800 ≤ least ∧ least ≤ 0 ∧ 1850 ≤ y ∧ y ≤ 2149 ∧ 0 ≤ base ∧ base ≤ 2 ∧ -10000000 ≤ x ∧ x ≤ 10000000 ∧ -100000 ≤ sec ∧ sec ≤ 200000 := by
  obtain ⟨h1, h2, h3, a1, a2, a3, a4, a5, a6, a7⟩ := untC_zero h
  have hb := on_bd a5 a1 a2
  rw [hx] at hb
  dsimp only at hb
  unfold untS at a6 a7
  split at a6 <;> (simp_all; try omega)
end Cv

set_option maxRecDepth 100000 in
set_option maxHeartbeats 2000000 in
theorem untSecs_any (is : Bool) (y m k w d sec base x c : Int) (W : World) (hT : Tabs W) (hy1 : 1850 ≤ y) (hy2 : y ≤ 2149) (HX : Hid (on y m k w d = (x, c))) (x1 : -10000000 ≤ x) (x2 : x ≤ 10000000) (s1 : -100000 ≤ sec) (s2 : sec ≤ 200000) :
    Calls Tryd.prog 37 #[.agg #[.bool is, .int .i64 y, .int .i64 m, .int .i64 k, .int .i64 w, .int .i64 d, .int .i64 sec, .int .i64 base]] W fun e w' => e = .returned (.int .i64 (86400 * x + sec)) ∧ Below W.heap.size W w' := by
  have HB0 := Lib.hid (bel_alloc W (.cells #[.bool is, .int .i64 y, .int .i64 m, .int .i64 k, .int .i64 w, .int .i64 d, .int .i64 sec, .int .i64 base] 58))
  have HK0 := Lib.hid (heap_alloc_new W (.cells #[.bool is, .int .i64 y, .int .i64 m, .int .i64 k, .int .i64 w, .int .i64 d, .int .i64 sec, .int .i64 base] 58))
  have HT := Lib.hid (hT.alloc (.cells #[.bool is, .int .i64 y, .int .i64 m, .int .i64 k, .int .i64 w, .int .i64 d, .int .i64 sec, .int .i64 base] 58))
  clear hT
  go_enter Tryd.func37, Tryd.ntmps37
  go_wp2_with fail
  refine (onC_any y m k w d _ (by exact HT.out) (by omega) (by omega)).mono ?_
  intro e w2 hq; obtain ⟨rfl, hb2⟩ := OnR.to HX.out _ _ hq; clear hq
  have HB2 := Lib.hid (bel_trans HB0.out hb2)
  have HA2 := Lib.hid (block_below HK0.out hb2)
  clear hb2
  have c0 := cellB HA2.out (i := 0) rfl
  have c1 := cellB HA2.out (i := 1) rfl
  have c2 := cellB HA2.out (i := 2) rfl
  have c3 := cellB HA2.out (i := 3) rfl
  have c4 := cellB HA2.out (i := 4) rfl
  have c5 := cellB HA2.out (i := 5) rfl
  have c6 := cellB HA2.out (i := 6) rfl
  have c7 := cellB HA2.out (i := 7) rfl
  go_wp2_with fail
  go_ret
  exact ⟨ret_i64 (by omega), HB2.out⟩

set_option maxRecDepth 100000 in
set_option maxHeartbeats 2000000 in
theorem untNom_any (is : Bool) (y m k w d sec base least : Int) (W : World) (hT : Tabs W) (hy1 : -9223372036854775808 ≤ y) (hy2 : y ≤ 9223372036854775807) :
    Calls Tryd.prog 34 #[.agg #[.bool is, .int .i64 y, .int .i64 m, .int .i64 k, .int .i64 w, .int .i64 d, .int .i64 sec, .int .i64 base], .int .i64 least] W (NomU is y m k w d sec base least W) := by
  have HB0 := Lib.hid (bel_alloc W (.cells #[.bool is, .int .i64 y, .int .i64 m, .int .i64 k, .int .i64 w, .int .i64 d, .int .i64 sec, .int .i64 base] 58))
  have HK0 := Lib.hid (heap_alloc_new W (.cells #[.bool is, .int .i64 y, .int .i64 m, .int .i64 k, .int .i64 w, .int .i64 d, .int .i64 sec, .int .i64 base] 58))
  have HT := Lib.hid (hT.alloc (.cells #[.bool is, .int .i64 y, .int .i64 m, .int .i64 k, .int .i64 w, .int .i64 d, .int .i64 sec, .int .i64 base] 58))
  clear hT
  obtain ⟨x, c, hx⟩ : ∃ x c, on y m k w d = (x, c) := ⟨_, _, rfl⟩
  obtain ⟨q, hq⟩ : ∃ q, untC is y m k w d sec base least = q := ⟨_, rfl⟩
  by_cases hz : q = 0
  · subst hz
    obtain ⟨rfl, l1, l2, y1, y2, b1, b2, x1, x2, s1, s2⟩ := unt_known hq hx
    have HX := Lib.hid hx
    by_cases hs : base = 1
    · subst hs
      have HN := Lib.hid (untN_std hq hx)
      have HQ := Lib.hid hq
      clear hx hq
      go_enter Tryd.func34, Tryd.ntmps34
      go_wp2_with fail
      refine (untCheck_any true y m k w d sec 1 least _ (by exact HT.out) (by omega) (by omega)).mono ?_
      intro e w1 hq; obtain ⟨rfl, hb1⟩ := CodeU.to HQ.out _ _ hq; clear hq
      have HA1 := Lib.hid (block_below HK0.out hb1)
      have HB1 := Lib.hid (bel_trans HB0.out hb1)
      have HT1 := Lib.hid (HT.out.below hb1)
      clear hb1
      have c0 := cellB HA1.out (i := 0) rfl
      have c1 := cellB HA1.out (i := 1) rfl
      have c2 := cellB HA1.out (i := 2) rfl
      have c3 := cellB HA1.out (i := 3) rfl
      have c4 := cellB HA1.out (i := 4) rfl
      have c5 := cellB HA1.out (i := 5) rfl
      have c6 := cellB HA1.out (i := 6) rfl
      have c7 := cellB HA1.out (i := 7) rfl
      go_wp2_with fail
      refine (untSecs_any true y m k w d sec 1 x c _ (by exact HT1.out) y1 y2 HX x1 x2 s1 s2).mono ?_
      intro e w2 hq; obtain ⟨rfl, hb2⟩ := (CodeU.to (W := _) rfl) _ _ hq; clear hq
      have HB2 := Lib.hid (bel_trans HB1.out hb2)
      clear hb2
      go_wp2_with fail
      go_ret2
      exact NomU.of (by rw [HN.out]) HQ.out HB2.out
    · have HN := Lib.hid (untN_not hs hq hx)
      have HQ := Lib.hid hq
      clear hx hq
      go_enter Tryd.func34, Tryd.ntmps34
      go_wp2_with fail
      refine (untCheck_any true y m k w d sec base least _ (by exact HT.out) (by omega) (by omega)).mono ?_
      intro e w1 hq; obtain ⟨rfl, hb1⟩ := CodeU.to HQ.out _ _ hq; clear hq
      have HA1 := Lib.hid (block_below HK0.out hb1)
      have HB1 := Lib.hid (bel_trans HB0.out hb1)
      have HT1 := Lib.hid (HT.out.below hb1)
      clear hb1
      have c0 := cellB HA1.out (i := 0) rfl
      have c1 := cellB HA1.out (i := 1) rfl
      have c2 := cellB HA1.out (i := 2) rfl
      have c3 := cellB HA1.out (i := 3) rfl
      have c4 := cellB HA1.out (i := 4) rfl
      have c5 := cellB HA1.out (i := 5) rfl
      have c6 := cellB HA1.out (i := 6) rfl
      have c7 := cellB HA1.out (i := 7) rfl
      go_wp2_with fail
      refine (untSecs_any true y m k w d sec base x c _ (by exact HT1.out) y1 y2 HX x1 x2 s1 s2).mono ?_
      intro e w2 hq; obtain ⟨rfl, hb2⟩ := (CodeU.to (W := _) rfl) _ _ hq; clear hq
      have HB2 := Lib.hid (bel_trans HB1.out hb2)
      clear hb2
      go_wp2_with fail
      go_ret2
      exact NomU.of (by rw [HN.out]) HQ.out HB2.out
  · have HQ := Lib.hid hq
    have hzb : (q == 0) = false := by simp [hz]
    clear hx hq
    go_enter Tryd.func34, Tryd.ntmps34
    go_wp2_with fail
    refine (untCheck_any is y m k w d sec base least _ (by exact HT.out) hy1 hy2).mono ?_
    intro e w1 hq; obtain ⟨rfl, hb1⟩ := CodeU.to HQ.out _ _ hq; clear hq
    have HA1 := Lib.hid (block_below HK0.out hb1)
    have HB1 := Lib.hid (bel_trans HB0.out hb1)
    clear hb1
    go_wp2_with fail
    go_ret2
    exact NomU.of (untN_no (by rw [HQ.out]; exact hz)) HQ.out HB1.out

end Go.Proofs.YtdppmeeobpbfnaaDoor
