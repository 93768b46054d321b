/-
  The contracts of package dayform's functions.
-/
import Derived.Test.YtdppmeeobpbfnaaDoorDayTab
import Derived.Laws.EntriesVeiled
namespace Go.Proofs.YtdppmeeobpbfnaaDoor
open Go.RowKit Cv
set_option linter.unusedVariables false
set_option linter.unusedSimpArgs false

namespace Cv
/-- a right day form -/
def good (k w d : Int) : Prop := (k = 1 ∧ w = 0 ∧ 1 ≤ d ∧ d ≤ 31) ∨ (k = 2 ∧ 0 ≤ w ∧ w ≤ 6 ∧ d = 0) ∨ ((k = 3 ∨ k = 4) ∧ 0 ≤ w ∧ w ≤ 6 ∧ 1 ≤ d ∧ d ≤ 31)
instance (k w d : Int) : Decidable (good k w d) := by unfold good; exact inferInstance
/-- a form, as a value -/
def form (k w d : Int) : Value := .agg #[.int .i64 k, .int .i64 w, .int .i64 d]
/-- the code of a check -/
def CheckR (p : Prop) (w : World) (e : Ending) (w' : World) : Prop := Below w.heap.size w w' ∧ ((p ∧ e = .returned (.int .i64 0)) ∨ (¬ p ∧ e = .returned (.int .i64 2)))
theorem CheckR.yes {p : Prop} {w w' : World} (n : Below w.heap.size w w') (h : p) : CheckR p w (.returned (.int .i64 0)) w' := ⟨n, .inl ⟨h, rfl⟩⟩
theorem CheckR.no {p : Prop} {w w' : World} (n : Below w.heap.size w w') (h : ¬ p) : CheckR p w (.returned (.int .i64 2)) w' := ⟨n, .inr ⟨h, rfl⟩⟩
/-- the last day up to one with a weekday; the first from one on -/
def bef (x w : Int) : Int := x - ((x + 4) % 7 - w + 7) % 7
def beh (x w : Int) : Int := x + (w - (x + 4) % 7 + 7) % 7
end Cv

set_option maxRecDepth 100000 in
set_option maxHeartbeats 1000000 in
theorem before_any (x w : Int) (W : World) (h1 : -1000000000000 ≤ x) (h2 : x ≤ 1000000000000) (h3 : 0 ≤ w) (h4 : w ≤ 6) :
    Calls Tryd.prog 97 #[.int .i64 x, .int .i64 w] W fun e w' => e = .returned (.int .i64 (bef x w)) ∧ ∃ n, w' = W.drewN n := by
  obtain ⟨v, hv⟩ : ∃ v, v = (x + 4) % 7 := ⟨_, rfl⟩
  have hvb : 0 ≤ v ∧ v ≤ 6 := by omega
  obtain ⟨hv1, hv2⟩ := hvb
  have HB := Lib.hid (show x - (v - w) % 7 = bef x w by unfold bef; rw [hv]; omega)
  have HV := Lib.hid hv.symm
  clear hv
  go_enter Tryd.func97, Tryd.ntmps97
  go_wp2_with fail
  refine (weekday_any x _ (by omega) (by omega)).mono ?_
  intro e w' hq; obtain ⟨rfl, nd, rfl⟩ := wday_to (v := v) HV.out _ _ hq; clear hq
  go_wp2_with fail
  go_ret
  rw [HB.out]
  exact ⟨rfl, _, rfl⟩

set_option maxRecDepth 100000 in
set_option maxHeartbeats 1000000 in
theorem behind_any (x w : Int) (W : World) (h1 : -1000000000000 ≤ x) (h2 : x ≤ 1000000000000) (h3 : 0 ≤ w) (h4 : w ≤ 6) :
    Calls Tryd.prog 99 #[.int .i64 x, .int .i64 w] W fun e w' => e = .returned (.int .i64 (beh x w)) ∧ ∃ n, w' = W.drewN n := by
  obtain ⟨v, hv⟩ : ∃ v, v = (x + 4) % 7 := ⟨_, rfl⟩
  have hvb : 0 ≤ v ∧ v ≤ 6 := by omega
  obtain ⟨hv1, hv2⟩ := hvb
  have HB := Lib.hid (show x + (w - v) % 7 = beh x w by unfold beh; rw [hv]; omega)
  have HV := Lib.hid hv.symm
  clear hv
  go_enter Tryd.func99, Tryd.ntmps99
  go_wp2_with fail
  refine (weekday_any x _ (by omega) (by omega)).mono ?_
  intro e w' hq; obtain ⟨rfl, nd, rfl⟩ := wday_to (v := v) HV.out _ _ hq; clear hq
  go_wp2_with fail
  go_ret
  rw [HB.out]
  exact ⟨rfl, _, rfl⟩

set_option maxRecDepth 100000 in
set_option maxHeartbeats 1000000 in
theorem kinds1_any (a b k w d : Int) (W : World) (h1 : -900000000000 ≤ a) (h2 : a ≤ 900000000000) (h5 : 0 ≤ d) (h6 : d ≤ 31) :
    Calls Tryd.prog 95 #[.int .i64 a, .int .i64 b, form k w d] W fun e w' => e = .returned (.int .i64 (a + d - 1)) ∧ Below W.heap.size W w' := by
  unfold form
  go_enter Tryd.func95, Tryd.ntmps95
  go_wp2_with fail
  go_ret
  exact ⟨rfl, bel_alloc _ _⟩

set_option maxRecDepth 100000 in
set_option maxHeartbeats 1000000 in
theorem kinds2_any (a b k w d : Int) (W : World) (h1 : -900000000000 ≤ b) (h2 : b ≤ 900000000000) (h3 : 0 ≤ w) (h4 : w ≤ 6) :
    Calls Tryd.prog 96 #[.int .i64 a, .int .i64 b, form k w d] W fun e w' => e = .returned (.int .i64 (bef b w)) ∧ Below W.heap.size W w' := by
  unfold form
  go_enter Tryd.func96, Tryd.ntmps96
  go_wp2_with fail
  refine (before_any b w _ (by omega) (by omega) h3 h4).mono ?_
  rintro e w' ⟨rfl, n, rfl⟩
  go_wp2_with fail
  go_ret
  exact ⟨rfl, bel_drew (bel_alloc _ _) _⟩

set_option maxRecDepth 100000 in
set_option maxHeartbeats 1000000 in
theorem kinds3_any (a b k w d : Int) (W : World) (h1 : -900000000000 ≤ a) (h2 : a ≤ 900000000000) (h3 : 0 ≤ w) (h4 : w ≤ 6) (h5 : 0 ≤ d) (h6 : d ≤ 31) :
    Calls Tryd.prog 98 #[.int .i64 a, .int .i64 b, form k w d] W fun e w' => e = .returned (.int .i64 (beh (a + d - 1) w)) ∧ Below W.heap.size W w' := by
  unfold form
  go_enter Tryd.func98, Tryd.ntmps98
  go_wp2_with fail
  refine (behind_any (a + d - 1) w _ (by omega) (by omega) h3 h4).mono ?_
  rintro e w' ⟨rfl, n, rfl⟩
  go_wp2_with fail
  go_ret
  exact ⟨rfl, bel_drew (bel_alloc _ _) _⟩

set_option maxRecDepth 100000 in
set_option maxHeartbeats 1000000 in
theorem kinds4_any (a b k w d : Int) (W : World) (h1 : -900000000000 ≤ a) (h2 : a ≤ 900000000000) (h3 : 0 ≤ w) (h4 : w ≤ 6) (h5 : 0 ≤ d) (h6 : d ≤ 31) :
    Calls Tryd.prog 100 #[.int .i64 a, .int .i64 b, form k w d] W fun e w' => e = .returned (.int .i64 (bef (a + d - 1) w)) ∧ Below W.heap.size W w' := by
  unfold form
  go_enter Tryd.func100, Tryd.ntmps100
  go_wp2_with fail
  refine (before_any (a + d - 1) w _ (by omega) (by omega) h3 h4).mono ?_
  rintro e w' ⟨rfl, n, rfl⟩
  go_wp2_with fail
  go_ret
  exact ⟨rfl, bel_drew (bel_alloc _ _) _⟩

set_option maxRecDepth 100000 in
set_option maxHeartbeats 1000000 in
theorem check_any (k w d : Int) (W : World) (hK : KTab W) : Calls Tryd.prog 54 #[form k w d] W (CheckR (good k w d) W) := by
  have HK := Lib.hid hK
  clear hK
  by_cases hk : 1 ≤ k ∧ k ≤ 4
  · have hkc : k = 1 ∨ k = 2 ∨ k = 3 ∨ k = 4 := by omega
    rcases hkc with rfl | rfl | rfl | rfl
    · have HA := HK.out.alloc (.cells #[.int .i64 1, .int .i64 w, .int .i64 d] 52)
      have c0 := HA.1.1
      have c1 := HA.1.2.1
      have c2 := HA.1.2.2
      clear HA
      unfold form
      go_enter Tryd.func54, Tryd.ntmps54
      go_wp2
      all_goals
        go_ret
        clear c0 c1 c2
        first
        | exact CheckR.no (bel_trans (bel_alloc _ _) (bel_alloc _ _)) (by unfold good; simp_all <;> omega)
        | exact CheckR.yes (bel_trans (bel_alloc _ _) (bel_alloc _ _)) (by unfold good; simp_all <;> omega)
    · have HA := HK.out.alloc (.cells #[.int .i64 2, .int .i64 w, .int .i64 d] 52)
      have c0 := HA.2.1.1
      have c1 := HA.2.1.2.1
      have c2 := HA.2.1.2.2
      clear HA
      unfold form
      go_enter Tryd.func54, Tryd.ntmps54
      go_wp2
      all_goals
        go_ret
        clear c0 c1 c2
        first
        | exact CheckR.no (bel_trans (bel_alloc _ _) (bel_alloc _ _)) (by unfold good; simp_all <;> omega)
        | exact CheckR.yes (bel_trans (bel_alloc _ _) (bel_alloc _ _)) (by unfold good; simp_all <;> omega)
    · have HA := HK.out.alloc (.cells #[.int .i64 3, .int .i64 w, .int .i64 d] 52)
      have c0 := HA.2.2.1.1
      have c1 := HA.2.2.1.2.1
      have c2 := HA.2.2.1.2.2
      clear HA
      unfold form
      go_enter Tryd.func54, Tryd.ntmps54
      go_wp2
      all_goals
        go_ret
        clear c0 c1 c2
        first
        | exact CheckR.no (bel_trans (bel_alloc _ _) (bel_alloc _ _)) (by unfold good; simp_all <;> omega)
        | exact CheckR.yes (bel_trans (bel_alloc _ _) (bel_alloc _ _)) (by unfold good; simp_all <;> omega)
    · have HA := HK.out.alloc (.cells #[.int .i64 4, .int .i64 w, .int .i64 d] 52)
      have c0 := HA.2.2.2.1
      have c1 := HA.2.2.2.2.1
      have c2 := HA.2.2.2.2.2
      clear HA
      unfold form
      go_enter Tryd.func54, Tryd.ntmps54
      go_wp2
      all_goals
        go_ret
        clear c0 c1 c2
        first
        | exact CheckR.no (bel_trans (bel_alloc _ _) (bel_alloc _ _)) (by unfold good; simp_all <;> omega)
        | exact CheckR.yes (bel_trans (bel_alloc _ _) (bel_alloc _ _)) (by unfold good; simp_all <;> omega)
  · have hno : ¬ good k w d := by unfold good; omega
    have HN := Lib.hid hno
    clear hno
    by_cases h1 : k < 1
    · clear hk
      unfold form
      go_enter Tryd.func54, Tryd.ntmps54
      go_wp2_with fail
      go_ret
      exact CheckR.no (bel_alloc _ _) HN.out
    · have h2 : 4 < k := by omega
      clear hk
      unfold form
      go_enter Tryd.func54, Tryd.ntmps54
      go_wp2_with fail
      go_ret
      exact CheckR.no (bel_alloc _ _) HN.out
end Go.Proofs.YtdppmeeobpbfnaaDoor
