/-
  The walk of the law CheckedSteps: it returns true at every two int64s and every uint32.
-/
import Derived.Test.YtnfnjmpaikchcaaChkLaw
namespace Go.Proofs.Ytnfnjmpaikchcaa
open Go.RowKit Ck
set_option linter.unusedVariables false
set_option linter.unusedSimpArgs false

set_option maxRecDepth 100000 in
set_option maxHeartbeats 4000000 in
theorem checkedSteps.checkedSteps_walk (w : World) (a : Int) (wa : (Lit.int .i64 a).wf = true) (b : Int) (wb : (Lit.int .i64 b).wf = true) (c : Int) (wc : (Lit.int .u32 c).wf = true) :
    Calls Try.prog 5 #[.int .i64 a, .int .i64 b, .int .u32 c] w fun e w' => e = .returned (.bool true) ∧ Below w.heap.size w w' := by
  have ha := Lib.hid (fit_of wa)
  have hb := Lib.hid (fit_of wb)
  have hb1 := hb.out.lo; have hb2 := hb.out.hi
  have hc1 : 0 ≤ c ∧ c ≤ 4294967295 := by
    simp only [Lit.wf, IntKind.min, IntKind.max, IntKind.signed, IntKind.bits, Bool.and_eq_true, decide_eq_true_eq] at wc
    simp at wc; omega
  obtain ⟨hc1, hc2⟩ := hc1
  clear wa wb wc
  go_enter Try.func5, Try.ntmps5
  go_upto_if 28 with (go_at_call 12; refine (mul_any _ _ _ ha.out hb.out).mono ?_; intro e w' hq; obtain ⟨x1, ok1, hx1, rfl, rfl⟩ := Two.ex _ _ hq; clear hq)
  go_cut [] (fun w' => w' = w)
  case first =>
    by_cases hlt : b < 9223372036854775807
    · have hb3 : fit (b + 1) := by unfold fit; omega
      have HB3 := Lib.hid hb3; clear hb3
      have hx1f : fit x1 := by
        rcases hx1.out with ⟨h1, rfl, rfl⟩ | ⟨h1, rfl, rfl⟩
        · exact h1
        · decide
      have HX1 := Lib.hid hx1f; clear hx1f
      go_upto_region 5 with (first
        | (go_at_call 12; refine (mul_any _ _ _ ha.out HB3.out).mono ?_; intro e w' hq; obtain ⟨x2, ok2, hx2, rfl, rfl⟩ := Two.ex _ _ hq; clear hq)
        | (go_at_call 9; refine (add_any _ _ _ HX1.out ha.out).mono ?_; intro e w' hq; obtain ⟨x3, ok3, hx3, rfl, rfl⟩ := Two.ex _ _ hq; clear hq))
      have hmul : a * (b + 1) = a * b + a := by rw [Int.mul_add, Int.mul_one]
      rcases hx1.out with ⟨h1, rfl, rfl⟩ | ⟨h1, rfl, rfl⟩
      · by_cases h2 : fit (a * b + a)
        · obtain ⟨rfl, rfl⟩ := hx3.out.ok_true h2
          obtain ⟨rfl, rfl⟩ := hx2.out.ok_true (by rw [hmul]; exact h2)
          have HM := Lib.hid hmul
          clear hmul h1 h2
          go_wp2_with fail
          refine (is_any _ _ _ _ _).mono ?_
          intro e w' hq; obtain ⟨rfl, rfl⟩ := Yes.to_yes ⟨HM.out.symm, rfl⟩ _ _ hq; clear hq
          go_wp2_with fail
          go_meet
          exact rfl
        · obtain ⟨rfl, rfl⟩ := hx3.out.ok_false h2
          obtain ⟨rfl, rfl⟩ := hx2.out.ok_false (by rw [hmul]; exact h2)
          clear hmul h1 h2
          go_wp2_with fail
          go_meet
          exact rfl
      · clear hmul h1
        go_wp2_with fail
        go_meet
        exact rfl
    · go_wp2_with fail
      go_meet
      exact rfl
  case rest =>
    obtain rfl := hcut
    clear hx1
    have hk : fit (c + 1) := by unfold fit; omega
    have HK := Lib.hid hk
    have hk0 : c + 1 ≠ 0 ∧ ¬ (c + 1 = -1 ∧ a = -9223372036854775808) := ⟨by omega, by omega⟩
    have HK0 := Lib.hid hk0
    have hd := dq_dr a (c + 1) (by omega)
    have hr := dr_pos a (c + 1) (by omega)
    have hle : dq a (c + 1) * (c + 1) ≤ a := by rw [Int.mul_comm]; omega
    have hgt : a < (dq a (c + 1) + 1) * (c + 1) := by rw [Int.add_mul, Int.one_mul, Int.mul_comm]; omega
    have HD := Lib.hid (dq_fit ha.out hk0.1 hk0.2)
    clear hd hr hk hk0
    go_wp2_with fail
    refine (div_any _ _ _ ha.out HK.out).mono ?_
    intro e w' hq; obtain ⟨rfl, rfl⟩ := Two.to_yes HK0.out rfl _ _ hq; clear hq
    go_wp2_with fail
    refine (mul_any _ _ _ HD.out HK.out).mono ?_
    rintro e w' ⟨rfl, ⟨h1, rfl⟩ | ⟨h1, rfl⟩⟩
    all_goals
      clear h1
      go_wp2_with fail
      refine (add_any _ _ _ HD.out (by decide)).mono ?_
      rintro e w' ⟨rfl, ⟨h1, rfl⟩ | ⟨h1, rfl⟩⟩
      rotate_left
      have h9 : (dq a (c + 1) == 9223372036854775807) = true := by
        have h2 := HD.out
        rw [beq_iff_eq]; unfold fit at h1 h2; omega
      clear h1
      rotate_left
      have H1 := Lib.hid h1; clear h1
      go_wp2_with fail
      refine (mul_any _ _ _ H1.out HK.out).mono ?_
      rintro e w' ⟨rfl, ⟨h2, rfl⟩ | ⟨h2, rfl⟩⟩
    all_goals
      go_wp2_with fail
      refine (works_any _).mono ?_
      rintro e w1 ⟨rfl, hB⟩
      go_wp2_with fail
      go_ret
      exact ⟨rfl, hB⟩
end Go.Proofs.Ytnfnjmpaikchcaa
