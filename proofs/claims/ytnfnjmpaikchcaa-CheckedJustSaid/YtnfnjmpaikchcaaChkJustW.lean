/-
  The walk of the law CheckedJust: it returns true at every two int64s.
-/
import Derived.Test.YtnfnjmpaikchcaaChkLaw
namespace Go.Proofs.Ytnfnjmpaikchcaa
open Go.RowKit Ck
set_option linter.unusedVariables false
set_option linter.unusedSimpArgs false

set_option maxRecDepth 100000 in
set_option maxHeartbeats 16000000 in
theorem checkedJust.checkedJust_walk (w : World) (a : Int) (wa : (Lit.int .i64 a).wf = true) (b : Int) (wb : (Lit.int .i64 b).wf = true) :
    Calls Try.prog 4 #[.int .i64 a, .int .i64 b] w fun e w' => e = .returned (.bool true) ∧ Below w.heap.size w w' := by
  have ha := Lib.hid (fit_of wa)
  have hb := Lib.hid (fit_of wb)
  have ha1 := ha.out.lo; have ha2 := ha.out.hi; have hb1 := hb.out.lo; have hb2 := hb.out.hi
  clear wa wb
  go_enter Try.func4, Try.ntmps4
  have hor : (∃ t, t = (b != -9223372036854775808)) := ⟨_, rfl⟩
  go_wp2_with fail
  all_goals
    by_cases hf : fit (a + b)
    have h5 := hf.lo
    have h6 := hf.hi
    have HF := Lib.hid hf; clear hf
    go_wp2_with fail
    refine (add_any _ _ _ ha.out hb.out).mono ?_
    intro e w' hq; obtain ⟨rfl, rfl⟩ := Two.to_yes HF.out rfl _ _ hq; clear hq
    go_wp2_with fail
    refine (add_any _ _ _ hb.out ha.out).mono ?_
    intro e w' hq; obtain ⟨rfl, rfl⟩ := Two.to_yes (y := a + b) (by rw [Int.add_comm]; exact HF.out) (Int.add_comm _ _) _ _ hq; clear hq
    rotate_left
    have h5 := not_fit hf
    have HF := Lib.hid hf; clear hf
    go_wp2_with fail
    refine (add_any _ _ _ ha.out hb.out).mono ?_
    intro e w' hq; obtain ⟨rfl, rfl⟩ := Two.to_no HF.out rfl _ _ hq; clear hq
    go_wp2_with fail
    refine (add_any _ _ _ hb.out ha.out).mono ?_
    intro e w' hq; obtain ⟨rfl, rfl⟩ := Two.to_no (by rw [Int.add_comm]; exact HF.out) rfl _ _ hq; clear hq
  all_goals try (exfalso; omega)
  all_goals
    go_wp2_with fail
    refine (mul_any _ _ _ ha.out hb.out).mono ?_
    intro e w' hq; obtain ⟨x3, ok3, hx3, rfl, rfl⟩ := Two.ex _ _ hq; clear hq
    go_wp2_with fail
    refine (mul_any _ _ _ hb.out ha.out).mono ?_
    intro e w' hq; obtain ⟨x4, ok4, hx4, rfl, rfl⟩ := Two.ex _ _ hq; clear hq
    obtain ⟨rfl, rfl⟩ := hx3.out.same hx4.out (by rw [Int.mul_comm]) (Int.mul_comm _ _)
    go_wp2_with fail
    refine (is_any _ _ _ _ _).mono ?_
    intro e w' hq; obtain ⟨rfl, rfl⟩ := Yes.to_yes ⟨rfl, rfl⟩ _ _ hq; clear hq
    go_wp2_with fail
    refine (is_any _ _ _ _ _).mono ?_
    intro e w' hq; obtain ⟨rfl, rfl⟩ := Yes.to_yes ⟨rfl, rfl⟩ _ _ hq; clear hq
    clear hx3 hx4
  go_wp2_with fail
  all_goals
    try
      go_at_call 10
      have hbm : ¬ b = -9223372036854775808 := by first | assumption | (rw [← Ne, ← bne_iff_ne]; assumption)
      have hbn : fit (-b) := by unfold fit; omega
      have HBN := Lib.hid hbn; clear hbn
      have hb9 : -9223372036854775808 < b := by omega
      clear hbm
      refine (sub_any _ _ _ ha.out hb.out).mono ?_
      intro e w' hq; obtain ⟨x5, ok5, hx5, rfl, rfl⟩ := Two.ex _ _ hq; clear hq
      go_wp2_with fail
      refine (add_any _ _ _ ha.out HBN.out).mono ?_
      intro e w' hq; obtain ⟨x6, ok6, hx6, rfl, rfl⟩ := Two.ex _ _ hq; clear hq
      obtain ⟨rfl, rfl⟩ := hx5.out.same hx6.out (by rw [Int.sub_eq_add_neg]) (Int.sub_eq_add_neg)
      go_wp2_with fail
      refine (is_any _ _ _ _ _).mono ?_
      intro e w' hq; obtain ⟨rfl, rfl⟩ := Yes.to_yes ⟨rfl, rfl⟩ _ _ hq; clear hq
      clear hx5 hx6
      go_wp2_with fail
  all_goals
    go_wp2_with fail
    refine (div_any _ _ _ ha.out hb.out).mono ?_
    intro e w' hq; obtain ⟨x7, ok7, hx7, rfl, rfl⟩ := Two.ex _ _ hq; clear hq
    go_wp2_with fail
    refine (mod_any _ _ _ ha.out hb.out).mono ?_
    intro e w' hq; obtain ⟨x8, ok8, hx8, rfl, rfl⟩ := Two.ex _ _ hq; clear hq
    have h7 : ok7 = ((b != 0) && (b != -1 || a != -9223372036854775808)) := by
      rcases hx7.out with ⟨h, _, rfl⟩ | ⟨h, _, rfl⟩
      · symm; simp; omega
      · symm; simp; omega
    have h8 : ok8 = (b != 0) := by
      rcases hx8.out with ⟨h, _, rfl⟩ | ⟨h, _, rfl⟩
      · symm; simpa using h
      · symm; simpa using h
    have hc : ((b != 0) = false ∧ ok7 = false ∧ ok8 = false) ∨ ((b != 0) = true ∧ (b != -1) = true ∧ ok7 = true ∧ ok8 = true) ∨ ((b != 0) = true ∧ (b != -1) = false ∧ (a != -9223372036854775808) = true ∧ ok7 = true ∧ ok8 = true) ∨
        ((b != 0) = true ∧ (b != -1) = false ∧ (a != -9223372036854775808) = false ∧ ok7 = false ∧ ok8 = true) := by
      rw [h7, h8]
      cases (b != 0) <;> cases (b != -1) <;> cases (a != -9223372036854775808) <;> simp
    clear h7 h8 hx7 hx8
    rcases hc with ⟨e1, rfl, rfl⟩ | ⟨e1, e2, rfl, rfl⟩ | ⟨e1, e2, e3, rfl, rfl⟩ | ⟨e1, e2, e3, rfl, rfl⟩
  all_goals
    go_wp2_with fail
    refine (works_any _).mono ?_
    rintro e w1 ⟨rfl, hB⟩
    go_wp2_with fail
    go_ret
    exact ⟨rfl, hB⟩
end Go.Proofs.Ytnfnjmpaikchcaa
