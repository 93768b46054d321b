/-
  Plain arithmetic of sums, differences, products and quotients that may not fit 64 bits. No program in sight.
-/
import Derived.RowKit
import Derived.IntWalk
namespace Go.Proofs.Ytnfnjmpaikchcaa.Ck
open Go.RowKit
set_option linter.unusedVariables false

/-- fits 64 bits -/
def fit (n : Int) : Prop := -9223372036854775808 ≤ n ∧ n ≤ 9223372036854775807
instance (n : Int) : Decidable (fit n) := by unfold fit; exact inferInstance
theorem fit.lo {n : Int} (h : fit n) : -9223372036854775808 ≤ n := h.1
theorem fit.hi {n : Int} (h : fit n) : n ≤ 9223372036854775807 := h.2
theorem wrap_eq (n : Int) : wrap64 n = (n + 9223372036854775808) % 18446744073709551616 - 9223372036854775808 := by unfold wrap64; rfl
theorem wrap_fit (n : Int) : fit (wrap64 n) := by rw [wrap_eq]; unfold fit; omega
theorem wrap_in {n : Int} (h : fit n) : wrap64 n = n := by rw [wrap_eq]; unfold fit at h; omega
theorem not_fit {n : Int} (h : ¬ fit n) : n < -9223372036854775808 ∨ 9223372036854775807 < n := by unfold fit at h; omega

theorem add_ok {a b : Int} (ha : fit a) (hb : fit b) (h : ¬ (a < wrap64 (a + b) ↔ 0 < b)) (h0 : b ≠ 0) : ¬ fit (a + b) := by
  intro hf; rw [wrap_in hf] at h; omega
theorem add_ok2 {a b : Int} (ha : fit a) (hb : fit b) (h : (a < wrap64 (a + b) ↔ 0 < b) ∨ b = 0) : fit (a + b) := by
  rw [wrap_eq] at h; unfold fit at *; omega
theorem sub_ok {a b : Int} (ha : fit a) (hb : fit b) (h : ¬ (wrap64 (a - b) < a ↔ 0 < b)) (h0 : b ≠ 0) : ¬ fit (a - b) := by
  intro hf; rw [wrap_in hf] at h; omega
theorem sub_ok2 {a b : Int} (ha : fit a) (hb : fit b) (h : (wrap64 (a - b) < a ↔ 0 < b) ∨ b = 0) : fit (a - b) := by
  rw [wrap_eq] at h; unfold fit at *; omega

/-- a product that went round is never led back by its factor -/
theorem mul_back {a b : Int} (ha : fit a) (hb : fit b) (h0 : b ≠ 0) (hq : (wrap64 (a * b)).tdiv b = a) (hm : ¬ (b = -1 ∧ a = -9223372036854775808)) : fit (a * b) := by
  have hp := wrap_fit (a * b)
  generalize hg : wrap64 (a * b) = p at *
  obtain ⟨k, hk⟩ : ∃ k : Int, p = a * b + k * 18446744073709551616 := by
    rw [wrap_eq] at hg
    exact ⟨-((a * b + 9223372036854775808) / 18446744073709551616), by omega⟩
  have hd := Int.mul_tdiv_add_tmod p b
  rw [hq, Int.mul_comm b a] at hd
  have hr : p.tmod b = k * 18446744073709551616 := by omega
  have hlt : (p.tmod b).natAbs < b.natAbs := by
    rw [Int.natAbs_tmod]; exact Nat.mod_lt _ (by omega)
  have hb' : b.natAbs ≤ 9223372036854775808 := by unfold fit at hb; omega
  have hk0 : k = 0 := by
    rw [hr, Int.natAbs_mul] at hlt
    have : k.natAbs * 18446744073709551616 < 9223372036854775808 := by
      have e : (18446744073709551616 : Int).natAbs = 18446744073709551616 := rfl
      rw [e] at hlt; omega
    omega
  subst hk0
  simp at hk
  rw [← hk]; exact hp
theorem mul_div {a b : Int} (ha : fit a) (h0 : b ≠ 0) : wrap64 ((a * b).tdiv b) = a := by
  rw [Int.mul_tdiv_cancel _ h0, wrap_in ha]

/-- the quotient, rounded down, and its remainder -/
def dq (a b : Int) : Int := if 0 < b then a / b else (-a) / (-b)
def dr (a b : Int) : Int := if 0 < b then a % b else -((-a) % (-b))
theorem dq_uniq {a b q r : Int} (h0 : b ≠ 0) (h : b * q + r = a) (hp : 0 < b → 0 ≤ r ∧ r < b) (hn : b < 0 → b < r ∧ r ≤ 0) : dq a b = q ∧ dr a b = r := by
  unfold dq dr
  by_cases hb : 0 < b
  · rw [if_pos hb, if_pos hb]
    exact (Int.ediv_emod_unique hb).2 ⟨by omega, (hp hb).1, (hp hb).2⟩
  · rw [if_neg hb, if_neg hb]
    have hb' : b < 0 := by omega
    obtain ⟨e1, e2⟩ := (Int.ediv_emod_unique (a := -a) (b := -b) (r := -r) (q := q) (by omega)).2 ⟨by rw [Int.neg_mul]; omega, by have := hn hb'; omega, by have := hn hb'; omega⟩
    exact ⟨e1, by rw [e2]; omega⟩
theorem dq_dr (a b : Int) (h0 : b ≠ 0) : b * dq a b + dr a b = a := by
  unfold dq dr
  by_cases hb : 0 < b
  · rw [if_pos hb, if_pos hb]; exact Int.mul_ediv_add_emod a b
  · rw [if_neg hb, if_neg hb]
    have := Int.mul_ediv_add_emod (-a) (-b)
    rw [Int.neg_mul] at this; omega
theorem dr_pos (a b : Int) (hb : 0 < b) : 0 ≤ dr a b ∧ dr a b < b := by
  unfold dr; rw [if_pos hb]; exact ⟨Int.emod_nonneg _ (by omega), Int.emod_lt_of_pos _ hb⟩
theorem dr_neg (a b : Int) (hb : b < 0) : b < dr a b ∧ dr a b ≤ 0 := by
  unfold dr; rw [if_neg (by omega)]
  have h1 := Int.emod_nonneg (-a) (b := -b) (by omega)
  have h2 := Int.emod_lt_of_pos (-a) (b := -b) (by omega)
  omega
theorem tdiv_le {a b : Int} (h : (a ≤ 0 ∧ 0 ≤ b) ∨ (0 ≤ a ∧ b ≤ 0)) : a.tdiv b ≤ 0 := by
  rcases h with ⟨h1, h2⟩ | ⟨h1, h2⟩
  · have := Int.tdiv_nonneg (a := -a) (b := b) (by omega) h2
    rw [Int.neg_tdiv] at this; omega
  · exact Int.tdiv_nonpos_of_nonneg_of_nonpos h1 h2
/-- how Go's own quotient and remainder lie -/
theorem tdr (a b : Int) (h0 : b ≠ 0) : b * a.tdiv b + a.tmod b = a ∧ (0 ≤ a → 0 ≤ a.tmod b) ∧ (a ≤ 0 → a.tmod b ≤ 0) ∧ (0 < b → -b < a.tmod b ∧ a.tmod b < b) ∧ (b < 0 → b < a.tmod b ∧ a.tmod b < -b) := by
  refine ⟨Int.mul_tdiv_add_tmod a b, fun h => Int.tmod_nonneg b h, fun h => ?_, fun h => ?_, fun h => ?_⟩
  · have := Int.tmod_nonneg b (a := -a) (by omega)
    rw [Int.neg_tmod] at this; omega
  · have h1 : (a.tmod b).natAbs < b.natAbs := by rw [Int.natAbs_tmod]; exact Nat.mod_lt _ (by omega)
    omega
  · have h1 : (a.tmod b).natAbs < b.natAbs := by rw [Int.natAbs_tmod]; exact Nat.mod_lt _ (by omega)
    omega
theorem dq_same {a b : Int} (h0 : b ≠ 0) (h : a.tmod b = 0 ∨ (a < 0 ↔ b < 0)) : dq a b = a.tdiv b ∧ dr a b = a.tmod b := by
  obtain ⟨h1, h2, h3, h4, h5⟩ := tdr a b h0
  exact dq_uniq h0 h1 (fun hb => by have := h4 hb; omega) (fun hb => by have := h5 hb; omega)
theorem dq_less {a b : Int} (h0 : b ≠ 0) (h : a.tmod b ≠ 0) (h' : ¬ (a < 0 ↔ b < 0)) : dq a b = a.tdiv b - 1 ∧ dr a b = a.tmod b + b := by
  obtain ⟨h1, h2, h3, h4, h5⟩ := tdr a b h0
  exact dq_uniq h0 (by rw [Int.mul_sub]; omega) (fun hb => by have := h4 hb; omega) (fun hb => by have := h5 hb; omega)
theorem dr_fit {a b : Int} (hb : fit b) (h0 : b ≠ 0) : fit (dr a b) := by
  unfold fit at *
  rcases Int.lt_or_gt_of_ne h0 with h | h
  · have := dr_neg a b h; omega
  · have := dr_pos a b h; omega
theorem dq_fit {a b : Int} (ha : fit a) (h0 : b ≠ 0) (h1 : ¬ (b = -1 ∧ a = -9223372036854775808)) : fit (dq a b) := by
  have hd := dq_dr a b h0
  unfold fit at *
  by_cases hb : 0 < b
  · unfold dq; rw [if_pos hb]
    by_cases h : 0 ≤ a
    · have := Int.ediv_nonneg h (by omega : 0 ≤ b)
      have := Int.ediv_le_self b h
      omega
    · have h2 : a ≤ a / b := by
        rw [Int.le_ediv_iff_mul_le hb]
        have := Int.mul_le_mul_of_nonpos_left (a := a) (b := b) (c := 1) (by omega) (by omega)
        omega
      have h3 : a / b < 0 := Int.ediv_neg_of_neg_of_pos (by omega) hb
      omega
  · unfold dq; rw [if_neg hb]
    by_cases h : a ≤ 0
    · have h2 := Int.ediv_nonneg (a := -a) (b := -b) (by omega) (by omega)
      have h3 := Int.ediv_le_self (a := -a) (-b) (by omega)
      by_cases hm : a = -9223372036854775808
      · have hb1 : b ≠ -1 := fun e => h1 ⟨e, hm⟩
        have h4 : (-a) / (-b) < 9223372036854775808 := by
          rw [Int.ediv_lt_iff_lt_mul (by omega)]; omega
        omega
      · omega
    · have h2 : -a ≤ (-a) / (-b) := by
        rw [Int.le_ediv_iff_mul_le (by omega)]
        have := Int.mul_le_mul_of_nonpos_left (a := -a) (b := -b) (c := 1) (by omega) (by omega)
        omega
      have h3 : (-a) / (-b) < 0 := Int.ediv_neg_of_neg_of_pos (by omega) (by omega)
      omega
theorem tdiv_min : wrap64 ((-9223372036854775808 : Int).tdiv (-1)) = -9223372036854775808 := by
  rw [show (-9223372036854775808 : Int).tdiv (-1) = 9223372036854775808 from by decide, wrap_eq]; decide
theorem tdiv_fit {a b : Int} (ha : fit a) (h0 : b ≠ 0) (hx : ¬ (b = -1 ∧ a = -9223372036854775808)) : fit (a.tdiv b) := by
  by_cases hs : a.tmod b = 0 ∨ (a < 0 ↔ b < 0)
  · rw [← (dq_same h0 hs).1]; exact dq_fit ha h0 hx
  · obtain ⟨hs1, hs2⟩ := not_or.1 hs
    have := (dq_less h0 hs1 hs2).1
    have h2 := dq_fit ha h0 hx
    have h3 := tdiv_le (a := a) (b := b) (by omega)
    unfold fit at *; omega
theorem mul_back2 {a b : Int} (ha : fit a) (hb : fit b) (hb0 : b ≠ 0) (h8 : wrap64 ((wrap64 (a * b)).tdiv b) = a) (h9 : ¬ (b = -1 ∧ a = -9223372036854775808)) : fit (a * b) := by
  refine mul_back ha hb hb0 ?_ h9
  by_cases hx : b = -1 ∧ wrap64 (a * b) = -9223372036854775808
  · obtain ⟨e1, e2⟩ := hx
    rw [e2, e1, tdiv_min] at h8
    exact (h9 ⟨e1, h8.symm⟩).elim
  · rwa [wrap_in (tdiv_fit (wrap_fit _) hb0 hx)] at h8
end Go.Proofs.Ytnfnjmpaikchcaa.Ck
