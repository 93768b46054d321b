/-
  The contracts of the reference's functions on two numbers (package analemmaref03): they come to the same as package checked's.
-/
import Derived.Test.YtnfnjmpaikchcaaChkLaw
import Derived.Test.YtnfnjmpaikchcaaShelf
import Derived.Deep.QuietTactic
import Derived.BigQuiet
namespace Go.Proofs.Ytnfnjmpaikchcaa
open Go.RowKit Ck
set_option linter.unusedVariables false
set_option linter.unusedSimpArgs false

set_option maxHeartbeats 400000 in
theorem refAdd_any (a b : Int) (w : World) (ha : fit a) (hb : fit b) :
    Calls Try.prog 17 #[.int .i64 a, .int .i64 b] w (Two (fit (a + b)) (a + b) w) := by
  have h1 := ha.lo; have h2 := ha.hi; have h3 := hb.lo; have h4 := hb.hi
  by_cases hf : fit (a + b)
  · have h5 := hf.lo; have h6 := hf.hi
    have HF := Lib.hid hf
    clear ha hb hf
    rcases Int.lt_trichotomy b 0 with h7 | h7 | h7
    · go_enter Try.func17, Try.ntmps17
      go_wp2
      go_ret2
      exact Two.yes HF.out rfl
    · subst h7
      go_enter Try.func17, Try.ntmps17
      go_wp2
      go_ret2
      exact Two.yes HF.out (by simp)
    · go_enter Try.func17, Try.ntmps17
      go_wp2
      go_ret2
      exact Two.yes HF.out rfl
  · have h5 := not_fit hf
    have HF := Lib.hid hf
    clear ha hb hf
    rcases h5 with h5 | h5
    · have h7 : b < 0 := by omega
      go_enter Try.func17, Try.ntmps17
      go_wp2
      go_ret2
      exact Two.no HF.out
    · have h7 : 0 < b := by omega
      go_enter Try.func17, Try.ntmps17
      go_wp2
      go_ret2
      exact Two.no HF.out

set_option maxHeartbeats 400000 in
theorem refSub_any (a b : Int) (w : World) (ha : fit a) (hb : fit b) :
    Calls Try.prog 18 #[.int .i64 a, .int .i64 b] w (Two (fit (a - b)) (a - b) w) := by
  have h1 := ha.lo; have h2 := ha.hi; have h3 := hb.lo; have h4 := hb.hi
  by_cases hf : fit (a - b)
  · have h5 := hf.lo; have h6 := hf.hi
    have HF := Lib.hid hf
    clear ha hb hf
    rcases Int.lt_trichotomy b 0 with h7 | h7 | h7
    · go_enter Try.func18, Try.ntmps18
      go_wp2
      go_ret2
      exact Two.yes HF.out rfl
    · subst h7
      go_enter Try.func18, Try.ntmps18
      go_wp2
      go_ret2
      exact Two.yes HF.out (by simp)
    · go_enter Try.func18, Try.ntmps18
      go_wp2
      go_ret2
      exact Two.yes HF.out rfl
  · have h5 := not_fit hf
    have HF := Lib.hid hf
    clear ha hb hf
    rcases h5 with h5 | h5
    · have h7 : 0 < b := by omega
      go_enter Try.func18, Try.ntmps18
      go_wp2
      go_ret2
      exact Two.no HF.out
    · have h7 : b < 0 := by omega
      go_enter Try.func18, Try.ntmps18
      go_wp2
      go_ret2
      exact Two.no HF.out

set_option maxHeartbeats 400000 in
theorem size_any (a : Int) (w : World) (ha : fit a) :
    Calls Try.prog 27 #[.int .i64 a] w fun e w' => e = .returned (.int .u64 (a.natAbs : Int)) ∧ w' = w := by
  have h1 := ha.lo; have h2 := ha.hi
  clear ha
  by_cases h : 0 ≤ a
  · have hn : (a.natAbs : Int) = a := by omega
    rw [hn]
    clear hn
    go_enter Try.func27, Try.ntmps27
    go_wp2
    go_ret
    exact ⟨rfl, rfl⟩
  · have hn : (a.natAbs : Int) = -(a + 1) + 1 := by omega
    rw [hn]
    clear hn
    go_enter Try.func27, Try.ntmps27
    go_wp2
    go_ret
    exact ⟨rfl, rfl⟩

theorem mul64_any (x y : Nat) (hx : x ≤ 9223372036854775808) (hy : y ≤ 9223372036854775808) (w : World) :
    Calls Try.prog 26 #[.int .u64 x, .int .u64 y] w fun e w' => ∃ h l : Nat, Hid (x * y = h * 18446744073709551616 + l ∧ l < 18446744073709551616) ∧ e = .returned (.tuple #[.int .u64 (h : Int), .int .u64 (l : Int)]) ∧ w' = w :=
  (Try.bits_Mul64 x y (by omega) (by omega) w).mono fun e w' ⟨he, hw⟩ => ⟨_, _, ⟨by omega, Nat.mod_lt _ (by omega)⟩, he, hw⟩

set_option maxHeartbeats 400000 in
theorem refMul_any (a b : Int) (w : World) (ha : fit a) (hb : fit b) :
    Calls Try.prog 19 #[.int .i64 a, .int .i64 b] w (Two (fit (a * b)) (a * b) w) := by
  have h1 := ha.lo; have h2 := ha.hi; have h3 := hb.lo; have h4 := hb.hi
  have Ha := Lib.hid ha; have Hb := Lib.hid hb
  clear ha hb
  have hna : a.natAbs ≤ 9223372036854775808 := by omega
  have hnb : b.natAbs ≤ 9223372036854775808 := by omega
  have HA := Lib.hid hna; have HB := Lib.hid hnb
  clear hna hnb
  have hs : (((decide (a < 0) == decide (b < 0)) = true ∧ a * b = ((a.natAbs * b.natAbs : Nat) : Int)) ∨ ((decide (a < 0) == decide (b < 0)) = false ∧ a * b = -((a.natAbs * b.natAbs : Nat) : Int))) := by
    rw [Int.natCast_mul]
    by_cases ha : a < 0 <;> by_cases hb : b < 0
    · left; refine ⟨by simp [ha, hb], ?_⟩
      rw [show (a.natAbs : Int) = -a from by omega, show (b.natAbs : Int) = -b from by omega, Int.neg_mul_neg]
    · right; refine ⟨by simp [ha, hb], ?_⟩
      rw [show (a.natAbs : Int) = -a from by omega, show (b.natAbs : Int) = b from by omega, Int.neg_mul, Int.neg_neg]
    · right; refine ⟨by simp [ha, hb], ?_⟩
      rw [show (a.natAbs : Int) = a from by omega, show (b.natAbs : Int) = -b from by omega, Int.mul_neg, Int.neg_neg]
    · left; refine ⟨by simp [ha, hb], ?_⟩
      rw [show (a.natAbs : Int) = a from by omega, show (b.natAbs : Int) = b from by omega]
  rcases hs with ⟨s1, s2⟩ | ⟨s1, s2⟩
  · have S2 := Lib.hid s2; clear s2
    go_enter Try.func19, Try.ntmps19
    go_wp2_with fail
    refine (size_any _ _ Ha.out).mono ?_
    rintro e w' ⟨rfl, rfl⟩
    go_wp2_with fail
    refine (size_any _ _ Hb.out).mono ?_
    rintro e w' ⟨rfl, rfl⟩
    go_wp2_with fail
    refine (mul64_any _ _ HA.out HB.out _).mono ?_
    rintro e w' ⟨h, l, hl, rfl, rfl⟩
    go_wp2_with fail
    · have e1 : h = 0 := by assumption
      have e2 : 9223372036854775807 < (l : Int) := by assumption
      go_ret2
      have hl := hl.out
      exact Two.no (fun hf => by rw [S2.out] at hf; unfold fit at hf; omega)
    · have e1 : h = 0 := by assumption
      have e2 : (l : Int) ≤ 9223372036854775807 := by assumption
      go_ret2
      have hl := hl.out
      have e3 : a * b = l := by rw [S2.out]; omega
      exact Two.yes (by rw [e3]; unfold fit; omega) e3.symm
    · have e1 : ¬ h = 0 := by assumption
      go_ret2
      have hl := hl.out
      exact Two.no (fun hf => by rw [S2.out] at hf; unfold fit at hf; omega)
  · have S2 := Lib.hid s2; clear s2
    go_enter Try.func19, Try.ntmps19
    go_wp2_with fail
    refine (size_any _ _ Ha.out).mono ?_
    rintro e w' ⟨rfl, rfl⟩
    go_wp2_with fail
    refine (size_any _ _ Hb.out).mono ?_
    rintro e w' ⟨rfl, rfl⟩
    go_wp2_with fail
    refine (mul64_any _ _ HA.out HB.out _).mono ?_
    rintro e w' ⟨h, l, hl, rfl, rfl⟩
    rcases (show l = 0 ∨ 1 ≤ (l : Int) from by omega) with h5 | h5
    · subst h5
      go_wp2_with fail
      · have e1 : h = 0 := by assumption
        go_ret2
        have hl := hl.out
        have e3 : a * b = 0 := by rw [S2.out]; omega
        exact Two.yes (by rw [e3]; decide) e3.symm
      · have e1 : ¬ h = 0 := by assumption
        go_ret2
        have hl := hl.out
        exact Two.no (fun hf => by rw [S2.out] at hf; unfold fit at hf; omega)
    · go_wp2_with fail
      · have e1 : h = 0 := by assumption
        have e2 : 9223372036854775808 < (l : Int) := by assumption
        go_ret2
        have hl := hl.out
        exact Two.no (fun hf => by rw [S2.out] at hf; unfold fit at hf; omega)
      · have e1 : h = 0 := by assumption
        have e2 : (l : Int) ≤ 9223372036854775808 := by assumption
        go_ret2
        have hl := hl.out
        have e3 : a * b = -(l : Int) := by rw [S2.out]; omega
        exact Two.yes (by rw [e3]; unfold fit; omega) (by rw [e3]; omega)
      · have e1 : ¬ h = 0 := by assumption
        go_ret2
        have hl := hl.out
        exact Two.no (fun hf => by rw [S2.out] at hf; unfold fit at hf; omega)

set_option maxHeartbeats 400000 in
theorem parts_any (a b : Int) (w : World) (ha : fit a) (hb : fit b) (h0 : b ≠ 0) :
    Calls Try.prog 28 #[.int .i64 a, .int .i64 b] w fun e w' => e = .returned (.tuple #[.int .u64 ((a.natAbs / b.natAbs : Nat) : Int), .int .u64 ((a.natAbs % b.natAbs : Nat) : Int)]) ∧ ∃ n, w' = w.drewN n := by
  have Ha := Lib.hid ha; have Hb := Lib.hid hb
  have hz : 1 ≤ (b.natAbs : Int) := by omega
  have hz2 : ((b.natAbs : Int) == 0) = false := by simp; omega
  clear ha hb h0
  go_enter Try.func28, Try.ntmps28
  go_wp2_with fail
  go_quiet ((first | (go_at_call 27; exact Calls.quiet_of_same (size_any _ _ Ha.out)) | (go_at_call 27; exact Calls.quiet_of_same (size_any _ _ Hb.out))))
  go_wp2
  go_ret2
  have hq : 0 ≤ (a.natAbs : Int) / (b.natAbs : Int) ∧ (a.natAbs : Int) / (b.natAbs : Int) ≤ a.natAbs := ⟨Int.ediv_nonneg (by omega) (by omega), Int.ediv_le_self _ (by omega)⟩
  have ha := Ha.out
  exact ⟨by simp; exact IntWalk.u64_in _ (by unfold fit at ha; omega), _, rfl⟩

namespace Ck
/-- the quotient and the remainder of sizes, and the numbers' own -/
theorem parts_same {a b : Int} (h0 : b ≠ 0) (hs : a < 0 ↔ b < 0) : dq a b = ((a.natAbs / b.natAbs : Nat) : Int) ∧ dr a b = (if b < 0 then -((a.natAbs % b.natAbs : Nat) : Int) else ((a.natAbs % b.natAbs : Nat) : Int)) := by
  have hm := Nat.div_add_mod a.natAbs b.natAbs
  have hl : a.natAbs % b.natAbs < b.natAbs := Nat.mod_lt _ (by omega)
  have hm' : (b.natAbs : Int) * ((a.natAbs / b.natAbs : Nat) : Int) + ((a.natAbs % b.natAbs : Nat) : Int) = (a.natAbs : Int) := by exact_mod_cast hm
  generalize a.natAbs / b.natAbs = q at *
  generalize a.natAbs % b.natAbs = r at *
  refine dq_uniq h0 ?_ (fun h => by rw [if_neg (by omega)]; omega) (fun h => by rw [if_pos h]; omega)
  by_cases hb : b < 0
  · rw [if_pos hb]
    rw [show (b.natAbs : Int) = -b from by omega, Int.neg_mul, show (a.natAbs : Int) = -a from by omega] at hm'
    omega
  · rw [if_neg hb]
    rw [show (b.natAbs : Int) = b from by omega, show (a.natAbs : Int) = a from by omega] at hm'
    omega
theorem parts_other {a b : Int} (h0 : b ≠ 0) (hs : ¬ (a < 0 ↔ b < 0)) :
    (a.natAbs % b.natAbs = 0 ∧ dq a b = -((a.natAbs / b.natAbs : Nat) : Int) ∧ dr a b = 0) ∨
    (0 < a.natAbs % b.natAbs ∧ dq a b = -((a.natAbs / b.natAbs : Nat) : Int) - 1 ∧ dr a b = (if b < 0 then -((b.natAbs : Int) - ((a.natAbs % b.natAbs : Nat) : Int)) else (b.natAbs : Int) - ((a.natAbs % b.natAbs : Nat) : Int))) := by
  have hm := Nat.div_add_mod a.natAbs b.natAbs
  have hl : a.natAbs % b.natAbs < b.natAbs := Nat.mod_lt _ (by omega)
  have hm' : (b.natAbs : Int) * ((a.natAbs / b.natAbs : Nat) : Int) + ((a.natAbs % b.natAbs : Nat) : Int) = (a.natAbs : Int) := by exact_mod_cast hm
  generalize a.natAbs / b.natAbs = q at *
  generalize a.natAbs % b.natAbs = r at *
  by_cases hr : r = 0
  · left
    refine ⟨hr, ?_⟩
    refine dq_uniq h0 ?_ (fun h => by omega) (fun h => by omega)
    by_cases hb : b < 0
    · rw [show (b.natAbs : Int) = -b from by omega, Int.neg_mul, show (a.natAbs : Int) = a from by omega] at hm'
      rw [Int.mul_neg]; omega
    · rw [show (b.natAbs : Int) = b from by omega, show (a.natAbs : Int) = -a from by omega] at hm'
      rw [Int.mul_neg]; omega
  · right
    refine ⟨by omega, ?_⟩
    refine dq_uniq h0 ?_ (fun h => by rw [if_neg (by omega)]; omega) (fun h => by rw [if_pos h]; omega)
    rw [Int.mul_sub, Int.mul_neg, Int.mul_one]
    by_cases hb : b < 0
    · rw [if_pos hb]
      rw [show (b.natAbs : Int) = -b from by omega, Int.neg_mul, show (a.natAbs : Int) = a from by omega] at hm'
      omega
    · rw [if_neg hb]
      rw [show (b.natAbs : Int) = b from by omega, show (a.natAbs : Int) = -a from by omega] at hm'
      omega
/-- a result that fits, or 0 and false, behind draws alone -/
def TwoD (p : Prop) (x : Int) (w : World) (e : Ending) (w' : World) : Prop :=
  (∃ n, w' = w.drewN n) ∧ ((p ∧ e = .returned (.tuple #[.int .i64 x, .bool true])) ∨ (¬ p ∧ e = .returned (.tuple #[.int .i64 0, .bool false])))
theorem TwoD.yes {p : Prop} {x y : Int} {w : World} (n : Nat) (h : p) (hx : y = x) : TwoD p x w (.returned (.tuple #[.int .i64 y, .bool true])) (w.drewN n) := by
  subst hx; exact ⟨⟨n, rfl⟩, .inl ⟨h, rfl⟩⟩
theorem TwoD.no {p : Prop} {x : Int} {w : World} (n : Nat) (h : ¬ p) : TwoD p x w (.returned (.tuple #[.int .i64 0, .bool false])) (w.drewN n) := ⟨⟨n, rfl⟩, .inr ⟨h, rfl⟩⟩
end Ck

set_option maxRecDepth 100000 in
set_option maxHeartbeats 1000000 in
theorem refDiv_any (a b : Int) (w : World) (ha : fit a) (hb : fit b) :
    Calls Try.prog 20 #[.int .i64 a, .int .i64 b] w (TwoD (b ≠ 0 ∧ ¬ (b = -1 ∧ a = -9223372036854775808)) (dq a b) w) := by
  have h1 := ha.lo; have h2 := ha.hi; have h3 := hb.lo; have h4 := hb.hi
  have Ha := Lib.hid ha; have Hb := Lib.hid hb
  clear ha hb
  by_cases h5 : b = 0
  · have h6 : (b == 0) = true := by simpa using h5
    have H5 := Lib.hid h5
    clear h5
    go_enter Try.func20, Try.ntmps20
    go_wp2
    go_ret2
    exact TwoD.no 0 (fun h => h.1 H5.out)
  · have h6 : (b == 0) = false := by simpa using h5
    have H5 := Lib.hid h5
    have hqf : (b ≠ 0 ∧ ¬ (b = -1 ∧ a = -9223372036854775808)) → fit (dq a b) := fun h => dq_fit Ha.out h.1 h.2
    have hov : (b = -1 ∧ a = -9223372036854775808) → dq a b = 9223372036854775808 := fun ⟨e1, e2⟩ => by rw [e1, e2]; decide
    obtain ⟨q, hq⟩ : ∃ q, q = a.natAbs / b.natAbs := ⟨_, rfl⟩
    obtain ⟨r, hr⟩ : ∃ r, r = a.natAbs % b.natAbs := ⟨_, rfl⟩
    have hp := parts_any a b w Ha.out Hb.out h5
    rw [← hq, ← hr] at hp
    have HP := Lib.hid hp
    have hqb : q ≤ 9223372036854775808 := by rw [hq]; exact Nat.le_trans (Nat.div_le_self _ _) (by omega)
    have HQF := Lib.hid hqf; have HOV := Lib.hid hov
    clear hp hqf hov
    by_cases hs : a < 0 ↔ b < 0
    · have hd := (parts_same h5 hs).1
      rw [← hq] at hd
      have h7 : (decide (a < 0) == decide (b < 0)) = true := by simpa using hs
      have HD := Lib.hid hd
      clear h5 hs hq hr hd
      go_enter Try.func20, Try.ntmps20
      go_wp2_with fail
      refine (HP.out).mono ?_
      rintro e w' ⟨rfl, nd, rfl⟩
      go_wp2_with fail
      · have e1 : 9223372036854775807 < (q : Int) := by assumption
        go_ret2
        exact TwoD.no nd (fun h => by have h2 := HQF.out h; rw [HD.out] at h2; unfold fit at h2; omega)
      · have e1 : (q : Int) ≤ 9223372036854775807 := by assumption
        go_ret2
        exact TwoD.yes nd ⟨H5.out, fun h => by have h2 := HOV.out h; rw [HD.out] at h2; omega⟩ HD.out.symm
    · have hd := parts_other h5 hs
      rw [← hq, ← hr] at hd
      have h7 : (decide (a < 0) == decide (b < 0)) = false := by simpa using hs
      have hno : ¬ (b = -1 ∧ a = -9223372036854775808) := fun h => hs (by omega)
      have HNO := Lib.hid hno
      clear hno
      rcases hd with ⟨e1, e2, e3⟩ | ⟨e1, e2, e3⟩
      · have HD := Lib.hid e2
        have E1 := Lib.hid e1
        have h8 : (r : Int) ≤ 0 := by omega
        clear h5 hs hq hr e1 e2 e3
        rcases (show q = 0 ∨ 1 ≤ (q : Int) from by omega) with h9 | h9
        · have h10 : ((q : Int) == 0) = true := by simp [h9]
          have H9 := Lib.hid h9; clear h9
          go_enter Try.func20, Try.ntmps20
          go_wp2_with fail
          refine (HP.out).mono ?_
          rintro e w' ⟨rfl, nd, rfl⟩
          go_wp2_with fail
          go_ret2
          exact TwoD.yes nd ⟨H5.out, HNO.out⟩ (by rw [HD.out, H9.out]; rfl)
        · go_enter Try.func20, Try.ntmps20
          go_wp2_with fail
          refine (HP.out).mono ?_
          rintro e w' ⟨rfl, nd, rfl⟩
          go_wp2_with fail
          go_ret2
          exact TwoD.yes nd ⟨H5.out, HNO.out⟩ (by rw [HD.out]; omega)
      · have HD := Lib.hid e2
        have h8 : 0 < (r : Int) := by omega
        have hqb2 : (q : Int) ≤ 9223372036854775807 := by
          have h2 := HQF.out ⟨H5.out, HNO.out⟩
          rw [e2] at h2; unfold fit at h2; omega
        have hq0 : 0 ≤ (q : Int) := by omega
        obtain ⟨z, hz⟩ : ∃ z : Int, z = q := ⟨_, rfl⟩
        rw [← hz] at hqb2 e2 HP hq0
        have HD := Lib.hid e2
        clear h5 hs hq hr e1 e2 e3 hqb hz
        go_enter Try.func20, Try.ntmps20
        go_wp2_with fail
        refine (HP.out).mono ?_
        rintro e w' ⟨rfl, nd, rfl⟩
        go_wp2_with fail
        go_ret2
        exact TwoD.yes nd ⟨H5.out, HNO.out⟩ HD.out.symm

set_option maxRecDepth 100000 in
set_option maxHeartbeats 1000000 in
theorem refMod_any (a b : Int) (w : World) (ha : fit a) (hb : fit b) :
    Calls Try.prog 21 #[.int .i64 a, .int .i64 b] w (TwoD (b ≠ 0) (dr a b) w) := by
  have h1 := ha.lo; have h2 := ha.hi; have h3 := hb.lo; have h4 := hb.hi
  have Ha := Lib.hid ha; have Hb := Lib.hid hb
  clear ha hb
  by_cases h5 : b = 0
  · have h6 : (b == 0) = true := by simpa using h5
    have H5 := Lib.hid h5
    clear h5
    go_enter Try.func21, Try.ntmps21
    go_wp2
    go_ret2
    exact TwoD.no 0 (fun h => h H5.out)
  · have h6 : (b == 0) = false := by simpa using h5
    have H5 := Lib.hid h5
    obtain ⟨q, hq⟩ : ∃ q, q = a.natAbs / b.natAbs := ⟨_, rfl⟩
    obtain ⟨r, hr⟩ : ∃ r, r = a.natAbs % b.natAbs := ⟨_, rfl⟩
    have hp := parts_any a b w Ha.out Hb.out h5
    rw [← hq, ← hr] at hp
    have HP := Lib.hid hp
    have hrb : r < b.natAbs := by rw [hr]; exact Nat.mod_lt _ (by omega)
    clear hp
    by_cases hs : a < 0 ↔ b < 0
    · have hd := (parts_same h5 hs).2
      rw [← hr] at hd
      have h7 : (!decide (a < 0) == decide (b < 0)) = false := by simpa using hs
      have HD := Lib.hid hd
      rcases (show (r : Int) ≤ 0 ∨ 0 < (r : Int) from by omega) with h8 | h8
      all_goals
        have hab : (decide (a < 0) = true ∧ decide (b < 0) = true ∧ b < 0) ∨ (decide (a < 0) = false ∧ decide (b < 0) = false ∧ 0 ≤ b) := by simp; omega
        clear h5 hs hq hr hd h7
        rcases hab with ⟨da, db, hb0⟩ | ⟨da, db, hb0⟩
        all_goals
          go_enter Try.func21, Try.ntmps21
          go_wp2_with fail
          refine (HP.out).mono ?_
          rintro e w' ⟨rfl, nd, rfl⟩
          go_wp2_with fail
          go_ret2
          exact TwoD.yes nd H5.out (by rw [HD.out]; split <;> omega)
    · have hd := parts_other h5 hs
      rw [← hq, ← hr] at hd
      have h7 : (!decide (a < 0) == decide (b < 0)) = true := by simpa using hs
      rcases hd with ⟨e1, e3, e2⟩ | ⟨e1, e3, e2⟩
      · have HD := Lib.hid e2
        have E1 := Lib.hid e1
        have h8 : (r : Int) ≤ 0 := by omega
        have hab : (decide (a < 0) = false ∧ decide (b < 0) = true ∧ b < 0) ∨ (decide (a < 0) = true ∧ decide (b < 0) = false ∧ 0 ≤ b) := by simp; omega
        clear h5 hs hq hr e1 e2 e3 h7
        rcases hab with ⟨da, db, hb0⟩ | ⟨da, db, hb0⟩
        all_goals
          go_enter Try.func21, Try.ntmps21
          go_wp2_with fail
          refine (HP.out).mono ?_
          rintro e w' ⟨rfl, nd, rfl⟩
          go_wp2_with fail
          go_ret2
          exact TwoD.yes nd H5.out (by rw [HD.out, E1.out]; rfl)
      · have HD := Lib.hid e2
        have h8 : 0 < (r : Int) := by omega
        have hab : (decide (a < 0) = false ∧ decide (b < 0) = true ∧ b < 0) ∨ (decide (a < 0) = true ∧ decide (b < 0) = false ∧ 0 ≤ b) := by simp; omega
        clear h5 hs hq hr e1 e2 e3 h7
        rcases hab with ⟨da, db, hb0⟩ | ⟨da, db, hb0⟩
        all_goals
          go_enter Try.func21, Try.ntmps21
          go_wp2_with fail
          refine (HP.out).mono ?_
          rintro e w' ⟨rfl, nd, rfl⟩
          go_wp2_with fail
          refine (size_any _ _ Hb.out).mono ?_
          rintro e w' ⟨rfl, rfl⟩
          go_wp2_with fail
          go_ret2
          exact TwoD.yes nd H5.out (by rw [HD.out]; split <;> omega)
end Go.Proofs.Ytnfnjmpaikchcaa
