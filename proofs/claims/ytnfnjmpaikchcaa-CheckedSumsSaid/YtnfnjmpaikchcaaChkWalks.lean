/-
  The contracts of package checked's functions on two numbers: each returns its result, if it fits, and 0 and false otherwise. No condition but that the arguments are int64s.
-/
import Derived.Test.YtnfnjmpaikchcaaProg
import Derived.Test.YtnfnjmpaikchcaaChkMath
import Derived.WalkKit
import Derived.WalkSpells
import Derived.WalkLawsBesides
import Derived.Lib.Hide
namespace Go.Proofs.Ytnfnjmpaikchcaa
open Go.RowKit Ck
set_option linter.unusedVariables false
set_option linter.unusedSimpArgs false

namespace Ck
/-- a result that fits, or 0 and false -/
def Two (p : Prop) (x : Int) (w : World) (e : Ending) (w' : World) : Prop :=
  w = w' ∧ ((p ∧ e = .returned (.tuple #[.int .i64 x, .bool true])) ∨ (¬ p ∧ e = .returned (.tuple #[.int .i64 0, .bool false])))
theorem Two.yes {p : Prop} {x y : Int} {w : World} (h : p) (hx : y = x) : Two p x w (.returned (.tuple #[.int .i64 y, .bool true])) w := by
  subst hx; exact ⟨rfl, .inl ⟨h, rfl⟩⟩
theorem Two.no {p : Prop} {x : Int} {w : World} (h : ¬ p) : Two p x w (.returned (.tuple #[.int .i64 0, .bool false])) w := ⟨rfl, .inr ⟨h, rfl⟩⟩
theorem Two.to_yes {p : Prop} {x y : Int} {w : World} (hp : p) (hx : x = y) : ∀ e w', Two p x w e w' → e = .returned (.tuple #[.int .i64 y, .bool true]) ∧ w = w' := by
  rintro e w' ⟨rfl, ⟨_, rfl⟩ | ⟨hn, _⟩⟩
  · rw [hx]; exact ⟨rfl, rfl⟩
  · exact (hn hp).elim
theorem Two.to_no {p : Prop} {x y : Int} {w : World} (hp : ¬ p) (hy : 0 = y) : ∀ e w', Two p x w e w' → e = .returned (.tuple #[.int .i64 y, .bool false]) ∧ w = w' := by
  rintro e w' ⟨rfl, ⟨h, _⟩ | ⟨_, rfl⟩⟩
  · exact (hp h).elim
  · rw [← hy]; exact ⟨rfl, rfl⟩
def Yes (p : Prop) (w : World) (e : Ending) (w' : World) : Prop := w = w' ∧ ((p ∧ e = .returned (.bool true)) ∨ (¬ p ∧ e = .returned (.bool false)))
theorem Yes.of {p : Prop} {w : World} {b : Bool} (h : b = true ↔ p) : Yes p w (.returned (.bool b)) w := by
  refine ⟨rfl, ?_⟩
  cases b
  · exact .inr ⟨fun hp => by simpa using h.2 hp, rfl⟩
  · exact .inl ⟨h.1 rfl, rfl⟩
theorem Yes.to_yes {p : Prop} {w : World} (hp : p) : ∀ e w', Yes p w e w' → e = .returned (.bool true) ∧ w = w' := by
  rintro e w' ⟨rfl, ⟨_, rfl⟩ | ⟨hn, _⟩⟩
  · exact ⟨rfl, rfl⟩
  · exact (hn hp).elim
theorem Yes.to_no {p : Prop} {w : World} (hp : ¬ p) : ∀ e w', Yes p w e w' → e = .returned (.bool false) ∧ w = w' := by
  rintro e w' ⟨rfl, ⟨h, _⟩ | ⟨_, rfl⟩⟩
  · exact (hp h).elim
  · exact ⟨rfl, rfl⟩
end Ck

set_option maxHeartbeats 400000 in
theorem add_any (a b : Int) (w : World) (ha : fit a) (hb : fit b) :
    Calls Try.prog 9 #[.int .i64 a, .int .i64 b] w (Two (fit (a + b)) (a + b) w) := by
  have h1 := ha.lo; have h2 := ha.hi; have h3 := hb.lo; have h4 := hb.hi
  have Ha := Lib.hid ha; have Hb := Lib.hid hb
  clear ha hb
  go_enter Try.func9, Try.ntmps9
  go_wp2
  · have h : a < wrap64 (a + b) ↔ 0 < b := by assumption
    go_ret2
    have hf := add_ok2 Ha.out Hb.out (.inl h)
    exact Two.yes hf (wrap_in hf)
  · have h : ¬ (a < wrap64 (a + b) ↔ 0 < b) := by assumption
    have h' : (!decide (a < wrap64 (a + b)) == decide (0 < b)) = true ∧ (b != 0) = true := by assumption
    go_ret2
    exact Two.no (add_ok Ha.out Hb.out h (by simpa using h'.2))
  · have h : ¬ (a < wrap64 (a + b) ↔ 0 < b) := by assumption
    have h' : (!decide (a < wrap64 (a + b)) == decide (0 < b)) = false ∨ (b != 0) = false := by assumption
    go_ret2
    have hf := add_ok2 Ha.out Hb.out (.inr (by rcases h' with h' | h' <;> simp_all))
    exact Two.yes hf (wrap_in hf)

set_option maxHeartbeats 400000 in
theorem sub_any (a b : Int) (w : World) (ha : fit a) (hb : fit b) :
    Calls Try.prog 10 #[.int .i64 a, .int .i64 b] w (Two (fit (a - b)) (a - b) w) := by
  have h1 := ha.lo; have h2 := ha.hi; have h3 := hb.lo; have h4 := hb.hi
  have Ha := Lib.hid ha; have Hb := Lib.hid hb
  clear ha hb
  go_enter Try.func10, Try.ntmps10
  go_wp2
  · have h : wrap64 (a - b) < a ↔ 0 < b := by assumption
    go_ret2
    have hf := sub_ok2 Ha.out Hb.out (.inl h)
    exact Two.yes hf (wrap_in hf)
  · have h : ¬ (wrap64 (a - b) < a ↔ 0 < b) := by assumption
    have h' : (!decide (wrap64 (a - b) < a) == decide (0 < b)) = true ∧ (b != 0) = true := by assumption
    go_ret2
    exact Two.no (sub_ok Ha.out Hb.out h (by simpa using h'.2))
  · have h : ¬ (wrap64 (a - b) < a ↔ 0 < b) := by assumption
    have h' : (!decide (wrap64 (a - b) < a) == decide (0 < b)) = false ∨ (b != 0) = false := by assumption
    go_ret2
    have hf := sub_ok2 Ha.out Hb.out (.inr (by rcases h' with h' | h' <;> simp_all))
    exact Two.yes hf (wrap_in hf)

set_option maxHeartbeats 400000 in
theorem mul_any (a b : Int) (w : World) (ha : fit a) (hb : fit b) :
    Calls Try.prog 12 #[.int .i64 a, .int .i64 b] w (Two (fit (a * b)) (a * b) w) := by
  have h1 := ha.lo; have h2 := ha.hi; have h3 := hb.lo; have h4 := hb.hi
  have Ha := Lib.hid ha; have Hb := Lib.hid hb
  clear ha hb
  by_cases h5 : a = 0 ∨ b = 0
  · have hp : a * b = 0 := by rcases h5 with h | h <;> rw [h] <;> simp
    have Hp := Lib.hid hp
    rcases h5 with h5 | h5
    · have h6 : (a == 0) = true := by simpa using h5
      clear h5 hp
      go_enter Try.func12, Try.ntmps12
      go_wp2
      go_ret2
      exact Two.yes (by rw [Hp.out]; decide) Hp.out.symm
    · by_cases h7 : a = 0
      all_goals
        have h6 : (b == 0) = true := by simpa using h5
        clear h5 hp
        go_enter Try.func12, Try.ntmps12
        go_wp2
        go_ret2
        exact Two.yes (by rw [Hp.out]; decide) Hp.out.symm
  · have h6 : (a == 0) = false := by simp; omega
    have h7 : (b == 0) = false := by simp; omega
    have hb0 : b ≠ 0 := by omega
    by_cases h8 : wrap64 ((wrap64 (a * b)).tdiv b) = a
    · by_cases h9 : b = -1 ∧ a = -9223372036854775808
      · obtain ⟨rfl, rfl⟩ := h9
        clear h5 h6 h7 h8 Ha Hb h1 h2 h3 h4
        have h6 : ((-9223372036854775808 : Int) == 0) = false := by decide
        have h7 : ((-1 : Int) == 0) = false := by decide
        go_enter Try.func12, Try.ntmps12
        go_wp2
        all_goals first
          | (exfalso; simp at *; done)
          | (go_ret2; exact Two.no (by decide))
      · have hf : fit (a * b) := mul_back2 Ha.out Hb.out hb0 h8 h9
        have Hf := Lib.hid hf
        have h8' : (wrap64 ((wrap64 (a * b)).tdiv b) != a) = false := by simpa using h8
        clear h8 hf h5
        by_cases h10 : b = -1
        · have h11 : (b == -1) = true := by simpa using h10
          have h12 : (a == -9223372036854775808) = false := by
            rw [beq_eq_false_iff_ne]; exact fun e => h9 ⟨h10, e⟩
          clear h9 h10
          go_enter Try.func12, Try.ntmps12
          go_wp2
          go_ret2
          exact Two.yes Hf.out (wrap_in Hf.out)
        · have h11 : (b == -1) = false := by simpa using h10
          clear h9 h10
          go_enter Try.func12, Try.ntmps12
          go_wp2
          go_ret2
          exact Two.yes Hf.out (wrap_in Hf.out)
    · have hf : ¬ fit (a * b) := fun h => h8 (by rw [wrap_in h]; exact mul_div Ha.out hb0)
      have Hf := Lib.hid hf
      have h8' : (wrap64 ((wrap64 (a * b)).tdiv b) != a) = true := by simpa using h8
      clear h8 hf h5
      go_enter Try.func12, Try.ntmps12
      go_wp2
      go_ret2
      exact Two.no Hf.out

set_option maxHeartbeats 400000 in
theorem mod_any (a b : Int) (w : World) (ha : fit a) (hb : fit b) :
    Calls Try.prog 14 #[.int .i64 a, .int .i64 b] w (Two (b ≠ 0) (dr a b) w) := by
  have h1 := ha.lo; have h2 := ha.hi; have h3 := hb.lo; have h4 := hb.hi
  have Ha := Lib.hid ha; have Hb := Lib.hid hb
  clear ha hb
  by_cases h5 : b = 0
  · have h6 : (b == 0) = true := by simpa using h5
    have H5 := Lib.hid h5
    clear h5
    go_enter Try.func14, Try.ntmps14
    go_wp2
    go_ret2
    exact Two.no (fun h => h H5.out)
  · have h6 : (b == 0) = false := by simpa using h5
    have H5 := Lib.hid h5
    have hr := tdr a b h5
    by_cases h7 : a.tmod b = 0
    · have h8 : (a.tmod b != 0) = false := by simpa using h7
      have HR := Lib.hid (dq_same (a := a) (b := b) h5 (.inl h7)).2
      clear h7 hr h5
      go_enter Try.func14, Try.ntmps14
      go_wp2
      go_ret2
      exact Two.yes H5.out HR.out.symm
    · have h8 : (a.tmod b != 0) = true := by simpa using h7
      by_cases h9 : a.tmod b < 0 ↔ b < 0
      · have h10 : (!decide (a.tmod b < 0) == decide (b < 0)) = false := by simpa using h9
        have HR := Lib.hid (dq_same (a := a) (b := b) h5 (.inr (by omega))).2
        clear h7 h9 hr h5
        go_enter Try.func14, Try.ntmps14
        go_wp2
        go_ret2
        exact Two.yes H5.out HR.out.symm
      · have h10 : (!decide (a.tmod b < 0) == decide (b < 0)) = true := by simpa using h9
        have HR := Lib.hid (dq_less (a := a) (b := b) h5 h7 (by omega)).2
        have hw : wrap64 (a.tmod b + b) = dr a b := by rw [← HR.out]; exact wrap_in (dr_fit Hb.out h5)
        have HW := Lib.hid hw
        clear h7 h9 hr h5 hw
        go_enter Try.func14, Try.ntmps14
        go_wp2
        go_ret2
        exact Two.yes H5.out HW.out

set_option maxHeartbeats 400000 in
theorem div_any (a b : Int) (w : World) (ha : fit a) (hb : fit b) :
    Calls Try.prog 13 #[.int .i64 a, .int .i64 b] w (Two (b ≠ 0 ∧ ¬ (b = -1 ∧ a = -9223372036854775808)) (dq a b) w) := by
  have h1 := ha.lo; have h2 := ha.hi; have h3 := hb.lo; have h4 := hb.hi
  have Ha := Lib.hid ha; have Hb := Lib.hid hb
  clear ha hb
  by_cases h5 : b = 0
  · have h6 : (b == 0) = true := by simpa using h5
    have H5 := Lib.hid h5
    clear h5
    go_enter Try.func13, Try.ntmps13
    go_wp2
    go_ret2
    exact Two.no (fun h => h.1 H5.out)
  · have h6 : (b == 0) = false := by simpa using h5
    have H5 := Lib.hid h5
    by_cases h7 : b = -1 ∧ a = -9223372036854775808
    · have h8 : (b == -1) = true := by simpa using h7.1
      have h9 : (a == -9223372036854775808) = true := by simpa using h7.2
      have H7 := Lib.hid h7
      clear h5 h7
      go_enter Try.func13, Try.ntmps13
      go_wp2
      go_ret2
      exact Two.no (fun h => h.2 H7.out)
    · have H7 := Lib.hid h7
      have hr := tdr a b h5
      have hq := wrap_in (tdiv_fit Ha.out h5 h7)
      have HQ := Lib.hid hq
      have ht : (a.tmod b = 0 ∧ dq a b = a.tdiv b) ∨ (¬ a.tmod b = 0 ∧ (a < 0 ↔ b < 0) ∧ dq a b = a.tdiv b) ∨ (¬ a.tmod b = 0 ∧ ¬ (a < 0 ↔ b < 0) ∧ dq a b = a.tdiv b - 1) := by
        by_cases e1 : a.tmod b = 0
        · exact .inl ⟨e1, (dq_same h5 (.inl e1)).1⟩
        · by_cases e2 : a < 0 ↔ b < 0
          · exact .inr (.inl ⟨e1, e2, (dq_same h5 (.inr e2)).1⟩)
          · exact .inr (.inr ⟨e1, e2, (dq_less h5 e1 e2).1⟩)
      have hx : (b == -1) = false ∨ ((b == -1) = true ∧ (a == -9223372036854775808) = false) := by
        by_cases e : b = -1
        · exact .inr ⟨by simpa using e, by rw [beq_eq_false_iff_ne]; exact fun e' => h7 ⟨e, e'⟩⟩
        · exact .inl (by simpa using e)
      clear hr hq
      have HD := Lib.hid (wrap_in (dq_fit Ha.out h5 h7))
      rcases ht with ⟨e1, e3⟩ | ⟨e1, e2, e3⟩ | ⟨e1, e2, e3⟩
      · have h8 : (a.tmod b != 0) = false := by simpa using e1
        have HE := Lib.hid e3
        clear h5 h7 e1 e3
        rcases hx with hx | ⟨hx, hx'⟩
        all_goals
          go_enter Try.func13, Try.ntmps13
          go_wp2
          go_ret2
          exact Two.yes ⟨H5.out, H7.out⟩ (HQ.out.trans HE.out.symm)
      · have h8 : (a.tmod b != 0) = true := by simpa using e1
        have h10 : (!decide (a < 0) == decide (b < 0)) = false := by simpa using e2
        have HE := Lib.hid e3
        clear h5 h7 e1 e2 e3
        rcases hx with hx | ⟨hx, hx'⟩
        all_goals
          go_enter Try.func13, Try.ntmps13
          go_wp2
          go_ret2
          exact Two.yes ⟨H5.out, H7.out⟩ (HQ.out.trans HE.out.symm)
      · have h8 : (a.tmod b != 0) = true := by simpa using e1
        have h10 : (!decide (a < 0) == decide (b < 0)) = true := by simpa using e2
        have he : wrap64 (wrap64 (a.tdiv b) - 1) = dq a b := by rw [HQ.out, ← e3]; exact HD.out
        have HE := Lib.hid he
        clear h5 h7 e1 e2 e3 he
        rcases hx with hx | ⟨hx, hx'⟩
        all_goals
          go_enter Try.func13, Try.ntmps13
          go_wp2
          go_ret2
          exact Two.yes ⟨H5.out, H7.out⟩ HE.out

set_option maxHeartbeats 400000 in
theorem is_any (x y : Int) (p q : Bool) (w : World) :
    Calls Try.prog 11 #[.int .i64 x, .bool p, .int .i64 y, .bool q] w (Yes (x = y ∧ p = q) w) := by
  go_enter Try.func11, Try.ntmps11
  go_wp2
  · have h : x = y := by assumption
    go_ret
    exact Yes.of (by simp [h])
  · have h : ¬ x = y := by assumption
    go_ret
    exact Yes.of (by simp [h])
end Go.Proofs.Ytnfnjmpaikchcaa
