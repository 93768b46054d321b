/-
  The reference's near (analemmaref17): the years in which events are looked for.
-/
import Derived.Test.YtpimibchameakaaDoorEvRef0
namespace Go.Proofs.YtpimibchameakaaDoor
open Go.RowKit Cv
set_option linter.unusedVariables false
set_option linter.unusedSimpArgs false

namespace Cv
/-- the years from a to b of near (none if b < a) -/
def NearIs (r : Ru) (q : Int) (up : Bool) (a b : Int) : Prop :=
  (up = true → a = max (firstY r) (q - 2) ∧ (a ≤ lastY r → b = min (lastY r) (a + 20)) ∧ (lastY r < a → b < a)) ∧
  (up = false → b = min (lastY r) (q + 2) ∧ (firstY r ≤ b → a = max (firstY r) (b - 20)) ∧ (b < firstY r → b < a))
def NearR (r : Ru) (q : Int) (up : Bool) (W : World) (e : Ending) (w' : World) : Prop := ∃ a b : Int, Hid (NearIs r q up a b) ∧ e = .returned (.tuple #[.int .i64 a, .int .i64 b]) ∧ Below W.heap.size W w'
end Cv

set_option maxRecDepth 100000 in
set_option maxHeartbeats 8000000 in
theorem refNear_true (na : ByteArray) (fr ut mo k w d sec base save : Int) (le : ByteArray) (q : Int) (W : World) (hq1 : -2000000000 ≤ q) (hq2 : q ≤ 2000000000) (hfr1 : -9223372036854775808 ≤ fr) (hfr2 : fr ≤ 9223372036854775807) (hut1 : -9223372036854775808 ≤ ut) :
    Calls Tryd.prog 44 #[.agg #[.string na, .int .i64 fr, .int .i64 ut, .int .i64 mo, .int .i64 k, .int .i64 w, .int .i64 d, .int .i64 sec, .int .i64 base, .int .i64 save, .string le], .int .i64 q, .bool true] W (NearR (⟨na, fr, ut, mo, k, w, d, sec, base, save, le⟩ : Ru) q true W) := by
  have hF : fr < -2000000000 ∨ -2000000000 ≤ fr := by omega
  have hT : ut = 1048576 ∨ (¬ ut = 1048576 ∧ ut ≤ 2000000000) ∨ (¬ ut = 1048576 ∧ 2000000000 < ut) := by omega
  rcases hF with hF | hF
  · rcases hT with rfl | ⟨hu, hT⟩ | ⟨hu, hT⟩
    · have hL : lastY (⟨na, fr, 1048576, mo, k, w, d, sec, base, save, le⟩ : Ru) = 2000000000 := by unfold lastY; dsimp only; rw [if_pos rfl]
      have hG : firstY (⟨na, fr, 1048576, mo, k, w, d, sec, base, save, le⟩ : Ru) = -2000000000 := by unfold firstY; dsimp only; omega
      skip
      rcases (show (-2000000000) < q - 2 ∨ q - 2 ≤ (-2000000000) by omega) with hA | hA
      · rcases (show (q - 2) + 20 < (2000000000) ∨ (2000000000) ≤ (q - 2) + 20 by omega) with hB | hB
        · first
          | (exfalso; omega)
          | (have HN : Hid (NearIs (⟨na, fr, 1048576, mo, k, w, d, sec, base, save, le⟩ : Ru) q true (q - 2) ((q - 2) + 20)) := Lib.hid ⟨fun _ => by rw [hL, hG]; omega, fun h => by cases h⟩
             clear hL hG
             go_enter Tryd.func44, Tryd.ntmps44
             go_wp2_with fail
             go_ret2
             exact ⟨_, _, HN, rfl, bel_alloc _ _⟩)
        · first
          | (exfalso; omega)
          | (have HN : Hid (NearIs (⟨na, fr, 1048576, mo, k, w, d, sec, base, save, le⟩ : Ru) q true (q - 2) ((2000000000))) := Lib.hid ⟨fun _ => by rw [hL, hG]; omega, fun h => by cases h⟩
             clear hL hG
             go_enter Tryd.func44, Tryd.ntmps44
             go_wp2_with fail
             go_ret2
             exact ⟨_, _, HN, rfl, bel_alloc _ _⟩)
      · rcases (show (-2000000000) + 20 < (2000000000) ∨ (2000000000) ≤ (-2000000000) + 20 by omega) with hB | hB
        · first
          | (exfalso; omega)
          | (have HN : Hid (NearIs (⟨na, fr, 1048576, mo, k, w, d, sec, base, save, le⟩ : Ru) q true (-2000000000) ((-2000000000) + 20)) := Lib.hid ⟨fun _ => by rw [hL, hG]; omega, fun h => by cases h⟩
             clear hL hG
             go_enter Tryd.func44, Tryd.ntmps44
             go_wp2_with fail
             go_ret2
             exact ⟨_, _, HN, rfl, bel_alloc _ _⟩)
        · first
          | (exfalso; omega)
          | (have HN : Hid (NearIs (⟨na, fr, 1048576, mo, k, w, d, sec, base, save, le⟩ : Ru) q true (-2000000000) ((2000000000))) := Lib.hid ⟨fun _ => by rw [hL, hG]; omega, fun h => by cases h⟩
             clear hL hG
             go_enter Tryd.func44, Tryd.ntmps44
             go_wp2_with fail
             go_ret2
             exact ⟨_, _, HN, rfl, bel_alloc _ _⟩)
    · have hL : lastY (⟨na, fr, ut, mo, k, w, d, sec, base, save, le⟩ : Ru) = ut := by unfold lastY; dsimp only; rw [if_neg hu]; omega
      have hG : firstY (⟨na, fr, ut, mo, k, w, d, sec, base, save, le⟩ : Ru) = -2000000000 := by unfold firstY; dsimp only; omega
      have hub3 : (ut == 1048576) = false := by simp [hu]
      have hub2 : (ut != 1048576) = true := by simp [hu]
      have hub4 : (!(ut == 1048576)) = true := by simp [hu]
      skip
      rcases (show (-2000000000) < q - 2 ∨ q - 2 ≤ (-2000000000) by omega) with hA | hA
      · rcases (show (q - 2) + 20 < (ut) ∨ (ut) ≤ (q - 2) + 20 by omega) with hB | hB
        · first
          | (exfalso; omega)
          | (have HN : Hid (NearIs (⟨na, fr, ut, mo, k, w, d, sec, base, save, le⟩ : Ru) q true (q - 2) ((q - 2) + 20)) := Lib.hid ⟨fun _ => by rw [hL, hG]; omega, fun h => by cases h⟩
             clear hL hG
             go_enter Tryd.func44, Tryd.ntmps44
             go_wp2_with fail
             go_ret2
             exact ⟨_, _, HN, rfl, bel_alloc _ _⟩)
        · first
          | (exfalso; omega)
          | (have HN : Hid (NearIs (⟨na, fr, ut, mo, k, w, d, sec, base, save, le⟩ : Ru) q true (q - 2) ((ut))) := Lib.hid ⟨fun _ => by rw [hL, hG]; omega, fun h => by cases h⟩
             clear hL hG
             go_enter Tryd.func44, Tryd.ntmps44
             go_wp2_with fail
             go_ret2
             exact ⟨_, _, HN, rfl, bel_alloc _ _⟩)
      · rcases (show (-2000000000) + 20 < (ut) ∨ (ut) ≤ (-2000000000) + 20 by omega) with hB | hB
        · first
          | (exfalso; omega)
          | (have HN : Hid (NearIs (⟨na, fr, ut, mo, k, w, d, sec, base, save, le⟩ : Ru) q true (-2000000000) ((-2000000000) + 20)) := Lib.hid ⟨fun _ => by rw [hL, hG]; omega, fun h => by cases h⟩
             clear hL hG
             go_enter Tryd.func44, Tryd.ntmps44
             go_wp2_with fail
             go_ret2
             exact ⟨_, _, HN, rfl, bel_alloc _ _⟩)
        · first
          | (exfalso; omega)
          | (have HN : Hid (NearIs (⟨na, fr, ut, mo, k, w, d, sec, base, save, le⟩ : Ru) q true (-2000000000) ((ut))) := Lib.hid ⟨fun _ => by rw [hL, hG]; omega, fun h => by cases h⟩
             clear hL hG
             go_enter Tryd.func44, Tryd.ntmps44
             go_wp2_with fail
             go_ret2
             exact ⟨_, _, HN, rfl, bel_alloc _ _⟩)
    · have hL : lastY (⟨na, fr, ut, mo, k, w, d, sec, base, save, le⟩ : Ru) = 2000000000 := by unfold lastY; dsimp only; rw [if_neg hu]; omega
      have hG : firstY (⟨na, fr, ut, mo, k, w, d, sec, base, save, le⟩ : Ru) = -2000000000 := by unfold firstY; dsimp only; omega
      have hub3 : (ut == 1048576) = false := by simp [hu]
      have hub2 : (ut != 1048576) = true := by simp [hu]
      have hub4 : (!(ut == 1048576)) = true := by simp [hu]
      skip
      rcases (show (-2000000000) < q - 2 ∨ q - 2 ≤ (-2000000000) by omega) with hA | hA
      · rcases (show (q - 2) + 20 < (2000000000) ∨ (2000000000) ≤ (q - 2) + 20 by omega) with hB | hB
        · first
          | (exfalso; omega)
          | (have HN : Hid (NearIs (⟨na, fr, ut, mo, k, w, d, sec, base, save, le⟩ : Ru) q true (q - 2) ((q - 2) + 20)) := Lib.hid ⟨fun _ => by rw [hL, hG]; omega, fun h => by cases h⟩
             clear hL hG
             go_enter Tryd.func44, Tryd.ntmps44
             go_wp2_with fail
             go_ret2
             exact ⟨_, _, HN, rfl, bel_alloc _ _⟩)
        · first
          | (exfalso; omega)
          | (have HN : Hid (NearIs (⟨na, fr, ut, mo, k, w, d, sec, base, save, le⟩ : Ru) q true (q - 2) ((2000000000))) := Lib.hid ⟨fun _ => by rw [hL, hG]; omega, fun h => by cases h⟩
             clear hL hG
             go_enter Tryd.func44, Tryd.ntmps44
             go_wp2_with fail
             go_ret2
             exact ⟨_, _, HN, rfl, bel_alloc _ _⟩)
      · rcases (show (-2000000000) + 20 < (2000000000) ∨ (2000000000) ≤ (-2000000000) + 20 by omega) with hB | hB
        · first
          | (exfalso; omega)
          | (have HN : Hid (NearIs (⟨na, fr, ut, mo, k, w, d, sec, base, save, le⟩ : Ru) q true (-2000000000) ((-2000000000) + 20)) := Lib.hid ⟨fun _ => by rw [hL, hG]; omega, fun h => by cases h⟩
             clear hL hG
             go_enter Tryd.func44, Tryd.ntmps44
             go_wp2_with fail
             go_ret2
             exact ⟨_, _, HN, rfl, bel_alloc _ _⟩)
        · first
          | (exfalso; omega)
          | (have HN : Hid (NearIs (⟨na, fr, ut, mo, k, w, d, sec, base, save, le⟩ : Ru) q true (-2000000000) ((2000000000))) := Lib.hid ⟨fun _ => by rw [hL, hG]; omega, fun h => by cases h⟩
             clear hL hG
             go_enter Tryd.func44, Tryd.ntmps44
             go_wp2_with fail
             go_ret2
             exact ⟨_, _, HN, rfl, bel_alloc _ _⟩)
  · rcases hT with rfl | ⟨hu, hT⟩ | ⟨hu, hT⟩
    · have hL : lastY (⟨na, fr, 1048576, mo, k, w, d, sec, base, save, le⟩ : Ru) = 2000000000 := by unfold lastY; dsimp only; rw [if_pos rfl]
      have hG : firstY (⟨na, fr, 1048576, mo, k, w, d, sec, base, save, le⟩ : Ru) = fr := by unfold firstY; dsimp only; omega
      skip
      rcases (show (fr) < q - 2 ∨ q - 2 ≤ (fr) by omega) with hA | hA
      · rcases (show (q - 2) + 20 < (2000000000) ∨ (2000000000) ≤ (q - 2) + 20 by omega) with hB | hB
        · first
          | (exfalso; omega)
          | (have HN : Hid (NearIs (⟨na, fr, 1048576, mo, k, w, d, sec, base, save, le⟩ : Ru) q true (q - 2) ((q - 2) + 20)) := Lib.hid ⟨fun _ => by rw [hL, hG]; omega, fun h => by cases h⟩
             clear hL hG
             go_enter Tryd.func44, Tryd.ntmps44
             go_wp2_with fail
             go_ret2
             exact ⟨_, _, HN, rfl, bel_alloc _ _⟩)
        · first
          | (exfalso; omega)
          | (have HN : Hid (NearIs (⟨na, fr, 1048576, mo, k, w, d, sec, base, save, le⟩ : Ru) q true (q - 2) ((2000000000))) := Lib.hid ⟨fun _ => by rw [hL, hG]; omega, fun h => by cases h⟩
             clear hL hG
             go_enter Tryd.func44, Tryd.ntmps44
             go_wp2_with fail
             go_ret2
             exact ⟨_, _, HN, rfl, bel_alloc _ _⟩)
      · rcases (show (fr ≤ 2000000000 ∧ fr + 20 < (2000000000)) ∨ (fr ≤ 2000000000 ∧ (2000000000) ≤ fr + 20) ∨ (2000000000 < fr ∧ fr + 20 ≤ 9223372036854775807) ∨ (9223372036854775807 < fr + 20 ∧ fr + 20 - 18446744073709551616 < (2000000000)) ∨ (9223372036854775807 < fr + 20 ∧ (2000000000) ≤ fr + 20 - 18446744073709551616) by omega) with ⟨hS, hB⟩ | ⟨hS, hB⟩ | ⟨hS, hB⟩ | ⟨hB, hS⟩ | ⟨hB, hS⟩
        · first
          | (exfalso; omega)
          | (have HN : Hid (NearIs (⟨na, fr, 1048576, mo, k, w, d, sec, base, save, le⟩ : Ru) q true (fr) (fr + 20)) := Lib.hid ⟨fun _ => by rw [hL, hG]; omega, fun h => by cases h⟩
             clear hL hG
             go_enter Tryd.func44, Tryd.ntmps44
             go_wp2_with fail
             go_ret2
             exact ⟨_, _, HN, rfl, bel_alloc _ _⟩)
        · first
          | (exfalso; omega)
          | (have HN : Hid (NearIs (⟨na, fr, 1048576, mo, k, w, d, sec, base, save, le⟩ : Ru) q true (fr) (2000000000)) := Lib.hid ⟨fun _ => by rw [hL, hG]; omega, fun h => by cases h⟩
             clear hL hG
             go_enter Tryd.func44, Tryd.ntmps44
             go_wp2_with fail
             go_ret2
             exact ⟨_, _, HN, rfl, bel_alloc _ _⟩)
        · first
          | (exfalso; omega)
          | (have HN : Hid (NearIs (⟨na, fr, 1048576, mo, k, w, d, sec, base, save, le⟩ : Ru) q true (fr) (2000000000)) := Lib.hid ⟨fun _ => by rw [hL, hG]; omega, fun h => by cases h⟩
             have hB2 : (2000000000) ≤ fr + 20 := by omega
             clear hL hG
             go_enter Tryd.func44, Tryd.ntmps44
             go_wp2_with fail
             go_ret2
             exact ⟨_, _, HN, rfl, bel_alloc _ _⟩)
        · first
          | (exfalso; omega)
          | (have HN : Hid (NearIs (⟨na, fr, 1048576, mo, k, w, d, sec, base, save, le⟩ : Ru) q true (fr) (fr + 20 - 18446744073709551616)) := Lib.hid ⟨fun _ => by rw [hL, hG]; omega, fun h => by cases h⟩
             have hw1 : wrap64 (fr + 20) = fr + 20 - 18446744073709551616 := by unfold wrap64; omega
             clear hL hG
             go_enter Tryd.func44, Tryd.ntmps44
             go_wp2_with fail
             go_ret2
             exact ⟨_, _, HN, rfl, bel_alloc _ _⟩)
        · first
          | (exfalso; omega)
          | (have HN : Hid (NearIs (⟨na, fr, 1048576, mo, k, w, d, sec, base, save, le⟩ : Ru) q true (fr) (2000000000)) := Lib.hid ⟨fun _ => by rw [hL, hG]; omega, fun h => by cases h⟩
             have hw1 : wrap64 (fr + 20) = fr + 20 - 18446744073709551616 := by unfold wrap64; omega
             clear hL hG
             go_enter Tryd.func44, Tryd.ntmps44
             go_wp2_with fail
             go_ret2
             exact ⟨_, _, HN, rfl, bel_alloc _ _⟩)
    · have hL : lastY (⟨na, fr, ut, mo, k, w, d, sec, base, save, le⟩ : Ru) = ut := by unfold lastY; dsimp only; rw [if_neg hu]; omega
      have hG : firstY (⟨na, fr, ut, mo, k, w, d, sec, base, save, le⟩ : Ru) = fr := by unfold firstY; dsimp only; omega
      have hub3 : (ut == 1048576) = false := by simp [hu]
      have hub2 : (ut != 1048576) = true := by simp [hu]
      have hub4 : (!(ut == 1048576)) = true := by simp [hu]
      skip
      rcases (show (fr) < q - 2 ∨ q - 2 ≤ (fr) by omega) with hA | hA
      · rcases (show (q - 2) + 20 < (ut) ∨ (ut) ≤ (q - 2) + 20 by omega) with hB | hB
        · first
          | (exfalso; omega)
          | (have HN : Hid (NearIs (⟨na, fr, ut, mo, k, w, d, sec, base, save, le⟩ : Ru) q true (q - 2) ((q - 2) + 20)) := Lib.hid ⟨fun _ => by rw [hL, hG]; omega, fun h => by cases h⟩
             clear hL hG
             go_enter Tryd.func44, Tryd.ntmps44
             go_wp2_with fail
             go_ret2
             exact ⟨_, _, HN, rfl, bel_alloc _ _⟩)
        · first
          | (exfalso; omega)
          | (have HN : Hid (NearIs (⟨na, fr, ut, mo, k, w, d, sec, base, save, le⟩ : Ru) q true (q - 2) ((ut))) := Lib.hid ⟨fun _ => by rw [hL, hG]; omega, fun h => by cases h⟩
             clear hL hG
             go_enter Tryd.func44, Tryd.ntmps44
             go_wp2_with fail
             go_ret2
             exact ⟨_, _, HN, rfl, bel_alloc _ _⟩)
      · rcases (show (fr ≤ 2000000000 ∧ fr + 20 < (ut)) ∨ (fr ≤ 2000000000 ∧ (ut) ≤ fr + 20) ∨ (2000000000 < fr ∧ fr + 20 ≤ 9223372036854775807) ∨ (9223372036854775807 < fr + 20 ∧ fr + 20 - 18446744073709551616 < (ut)) ∨ (9223372036854775807 < fr + 20 ∧ (ut) ≤ fr + 20 - 18446744073709551616) by omega) with ⟨hS, hB⟩ | ⟨hS, hB⟩ | ⟨hS, hB⟩ | ⟨hB, hS⟩ | ⟨hB, hS⟩
        · first
          | (exfalso; omega)
          | (have HN : Hid (NearIs (⟨na, fr, ut, mo, k, w, d, sec, base, save, le⟩ : Ru) q true (fr) (fr + 20)) := Lib.hid ⟨fun _ => by rw [hL, hG]; omega, fun h => by cases h⟩
             clear hL hG
             go_enter Tryd.func44, Tryd.ntmps44
             go_wp2_with fail
             go_ret2
             exact ⟨_, _, HN, rfl, bel_alloc _ _⟩)
        · first
          | (exfalso; omega)
          | (have HN : Hid (NearIs (⟨na, fr, ut, mo, k, w, d, sec, base, save, le⟩ : Ru) q true (fr) (ut)) := Lib.hid ⟨fun _ => by rw [hL, hG]; omega, fun h => by cases h⟩
             clear hL hG
             go_enter Tryd.func44, Tryd.ntmps44
             go_wp2_with fail
             go_ret2
             exact ⟨_, _, HN, rfl, bel_alloc _ _⟩)
        · first
          | (exfalso; omega)
          | (have HN : Hid (NearIs (⟨na, fr, ut, mo, k, w, d, sec, base, save, le⟩ : Ru) q true (fr) (ut)) := Lib.hid ⟨fun _ => by rw [hL, hG]; omega, fun h => by cases h⟩
             have hB2 : (ut) ≤ fr + 20 := by omega
             clear hL hG
             go_enter Tryd.func44, Tryd.ntmps44
             go_wp2_with fail
             go_ret2
             exact ⟨_, _, HN, rfl, bel_alloc _ _⟩)
        · first
          | (exfalso; omega)
          | (have HN : Hid (NearIs (⟨na, fr, ut, mo, k, w, d, sec, base, save, le⟩ : Ru) q true (fr) (fr + 20 - 18446744073709551616)) := Lib.hid ⟨fun _ => by rw [hL, hG]; omega, fun h => by cases h⟩
             have hw1 : wrap64 (fr + 20) = fr + 20 - 18446744073709551616 := by unfold wrap64; omega
             clear hL hG
             go_enter Tryd.func44, Tryd.ntmps44
             go_wp2_with fail
             go_ret2
             exact ⟨_, _, HN, rfl, bel_alloc _ _⟩)
        · first
          | (exfalso; omega)
          | (have HN : Hid (NearIs (⟨na, fr, ut, mo, k, w, d, sec, base, save, le⟩ : Ru) q true (fr) (ut)) := Lib.hid ⟨fun _ => by rw [hL, hG]; omega, fun h => by cases h⟩
             have hw1 : wrap64 (fr + 20) = fr + 20 - 18446744073709551616 := by unfold wrap64; omega
             clear hL hG
             go_enter Tryd.func44, Tryd.ntmps44
             go_wp2_with fail
             go_ret2
             exact ⟨_, _, HN, rfl, bel_alloc _ _⟩)
    · have hL : lastY (⟨na, fr, ut, mo, k, w, d, sec, base, save, le⟩ : Ru) = 2000000000 := by unfold lastY; dsimp only; rw [if_neg hu]; omega
      have hG : firstY (⟨na, fr, ut, mo, k, w, d, sec, base, save, le⟩ : Ru) = fr := by unfold firstY; dsimp only; omega
      have hub3 : (ut == 1048576) = false := by simp [hu]
      have hub2 : (ut != 1048576) = true := by simp [hu]
      have hub4 : (!(ut == 1048576)) = true := by simp [hu]
      skip
      rcases (show (fr) < q - 2 ∨ q - 2 ≤ (fr) by omega) with hA | hA
      · rcases (show (q - 2) + 20 < (2000000000) ∨ (2000000000) ≤ (q - 2) + 20 by omega) with hB | hB
        · first
          | (exfalso; omega)
          | (have HN : Hid (NearIs (⟨na, fr, ut, mo, k, w, d, sec, base, save, le⟩ : Ru) q true (q - 2) ((q - 2) + 20)) := Lib.hid ⟨fun _ => by rw [hL, hG]; omega, fun h => by cases h⟩
             clear hL hG
             go_enter Tryd.func44, Tryd.ntmps44
             go_wp2_with fail
             go_ret2
             exact ⟨_, _, HN, rfl, bel_alloc _ _⟩)
        · first
          | (exfalso; omega)
          | (have HN : Hid (NearIs (⟨na, fr, ut, mo, k, w, d, sec, base, save, le⟩ : Ru) q true (q - 2) ((2000000000))) := Lib.hid ⟨fun _ => by rw [hL, hG]; omega, fun h => by cases h⟩
             clear hL hG
             go_enter Tryd.func44, Tryd.ntmps44
             go_wp2_with fail
             go_ret2
             exact ⟨_, _, HN, rfl, bel_alloc _ _⟩)
      · rcases (show (fr ≤ 2000000000 ∧ fr + 20 < (2000000000)) ∨ (fr ≤ 2000000000 ∧ (2000000000) ≤ fr + 20) ∨ (2000000000 < fr ∧ fr + 20 ≤ 9223372036854775807) ∨ (9223372036854775807 < fr + 20 ∧ fr + 20 - 18446744073709551616 < (2000000000)) ∨ (9223372036854775807 < fr + 20 ∧ (2000000000) ≤ fr + 20 - 18446744073709551616) by omega) with ⟨hS, hB⟩ | ⟨hS, hB⟩ | ⟨hS, hB⟩ | ⟨hB, hS⟩ | ⟨hB, hS⟩
        · first
          | (exfalso; omega)
          | (have HN : Hid (NearIs (⟨na, fr, ut, mo, k, w, d, sec, base, save, le⟩ : Ru) q true (fr) (fr + 20)) := Lib.hid ⟨fun _ => by rw [hL, hG]; omega, fun h => by cases h⟩
             clear hL hG
             go_enter Tryd.func44, Tryd.ntmps44
             go_wp2_with fail
             go_ret2
             exact ⟨_, _, HN, rfl, bel_alloc _ _⟩)
        · first
          | (exfalso; omega)
          | (have HN : Hid (NearIs (⟨na, fr, ut, mo, k, w, d, sec, base, save, le⟩ : Ru) q true (fr) (2000000000)) := Lib.hid ⟨fun _ => by rw [hL, hG]; omega, fun h => by cases h⟩
             clear hL hG
             go_enter Tryd.func44, Tryd.ntmps44
             go_wp2_with fail
             go_ret2
             exact ⟨_, _, HN, rfl, bel_alloc _ _⟩)
        · first
          | (exfalso; omega)
          | (have HN : Hid (NearIs (⟨na, fr, ut, mo, k, w, d, sec, base, save, le⟩ : Ru) q true (fr) (2000000000)) := Lib.hid ⟨fun _ => by rw [hL, hG]; omega, fun h => by cases h⟩
             have hB2 : (2000000000) ≤ fr + 20 := by omega
             clear hL hG
             go_enter Tryd.func44, Tryd.ntmps44
             go_wp2_with fail
             go_ret2
             exact ⟨_, _, HN, rfl, bel_alloc _ _⟩)
        · first
          | (exfalso; omega)
          | (have HN : Hid (NearIs (⟨na, fr, ut, mo, k, w, d, sec, base, save, le⟩ : Ru) q true (fr) (fr + 20 - 18446744073709551616)) := Lib.hid ⟨fun _ => by rw [hL, hG]; omega, fun h => by cases h⟩
             have hw1 : wrap64 (fr + 20) = fr + 20 - 18446744073709551616 := by unfold wrap64; omega
             clear hL hG
             go_enter Tryd.func44, Tryd.ntmps44
             go_wp2_with fail
             go_ret2
             exact ⟨_, _, HN, rfl, bel_alloc _ _⟩)
        · first
          | (exfalso; omega)
          | (have HN : Hid (NearIs (⟨na, fr, ut, mo, k, w, d, sec, base, save, le⟩ : Ru) q true (fr) (2000000000)) := Lib.hid ⟨fun _ => by rw [hL, hG]; omega, fun h => by cases h⟩
             have hw1 : wrap64 (fr + 20) = fr + 20 - 18446744073709551616 := by unfold wrap64; omega
             clear hL hG
             go_enter Tryd.func44, Tryd.ntmps44
             go_wp2_with fail
             go_ret2
             exact ⟨_, _, HN, rfl, bel_alloc _ _⟩)

set_option maxRecDepth 100000 in
set_option maxHeartbeats 8000000 in
theorem refNear_false (na : ByteArray) (fr ut mo k w d sec base save : Int) (le : ByteArray) (q : Int) (W : World) (hq1 : -2000000000 ≤ q) (hq2 : q ≤ 2000000000) (hfr1 : -9223372036854775808 ≤ fr) (hfr2 : fr ≤ 9223372036854775807) (hut1 : -9223372036854775808 ≤ ut) :
    Calls Tryd.prog 44 #[.agg #[.string na, .int .i64 fr, .int .i64 ut, .int .i64 mo, .int .i64 k, .int .i64 w, .int .i64 d, .int .i64 sec, .int .i64 base, .int .i64 save, .string le], .int .i64 q, .bool false] W (NearR (⟨na, fr, ut, mo, k, w, d, sec, base, save, le⟩ : Ru) q false W) := by
  have hF : fr < -2000000000 ∨ -2000000000 ≤ fr := by omega
  have hT : ut = 1048576 ∨ (¬ ut = 1048576 ∧ ut ≤ 2000000000) ∨ (¬ ut = 1048576 ∧ 2000000000 < ut) := by omega
  rcases hF with hF | hF
  · rcases hT with rfl | ⟨hu, hT⟩ | ⟨hu, hT⟩
    · have hL : lastY (⟨na, fr, 1048576, mo, k, w, d, sec, base, save, le⟩ : Ru) = 2000000000 := by unfold lastY; dsimp only; rw [if_pos rfl]
      have hG : firstY (⟨na, fr, 1048576, mo, k, w, d, sec, base, save, le⟩ : Ru) = -2000000000 := by unfold firstY; dsimp only; omega
      skip
      rcases (show q + 2 < (2000000000) ∨ (2000000000) ≤ q + 2 by omega) with hA | hA
      · rcases (show (-2000000000) < (q + 2) - 20 ∨ (q + 2) - 20 ≤ (-2000000000) by omega) with hB | hB
        · first
          | (exfalso; omega)
          | (have HN : Hid (NearIs (⟨na, fr, 1048576, mo, k, w, d, sec, base, save, le⟩ : Ru) q false ((q + 2) - 20) (q + 2)) := Lib.hid ⟨fun h => (by cases h), fun _ => by rw [hL, hG]; omega⟩
             clear hL hG
             go_enter Tryd.func44, Tryd.ntmps44
             go_wp2_with fail
             go_ret2
             exact ⟨_, _, HN, rfl, bel_alloc _ _⟩)
        · first
          | (exfalso; omega)
          | (have HN : Hid (NearIs (⟨na, fr, 1048576, mo, k, w, d, sec, base, save, le⟩ : Ru) q false ((-2000000000)) (q + 2)) := Lib.hid ⟨fun h => (by cases h), fun _ => by rw [hL, hG]; omega⟩
             clear hL hG
             go_enter Tryd.func44, Tryd.ntmps44
             go_wp2_with fail
             go_ret2
             exact ⟨_, _, HN, rfl, bel_alloc _ _⟩)
      · rcases (show (-2000000000) < (2000000000) - 20 ∨ (2000000000) - 20 ≤ (-2000000000) by omega) with hB | hB
        · first
          | (exfalso; omega)
          | (have HN : Hid (NearIs (⟨na, fr, 1048576, mo, k, w, d, sec, base, save, le⟩ : Ru) q false ((2000000000) - 20) (2000000000)) := Lib.hid ⟨fun h => (by cases h), fun _ => by rw [hL, hG]; omega⟩
             clear hL hG
             go_enter Tryd.func44, Tryd.ntmps44
             go_wp2_with fail
             go_ret2
             exact ⟨_, _, HN, rfl, bel_alloc _ _⟩)
        · first
          | (exfalso; omega)
          | (have HN : Hid (NearIs (⟨na, fr, 1048576, mo, k, w, d, sec, base, save, le⟩ : Ru) q false ((-2000000000)) (2000000000)) := Lib.hid ⟨fun h => (by cases h), fun _ => by rw [hL, hG]; omega⟩
             clear hL hG
             go_enter Tryd.func44, Tryd.ntmps44
             go_wp2_with fail
             go_ret2
             exact ⟨_, _, HN, rfl, bel_alloc _ _⟩)
    · have hL : lastY (⟨na, fr, ut, mo, k, w, d, sec, base, save, le⟩ : Ru) = ut := by unfold lastY; dsimp only; rw [if_neg hu]; omega
      have hG : firstY (⟨na, fr, ut, mo, k, w, d, sec, base, save, le⟩ : Ru) = -2000000000 := by unfold firstY; dsimp only; omega
      have hub3 : (ut == 1048576) = false := by simp [hu]
      have hub2 : (ut != 1048576) = true := by simp [hu]
      have hub4 : (!(ut == 1048576)) = true := by simp [hu]
      skip
      rcases (show q + 2 < (ut) ∨ (ut) ≤ q + 2 by omega) with hA | hA
      · rcases (show (-2000000000) < (q + 2) - 20 ∨ (q + 2) - 20 ≤ (-2000000000) by omega) with hB | hB
        · first
          | (exfalso; omega)
          | (have HN : Hid (NearIs (⟨na, fr, ut, mo, k, w, d, sec, base, save, le⟩ : Ru) q false ((q + 2) - 20) (q + 2)) := Lib.hid ⟨fun h => (by cases h), fun _ => by rw [hL, hG]; omega⟩
             clear hL hG
             go_enter Tryd.func44, Tryd.ntmps44
             go_wp2_with fail
             go_ret2
             exact ⟨_, _, HN, rfl, bel_alloc _ _⟩)
        · first
          | (exfalso; omega)
          | (have HN : Hid (NearIs (⟨na, fr, ut, mo, k, w, d, sec, base, save, le⟩ : Ru) q false ((-2000000000)) (q + 2)) := Lib.hid ⟨fun h => (by cases h), fun _ => by rw [hL, hG]; omega⟩
             clear hL hG
             go_enter Tryd.func44, Tryd.ntmps44
             go_wp2_with fail
             go_ret2
             exact ⟨_, _, HN, rfl, bel_alloc _ _⟩)
      · rcases (show (-2000001000 ≤ ut ∧ (-2000000000) < ut - 20) ∨ (-2000001000 ≤ ut ∧ ut - 20 ≤ (-2000000000)) ∨ (ut < -2000001000 ∧ -9223372036854775808 ≤ ut - 20) ∨ (ut - 20 < -9223372036854775808 ∧ (-2000000000) < ut - 20 + 18446744073709551616) ∨ (ut - 20 < -9223372036854775808 ∧ ut - 20 + 18446744073709551616 ≤ (-2000000000)) by omega) with ⟨hS, hB⟩ | ⟨hS, hB⟩ | ⟨hS, hB⟩ | ⟨hB, hS⟩ | ⟨hB, hS⟩
        · first
          | (exfalso; omega)
          | (have HN : Hid (NearIs (⟨na, fr, ut, mo, k, w, d, sec, base, save, le⟩ : Ru) q false (ut - 20) (ut)) := Lib.hid ⟨fun h => (by cases h), fun _ => by rw [hL, hG]; omega⟩
             clear hL hG
             go_enter Tryd.func44, Tryd.ntmps44
             go_wp2_with fail
             go_ret2
             exact ⟨_, _, HN, rfl, bel_alloc _ _⟩)
        · first
          | (exfalso; omega)
          | (have HN : Hid (NearIs (⟨na, fr, ut, mo, k, w, d, sec, base, save, le⟩ : Ru) q false (-2000000000) (ut)) := Lib.hid ⟨fun h => (by cases h), fun _ => by rw [hL, hG]; omega⟩
             clear hL hG
             go_enter Tryd.func44, Tryd.ntmps44
             go_wp2_with fail
             go_ret2
             exact ⟨_, _, HN, rfl, bel_alloc _ _⟩)
        · first
          | (exfalso; omega)
          | (have HN : Hid (NearIs (⟨na, fr, ut, mo, k, w, d, sec, base, save, le⟩ : Ru) q false (-2000000000) (ut)) := Lib.hid ⟨fun h => (by cases h), fun _ => by rw [hL, hG]; omega⟩
             have hB2 : ut - 20 ≤ (-2000000000) := by omega
             clear hL hG
             go_enter Tryd.func44, Tryd.ntmps44
             go_wp2_with fail
             go_ret2
             exact ⟨_, _, HN, rfl, bel_alloc _ _⟩)
        · first
          | (exfalso; omega)
          | (have HN : Hid (NearIs (⟨na, fr, ut, mo, k, w, d, sec, base, save, le⟩ : Ru) q false (ut - 20 + 18446744073709551616) (ut)) := Lib.hid ⟨fun h => (by cases h), fun _ => by rw [hL, hG]; omega⟩
             have hw1 : wrap64 (ut - 20) = ut - 20 + 18446744073709551616 := by unfold wrap64; omega
             clear hL hG
             go_enter Tryd.func44, Tryd.ntmps44
             go_wp2_with fail
             go_ret2
             exact ⟨_, _, HN, rfl, bel_alloc _ _⟩)
        · first
          | (exfalso; omega)
          | (have HN : Hid (NearIs (⟨na, fr, ut, mo, k, w, d, sec, base, save, le⟩ : Ru) q false (-2000000000) (ut)) := Lib.hid ⟨fun h => (by cases h), fun _ => by rw [hL, hG]; omega⟩
             have hw1 : wrap64 (ut - 20) = ut - 20 + 18446744073709551616 := by unfold wrap64; omega
             clear hL hG
             go_enter Tryd.func44, Tryd.ntmps44
             go_wp2_with fail
             go_ret2
             exact ⟨_, _, HN, rfl, bel_alloc _ _⟩)
    · have hL : lastY (⟨na, fr, ut, mo, k, w, d, sec, base, save, le⟩ : Ru) = 2000000000 := by unfold lastY; dsimp only; rw [if_neg hu]; omega
      have hG : firstY (⟨na, fr, ut, mo, k, w, d, sec, base, save, le⟩ : Ru) = -2000000000 := by unfold firstY; dsimp only; omega
      have hub3 : (ut == 1048576) = false := by simp [hu]
      have hub2 : (ut != 1048576) = true := by simp [hu]
      have hub4 : (!(ut == 1048576)) = true := by simp [hu]
      skip
      rcases (show q + 2 < (2000000000) ∨ (2000000000) ≤ q + 2 by omega) with hA | hA
      · rcases (show (-2000000000) < (q + 2) - 20 ∨ (q + 2) - 20 ≤ (-2000000000) by omega) with hB | hB
        · first
          | (exfalso; omega)
          | (have HN : Hid (NearIs (⟨na, fr, ut, mo, k, w, d, sec, base, save, le⟩ : Ru) q false ((q + 2) - 20) (q + 2)) := Lib.hid ⟨fun h => (by cases h), fun _ => by rw [hL, hG]; omega⟩
             clear hL hG
             go_enter Tryd.func44, Tryd.ntmps44
             go_wp2_with fail
             go_ret2
             exact ⟨_, _, HN, rfl, bel_alloc _ _⟩)
        · first
          | (exfalso; omega)
          | (have HN : Hid (NearIs (⟨na, fr, ut, mo, k, w, d, sec, base, save, le⟩ : Ru) q false ((-2000000000)) (q + 2)) := Lib.hid ⟨fun h => (by cases h), fun _ => by rw [hL, hG]; omega⟩
             clear hL hG
             go_enter Tryd.func44, Tryd.ntmps44
             go_wp2_with fail
             go_ret2
             exact ⟨_, _, HN, rfl, bel_alloc _ _⟩)
      · rcases (show (-2000000000) < (2000000000) - 20 ∨ (2000000000) - 20 ≤ (-2000000000) by omega) with hB | hB
        · first
          | (exfalso; omega)
          | (have HN : Hid (NearIs (⟨na, fr, ut, mo, k, w, d, sec, base, save, le⟩ : Ru) q false ((2000000000) - 20) (2000000000)) := Lib.hid ⟨fun h => (by cases h), fun _ => by rw [hL, hG]; omega⟩
             clear hL hG
             go_enter Tryd.func44, Tryd.ntmps44
             go_wp2_with fail
             go_ret2
             exact ⟨_, _, HN, rfl, bel_alloc _ _⟩)
        · first
          | (exfalso; omega)
          | (have HN : Hid (NearIs (⟨na, fr, ut, mo, k, w, d, sec, base, save, le⟩ : Ru) q false ((-2000000000)) (2000000000)) := Lib.hid ⟨fun h => (by cases h), fun _ => by rw [hL, hG]; omega⟩
             clear hL hG
             go_enter Tryd.func44, Tryd.ntmps44
             go_wp2_with fail
             go_ret2
             exact ⟨_, _, HN, rfl, bel_alloc _ _⟩)
  · rcases hT with rfl | ⟨hu, hT⟩ | ⟨hu, hT⟩
    · have hL : lastY (⟨na, fr, 1048576, mo, k, w, d, sec, base, save, le⟩ : Ru) = 2000000000 := by unfold lastY; dsimp only; rw [if_pos rfl]
      have hG : firstY (⟨na, fr, 1048576, mo, k, w, d, sec, base, save, le⟩ : Ru) = fr := by unfold firstY; dsimp only; omega
      skip
      rcases (show q + 2 < (2000000000) ∨ (2000000000) ≤ q + 2 by omega) with hA | hA
      · rcases (show (fr) < (q + 2) - 20 ∨ (q + 2) - 20 ≤ (fr) by omega) with hB | hB
        · first
          | (exfalso; omega)
          | (have HN : Hid (NearIs (⟨na, fr, 1048576, mo, k, w, d, sec, base, save, le⟩ : Ru) q false ((q + 2) - 20) (q + 2)) := Lib.hid ⟨fun h => (by cases h), fun _ => by rw [hL, hG]; omega⟩
             clear hL hG
             go_enter Tryd.func44, Tryd.ntmps44
             go_wp2_with fail
             go_ret2
             exact ⟨_, _, HN, rfl, bel_alloc _ _⟩)
        · first
          | (exfalso; omega)
          | (have HN : Hid (NearIs (⟨na, fr, 1048576, mo, k, w, d, sec, base, save, le⟩ : Ru) q false ((fr)) (q + 2)) := Lib.hid ⟨fun h => (by cases h), fun _ => by rw [hL, hG]; omega⟩
             clear hL hG
             go_enter Tryd.func44, Tryd.ntmps44
             go_wp2_with fail
             go_ret2
             exact ⟨_, _, HN, rfl, bel_alloc _ _⟩)
      · rcases (show (fr) < (2000000000) - 20 ∨ (2000000000) - 20 ≤ (fr) by omega) with hB | hB
        · first
          | (exfalso; omega)
          | (have HN : Hid (NearIs (⟨na, fr, 1048576, mo, k, w, d, sec, base, save, le⟩ : Ru) q false ((2000000000) - 20) (2000000000)) := Lib.hid ⟨fun h => (by cases h), fun _ => by rw [hL, hG]; omega⟩
             clear hL hG
             go_enter Tryd.func44, Tryd.ntmps44
             go_wp2_with fail
             go_ret2
             exact ⟨_, _, HN, rfl, bel_alloc _ _⟩)
        · first
          | (exfalso; omega)
          | (have HN : Hid (NearIs (⟨na, fr, 1048576, mo, k, w, d, sec, base, save, le⟩ : Ru) q false ((fr)) (2000000000)) := Lib.hid ⟨fun h => (by cases h), fun _ => by rw [hL, hG]; omega⟩
             clear hL hG
             go_enter Tryd.func44, Tryd.ntmps44
             go_wp2_with fail
             go_ret2
             exact ⟨_, _, HN, rfl, bel_alloc _ _⟩)
    · have hL : lastY (⟨na, fr, ut, mo, k, w, d, sec, base, save, le⟩ : Ru) = ut := by unfold lastY; dsimp only; rw [if_neg hu]; omega
      have hG : firstY (⟨na, fr, ut, mo, k, w, d, sec, base, save, le⟩ : Ru) = fr := by unfold firstY; dsimp only; omega
      have hub3 : (ut == 1048576) = false := by simp [hu]
      have hub2 : (ut != 1048576) = true := by simp [hu]
      have hub4 : (!(ut == 1048576)) = true := by simp [hu]
      skip
      rcases (show q + 2 < (ut) ∨ (ut) ≤ q + 2 by omega) with hA | hA
      · rcases (show (fr) < (q + 2) - 20 ∨ (q + 2) - 20 ≤ (fr) by omega) with hB | hB
        · first
          | (exfalso; omega)
          | (have HN : Hid (NearIs (⟨na, fr, ut, mo, k, w, d, sec, base, save, le⟩ : Ru) q false ((q + 2) - 20) (q + 2)) := Lib.hid ⟨fun h => (by cases h), fun _ => by rw [hL, hG]; omega⟩
             clear hL hG
             go_enter Tryd.func44, Tryd.ntmps44
             go_wp2_with fail
             go_ret2
             exact ⟨_, _, HN, rfl, bel_alloc _ _⟩)
        · first
          | (exfalso; omega)
          | (have HN : Hid (NearIs (⟨na, fr, ut, mo, k, w, d, sec, base, save, le⟩ : Ru) q false ((fr)) (q + 2)) := Lib.hid ⟨fun h => (by cases h), fun _ => by rw [hL, hG]; omega⟩
             clear hL hG
             go_enter Tryd.func44, Tryd.ntmps44
             go_wp2_with fail
             go_ret2
             exact ⟨_, _, HN, rfl, bel_alloc _ _⟩)
      · rcases (show (-2000001000 ≤ ut ∧ (fr) < ut - 20) ∨ (-2000001000 ≤ ut ∧ ut - 20 ≤ (fr)) ∨ (ut < -2000001000 ∧ -9223372036854775808 ≤ ut - 20) ∨ (ut - 20 < -9223372036854775808 ∧ (fr) < ut - 20 + 18446744073709551616) ∨ (ut - 20 < -9223372036854775808 ∧ ut - 20 + 18446744073709551616 ≤ (fr)) by omega) with ⟨hS, hB⟩ | ⟨hS, hB⟩ | ⟨hS, hB⟩ | ⟨hB, hS⟩ | ⟨hB, hS⟩
        · first
          | (exfalso; omega)
          | (have HN : Hid (NearIs (⟨na, fr, ut, mo, k, w, d, sec, base, save, le⟩ : Ru) q false (ut - 20) (ut)) := Lib.hid ⟨fun h => (by cases h), fun _ => by rw [hL, hG]; omega⟩
             clear hL hG
             go_enter Tryd.func44, Tryd.ntmps44
             go_wp2_with fail
             go_ret2
             exact ⟨_, _, HN, rfl, bel_alloc _ _⟩)
        · first
          | (exfalso; omega)
          | (have HN : Hid (NearIs (⟨na, fr, ut, mo, k, w, d, sec, base, save, le⟩ : Ru) q false (fr) (ut)) := Lib.hid ⟨fun h => (by cases h), fun _ => by rw [hL, hG]; omega⟩
             clear hL hG
             go_enter Tryd.func44, Tryd.ntmps44
             go_wp2_with fail
             go_ret2
             exact ⟨_, _, HN, rfl, bel_alloc _ _⟩)
        · first
          | (exfalso; omega)
          | (have HN : Hid (NearIs (⟨na, fr, ut, mo, k, w, d, sec, base, save, le⟩ : Ru) q false (fr) (ut)) := Lib.hid ⟨fun h => (by cases h), fun _ => by rw [hL, hG]; omega⟩
             have hB2 : ut - 20 ≤ (fr) := by omega
             clear hL hG
             go_enter Tryd.func44, Tryd.ntmps44
             go_wp2_with fail
             go_ret2
             exact ⟨_, _, HN, rfl, bel_alloc _ _⟩)
        · first
          | (exfalso; omega)
          | (have HN : Hid (NearIs (⟨na, fr, ut, mo, k, w, d, sec, base, save, le⟩ : Ru) q false (ut - 20 + 18446744073709551616) (ut)) := Lib.hid ⟨fun h => (by cases h), fun _ => by rw [hL, hG]; omega⟩
             have hw1 : wrap64 (ut - 20) = ut - 20 + 18446744073709551616 := by unfold wrap64; omega
             clear hL hG
             go_enter Tryd.func44, Tryd.ntmps44
             go_wp2_with fail
             go_ret2
             exact ⟨_, _, HN, rfl, bel_alloc _ _⟩)
        · first
          | (exfalso; omega)
          | (have HN : Hid (NearIs (⟨na, fr, ut, mo, k, w, d, sec, base, save, le⟩ : Ru) q false (fr) (ut)) := Lib.hid ⟨fun h => (by cases h), fun _ => by rw [hL, hG]; omega⟩
             have hw1 : wrap64 (ut - 20) = ut - 20 + 18446744073709551616 := by unfold wrap64; omega
             clear hL hG
             go_enter Tryd.func44, Tryd.ntmps44
             go_wp2_with fail
             go_ret2
             exact ⟨_, _, HN, rfl, bel_alloc _ _⟩)
    · have hL : lastY (⟨na, fr, ut, mo, k, w, d, sec, base, save, le⟩ : Ru) = 2000000000 := by unfold lastY; dsimp only; rw [if_neg hu]; omega
      have hG : firstY (⟨na, fr, ut, mo, k, w, d, sec, base, save, le⟩ : Ru) = fr := by unfold firstY; dsimp only; omega
      have hub3 : (ut == 1048576) = false := by simp [hu]
      have hub2 : (ut != 1048576) = true := by simp [hu]
      have hub4 : (!(ut == 1048576)) = true := by simp [hu]
      skip
      rcases (show q + 2 < (2000000000) ∨ (2000000000) ≤ q + 2 by omega) with hA | hA
      · rcases (show (fr) < (q + 2) - 20 ∨ (q + 2) - 20 ≤ (fr) by omega) with hB | hB
        · first
          | (exfalso; omega)
          | (have HN : Hid (NearIs (⟨na, fr, ut, mo, k, w, d, sec, base, save, le⟩ : Ru) q false ((q + 2) - 20) (q + 2)) := Lib.hid ⟨fun h => (by cases h), fun _ => by rw [hL, hG]; omega⟩
             clear hL hG
             go_enter Tryd.func44, Tryd.ntmps44
             go_wp2_with fail
             go_ret2
             exact ⟨_, _, HN, rfl, bel_alloc _ _⟩)
        · first
          | (exfalso; omega)
          | (have HN : Hid (NearIs (⟨na, fr, ut, mo, k, w, d, sec, base, save, le⟩ : Ru) q false ((fr)) (q + 2)) := Lib.hid ⟨fun h => (by cases h), fun _ => by rw [hL, hG]; omega⟩
             clear hL hG
             go_enter Tryd.func44, Tryd.ntmps44
             go_wp2_with fail
             go_ret2
             exact ⟨_, _, HN, rfl, bel_alloc _ _⟩)
      · rcases (show (fr) < (2000000000) - 20 ∨ (2000000000) - 20 ≤ (fr) by omega) with hB | hB
        · first
          | (exfalso; omega)
          | (have HN : Hid (NearIs (⟨na, fr, ut, mo, k, w, d, sec, base, save, le⟩ : Ru) q false ((2000000000) - 20) (2000000000)) := Lib.hid ⟨fun h => (by cases h), fun _ => by rw [hL, hG]; omega⟩
             clear hL hG
             go_enter Tryd.func44, Tryd.ntmps44
             go_wp2_with fail
             go_ret2
             exact ⟨_, _, HN, rfl, bel_alloc _ _⟩)
        · first
          | (exfalso; omega)
          | (have HN : Hid (NearIs (⟨na, fr, ut, mo, k, w, d, sec, base, save, le⟩ : Ru) q false ((fr)) (2000000000)) := Lib.hid ⟨fun h => (by cases h), fun _ => by rw [hL, hG]; omega⟩
             clear hL hG
             go_enter Tryd.func44, Tryd.ntmps44
             go_wp2_with fail
             go_ret2
             exact ⟨_, _, HN, rfl, bel_alloc _ _⟩)

end Go.Proofs.YtpimibchameakaaDoor
