/-
  == and != of states; the offset and the instant by numbers.
-/
import Derived.Test.YtophiphhgcmjpaaDoorStEx
namespace Go.Proofs.YtophiphhgcmjpaaDoor
open Go.RowKit Cv
set_option linter.unusedVariables false
set_option linter.unusedSimpArgs false

set_option maxHeartbeats 1000000 in
theorem eqSta (w : World) (x : Int) (y : ByteArray) : (binOp .eql 39 (.agg #[.int .i64 x, .string y]) (.agg #[.int .i64 x, .string y])).run Tryd.prog w = .ok (.bool true) w := by
  have u3 := Tryd.underlying9
  have a3 := Tryd.isAgg9
  have z3 := Tryd.sizeOf9
  have u2 := Tryd.underlying2
  have a2 := Tryd.isAgg2
  have z2 := Tryd.sizeOf2
  have hS : Tryd.prog.underlying 39 = some (.struct (Tryd.prog.fieldsOf 39)) := by kernel_rfl
  have hp : Tryd.prog.stoodInHeld 39 = false := by kernel_rfl
  rw [run_eql_struct, show (10000 : Nat) = 9999 + 1 from rfl, run_equalIn_agg w 9999 39 _ _ hS hp]
  simp only [Program.fieldsOf, Tryd.underlying39]
  go_simp
  try simp
set_option maxHeartbeats 1000000 in
theorem neSta (w : World) (x : Int) (y : ByteArray) : (binOp .neq 39 (.agg #[.int .i64 x, .string y]) (.agg #[.int .i64 x, .string y])).run Tryd.prog w = .ok (.bool false) w := by
  have u3 := Tryd.underlying9
  have a3 := Tryd.isAgg9
  have z3 := Tryd.sizeOf9
  have u2 := Tryd.underlying2
  have a2 := Tryd.isAgg2
  have z2 := Tryd.sizeOf2
  have hS : Tryd.prog.underlying 39 = some (.struct (Tryd.prog.fieldsOf 39)) := by kernel_rfl
  have hp : Tryd.prog.stoodInHeld 39 = false := by kernel_rfl
  rw [run_neq_struct, show (10000 : Nat) = 9999 + 1 from rfl, run_equalIn_agg w 9999 39 _ _ hS hp]
  simp only [Program.fieldsOf, Tryd.underlying39]
  go_simp
  try simp

namespace Cv
theorem tmod_bd (x m : Int) (hm : 0 < m) : -m < x.tmod m ∧ x.tmod m < m := by
  rcases Int.le_total 0 x with h | h
  · rw [Int.tmod_eq_emod_of_nonneg h]
    have h1 := Int.emod_nonneg x (show m ≠ 0 by omega)
    have h2 := Int.emod_lt_of_pos x hm
    omega
  · have h1 : x.tmod m = -((-x).tmod m) := by rw [Int.neg_tmod]; omega
    rw [h1, Int.tmod_eq_emod_of_nonneg (by omega)]
    have h1 := Int.emod_nonneg (-x) (show m ≠ 0 by omega)
    have h2 := Int.emod_lt_of_pos (-x) hm
    omega
end Cv

set_option maxHeartbeats 1000000 in
theorem at19_any (x n p q : Int) (W : World) (hT : Tabs W) (hx1 : -2147483648 ≤ x) (hx2 : x ≤ 2147483647) (hn1 : 0 ≤ n) (hn2 : n ≤ 18446744073709551615) (hp : x.tmod 43201 = p) (hq : n % 8362592280 = q) :
    Calls Tryd.prog 13 #[.int .i32 x, .int .u64 n] W fun e w' => e = .returned (.tuple #[.int .i64 p, .int .i64 (-2366755200 + q)]) ∧ ∃ k, w' = W.drewN k := by
  have HT := Lib.hid hT
  have hq1 : 0 ≤ q ∧ q < 8362592280 := by omega
  obtain ⟨hq2, hq3⟩ := hq1
  clear hT
  go_enter Tryd.func13, Tryd.ntmps13
  go_wp2_with fail
  refine (day19_any 1895 1 1 (-27393) (-2366755200) _ (by exact HT.out) (by omega) (by omega) (by omega) (by omega) (by omega) (by omega) (Lib.hid (by decide +kernel)) (Lib.hid (by decide +kernel)) (by omega) (by omega) (by omega)).mono ?_
  rintro e w' ⟨rfl, k, rfl⟩
  go_wp2_with fail
  go_ret2
  exact ⟨rfl, _, rfl⟩
end Go.Proofs.YtophiphhgcmjpaaDoor
