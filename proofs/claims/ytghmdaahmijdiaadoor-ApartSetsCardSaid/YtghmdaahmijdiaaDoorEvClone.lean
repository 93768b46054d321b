/-
  slices.Clone and slices.Equal at rules.
-/
import Derived.Test.YtghmdaahmijdiaaDoorEvEx
import Derived.Test.YtghmdaahmijdiaaDoorDrMade
import Derived.WalkSpells
import Derived.WalkLawsBesides
import Derived.OwnWalk
import Derived.Laws.OwnMore
import Derived.Laws.AppendOwnNone
namespace Go.Proofs.YtghmdaahmijdiaaDoor
open Go.RowKit Cv
set_option linter.unusedVariables false
set_option linter.unusedSimpArgs false

namespace Cv
theorem Rul.news {ad : Addr} {n cap : Nat} {rs : _root_.List Ru} {w : World} (h : Rul (.slice (some ad) n cap) rs w) : ∀ j u, (flatRu rs)[j]? = some u → w.cell? (ad.add j) = some u := by
  intro j u hu
  have hj : j < rs.length * 11 := by rw [← flatRu_len]; exact (_root_.List.getElem?_eq_some_iff.1 hu).1
  have hi : j / 11 < rs.length := by omega
  obtain ⟨r, hr⟩ : ∃ r, rs[j / 11]? = some r := by rw [_root_.List.getElem?_eq_getElem hi]; exact ⟨_, rfl⟩
  obtain ⟨g, off, e, hrg⟩ := h.at_ hr
  cases e
  have e1 : j = j / 11 * 11 + j % 11 := by omega
  rw [e1, flatRu_get rs (j / 11) r hr (j % 11) (by omega)] at hu
  have := hrg (j % 11) u hu
  have e2 : (⟨g, off, none⟩ : Addr).add j = ⟨g, off + j / 11 * 11 + j % 11, none⟩ := by
    rw [Addr.add_mid]
    congr 1
    omega
  rw [e2]
  exact this
theorem flat_one (rs : _root_.List Ru) : ∀ u ∈ flatRu rs, u.oneCell' = true := by
  intro u hu
  obtain ⟨r, _, hr⟩ := _root_.List.mem_flatMap.1 hu
  exact arr_one r u hr
end Cv

set_option maxHeartbeats 1000000 in
theorem eqDay (w : World) (n : Nat) (x y z : Int) : (Op.equalIn (n + 1 + 1) 30 (.agg #[.int .i64 x, .int .i64 y, .int .i64 z]) (.agg #[.int .i64 x, .int .i64 y, .int .i64 z])).run Tryd.prog w = .ok true w := by
  have u3 := Tryd.underlying3
  have a3 := Tryd.isAgg3
  have z3 := Tryd.sizeOf3
  have u2 := Tryd.underlying2
  have a2 := Tryd.isAgg2
  have z2 := Tryd.sizeOf2
  have hS : Tryd.prog.underlying 30 = some (.struct (Tryd.prog.fieldsOf 30)) := by kernel_rfl
  have hp : Tryd.prog.stoodInHeld 30 = false := by kernel_rfl
  rw [run_equalIn_agg w (n + 1) 30 _ _ hS hp]
  clear hS hp
  simp only [Program.fieldsOf, Tryd.underlying30]
  go_simp

set_option maxHeartbeats 1000000 in
theorem eqClock (w : World) (n : Nat) (x y : Int) : (Op.equalIn (n + 1 + 1) 32 (.agg #[.int .i64 x, .int .i64 y]) (.agg #[.int .i64 x, .int .i64 y])).run Tryd.prog w = .ok true w := by
  have u3 := Tryd.underlying3
  have a3 := Tryd.isAgg3
  have z3 := Tryd.sizeOf3
  have u2 := Tryd.underlying2
  have a2 := Tryd.isAgg2
  have z2 := Tryd.sizeOf2
  have hS : Tryd.prog.underlying 32 = some (.struct (Tryd.prog.fieldsOf 32)) := by kernel_rfl
  have hp : Tryd.prog.stoodInHeld 32 = false := by kernel_rfl
  rw [run_equalIn_agg w (n + 1) 32 _ _ hS hp]
  clear hS hp
  simp only [Program.fieldsOf, Tryd.underlying32]
  go_simp

set_option maxRecDepth 100000 in
set_option maxHeartbeats 2000000 in
theorem neRu (w : World) (na : ByteArray) (fr ut mo k wd d sec base save : Int) (le : ByteArray) : (binOp .neq 34 (.agg #[.string na, .int .i64 fr, .int .i64 ut, .int .i64 mo, .int .i64 k, .int .i64 wd, .int .i64 d, .int .i64 sec, .int .i64 base, .int .i64 save, .string le]) (.agg #[.string na, .int .i64 fr, .int .i64 ut, .int .i64 mo, .int .i64 k, .int .i64 wd, .int .i64 d, .int .i64 sec, .int .i64 base, .int .i64 save, .string le])).run Tryd.prog w = .ok (.bool false) w := by
  have u3 := Tryd.underlying3
  have a3 := Tryd.isAgg3
  have z3 := Tryd.sizeOf3
  have u2 := Tryd.underlying2
  have a2 := Tryd.isAgg2
  have z2 := Tryd.sizeOf2
  have u9 := Tryd.underlying9
  have a9 := Tryd.isAgg9
  have z9 := Tryd.sizeOf9
  have a4 := Tryd.isAgg30
  have z4 := Tryd.sizeOf30
  have a5 := Tryd.isAgg32
  have z5 := Tryd.sizeOf32
  have hS : Tryd.prog.underlying 34 = some (.struct (Tryd.prog.fieldsOf 34)) := by kernel_rfl
  have hp : Tryd.prog.stoodInHeld 34 = false := by kernel_rfl
  have hD := fun w x y z => eqDay w 9996 x y z
  have hC := fun w x y => eqClock w 9996 x y
  rw [run_neq_struct, show (10000 : Nat) = 9999 + 1 from rfl, run_equalIn_agg w 9999 34 _ _ hS hp]
  simp only [Program.fieldsOf, Tryd.underlying34]
  clear hS hp
  go_simp

end Go.Proofs.YtghmdaahmijdiaaDoor
