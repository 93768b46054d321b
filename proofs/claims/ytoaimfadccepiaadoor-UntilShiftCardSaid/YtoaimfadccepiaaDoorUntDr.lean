/-
  An end by numbers that came in as an argument.
-/
import Derived.Test.YtoaimfadccepiaaDoorDrArg
namespace Go.Proofs.YtoaimfadccepiaaDoor
open Go.RowKit Cv
set_option linter.unusedVariables false
set_option linter.unusedSimpArgs false

section
open Go.ChangeShapes Go.WideShapes Go.Deep
variable {H : Type} {enc : TypeId × Value → H} {W : World} {base : Nat} {sp : Nat → Bool} {hd : Bool}
theorem cellsU16 : Tryd.prog.cellsOf 34 = 1 := by kernel_rfl
theorem cellsI32 : Tryd.prog.cellsOf 21 = 1 := by kernel_rfl
theorem cellsDraft2 : Tryd.prog.cellsOf 36 = 3 := by kernel_rfl
theorem cellsDraft22 : Tryd.prog.cellsOf 38 = 7 := by kernel_rfl
set_option maxRecDepth 100000 in
theorem draft_cells {fuel : Nat} {cs : _root_.List Value} {x : DataW H × List MemPlace} (h : DataW.trod enc Tryd.prog W base sp hd fuel 38 cs = some x) :
    ∃ (y m b k w n a : Int), cs = [.int .u16 y, .int .u8 m, .int .u8 b, .int .u8 k, .int .u8 w, .int .u8 n, .int .i32 a] ∧ (Lit.int .u16 y).wf = true ∧ (Lit.int .u8 m).wf = true ∧ (Lit.int .u8 b).wf = true ∧ (Lit.int .u8 k).wf = true ∧ (Lit.int .u8 w).wf = true ∧ (Lit.int .u8 n).wf = true ∧ (Lit.int .i32 a).wf = true := by
  have hl : cs.length = 7 := by
    obtain ⟨_, _, _, _, hl, _⟩ := DataW.trod_struct Tryd.underlying38 h
    rw [hl, cellsDraft22]
  match cs, hl with
  | [c0, c1, c2, c3, c4, c5, c6], _ =>
    obtain ⟨n0, y0, t0⟩ := part_of Tryd.underlying38 h 0 _ rfl
    obtain ⟨n1, y1, t1⟩ := part_of Tryd.underlying38 h 1 _ rfl
    obtain ⟨n2, y2, t2⟩ := part_of Tryd.underlying38 h 2 _ rfl
    obtain ⟨n3, y3, t3⟩ := part_of Tryd.underlying38 h 3 _ rfl
    obtain ⟨n4, y4, t4⟩ := part_of Tryd.underlying38 h 4 _ rfl
    simp only [List.getElem_toArray, List.getElem_cons_succ, List.getElem_cons_zero, cellsU16, cellsU8, cellsI32, cellsDraft2] at t0 t1 t2 t3 t4
    simp only [List.drop_succ_cons, List.drop_zero, List.take_succ_cons, List.take_zero] at t0 t1 t2 t3 t4
    obtain ⟨y, e0, _, w0⟩ := DataW.trod_int Tryd.underlying34 t0
    obtain ⟨m, e1, _, w1⟩ := DataW.trod_int Tryd.underlying5 t1
    obtain ⟨b, e2, _, w2⟩ := DataW.trod_int Tryd.underlying5 t2
    obtain ⟨a, e4, _, w4⟩ := DataW.trod_int Tryd.underlying21 t4
    obtain ⟨m0, z0, u0⟩ := part_of Tryd.underlying36 t3 0 _ rfl
    obtain ⟨m1, z1, u1⟩ := part_of Tryd.underlying36 t3 1 _ rfl
    obtain ⟨m2, z2, u2⟩ := part_of Tryd.underlying36 t3 2 _ rfl
    simp only [List.getElem_toArray, List.getElem_cons_succ, List.getElem_cons_zero, cellsU8] at u0 u1 u2
    simp only [List.drop_succ_cons, List.drop_zero, List.take_succ_cons, List.take_zero] at u0 u1 u2
    obtain ⟨k, f0, _, x0⟩ := DataW.trod_int Tryd.underlying5 u0
    obtain ⟨w, f1, _, x1⟩ := DataW.trod_int Tryd.underlying5 u1
    obtain ⟨n, f2, _, x2⟩ := DataW.trod_int Tryd.underlying5 u2
    simp only [List.cons.injEq, and_true] at e0 e1 e2 e4 f0 f1 f2
    subst e0 e1 e2 e4 f0 f1 f2
    exact ⟨y, m, b, k, w, n, a, rfl, w0, w1, w2, x0, x1, x2, w4⟩
set_option maxRecDepth 100000 in
/-- a draft by value -/
theorem draft_of {v : Value} {d : DataW H} {p : List MemPlace} (hv : Value.okWide Tryd.prog W .any base 38 v) (h : DataW.Trod enc Tryd.prog W 0 sp hd 38 v d p) :
    ∃ (y m b k w n a : Int), v = .agg #[.int .u16 y, .int .u8 m, .int .u8 b, .int .u8 k, .int .u8 w, .int .u8 n, .int .i32 a] ∧ (Lit.int .u16 y).wf = true ∧ (Lit.int .u8 m).wf = true ∧ (Lit.int .u8 b).wf = true ∧ (Lit.int .u8 k).wf = true ∧ (Lit.int .u8 w).wf = true ∧ (Lit.int .u8 n).wf = true ∧ (Lit.int .i32 a).wf = true := by
  obtain ⟨cs, rfl, _⟩ := okWide_struct Tryd.underlying38 hv
  obtain ⟨fuel, hf⟩ := h
  obtain ⟨y, m, b, k, w, n, a, hr, hfit⟩ := draft_cells hf
  exact ⟨y, m, b, k, w, n, a, by congr 1; exact Array.toList_inj.1 (by simpa [Value.cells] using hr), hfit⟩
end

theorem i32_bd {n : Int} (h : (Lit.int .i32 n).wf = true) : -2147483648 ≤ n ∧ n ≤ 2147483647 := by
  simp [Lit.wf, IntKind.min, IntKind.max, IntKind.signed, IntKind.bits] at h
  omega
end Go.Proofs.YtoaimfadccepiaaDoor
