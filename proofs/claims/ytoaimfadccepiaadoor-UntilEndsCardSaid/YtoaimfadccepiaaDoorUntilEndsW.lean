/-
  The walk of the law UntilEnds.
-/
import Derived.Test.YtoaimfadccepiaaDoorUntWk
import Derived.Test.YtoaimfadccepiaaDoorRuArg
import Derived.Deep.RegionHeld3
namespace Go.Proofs.YtoaimfadccepiaaDoor
open Go.RowKit Cv
set_option linter.unusedVariables false
set_option linter.unusedSimpArgs false

namespace Cv
theorem cells8 {V : World} {b : Nat} {t : TypeId} {a0 a1 a2 a3 a4 a5 a6 a7 : Value} (h : V.heap[b]? = some (.cells #[a0, a1, a2, a3, a4, a5, a6, a7] t)) :
    V.cell? ⟨b, 0, none⟩ = some a0 ∧ V.cell? ⟨b, 1, none⟩ = some a1 ∧ V.cell? ⟨b, 2, none⟩ = some a2 ∧ V.cell? ⟨b, 3, none⟩ = some a3 ∧ V.cell? ⟨b, 4, none⟩ = some a4 ∧ V.cell? ⟨b, 5, none⟩ = some a5 ∧ V.cell? ⟨b, 6, none⟩ = some a6 ∧ V.cell? ⟨b, 7, none⟩ = some a7 :=
  ⟨cellB h rfl, cellB h rfl, cellB h rfl, cellB h rfl, cellB h rfl, cellB h rfl, cellB h rfl, cellB h rfl⟩
end Cv

set_option maxRecDepth 100000 in
set_option maxHeartbeats 4000000 in
theorem untilEnds_core (is : Bool) (y m k w d sec base least : Int) (W : World) (hT : Tabs W) (hy1 : -9223372036854775808 ≤ y) (hy2 : y ≤ 9223372036854775807) :
    Calls Tryd.prog 3 #[.agg #[.bool is, .int .i64 y, .int .i64 m, .int .i64 k, .int .i64 w, .int .i64 d, .int .i64 sec, .int .i64 base], .int .i64 least] W fun e w' => e = .returned (.bool true) ∧ Below W.heap.size W w' := by
  obtain ⟨N, hN⟩ : ∃ N, untN is y m k w d sec base least = N := ⟨_, rfl⟩
  obtain ⟨q, hq⟩ : ∃ q, untC is y m k w d sec base least = q := ⟨_, rfl⟩
  have HN := Lib.hid hN
  have HQ := Lib.hid hq
  have HT0 := Lib.hid (hT.alloc (.cells #[.bool is, .int .i64 y, .int .i64 m, .int .i64 k, .int .i64 w, .int .i64 d, .int .i64 sec, .int .i64 base] 27))
  have HB0 := Lib.hid (bel_alloc W (.cells #[.bool is, .int .i64 y, .int .i64 m, .int .i64 k, .int .i64 w, .int .i64 d, .int .i64 sec, .int .i64 base] 27))
  have HK0 := Lib.hid (heap_alloc_new W (.cells #[.bool is, .int .i64 y, .int .i64 m, .int .i64 k, .int .i64 w, .int .i64 d, .int .i64 sec, .int .i64 base] 27))
  clear hN hq hT
  go_enter Tryd.func3, Tryd.ntmps3
  go_wp2_with fail
  refine (untNom_any is y m k w d sec base least _ (by exact HT0.out) hy1 hy2).mono ?_
  intro e w1 hq; obtain ⟨rfl, hb1⟩ := NomU.to HN.out HQ.out _ _ hq; clear hq
  have HB1 := Lib.hid (bel_trans HB0.out hb1)
  have HT1 := Lib.hid (HT0.out.below hb1)
  have HK1 := Lib.hid (block_below HK0.out hb1)
  clear hb1
  have c0 := cellB HK1.out (i := 0) rfl
  have c1 := cellB HK1.out (i := 1) rfl
  have c2 := cellB HK1.out (i := 2) rfl
  have c3 := cellB HK1.out (i := 3) rfl
  have c4 := cellB HK1.out (i := 4) rfl
  have c5 := cellB HK1.out (i := 5) rfl
  have c6 := cellB HK1.out (i := 6) rfl
  have c7 := cellB HK1.out (i := 7) rfl
  go_wp2_with fail
  refine (refUntNom_any is y m k w d sec base least _ hy1 hy2).mono ?_
  intro e w2 hq; obtain ⟨rfl, hb2⟩ := NomU.to HN.out HQ.out _ _ hq; clear hq
  have HB2 := Lib.hid (bel_trans HB1.out hb2)
  have HT2 := Lib.hid (HT1.out.below hb2)
  have HK2 := Lib.hid (block_below HK1.out hb2)
  clear hb2 c0 c1 c2 c3 c4 c5 c6 c7
  go_wp2_with fail
  go_region_held3 (fun w' => w'.cell? ⟨W.heap.size, 0, none⟩ = some (.bool is) ∧ w'.cell? ⟨W.heap.size, 1, none⟩ = some (.int .i64 y) ∧ w'.cell? ⟨W.heap.size, 2, none⟩ = some (.int .i64 m) ∧ w'.cell? ⟨W.heap.size, 3, none⟩ = some (.int .i64 k) ∧ w'.cell? ⟨W.heap.size, 4, none⟩ = some (.int .i64 w) ∧ w'.cell? ⟨W.heap.size, 5, none⟩ = some (.int .i64 d) ∧ w'.cell? ⟨W.heap.size, 6, none⟩ = some (.int .i64 sec) ∧ w'.cell? ⟨W.heap.size, 7, none⟩ = some (.int .i64 base))
    (first | exact cells8 (by exact HK2.out) | exact cells8 (block_below (by exact HK2.out) hb3) | exact cells8 (block_below (block_below (by exact HK2.out) hb3) hb4) | exact cells8 (block_below (block_below (block_below (by exact HK2.out) hb3) hb4) hb5))
    (first
     | (go_at_call 10; refine (untCheck_any is y m k w d sec base least _ (by exact HT2.out) hy1 hy2).mono ?_; intro e w3 hq; obtain ⟨rfl, hb3⟩ := CodeU.to HQ.out _ _ hq; clear hq)
     | (go_at_call 11; refine (refUntCheck_any is y m k w d sec base least _ hy1 hy2).mono ?_; intro e w4 hq; obtain ⟨rfl, hb4⟩ := CodeU.to HQ.out _ _ hq; clear hq)
     | (go_at_call 12; refine (works_any _ (by exact Tabs.below (by exact Tabs.below (by exact HT2.out) hb3) hb4)).mono ?_; rintro e w5 ⟨rfl, hb5⟩))
  go_wp2_with fail
  go_ret
  exact ⟨rfl, bel_trans (bel_trans (bel_trans (Below.drew HB2.out) hb3) hb4) hb5⟩

section
open Go.ChangeShapes Go.WideShapes Go.Deep
variable {H : Type} {enc : TypeId × Value → H} {W : World} {base : Nat} {sp : Nat → Bool} {hd : Bool}
theorem cellsBool : Tryd.prog.cellsOf 4 = 1 := by kernel_rfl
theorem cellsUntil : Tryd.prog.cellsOf 27 = 8 := by kernel_rfl
set_option maxRecDepth 100000 in
theorem until_cells {fuel : Nat} {cs : _root_.List Value} {x : DataW H × List MemPlace} (h : DataW.trod enc Tryd.prog W base sp hd fuel 27 cs = some x) :
    ∃ (is : Bool) (y m k w d sec bs : Int), cs = [.bool is, .int .i64 y, .int .i64 m, .int .i64 k, .int .i64 w, .int .i64 d, .int .i64 sec, .int .i64 bs] ∧ (-9223372036854775808 ≤ y ∧ y ≤ 9223372036854775807) := by
  have hl : cs.length = 8 := by
    obtain ⟨_, _, _, _, hl, _⟩ := DataW.trod_struct Tryd.underlying27 h
    rw [hl, cellsUntil]
  match cs, hl with
  | [c0, c1, c2, c3, c4, c5, c6, c7], _ =>
    obtain ⟨n0, y0, t0⟩ := part_of Tryd.underlying27 h 0 _ rfl
    obtain ⟨n1, y1, t1⟩ := part_of Tryd.underlying27 h 1 _ rfl
    obtain ⟨n2, y2, t2⟩ := part_of Tryd.underlying27 h 2 _ rfl
    obtain ⟨n3, y3, t3⟩ := part_of Tryd.underlying27 h 3 _ rfl
    obtain ⟨n4, y4, t4⟩ := part_of Tryd.underlying27 h 4 _ rfl
    simp only [List.getElem_toArray, List.getElem_cons_succ, List.getElem_cons_zero, cellsBool, cellsInt, cellsInt64, cellsStr, cellsDay, cellsClock] at t0 t1 t2 t3 t4
    simp only [List.drop_succ_cons, List.drop_zero, List.take_succ_cons, List.take_zero] at t0 t1 t2 t3 t4
    obtain ⟨is, e0, _⟩ := DataW.trod_bool Tryd.underlying4 t0
    obtain ⟨y, e1, _, w1⟩ := DataW.trod_int Tryd.underlying3 t1
    obtain ⟨mo, e2, _, w2⟩ := DataW.trod_int Tryd.underlying3 t2
    obtain ⟨m0, z0, u0⟩ := part_of Tryd.underlying23 t3 0 _ rfl
    obtain ⟨m1, z1, u1⟩ := part_of Tryd.underlying23 t3 1 _ rfl
    obtain ⟨m2, z2, u2⟩ := part_of Tryd.underlying23 t3 2 _ rfl
    obtain ⟨p0, q0, v0⟩ := part_of Tryd.underlying25 t4 0 _ rfl
    obtain ⟨p1, q1, v1⟩ := part_of Tryd.underlying25 t4 1 _ rfl
    simp only [List.getElem_toArray, List.getElem_cons_succ, List.getElem_cons_zero, cellsInt, cellsInt64] at u0 u1 u2 v0 v1
    simp only [List.drop_succ_cons, List.drop_zero, List.take_succ_cons, List.take_zero] at u0 u1 u2 v0 v1
    obtain ⟨kk, f0, _, x0⟩ := DataW.trod_int Tryd.underlying3 u0
    obtain ⟨w, f1, _, x1⟩ := DataW.trod_int Tryd.underlying3 u1
    obtain ⟨d, f2, _, x2⟩ := DataW.trod_int Tryd.underlying3 u2
    obtain ⟨sec, g0, _, x3⟩ := DataW.trod_int Tryd.underlying2 v0
    obtain ⟨bs, g1, _, x4⟩ := DataW.trod_int Tryd.underlying3 v1
    simp only [List.cons.injEq, and_true] at e0 e1 e2 f0 f1 f2 g0 g1
    subst e0 e1 e2 f0 f1 f2 g0 g1
    exact ⟨is, y, mo, kk, w, d, sec, bs, rfl, fit_of w1⟩
set_option maxRecDepth 100000 in
/-- an end by value -/
theorem until_of {v : Value} {d : DataW H} {p : List MemPlace} (hv : Value.okWide Tryd.prog W .any base 27 v) (h : DataW.Trod enc Tryd.prog W 0 sp hd 27 v d p) :
    ∃ (is : Bool) (y m k w d sec bs : Int), v = .agg #[.bool is, .int .i64 y, .int .i64 m, .int .i64 k, .int .i64 w, .int .i64 d, .int .i64 sec, .int .i64 bs] ∧ (-9223372036854775808 ≤ y ∧ y ≤ 9223372036854775807) := by
  obtain ⟨cs, rfl, _⟩ := okWide_struct Tryd.underlying27 hv
  obtain ⟨fuel, hf⟩ := h
  obtain ⟨is, y, m, k, w, d, sec, bs, hr, hfit⟩ := until_cells hf
  exact ⟨is, y, m, k, w, d, sec, bs, by congr 1; exact Array.toList_inj.1 (by simpa [Value.cells] using hr), hfit⟩
end

set_option maxRecDepth 100000 in
theorem untilEnds.untilEnds_walk (W : World) (hL : laidMetH Tryd.prog Rows.untilEndsRow.laid W) (v : Value) {H : Type} {enc : TypeId × Value → H} {base : Nat} {d : DataW H} {p : List MemPlace} (hv : Value.okWide Tryd.prog W .any base 27 v)
    (h : DataW.Trod enc Tryd.prog W 0 (fun _ => true) true 27 v d p) (least : Int) (wl : (Lit.int .i64 least).wf = true) :
    Calls Tryd.prog 3 #[v, .int .i64 least] W fun e w' => e = .returned (.bool true) ∧ Below W.heap.size W w' := by
  obtain ⟨is, y, m, k, w, dd, sec, bs, rfl, hy1, hy2⟩ := until_of hv h
  exact untilEnds_core is y m k w dd sec bs least W ⟨tab_of hL, ktab_of hL⟩ hy1 hy2
end Go.Proofs.YtoaimfadccepiaaDoor
