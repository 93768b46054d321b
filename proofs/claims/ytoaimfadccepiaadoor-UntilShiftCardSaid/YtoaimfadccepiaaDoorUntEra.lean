/-
  The maker of eras of chapter 22.
-/
import Derived.Test.YtoaimfadccepiaaDoorUntMade2
namespace Go.Proofs.YtoaimfadccepiaaDoor
open Go.RowKit Cv
set_option linter.unusedVariables false
set_option linter.unusedSimpArgs false

namespace Cv
/-- an era of a kind q, with an offset and a save, whose end is right for a save -/
def EraW (q o s least : Int) (st : ByteArray) (W : World) (e : Ending) (W' : World) : Prop := ∃ y m k w d sec base : Int, Hid (untC true y m k w d sec base least = 0) ∧ e = .returned (.agg #[.int .i64 o, .int .i64 q, .int .i64 s, .string st, .string ⟨#[88]⟩, .bool true, .int .i64 y, .int .i64 m, .int .i64 k, .int .i64 w, .int .i64 d, .int .i64 sec, .int .i64 base]) ∧ Below W.heap.size W W'
theorem tmod_bd (a n : Int) (hn : 0 < n) : -n < a.tmod n ∧ a.tmod n < n := by
  rcases (show a < 0 ∨ 0 ≤ a by omega) with h | h
  · rw [(tdm_neg a n h).2]; have := Int.emod_nonneg (-a) (by omega : n ≠ 0); have := Int.emod_lt_of_pos (-a) hn; omega
  · rw [(tdm_pos a n h).2]; have := Int.emod_nonneg a (by omega : n ≠ 0); have := Int.emod_lt_of_pos a hn; omega
theorem set13 {V : World} {b : Nat} {t : TypeId} {C : Array Value} {d0 d1 d2 d3 d4 d5 d6 d7 d8 d9 d10 d11 d12 : Value} (h : V.heap[b]? = some (.cells C t)) (hC : C.size = 13) :
    (((((((((((((V.setCell ⟨b, 0, none⟩ d0).setCell ⟨b, 1, none⟩ d1).setCell ⟨b, 2, none⟩ d2).setCell ⟨b, 3, none⟩ d3).setCell ⟨b, 4, none⟩ d4).setCell ⟨b, 5, none⟩ d5).setCell ⟨b, 6, none⟩ d6).setCell ⟨b, 7, none⟩ d7).setCell ⟨b, 8, none⟩ d8).setCell ⟨b, 9, none⟩ d9).setCell ⟨b, 10, none⟩ d10).setCell ⟨b, 11, none⟩ d11).setCell ⟨b, 12, none⟩ d12).heap[b]? = some (.cells #[d0, d1, d2, d3, d4, d5, d6, d7, d8, d9, d10, d11, d12] t) := by
  obtain ⟨l⟩ := C
  match l, hC with
  | [a0, a1, a2, a3, a4, a5, a6, a7, a8, a9, a10, a11, a12], _ => simp [World.setCell, Array.getElem?_modify, h]
theorem bel13 {A V : World} {B b : Nat} {d0 d1 d2 d3 d4 d5 d6 d7 d8 d9 d10 d11 d12 : Value} (h : Below B A V) (hb : B ≤ b) : Below B A (((((((((((((V.setCell ⟨b, 0, none⟩ d0).setCell ⟨b, 1, none⟩ d1).setCell ⟨b, 2, none⟩ d2).setCell ⟨b, 3, none⟩ d3).setCell ⟨b, 4, none⟩ d4).setCell ⟨b, 5, none⟩ d5).setCell ⟨b, 6, none⟩ d6).setCell ⟨b, 7, none⟩ d7).setCell ⟨b, 8, none⟩ d8).setCell ⟨b, 9, none⟩ d9).setCell ⟨b, 10, none⟩ d10).setCell ⟨b, 11, none⟩ d11).setCell ⟨b, 12, none⟩ d12) := (((((((((((((h.setCell (p := ⟨b, 0, none⟩) hb d0).setCell (p := ⟨b, 1, none⟩) hb d1).setCell (p := ⟨b, 2, none⟩) hb d2).setCell (p := ⟨b, 3, none⟩) hb d3).setCell (p := ⟨b, 4, none⟩) hb d4).setCell (p := ⟨b, 5, none⟩) hb d5).setCell (p := ⟨b, 6, none⟩) hb d6).setCell (p := ⟨b, 7, none⟩) hb d7).setCell (p := ⟨b, 8, none⟩) hb d8).setCell (p := ⟨b, 9, none⟩) hb d9).setCell (p := ⟨b, 10, none⟩) hb d10).setCell (p := ⟨b, 11, none⟩) hb d11).setCell (p := ⟨b, 12, none⟩) hb d12)
theorem era_z (W : World) (D : Obj) (C E : Array Value) (t u : TypeId) : (((W.alloc D).alloc (.cells C t)).alloc (.cells E u)).heap[W.heap.size + 1]? = some (.cells C t) := block_below (heap_alloc2_new W D (.cells C t)) (bel_alloc _ _)
theorem era_e (W : World) (D Z : Obj) (E : Obj) : (((W.alloc D).alloc Z).alloc E).heap[W.heap.size + 1 + 1]? = some E := by
  have h := heap_alloc_new ((W.alloc D).alloc Z) E
  simpa using h
theorem get_set_ne {V : World} {p b i : Nat} {x : Value} {O : Obj} (h : V.heap[b]? = some O) (hne : p ≠ b) : (V.setCell ⟨p, i, none⟩ x).heap[b]? = some O := by
  simp [World.setCell, Array.getElem?_modify, hne, h]
theorem get_set {V : World} {p i : Nat} {x : Value} {C F : Array Value} {u : TypeId} (h : V.heap[p]? = some (.cells C u)) (hF : C.setIfInBounds i x = F) : (V.setCell ⟨p, i, none⟩ x).heap[p]? = some (.cells F u) := by
  subst hF
  simp [World.setCell, Array.getElem?_modify, h]
theorem set8ne {V : World} {p b : Nat} {x0 x1 x2 x3 x4 x5 x6 x7 : Value} {O : Obj} (h : V.heap[b]? = some O) (hne : p ≠ b) : ((((((((V.setCell ⟨p, 5, none⟩ x0).setCell ⟨p, 6, none⟩ x1).setCell ⟨p, 7, none⟩ x2).setCell ⟨p, 8, none⟩ x3).setCell ⟨p, 9, none⟩ x4).setCell ⟨p, 10, none⟩ x5).setCell ⟨p, 11, none⟩ x6).setCell ⟨p, 12, none⟩ x7).heap[b]? = some O :=
  get_set_ne (get_set_ne (get_set_ne (get_set_ne (get_set_ne (get_set_ne (get_set_ne (get_set_ne h hne) hne) hne) hne) hne) hne) hne) hne
theorem bel8y {A V : World} {B b : Nat} {d0 d1 d2 d3 d4 d5 d6 d7 : Value} (h : Below B A V) (hb : B ≤ b) : Below B A ((((((((V.setCell ⟨b, 5, none⟩ d0).setCell ⟨b, 6, none⟩ d1).setCell ⟨b, 7, none⟩ d2).setCell ⟨b, 8, none⟩ d3).setCell ⟨b, 9, none⟩ d4).setCell ⟨b, 10, none⟩ d5).setCell ⟨b, 11, none⟩ d6).setCell ⟨b, 12, none⟩ d7) := ((((((((h.setCell (p := ⟨b, 5, none⟩) hb d0).setCell (p := ⟨b, 6, none⟩) hb d1).setCell (p := ⟨b, 7, none⟩) hb d2).setCell (p := ⟨b, 8, none⟩) hb d3).setCell (p := ⟨b, 9, none⟩) hb d4).setCell (p := ⟨b, 10, none⟩) hb d5).setCell (p := ⟨b, 11, none⟩) hb d6).setCell (p := ⟨b, 12, none⟩) hb d7)
end Cv

set_option maxRecDepth 100000 in
set_option maxHeartbeats 16000000 in
theorem era0_any (y m b k w n at_ kind off save least o : Int) (W : World) (wy : (Lit.int .u16 y).wf = true) (wm : (Lit.int .u8 m).wf = true) (wb : (Lit.int .u8 b).wf = true) (wk : (Lit.int .u8 k).wf = true) (ww : (Lit.int .u8 w).wf = true) (wn : (Lit.int .u8 n).wf = true) (wa : (Lit.int .i32 at_).wf = true) (kd1 : 0 ≤ kind) (kd2 : kind ≤ 255) (of1 : -2147483648 ≤ off) (of2 : off ≤ 2147483647) (sv1 : -2147483648 ≤ save) (sv2 : save ≤ 2147483647) (l1 : -10800 ≤ least) (l2 : least ≤ 0) (hq : kind % 3 = 0) (ho : off.tmod 21600 = o) (o1 : -21600 < o) (o2 : o < 21600) :
    Calls Tryd.prog 15 #[.agg #[.int .u16 y, .int .u8 m, .int .u8 b, .int .u8 k, .int .u8 w, .int .u8 n, .int .i32 at_], .int .u8 kind, .int .i32 off, .int .i32 save, .int .i64 least] W (EraW 0 o 0 0 ⟨#[]⟩ W) := by
  have HW := Lib.hid (show (Lit.int .u16 y).wf = true ∧ (Lit.int .u8 m).wf = true ∧ (Lit.int .u8 b).wf = true ∧ (Lit.int .u8 k).wf = true ∧ (Lit.int .u8 w).wf = true ∧ (Lit.int .u8 n).wf = true ∧ (Lit.int .i32 at_).wf = true from ⟨wy, wm, wb, wk, ww, wn, wa⟩)
  clear wy wm wb wk ww wn wa
  go_enter Tryd.func15, Tryd.ntmps15
  go_wp2_with fail
  refine (untMade2_any y m b k w n at_ 0 _ (by omega) (by omega) HW.out.1 HW.out.2.1 HW.out.2.2.1 HW.out.2.2.2.1 HW.out.2.2.2.2.1 HW.out.2.2.2.2.2.1 HW.out.2.2.2.2.2.2).mono ?_
  rintro e w1 ⟨uy, um, uk, uw, ud, us, ub, hu, rfl, hb⟩
  have HQ := Lib.hid hq
  clear hq
  have HB1 := Lib.hid (bel_trans (bel_trans (bel_trans (bel_alloc W _) (bel_alloc _ _)) (bel_alloc _ _)) hb)
  have HZ1 := Lib.hid (block_below (era_z W _ _ _ _ _) hb)
  have HE1 := Lib.hid (block_below (era_e W _ _ _) hb)
  clear hb
  have c0 := cellB HE1.out (i := 0) rfl
  have c1 := cellB HE1.out (i := 1) rfl
  have c2 := cellB HE1.out (i := 2) rfl
  have c3 := cellB HE1.out (i := 3) rfl
  have c4 := cellB HE1.out (i := 4) rfl
  have c5 := cellB HE1.out (i := 5) rfl
  have c6 := cellB HE1.out (i := 6) rfl
  have c7 := cellB HE1.out (i := 7) rfl
  have c8 := cellB HE1.out (i := 8) rfl
  have c9 := cellB HE1.out (i := 9) rfl
  have c10 := cellB HE1.out (i := 10) rfl
  have c11 := cellB HE1.out (i := 11) rfl
  have c12 := cellB HE1.out (i := 12) rfl
  have f0 := frzB HE1.out 0
  have f1 := frzB HE1.out 1
  have f2 := frzB HE1.out 2
  have f3 := frzB HE1.out 3
  have f4 := frzB HE1.out 4
  have f5 := frzB HE1.out 5
  have f6 := frzB HE1.out 6
  have f7 := frzB HE1.out 7
  have f8 := frzB HE1.out 8
  have f9 := frzB HE1.out 9
  have f10 := frzB HE1.out 10
  have f11 := frzB HE1.out 11
  have f12 := frzB HE1.out 12
  have z0 := cellB HZ1.out (i := 0) rfl
  have z1 := cellB HZ1.out (i := 1) rfl
  have z2 := cellB HZ1.out (i := 2) rfl
  have z3 := cellB HZ1.out (i := 3) rfl
  have z4 := cellB HZ1.out (i := 4) rfl
  have z5 := cellB HZ1.out (i := 5) rfl
  have z6 := cellB HZ1.out (i := 6) rfl
  have z7 := cellB HZ1.out (i := 7) rfl
  have z8 := cellB HZ1.out (i := 8) rfl
  have z9 := cellB HZ1.out (i := 9) rfl
  have z10 := cellB HZ1.out (i := 10) rfl
  have z11 := cellB HZ1.out (i := 11) rfl
  have z12 := cellB HZ1.out (i := 12) rfl
  have g0 := frzB HZ1.out 0
  have g1 := frzB HZ1.out 1
  have g2 := frzB HZ1.out 2
  have g3 := frzB HZ1.out 3
  have g4 := frzB HZ1.out 4
  have g5 := frzB HZ1.out 5
  have g6 := frzB HZ1.out 6
  have g7 := frzB HZ1.out 7
  have g8 := frzB HZ1.out 8
  have g9 := frzB HZ1.out 9
  have g10 := frzB HZ1.out 10
  have g11 := frzB HZ1.out 11
  have g12 := frzB HZ1.out 12
  go_wp2_with fail
  refine bodyPost_ret (results_cell_row rfl _ _ _ _ _ _ _ rfl (set13 (set8ne HZ1.out (by omega)) rfl) Tryd.underlying45 rfl (by kernel_rfl)) rfl ?_
  exact ⟨_, _, _, _, _, _, _, hu, rfl, bel13 (bel8y HB1.out (by omega)) (by omega)⟩

set_option maxRecDepth 100000 in
set_option maxHeartbeats 16000000 in
theorem era1_any (y m b k w n at_ kind off save least o s : Int) (W : World) (wy : (Lit.int .u16 y).wf = true) (wm : (Lit.int .u8 m).wf = true) (wb : (Lit.int .u8 b).wf = true) (wk : (Lit.int .u8 k).wf = true) (ww : (Lit.int .u8 w).wf = true) (wn : (Lit.int .u8 n).wf = true) (wa : (Lit.int .i32 at_).wf = true) (kd1 : 0 ≤ kind) (kd2 : kind ≤ 255) (of1 : -2147483648 ≤ off) (of2 : off ≤ 2147483647) (sv1 : -2147483648 ≤ save) (sv2 : save ≤ 2147483647) (l1 : -10800 ≤ least) (l2 : least ≤ 0) (hq : kind % 3 = 1) (ho : off.tmod 21600 = o) (o1 : -21600 < o) (o2 : o < 21600) (hs : save.tmod 10800 = s) (s1 : -10800 < s) (s2 : s < 10800) :
    Calls Tryd.prog 15 #[.agg #[.int .u16 y, .int .u8 m, .int .u8 b, .int .u8 k, .int .u8 w, .int .u8 n, .int .i32 at_], .int .u8 kind, .int .i32 off, .int .i32 save, .int .i64 least] W (EraW 1 o s 0 ⟨#[]⟩ W) := by
  have HW := Lib.hid (show (Lit.int .u16 y).wf = true ∧ (Lit.int .u8 m).wf = true ∧ (Lit.int .u8 b).wf = true ∧ (Lit.int .u8 k).wf = true ∧ (Lit.int .u8 w).wf = true ∧ (Lit.int .u8 n).wf = true ∧ (Lit.int .i32 at_).wf = true from ⟨wy, wm, wb, wk, ww, wn, wa⟩)
  clear wy wm wb wk ww wn wa
  go_enter Tryd.func15, Tryd.ntmps15
  go_wp2_with fail
  refine (untMade2_any y m b k w n at_ 0 _ (by omega) (by omega) HW.out.1 HW.out.2.1 HW.out.2.2.1 HW.out.2.2.2.1 HW.out.2.2.2.2.1 HW.out.2.2.2.2.2.1 HW.out.2.2.2.2.2.2).mono ?_
  rintro e w1 ⟨uy, um, uk, uw, ud, us, ub, hu, rfl, hb⟩
  have HQ := Lib.hid hq
  clear hq
  have HB1 := Lib.hid (bel_trans (bel_trans (bel_trans (bel_alloc W _) (bel_alloc _ _)) (bel_alloc _ _)) hb)
  have HZ1 := Lib.hid (block_below (era_z W _ _ _ _ _) hb)
  have HE1 := Lib.hid (block_below (era_e W _ _ _) hb)
  clear hb
  have c0 := cellB HE1.out (i := 0) rfl
  have c1 := cellB HE1.out (i := 1) rfl
  have c2 := cellB HE1.out (i := 2) rfl
  have c3 := cellB HE1.out (i := 3) rfl
  have c4 := cellB HE1.out (i := 4) rfl
  have c5 := cellB HE1.out (i := 5) rfl
  have c6 := cellB HE1.out (i := 6) rfl
  have c7 := cellB HE1.out (i := 7) rfl
  have c8 := cellB HE1.out (i := 8) rfl
  have c9 := cellB HE1.out (i := 9) rfl
  have c10 := cellB HE1.out (i := 10) rfl
  have c11 := cellB HE1.out (i := 11) rfl
  have c12 := cellB HE1.out (i := 12) rfl
  have f0 := frzB HE1.out 0
  have f1 := frzB HE1.out 1
  have f2 := frzB HE1.out 2
  have f3 := frzB HE1.out 3
  have f4 := frzB HE1.out 4
  have f5 := frzB HE1.out 5
  have f6 := frzB HE1.out 6
  have f7 := frzB HE1.out 7
  have f8 := frzB HE1.out 8
  have f9 := frzB HE1.out 9
  have f10 := frzB HE1.out 10
  have f11 := frzB HE1.out 11
  have f12 := frzB HE1.out 12
  have z0 := cellB HZ1.out (i := 0) rfl
  have z1 := cellB HZ1.out (i := 1) rfl
  have z2 := cellB HZ1.out (i := 2) rfl
  have z3 := cellB HZ1.out (i := 3) rfl
  have z4 := cellB HZ1.out (i := 4) rfl
  have z5 := cellB HZ1.out (i := 5) rfl
  have z6 := cellB HZ1.out (i := 6) rfl
  have z7 := cellB HZ1.out (i := 7) rfl
  have z8 := cellB HZ1.out (i := 8) rfl
  have z9 := cellB HZ1.out (i := 9) rfl
  have z10 := cellB HZ1.out (i := 10) rfl
  have z11 := cellB HZ1.out (i := 11) rfl
  have z12 := cellB HZ1.out (i := 12) rfl
  have g0 := frzB HZ1.out 0
  have g1 := frzB HZ1.out 1
  have g2 := frzB HZ1.out 2
  have g3 := frzB HZ1.out 3
  have g4 := frzB HZ1.out 4
  have g5 := frzB HZ1.out 5
  have g6 := frzB HZ1.out 6
  have g7 := frzB HZ1.out 7
  have g8 := frzB HZ1.out 8
  have g9 := frzB HZ1.out 9
  have g10 := frzB HZ1.out 10
  have g11 := frzB HZ1.out 11
  have g12 := frzB HZ1.out 12
  go_wp2_with fail
  refine bodyPost_ret (results_cell_row rfl _ _ _ _ _ _ _ rfl (set13 (set8ne HZ1.out (by omega)) rfl) Tryd.underlying45 rfl (by kernel_rfl)) rfl ?_
  exact ⟨_, _, _, _, _, _, _, hu, rfl, bel13 (bel8y HB1.out (by omega)) (by omega)⟩

set_option maxRecDepth 100000 in
set_option maxHeartbeats 16000000 in
theorem era2_any (y m b k w n at_ kind off save least o : Int) (W : World) (wy : (Lit.int .u16 y).wf = true) (wm : (Lit.int .u8 m).wf = true) (wb : (Lit.int .u8 b).wf = true) (wk : (Lit.int .u8 k).wf = true) (ww : (Lit.int .u8 w).wf = true) (wn : (Lit.int .u8 n).wf = true) (wa : (Lit.int .i32 at_).wf = true) (kd1 : 0 ≤ kind) (kd2 : kind ≤ 255) (of1 : -2147483648 ≤ off) (of2 : off ≤ 2147483647) (sv1 : -2147483648 ≤ save) (sv2 : save ≤ 2147483647) (l1 : -10800 ≤ least) (l2 : least ≤ 0) (hq : kind % 3 = 2) (ho : off.tmod 21600 = o) (o1 : -21600 < o) (o2 : o < 21600) :
    Calls Tryd.prog 15 #[.agg #[.int .u16 y, .int .u8 m, .int .u8 b, .int .u8 k, .int .u8 w, .int .u8 n, .int .i32 at_], .int .u8 kind, .int .i32 off, .int .i32 save, .int .i64 least] W (EraW 2 o 0 least ⟨#[82]⟩ W) := by
  have HW := Lib.hid (show (Lit.int .u16 y).wf = true ∧ (Lit.int .u8 m).wf = true ∧ (Lit.int .u8 b).wf = true ∧ (Lit.int .u8 k).wf = true ∧ (Lit.int .u8 w).wf = true ∧ (Lit.int .u8 n).wf = true ∧ (Lit.int .i32 at_).wf = true from ⟨wy, wm, wb, wk, ww, wn, wa⟩)
  clear wy wm wb wk ww wn wa
  go_enter Tryd.func15, Tryd.ntmps15
  go_wp2_with fail
  refine (untMade2_any y m b k w n at_ least _ (by omega) (by omega) HW.out.1 HW.out.2.1 HW.out.2.2.1 HW.out.2.2.2.1 HW.out.2.2.2.2.1 HW.out.2.2.2.2.2.1 HW.out.2.2.2.2.2.2).mono ?_
  rintro e w1 ⟨uy, um, uk, uw, ud, us, ub, hu, rfl, hb⟩
  have HQ := Lib.hid hq
  clear hq
  have HB1 := Lib.hid (bel_trans (bel_trans (bel_trans (bel_alloc W _) (bel_alloc _ _)) (bel_alloc _ _)) hb)
  have HZ1 := Lib.hid (block_below (era_z W _ _ _ _ _) hb)
  have HE1 := Lib.hid (block_below (era_e W _ _ _) hb)
  clear hb
  have c0 := cellB HE1.out (i := 0) rfl
  have c1 := cellB HE1.out (i := 1) rfl
  have c2 := cellB HE1.out (i := 2) rfl
  have c3 := cellB HE1.out (i := 3) rfl
  have c4 := cellB HE1.out (i := 4) rfl
  have c5 := cellB HE1.out (i := 5) rfl
  have c6 := cellB HE1.out (i := 6) rfl
  have c7 := cellB HE1.out (i := 7) rfl
  have c8 := cellB HE1.out (i := 8) rfl
  have c9 := cellB HE1.out (i := 9) rfl
  have c10 := cellB HE1.out (i := 10) rfl
  have c11 := cellB HE1.out (i := 11) rfl
  have c12 := cellB HE1.out (i := 12) rfl
  have f0 := frzB HE1.out 0
  have f1 := frzB HE1.out 1
  have f2 := frzB HE1.out 2
  have f3 := frzB HE1.out 3
  have f4 := frzB HE1.out 4
  have f5 := frzB HE1.out 5
  have f6 := frzB HE1.out 6
  have f7 := frzB HE1.out 7
  have f8 := frzB HE1.out 8
  have f9 := frzB HE1.out 9
  have f10 := frzB HE1.out 10
  have f11 := frzB HE1.out 11
  have f12 := frzB HE1.out 12
  have z0 := cellB HZ1.out (i := 0) rfl
  have z1 := cellB HZ1.out (i := 1) rfl
  have z2 := cellB HZ1.out (i := 2) rfl
  have z3 := cellB HZ1.out (i := 3) rfl
  have z4 := cellB HZ1.out (i := 4) rfl
  have z5 := cellB HZ1.out (i := 5) rfl
  have z6 := cellB HZ1.out (i := 6) rfl
  have z7 := cellB HZ1.out (i := 7) rfl
  have z8 := cellB HZ1.out (i := 8) rfl
  have z9 := cellB HZ1.out (i := 9) rfl
  have z10 := cellB HZ1.out (i := 10) rfl
  have z11 := cellB HZ1.out (i := 11) rfl
  have z12 := cellB HZ1.out (i := 12) rfl
  have g0 := frzB HZ1.out 0
  have g1 := frzB HZ1.out 1
  have g2 := frzB HZ1.out 2
  have g3 := frzB HZ1.out 3
  have g4 := frzB HZ1.out 4
  have g5 := frzB HZ1.out 5
  have g6 := frzB HZ1.out 6
  have g7 := frzB HZ1.out 7
  have g8 := frzB HZ1.out 8
  have g9 := frzB HZ1.out 9
  have g10 := frzB HZ1.out 10
  have g11 := frzB HZ1.out 11
  have g12 := frzB HZ1.out 12
  go_wp2_with fail
  refine bodyPost_ret (results_cell_row rfl _ _ _ _ _ _ _ rfl (set13 (set8ne HZ1.out (by omega)) rfl) Tryd.underlying45 rfl (by kernel_rfl)) rfl ?_
  exact ⟨_, _, _, _, _, _, _, hu, rfl, bel13 (bel8y HB1.out (by omega)) (by omega)⟩

end Go.Proofs.YtoaimfadccepiaaDoor
