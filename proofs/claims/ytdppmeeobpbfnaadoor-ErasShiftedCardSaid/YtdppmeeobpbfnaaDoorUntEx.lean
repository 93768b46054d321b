/-
  Ends of eras: instants, where the era is of no set; and what the examples are made of.
-/
import Derived.Test.YtdppmeeobpbfnaaDoorUntN
import Derived.Laws.Rows
namespace Go.Proofs.YtdppmeeobpbfnaaDoor
open Go.RowKit Cv
set_option linter.unusedVariables false
set_option linter.unusedSimpArgs false

namespace Cv
theorem ret2_i64 {a b c d : Int} (h1 : a = b) (h2 : c = d) : Ending.returned (.tuple #[.int .i64 a, .int .i64 c]) = .returned (.tuple #[.int .i64 b, .int .i64 d]) := by rw [h1, h2]
theorem cells13 {V : World} {b : Nat} {t : TypeId} {a0 a1 a2 a3 a4 a5 a6 a7 a8 a9 a10 a11 a12 : Value} (h : V.heap[b]? = some (.cells #[a0, a1, a2, a3, a4, a5, a6, a7, a8, a9, a10, a11, a12] t)) :
    V.cell? ⟨b, 0, none⟩ = some a0 ∧ V.cell? ⟨b, 1, none⟩ = some a1 ∧ V.cell? ⟨b, 2, none⟩ = some a2 ∧ V.cell? ⟨b, 3, none⟩ = some a3 ∧ V.cell? ⟨b, 4, none⟩ = some a4 ∧ V.cell? ⟨b, 5, none⟩ = some a5 ∧ V.cell? ⟨b, 6, none⟩ = some a6 ∧ V.cell? ⟨b, 7, none⟩ = some a7 ∧ V.cell? ⟨b, 8, none⟩ = some a8 ∧ V.cell? ⟨b, 9, none⟩ = some a9 ∧ V.cell? ⟨b, 10, none⟩ = some a10 ∧ V.cell? ⟨b, 11, none⟩ = some a11 ∧ V.cell? ⟨b, 12, none⟩ = some a12 :=
  ⟨cellB h rfl, cellB h rfl, cellB h rfl, cellB h rfl, cellB h rfl, cellB h rfl, cellB h rfl, cellB h rfl, cellB h rfl, cellB h rfl, cellB h rfl, cellB h rfl, cellB h rfl⟩
end Cv

theorem within_any (n : Int) (W : World) (h1 : -604799 ≤ n) (h2 : n ≤ 604799) : Calls Tryd.prog 33 #[.int .i64 n, .int .i64 604799] W fun e w' => e = .returned (.bool true) ∧ W = w' := by
  go_enter Tryd.func33, Tryd.ntmps33
  go_wp2_with fail
  go_ret
  exact ⟨rfl, rfl⟩

set_option maxRecDepth 100000 in
set_option maxHeartbeats 1000000 in
theorem untBase0 (off save : Int) (st fm : ByteArray) (y m k w d sec base : Int) (v : Value) (W : World) : Calls Tryd.prog 35 #[.agg #[.int .i64 off, .int .i64 0, .int .i64 save, .string st, .string fm, .bool true, .int .i64 y, .int .i64 m, .int .i64 k, .int .i64 w, .int .i64 d, .int .i64 sec, .int .i64 base], v] W fun e w' => e = .returned (.int .i64 0) ∧ Below W.heap.size W w' := by
  go_enter Tryd.func35, Tryd.ntmps35
  go_wp2_with fail
  go_ret
  exact ⟨rfl, bel_alloc _ _⟩

set_option maxRecDepth 100000 in
set_option maxHeartbeats 1000000 in
theorem untSave0 (off save : Int) (st fm : ByteArray) (y m k w d sec base n : Int) (v : Value) (W : World) : Calls Tryd.prog 36 #[.agg #[.int .i64 off, .int .i64 0, .int .i64 save, .string st, .string fm, .bool true, .int .i64 y, .int .i64 m, .int .i64 k, .int .i64 w, .int .i64 d, .int .i64 sec, .int .i64 base], v, .int .i64 n] W fun e w' => e = .returned (.int .i64 0) ∧ Below W.heap.size W w' := by
  go_enter Tryd.func36, Tryd.ntmps36
  go_wp2_with fail
  go_ret
  exact ⟨rfl, bel_alloc _ _⟩

set_option maxRecDepth 100000 in
set_option maxHeartbeats 4000000 in
theorem untInst00 (off save : Int) (st fm : ByteArray) (y m k w d sec : Int) (x c : Int) (v : Value) (W : World) (hT : Tabs W) (hq : untC true y m k w d sec 0 0 = 0) (hx : on y m k w d = (x, c)) (o1 : -604799 ≤ off) (o2 : off ≤ 604799) (v1 : -604799 ≤ save) (v2 : save ≤ 604799) :
    Calls Tryd.prog 22 #[.agg #[.int .i64 off, .int .i64 0, .int .i64 save, .string st, .string fm, .bool true, .int .i64 y, .int .i64 m, .int .i64 k, .int .i64 w, .int .i64 d, .int .i64 sec, .int .i64 0], v] W fun e w' => e = .returned (.tuple #[.int .i64 (86400 * x + sec - off), .int .i64 0]) ∧ Below W.heap.size W w' := by
  obtain ⟨-, -, -, y1, y2, -, -, x1, x2, s1, s2⟩ := unt_known hq hx
  have HX := Lib.hid hx
  have HQ := Lib.hid hq
  obtain ⟨N, hN⟩ : ∃ N, untN true y m k w d sec 0 0 = N := ⟨_, rfl⟩
  have HN := Lib.hid hN
  have HT := Lib.hid (hT.alloc (.cells #[.int .i64 off, .int .i64 0, .int .i64 save, .string st, .string fm, .bool true, .int .i64 y, .int .i64 m, .int .i64 k, .int .i64 w, .int .i64 d, .int .i64 sec, .int .i64 0] 60))
  have HB0 := Lib.hid (bel_alloc W (.cells #[.int .i64 off, .int .i64 0, .int .i64 save, .string st, .string fm, .bool true, .int .i64 y, .int .i64 m, .int .i64 k, .int .i64 w, .int .i64 d, .int .i64 sec, .int .i64 0] 60))
  have HK0 := Lib.hid (heap_alloc_new W (.cells #[.int .i64 off, .int .i64 0, .int .i64 save, .string st, .string fm, .bool true, .int .i64 y, .int .i64 m, .int .i64 k, .int .i64 w, .int .i64 d, .int .i64 sec, .int .i64 0] 60))
  clear hq hx hN hT
  go_enter Tryd.func22, Tryd.ntmps22
  go_wp2_with fail
  refine (within_any off _ o1 o2).mono ?_
  intro e w' hq; obtain ⟨rfl, rfl⟩ := (fun _ _ h => h) _ _ hq; clear hq
  go_wp2_with fail
  go_region_held3 (fun w' => w'.cell? ⟨W.heap.size, 0, none⟩ = some (.int .i64 off) ∧ w'.cell? ⟨W.heap.size, 1, none⟩ = some (.int .i64 0) ∧ w'.cell? ⟨W.heap.size, 2, none⟩ = some (.int .i64 save) ∧ w'.cell? ⟨W.heap.size, 3, none⟩ = some (.string st) ∧ w'.cell? ⟨W.heap.size, 4, none⟩ = some (.string fm) ∧ w'.cell? ⟨W.heap.size, 5, none⟩ = some (.bool true) ∧ w'.cell? ⟨W.heap.size, 6, none⟩ = some (.int .i64 y) ∧ w'.cell? ⟨W.heap.size, 7, none⟩ = some (.int .i64 m) ∧ w'.cell? ⟨W.heap.size, 8, none⟩ = some (.int .i64 k) ∧ w'.cell? ⟨W.heap.size, 9, none⟩ = some (.int .i64 w) ∧ w'.cell? ⟨W.heap.size, 10, none⟩ = some (.int .i64 d) ∧ w'.cell? ⟨W.heap.size, 11, none⟩ = some (.int .i64 sec) ∧ w'.cell? ⟨W.heap.size, 12, none⟩ = some (.int .i64 0))
    (first | exact cells13 (by exact HK0.out) | exact cells13 (block_below (by exact HK0.out) hb3) | exact cells13 (block_below (block_below (by exact HK0.out) hb3) hb4))
    (first
     | (go_at_call 35; refine (untBase0 off save st fm y m k w d sec 0 v _).mono ?_; rintro e w3 ⟨rfl, hb3⟩)
     | (go_at_call 34; refine (untNom_any true y m k w d sec 0 0 _ (by exact Tabs.below (by exact HT.out) hb3) (by omega) (by omega)).mono ?_; intro e w4 hq; obtain ⟨rfl, hb4⟩ := NomU.to HN.out HQ.out _ _ hq; clear hq))
  have HB4 := Lib.hid (bel_trans (bel_trans (Below.drew HB0.out) hb3) hb4)
  have HK4 := Lib.hid (block_below (block_below (by exact HK0.out) hb3) hb4)
  have HT4 := Lib.hid (Tabs.below (Tabs.below (by exact HT.out) hb3) hb4)
  clear hb3 hb4
  have c0 := cellB HK4.out (i := 0) rfl
  have c1 := cellB HK4.out (i := 1) rfl
  have c2 := cellB HK4.out (i := 2) rfl
  have c3 := cellB HK4.out (i := 3) rfl
  have c4 := cellB HK4.out (i := 4) rfl
  have c5 := cellB HK4.out (i := 5) rfl
  have c6 := cellB HK4.out (i := 6) rfl
  have c7 := cellB HK4.out (i := 7) rfl
  have c8 := cellB HK4.out (i := 8) rfl
  have c9 := cellB HK4.out (i := 9) rfl
  have c10 := cellB HK4.out (i := 10) rfl
  have c11 := cellB HK4.out (i := 11) rfl
  have c12 := cellB HK4.out (i := 12) rfl
  go_wp2_with fail
  ((with_reducible refine (untSave0 off save st fm y m k w d sec 0 _ v _).mono ?_); rintro e w5 ⟨rfl, hb5⟩)
  have HB5 := Lib.hid (bel_trans HB4.out hb5)
  have HK5 := Lib.hid (block_below HK4.out hb5)
  have HT5 := Lib.hid (HT4.out.below hb5)
  clear hb5 c0 c1 c2 c3 c4 c5 c6 c7 c8 c9 c10 c11 c12
  have c0 := cellB HK5.out (i := 0) rfl
  have c1 := cellB HK5.out (i := 1) rfl
  have c2 := cellB HK5.out (i := 2) rfl
  have c3 := cellB HK5.out (i := 3) rfl
  have c4 := cellB HK5.out (i := 4) rfl
  have c5 := cellB HK5.out (i := 5) rfl
  have c6 := cellB HK5.out (i := 6) rfl
  have c7 := cellB HK5.out (i := 7) rfl
  have c8 := cellB HK5.out (i := 8) rfl
  have c9 := cellB HK5.out (i := 9) rfl
  have c10 := cellB HK5.out (i := 10) rfl
  have c11 := cellB HK5.out (i := 11) rfl
  have c12 := cellB HK5.out (i := 12) rfl
  go_wp2_with fail
  refine (within_any 0 _ (by omega) (by omega)).mono ?_
  intro e w' hq; obtain ⟨rfl, rfl⟩ := (fun _ _ h => h) _ _ hq; clear hq
  go_wp2_with fail
  ((with_reducible refine (untSecs_any true y m k w d sec 0 x c _ (by exact HT5.out) y1 y2 HX x1 x2 s1 s2).mono ?_); rintro e w6 ⟨rfl, hb6⟩)
  have HB6 := Lib.hid (bel_trans HB5.out hb6)
  have HK6 := Lib.hid (block_below HK5.out hb6)
  clear hb6 c0 c1 c2 c3 c4 c5 c6 c7 c8 c9 c10 c11 c12
  have c0 := cellB HK6.out (i := 0) rfl
  have c1 := cellB HK6.out (i := 1) rfl
  have c2 := cellB HK6.out (i := 2) rfl
  have c3 := cellB HK6.out (i := 3) rfl
  have c4 := cellB HK6.out (i := 4) rfl
  have c5 := cellB HK6.out (i := 5) rfl
  have c6 := cellB HK6.out (i := 6) rfl
  have c7 := cellB HK6.out (i := 7) rfl
  have c8 := cellB HK6.out (i := 8) rfl
  have c9 := cellB HK6.out (i := 9) rfl
  have c10 := cellB HK6.out (i := 10) rfl
  have c11 := cellB HK6.out (i := 11) rfl
  have c12 := cellB HK6.out (i := 12) rfl
  go_wp2_with fail
  go_ret2
  exact ⟨ret2_i64 (by omega) rfl, HB6.out⟩

set_option maxRecDepth 100000 in
set_option maxHeartbeats 4000000 in
theorem untInst01 (off save : Int) (st fm : ByteArray) (y m k w d sec : Int) (x c : Int) (v : Value) (W : World) (hT : Tabs W) (hq : untC true y m k w d sec 1 0 = 0) (hx : on y m k w d = (x, c)) (o1 : -604799 ≤ off) (o2 : off ≤ 604799) (v1 : -604799 ≤ save) (v2 : save ≤ 604799) :
    Calls Tryd.prog 22 #[.agg #[.int .i64 off, .int .i64 0, .int .i64 save, .string st, .string fm, .bool true, .int .i64 y, .int .i64 m, .int .i64 k, .int .i64 w, .int .i64 d, .int .i64 sec, .int .i64 1], v] W fun e w' => e = .returned (.tuple #[.int .i64 (86400 * x + sec - off), .int .i64 0]) ∧ Below W.heap.size W w' := by
  obtain ⟨-, -, -, y1, y2, -, -, x1, x2, s1, s2⟩ := unt_known hq hx
  have HX := Lib.hid hx
  have HQ := Lib.hid hq
  obtain ⟨N, hN⟩ : ∃ N, untN true y m k w d sec 1 0 = N := ⟨_, rfl⟩
  have HN := Lib.hid hN
  have HT := Lib.hid (hT.alloc (.cells #[.int .i64 off, .int .i64 0, .int .i64 save, .string st, .string fm, .bool true, .int .i64 y, .int .i64 m, .int .i64 k, .int .i64 w, .int .i64 d, .int .i64 sec, .int .i64 1] 60))
  have HB0 := Lib.hid (bel_alloc W (.cells #[.int .i64 off, .int .i64 0, .int .i64 save, .string st, .string fm, .bool true, .int .i64 y, .int .i64 m, .int .i64 k, .int .i64 w, .int .i64 d, .int .i64 sec, .int .i64 1] 60))
  have HK0 := Lib.hid (heap_alloc_new W (.cells #[.int .i64 off, .int .i64 0, .int .i64 save, .string st, .string fm, .bool true, .int .i64 y, .int .i64 m, .int .i64 k, .int .i64 w, .int .i64 d, .int .i64 sec, .int .i64 1] 60))
  clear hq hx hN hT
  go_enter Tryd.func22, Tryd.ntmps22
  go_wp2_with fail
  refine (within_any off _ o1 o2).mono ?_
  intro e w' hq; obtain ⟨rfl, rfl⟩ := (fun _ _ h => h) _ _ hq; clear hq
  go_wp2_with fail
  go_region_held3 (fun w' => w'.cell? ⟨W.heap.size, 0, none⟩ = some (.int .i64 off) ∧ w'.cell? ⟨W.heap.size, 1, none⟩ = some (.int .i64 0) ∧ w'.cell? ⟨W.heap.size, 2, none⟩ = some (.int .i64 save) ∧ w'.cell? ⟨W.heap.size, 3, none⟩ = some (.string st) ∧ w'.cell? ⟨W.heap.size, 4, none⟩ = some (.string fm) ∧ w'.cell? ⟨W.heap.size, 5, none⟩ = some (.bool true) ∧ w'.cell? ⟨W.heap.size, 6, none⟩ = some (.int .i64 y) ∧ w'.cell? ⟨W.heap.size, 7, none⟩ = some (.int .i64 m) ∧ w'.cell? ⟨W.heap.size, 8, none⟩ = some (.int .i64 k) ∧ w'.cell? ⟨W.heap.size, 9, none⟩ = some (.int .i64 w) ∧ w'.cell? ⟨W.heap.size, 10, none⟩ = some (.int .i64 d) ∧ w'.cell? ⟨W.heap.size, 11, none⟩ = some (.int .i64 sec) ∧ w'.cell? ⟨W.heap.size, 12, none⟩ = some (.int .i64 1))
    (first | exact cells13 (by exact HK0.out) | exact cells13 (block_below (by exact HK0.out) hb3) | exact cells13 (block_below (block_below (by exact HK0.out) hb3) hb4))
    (first
     | (go_at_call 35; refine (untBase0 off save st fm y m k w d sec 1 v _).mono ?_; rintro e w3 ⟨rfl, hb3⟩)
     | (go_at_call 34; refine (untNom_any true y m k w d sec 1 0 _ (by exact Tabs.below (by exact HT.out) hb3) (by omega) (by omega)).mono ?_; intro e w4 hq; obtain ⟨rfl, hb4⟩ := NomU.to HN.out HQ.out _ _ hq; clear hq))
  have HB4 := Lib.hid (bel_trans (bel_trans (Below.drew HB0.out) hb3) hb4)
  have HK4 := Lib.hid (block_below (block_below (by exact HK0.out) hb3) hb4)
  have HT4 := Lib.hid (Tabs.below (Tabs.below (by exact HT.out) hb3) hb4)
  clear hb3 hb4
  have c0 := cellB HK4.out (i := 0) rfl
  have c1 := cellB HK4.out (i := 1) rfl
  have c2 := cellB HK4.out (i := 2) rfl
  have c3 := cellB HK4.out (i := 3) rfl
  have c4 := cellB HK4.out (i := 4) rfl
  have c5 := cellB HK4.out (i := 5) rfl
  have c6 := cellB HK4.out (i := 6) rfl
  have c7 := cellB HK4.out (i := 7) rfl
  have c8 := cellB HK4.out (i := 8) rfl
  have c9 := cellB HK4.out (i := 9) rfl
  have c10 := cellB HK4.out (i := 10) rfl
  have c11 := cellB HK4.out (i := 11) rfl
  have c12 := cellB HK4.out (i := 12) rfl
  go_wp2_with fail
  ((with_reducible refine (untSave0 off save st fm y m k w d sec 1 _ v _).mono ?_); rintro e w5 ⟨rfl, hb5⟩)
  have HB5 := Lib.hid (bel_trans HB4.out hb5)
  have HK5 := Lib.hid (block_below HK4.out hb5)
  have HT5 := Lib.hid (HT4.out.below hb5)
  clear hb5 c0 c1 c2 c3 c4 c5 c6 c7 c8 c9 c10 c11 c12
  have c0 := cellB HK5.out (i := 0) rfl
  have c1 := cellB HK5.out (i := 1) rfl
  have c2 := cellB HK5.out (i := 2) rfl
  have c3 := cellB HK5.out (i := 3) rfl
  have c4 := cellB HK5.out (i := 4) rfl
  have c5 := cellB HK5.out (i := 5) rfl
  have c6 := cellB HK5.out (i := 6) rfl
  have c7 := cellB HK5.out (i := 7) rfl
  have c8 := cellB HK5.out (i := 8) rfl
  have c9 := cellB HK5.out (i := 9) rfl
  have c10 := cellB HK5.out (i := 10) rfl
  have c11 := cellB HK5.out (i := 11) rfl
  have c12 := cellB HK5.out (i := 12) rfl
  go_wp2_with fail
  refine (within_any 0 _ (by omega) (by omega)).mono ?_
  intro e w' hq; obtain ⟨rfl, rfl⟩ := (fun _ _ h => h) _ _ hq; clear hq
  go_wp2_with fail
  ((with_reducible refine (untSecs_any true y m k w d sec 1 x c _ (by exact HT5.out) y1 y2 HX x1 x2 s1 s2).mono ?_); rintro e w6 ⟨rfl, hb6⟩)
  have HB6 := Lib.hid (bel_trans HB5.out hb6)
  have HK6 := Lib.hid (block_below HK5.out hb6)
  clear hb6 c0 c1 c2 c3 c4 c5 c6 c7 c8 c9 c10 c11 c12
  have c0 := cellB HK6.out (i := 0) rfl
  have c1 := cellB HK6.out (i := 1) rfl
  have c2 := cellB HK6.out (i := 2) rfl
  have c3 := cellB HK6.out (i := 3) rfl
  have c4 := cellB HK6.out (i := 4) rfl
  have c5 := cellB HK6.out (i := 5) rfl
  have c6 := cellB HK6.out (i := 6) rfl
  have c7 := cellB HK6.out (i := 7) rfl
  have c8 := cellB HK6.out (i := 8) rfl
  have c9 := cellB HK6.out (i := 9) rfl
  have c10 := cellB HK6.out (i := 10) rfl
  have c11 := cellB HK6.out (i := 11) rfl
  have c12 := cellB HK6.out (i := 12) rfl
  go_wp2_with fail
  go_ret2
  exact ⟨ret2_i64 (by omega) rfl, HB6.out⟩

set_option maxRecDepth 100000 in
set_option maxHeartbeats 4000000 in
theorem untInst02 (off save : Int) (st fm : ByteArray) (y m k w d sec : Int) (x c : Int) (v : Value) (W : World) (hT : Tabs W) (hq : untC true y m k w d sec 2 0 = 0) (hx : on y m k w d = (x, c)) (o1 : -604799 ≤ off) (o2 : off ≤ 604799) (v1 : -604799 ≤ save) (v2 : save ≤ 604799) :
    Calls Tryd.prog 22 #[.agg #[.int .i64 off, .int .i64 0, .int .i64 save, .string st, .string fm, .bool true, .int .i64 y, .int .i64 m, .int .i64 k, .int .i64 w, .int .i64 d, .int .i64 sec, .int .i64 2], v] W fun e w' => e = .returned (.tuple #[.int .i64 (86400 * x + sec), .int .i64 0]) ∧ Below W.heap.size W w' := by
  obtain ⟨-, -, -, y1, y2, -, -, x1, x2, s1, s2⟩ := unt_known hq hx
  have HX := Lib.hid hx
  have HQ := Lib.hid hq
  obtain ⟨N, hN⟩ : ∃ N, untN true y m k w d sec 2 0 = N := ⟨_, rfl⟩
  have HN := Lib.hid hN
  have HT := Lib.hid (hT.alloc (.cells #[.int .i64 off, .int .i64 0, .int .i64 save, .string st, .string fm, .bool true, .int .i64 y, .int .i64 m, .int .i64 k, .int .i64 w, .int .i64 d, .int .i64 sec, .int .i64 2] 60))
  have HB0 := Lib.hid (bel_alloc W (.cells #[.int .i64 off, .int .i64 0, .int .i64 save, .string st, .string fm, .bool true, .int .i64 y, .int .i64 m, .int .i64 k, .int .i64 w, .int .i64 d, .int .i64 sec, .int .i64 2] 60))
  have HK0 := Lib.hid (heap_alloc_new W (.cells #[.int .i64 off, .int .i64 0, .int .i64 save, .string st, .string fm, .bool true, .int .i64 y, .int .i64 m, .int .i64 k, .int .i64 w, .int .i64 d, .int .i64 sec, .int .i64 2] 60))
  clear hq hx hN hT
  go_enter Tryd.func22, Tryd.ntmps22
  go_wp2_with fail
  refine (within_any off _ o1 o2).mono ?_
  intro e w' hq; obtain ⟨rfl, rfl⟩ := (fun _ _ h => h) _ _ hq; clear hq
  go_wp2_with fail
  go_region_held3 (fun w' => w'.cell? ⟨W.heap.size, 0, none⟩ = some (.int .i64 off) ∧ w'.cell? ⟨W.heap.size, 1, none⟩ = some (.int .i64 0) ∧ w'.cell? ⟨W.heap.size, 2, none⟩ = some (.int .i64 save) ∧ w'.cell? ⟨W.heap.size, 3, none⟩ = some (.string st) ∧ w'.cell? ⟨W.heap.size, 4, none⟩ = some (.string fm) ∧ w'.cell? ⟨W.heap.size, 5, none⟩ = some (.bool true) ∧ w'.cell? ⟨W.heap.size, 6, none⟩ = some (.int .i64 y) ∧ w'.cell? ⟨W.heap.size, 7, none⟩ = some (.int .i64 m) ∧ w'.cell? ⟨W.heap.size, 8, none⟩ = some (.int .i64 k) ∧ w'.cell? ⟨W.heap.size, 9, none⟩ = some (.int .i64 w) ∧ w'.cell? ⟨W.heap.size, 10, none⟩ = some (.int .i64 d) ∧ w'.cell? ⟨W.heap.size, 11, none⟩ = some (.int .i64 sec) ∧ w'.cell? ⟨W.heap.size, 12, none⟩ = some (.int .i64 2))
    (first | exact cells13 (by exact HK0.out) | exact cells13 (block_below (by exact HK0.out) hb3) | exact cells13 (block_below (block_below (by exact HK0.out) hb3) hb4))
    (first
     | (go_at_call 35; refine (untBase0 off save st fm y m k w d sec 2 v _).mono ?_; rintro e w3 ⟨rfl, hb3⟩)
     | (go_at_call 34; refine (untNom_any true y m k w d sec 2 0 _ (by exact Tabs.below (by exact HT.out) hb3) (by omega) (by omega)).mono ?_; intro e w4 hq; obtain ⟨rfl, hb4⟩ := NomU.to HN.out HQ.out _ _ hq; clear hq))
  have HB4 := Lib.hid (bel_trans (bel_trans (Below.drew HB0.out) hb3) hb4)
  have HK4 := Lib.hid (block_below (block_below (by exact HK0.out) hb3) hb4)
  have HT4 := Lib.hid (Tabs.below (Tabs.below (by exact HT.out) hb3) hb4)
  clear hb3 hb4
  have c0 := cellB HK4.out (i := 0) rfl
  have c1 := cellB HK4.out (i := 1) rfl
  have c2 := cellB HK4.out (i := 2) rfl
  have c3 := cellB HK4.out (i := 3) rfl
  have c4 := cellB HK4.out (i := 4) rfl
  have c5 := cellB HK4.out (i := 5) rfl
  have c6 := cellB HK4.out (i := 6) rfl
  have c7 := cellB HK4.out (i := 7) rfl
  have c8 := cellB HK4.out (i := 8) rfl
  have c9 := cellB HK4.out (i := 9) rfl
  have c10 := cellB HK4.out (i := 10) rfl
  have c11 := cellB HK4.out (i := 11) rfl
  have c12 := cellB HK4.out (i := 12) rfl
  go_wp2_with fail
  ((with_reducible refine (untSave0 off save st fm y m k w d sec 2 _ v _).mono ?_); rintro e w5 ⟨rfl, hb5⟩)
  have HB5 := Lib.hid (bel_trans HB4.out hb5)
  have HK5 := Lib.hid (block_below HK4.out hb5)
  have HT5 := Lib.hid (HT4.out.below hb5)
  clear hb5 c0 c1 c2 c3 c4 c5 c6 c7 c8 c9 c10 c11 c12
  have c0 := cellB HK5.out (i := 0) rfl
  have c1 := cellB HK5.out (i := 1) rfl
  have c2 := cellB HK5.out (i := 2) rfl
  have c3 := cellB HK5.out (i := 3) rfl
  have c4 := cellB HK5.out (i := 4) rfl
  have c5 := cellB HK5.out (i := 5) rfl
  have c6 := cellB HK5.out (i := 6) rfl
  have c7 := cellB HK5.out (i := 7) rfl
  have c8 := cellB HK5.out (i := 8) rfl
  have c9 := cellB HK5.out (i := 9) rfl
  have c10 := cellB HK5.out (i := 10) rfl
  have c11 := cellB HK5.out (i := 11) rfl
  have c12 := cellB HK5.out (i := 12) rfl
  go_wp2_with fail
  refine (within_any 0 _ (by omega) (by omega)).mono ?_
  intro e w' hq; obtain ⟨rfl, rfl⟩ := (fun _ _ h => h) _ _ hq; clear hq
  go_wp2_with fail
  ((with_reducible refine (untSecs_any true y m k w d sec 2 x c _ (by exact HT5.out) y1 y2 HX x1 x2 s1 s2).mono ?_); rintro e w6 ⟨rfl, hb6⟩)
  have HB6 := Lib.hid (bel_trans HB5.out hb6)
  have HK6 := Lib.hid (block_below HK5.out hb6)
  clear hb6 c0 c1 c2 c3 c4 c5 c6 c7 c8 c9 c10 c11 c12
  have c0 := cellB HK6.out (i := 0) rfl
  have c1 := cellB HK6.out (i := 1) rfl
  have c2 := cellB HK6.out (i := 2) rfl
  have c3 := cellB HK6.out (i := 3) rfl
  have c4 := cellB HK6.out (i := 4) rfl
  have c5 := cellB HK6.out (i := 5) rfl
  have c6 := cellB HK6.out (i := 6) rfl
  have c7 := cellB HK6.out (i := 7) rfl
  have c8 := cellB HK6.out (i := 8) rfl
  have c9 := cellB HK6.out (i := 9) rfl
  have c10 := cellB HK6.out (i := 10) rfl
  have c11 := cellB HK6.out (i := 11) rfl
  have c12 := cellB HK6.out (i := 12) rfl
  go_wp2_with fail
  go_ret2
  exact ⟨ret2_i64 (by omega) rfl, HB6.out⟩

set_option maxRecDepth 100000 in
set_option maxHeartbeats 1000000 in
theorem untBase1 (off save : Int) (st fm : ByteArray) (y m k w d sec base : Int) (v : Value) (W : World) : Calls Tryd.prog 35 #[.agg #[.int .i64 off, .int .i64 1, .int .i64 save, .string st, .string fm, .bool true, .int .i64 y, .int .i64 m, .int .i64 k, .int .i64 w, .int .i64 d, .int .i64 sec, .int .i64 base], v] W fun e w' => e = .returned (.int .i64 0) ∧ Below W.heap.size W w' := by
  go_enter Tryd.func35, Tryd.ntmps35
  go_wp2_with fail
  go_ret
  exact ⟨rfl, bel_alloc _ _⟩

set_option maxRecDepth 100000 in
set_option maxHeartbeats 1000000 in
theorem untSave1 (off save : Int) (st fm : ByteArray) (y m k w d sec base n : Int) (v : Value) (W : World) : Calls Tryd.prog 36 #[.agg #[.int .i64 off, .int .i64 1, .int .i64 save, .string st, .string fm, .bool true, .int .i64 y, .int .i64 m, .int .i64 k, .int .i64 w, .int .i64 d, .int .i64 sec, .int .i64 base], v, .int .i64 n] W fun e w' => e = .returned (.int .i64 save) ∧ Below W.heap.size W w' := by
  go_enter Tryd.func36, Tryd.ntmps36
  go_wp2_with fail
  go_ret
  exact ⟨rfl, bel_alloc _ _⟩

set_option maxRecDepth 100000 in
set_option maxHeartbeats 4000000 in
theorem untInst10 (off save : Int) (st fm : ByteArray) (y m k w d sec : Int) (x c : Int) (v : Value) (W : World) (hT : Tabs W) (hq : untC true y m k w d sec 0 0 = 0) (hx : on y m k w d = (x, c)) (o1 : -604799 ≤ off) (o2 : off ≤ 604799) (v1 : -604799 ≤ save) (v2 : save ≤ 604799) :
    Calls Tryd.prog 22 #[.agg #[.int .i64 off, .int .i64 1, .int .i64 save, .string st, .string fm, .bool true, .int .i64 y, .int .i64 m, .int .i64 k, .int .i64 w, .int .i64 d, .int .i64 sec, .int .i64 0], v] W fun e w' => e = .returned (.tuple #[.int .i64 (86400 * x + sec - save - off), .int .i64 0]) ∧ Below W.heap.size W w' := by
  obtain ⟨-, -, -, y1, y2, -, -, x1, x2, s1, s2⟩ := unt_known hq hx
  have HX := Lib.hid hx
  have HQ := Lib.hid hq
  obtain ⟨N, hN⟩ : ∃ N, untN true y m k w d sec 0 0 = N := ⟨_, rfl⟩
  have HN := Lib.hid hN
  have HT := Lib.hid (hT.alloc (.cells #[.int .i64 off, .int .i64 1, .int .i64 save, .string st, .string fm, .bool true, .int .i64 y, .int .i64 m, .int .i64 k, .int .i64 w, .int .i64 d, .int .i64 sec, .int .i64 0] 60))
  have HB0 := Lib.hid (bel_alloc W (.cells #[.int .i64 off, .int .i64 1, .int .i64 save, .string st, .string fm, .bool true, .int .i64 y, .int .i64 m, .int .i64 k, .int .i64 w, .int .i64 d, .int .i64 sec, .int .i64 0] 60))
  have HK0 := Lib.hid (heap_alloc_new W (.cells #[.int .i64 off, .int .i64 1, .int .i64 save, .string st, .string fm, .bool true, .int .i64 y, .int .i64 m, .int .i64 k, .int .i64 w, .int .i64 d, .int .i64 sec, .int .i64 0] 60))
  clear hq hx hN hT
  go_enter Tryd.func22, Tryd.ntmps22
  go_wp2_with fail
  refine (within_any off _ o1 o2).mono ?_
  intro e w' hq; obtain ⟨rfl, rfl⟩ := (fun _ _ h => h) _ _ hq; clear hq
  go_wp2_with fail
  refine (within_any save _ v1 v2).mono ?_
  intro e w' hq; obtain ⟨rfl, rfl⟩ := (fun _ _ h => h) _ _ hq; clear hq
  go_wp2_with fail
  go_region_held3 (fun w' => w'.cell? ⟨W.heap.size, 0, none⟩ = some (.int .i64 off) ∧ w'.cell? ⟨W.heap.size, 1, none⟩ = some (.int .i64 1) ∧ w'.cell? ⟨W.heap.size, 2, none⟩ = some (.int .i64 save) ∧ w'.cell? ⟨W.heap.size, 3, none⟩ = some (.string st) ∧ w'.cell? ⟨W.heap.size, 4, none⟩ = some (.string fm) ∧ w'.cell? ⟨W.heap.size, 5, none⟩ = some (.bool true) ∧ w'.cell? ⟨W.heap.size, 6, none⟩ = some (.int .i64 y) ∧ w'.cell? ⟨W.heap.size, 7, none⟩ = some (.int .i64 m) ∧ w'.cell? ⟨W.heap.size, 8, none⟩ = some (.int .i64 k) ∧ w'.cell? ⟨W.heap.size, 9, none⟩ = some (.int .i64 w) ∧ w'.cell? ⟨W.heap.size, 10, none⟩ = some (.int .i64 d) ∧ w'.cell? ⟨W.heap.size, 11, none⟩ = some (.int .i64 sec) ∧ w'.cell? ⟨W.heap.size, 12, none⟩ = some (.int .i64 0))
    (first | exact cells13 (by exact HK0.out) | exact cells13 (block_below (by exact HK0.out) hb3) | exact cells13 (block_below (block_below (by exact HK0.out) hb3) hb4))
    (first
     | (go_at_call 35; refine (untBase1 off save st fm y m k w d sec 0 v _).mono ?_; rintro e w3 ⟨rfl, hb3⟩)
     | (go_at_call 34; refine (untNom_any true y m k w d sec 0 0 _ (by exact Tabs.below (by exact HT.out) hb3) (by omega) (by omega)).mono ?_; intro e w4 hq; obtain ⟨rfl, hb4⟩ := NomU.to HN.out HQ.out _ _ hq; clear hq))
  have HB4 := Lib.hid (bel_trans (bel_trans (Below.drew HB0.out) hb3) hb4)
  have HK4 := Lib.hid (block_below (block_below (by exact HK0.out) hb3) hb4)
  have HT4 := Lib.hid (Tabs.below (Tabs.below (by exact HT.out) hb3) hb4)
  clear hb3 hb4
  have c0 := cellB HK4.out (i := 0) rfl
  have c1 := cellB HK4.out (i := 1) rfl
  have c2 := cellB HK4.out (i := 2) rfl
  have c3 := cellB HK4.out (i := 3) rfl
  have c4 := cellB HK4.out (i := 4) rfl
  have c5 := cellB HK4.out (i := 5) rfl
  have c6 := cellB HK4.out (i := 6) rfl
  have c7 := cellB HK4.out (i := 7) rfl
  have c8 := cellB HK4.out (i := 8) rfl
  have c9 := cellB HK4.out (i := 9) rfl
  have c10 := cellB HK4.out (i := 10) rfl
  have c11 := cellB HK4.out (i := 11) rfl
  have c12 := cellB HK4.out (i := 12) rfl
  go_wp2_with fail
  ((with_reducible refine (untSave1 off save st fm y m k w d sec 0 _ v _).mono ?_); rintro e w5 ⟨rfl, hb5⟩)
  have HB5 := Lib.hid (bel_trans HB4.out hb5)
  have HK5 := Lib.hid (block_below HK4.out hb5)
  have HT5 := Lib.hid (HT4.out.below hb5)
  clear hb5 c0 c1 c2 c3 c4 c5 c6 c7 c8 c9 c10 c11 c12
  have c0 := cellB HK5.out (i := 0) rfl
  have c1 := cellB HK5.out (i := 1) rfl
  have c2 := cellB HK5.out (i := 2) rfl
  have c3 := cellB HK5.out (i := 3) rfl
  have c4 := cellB HK5.out (i := 4) rfl
  have c5 := cellB HK5.out (i := 5) rfl
  have c6 := cellB HK5.out (i := 6) rfl
  have c7 := cellB HK5.out (i := 7) rfl
  have c8 := cellB HK5.out (i := 8) rfl
  have c9 := cellB HK5.out (i := 9) rfl
  have c10 := cellB HK5.out (i := 10) rfl
  have c11 := cellB HK5.out (i := 11) rfl
  have c12 := cellB HK5.out (i := 12) rfl
  go_wp2_with fail
  refine (within_any save _ (by omega) (by omega)).mono ?_
  intro e w' hq; obtain ⟨rfl, rfl⟩ := (fun _ _ h => h) _ _ hq; clear hq
  go_wp2_with fail
  ((with_reducible refine (untSecs_any true y m k w d sec 0 x c _ (by exact HT5.out) y1 y2 HX x1 x2 s1 s2).mono ?_); rintro e w6 ⟨rfl, hb6⟩)
  have HB6 := Lib.hid (bel_trans HB5.out hb6)
  have HK6 := Lib.hid (block_below HK5.out hb6)
  clear hb6 c0 c1 c2 c3 c4 c5 c6 c7 c8 c9 c10 c11 c12
  have c0 := cellB HK6.out (i := 0) rfl
  have c1 := cellB HK6.out (i := 1) rfl
  have c2 := cellB HK6.out (i := 2) rfl
  have c3 := cellB HK6.out (i := 3) rfl
  have c4 := cellB HK6.out (i := 4) rfl
  have c5 := cellB HK6.out (i := 5) rfl
  have c6 := cellB HK6.out (i := 6) rfl
  have c7 := cellB HK6.out (i := 7) rfl
  have c8 := cellB HK6.out (i := 8) rfl
  have c9 := cellB HK6.out (i := 9) rfl
  have c10 := cellB HK6.out (i := 10) rfl
  have c11 := cellB HK6.out (i := 11) rfl
  have c12 := cellB HK6.out (i := 12) rfl
  go_wp2_with fail
  go_ret2
  exact ⟨ret2_i64 (by omega) rfl, HB6.out⟩

set_option maxRecDepth 100000 in
set_option maxHeartbeats 4000000 in
theorem untInst11 (off save : Int) (st fm : ByteArray) (y m k w d sec : Int) (x c : Int) (v : Value) (W : World) (hT : Tabs W) (hq : untC true y m k w d sec 1 0 = 0) (hx : on y m k w d = (x, c)) (o1 : -604799 ≤ off) (o2 : off ≤ 604799) (v1 : -604799 ≤ save) (v2 : save ≤ 604799) :
    Calls Tryd.prog 22 #[.agg #[.int .i64 off, .int .i64 1, .int .i64 save, .string st, .string fm, .bool true, .int .i64 y, .int .i64 m, .int .i64 k, .int .i64 w, .int .i64 d, .int .i64 sec, .int .i64 1], v] W fun e w' => e = .returned (.tuple #[.int .i64 (86400 * x + sec - off), .int .i64 0]) ∧ Below W.heap.size W w' := by
  obtain ⟨-, -, -, y1, y2, -, -, x1, x2, s1, s2⟩ := unt_known hq hx
  have HX := Lib.hid hx
  have HQ := Lib.hid hq
  obtain ⟨N, hN⟩ : ∃ N, untN true y m k w d sec 1 0 = N := ⟨_, rfl⟩
  have HN := Lib.hid hN
  have HT := Lib.hid (hT.alloc (.cells #[.int .i64 off, .int .i64 1, .int .i64 save, .string st, .string fm, .bool true, .int .i64 y, .int .i64 m, .int .i64 k, .int .i64 w, .int .i64 d, .int .i64 sec, .int .i64 1] 60))
  have HB0 := Lib.hid (bel_alloc W (.cells #[.int .i64 off, .int .i64 1, .int .i64 save, .string st, .string fm, .bool true, .int .i64 y, .int .i64 m, .int .i64 k, .int .i64 w, .int .i64 d, .int .i64 sec, .int .i64 1] 60))
  have HK0 := Lib.hid (heap_alloc_new W (.cells #[.int .i64 off, .int .i64 1, .int .i64 save, .string st, .string fm, .bool true, .int .i64 y, .int .i64 m, .int .i64 k, .int .i64 w, .int .i64 d, .int .i64 sec, .int .i64 1] 60))
  clear hq hx hN hT
  go_enter Tryd.func22, Tryd.ntmps22
  go_wp2_with fail
  refine (within_any off _ o1 o2).mono ?_
  intro e w' hq; obtain ⟨rfl, rfl⟩ := (fun _ _ h => h) _ _ hq; clear hq
  go_wp2_with fail
  refine (within_any save _ v1 v2).mono ?_
  intro e w' hq; obtain ⟨rfl, rfl⟩ := (fun _ _ h => h) _ _ hq; clear hq
  go_wp2_with fail
  go_region_held3 (fun w' => w'.cell? ⟨W.heap.size, 0, none⟩ = some (.int .i64 off) ∧ w'.cell? ⟨W.heap.size, 1, none⟩ = some (.int .i64 1) ∧ w'.cell? ⟨W.heap.size, 2, none⟩ = some (.int .i64 save) ∧ w'.cell? ⟨W.heap.size, 3, none⟩ = some (.string st) ∧ w'.cell? ⟨W.heap.size, 4, none⟩ = some (.string fm) ∧ w'.cell? ⟨W.heap.size, 5, none⟩ = some (.bool true) ∧ w'.cell? ⟨W.heap.size, 6, none⟩ = some (.int .i64 y) ∧ w'.cell? ⟨W.heap.size, 7, none⟩ = some (.int .i64 m) ∧ w'.cell? ⟨W.heap.size, 8, none⟩ = some (.int .i64 k) ∧ w'.cell? ⟨W.heap.size, 9, none⟩ = some (.int .i64 w) ∧ w'.cell? ⟨W.heap.size, 10, none⟩ = some (.int .i64 d) ∧ w'.cell? ⟨W.heap.size, 11, none⟩ = some (.int .i64 sec) ∧ w'.cell? ⟨W.heap.size, 12, none⟩ = some (.int .i64 1))
    (first | exact cells13 (by exact HK0.out) | exact cells13 (block_below (by exact HK0.out) hb3) | exact cells13 (block_below (block_below (by exact HK0.out) hb3) hb4))
    (first
     | (go_at_call 35; refine (untBase1 off save st fm y m k w d sec 1 v _).mono ?_; rintro e w3 ⟨rfl, hb3⟩)
     | (go_at_call 34; refine (untNom_any true y m k w d sec 1 0 _ (by exact Tabs.below (by exact HT.out) hb3) (by omega) (by omega)).mono ?_; intro e w4 hq; obtain ⟨rfl, hb4⟩ := NomU.to HN.out HQ.out _ _ hq; clear hq))
  have HB4 := Lib.hid (bel_trans (bel_trans (Below.drew HB0.out) hb3) hb4)
  have HK4 := Lib.hid (block_below (block_below (by exact HK0.out) hb3) hb4)
  have HT4 := Lib.hid (Tabs.below (Tabs.below (by exact HT.out) hb3) hb4)
  clear hb3 hb4
  have c0 := cellB HK4.out (i := 0) rfl
  have c1 := cellB HK4.out (i := 1) rfl
  have c2 := cellB HK4.out (i := 2) rfl
  have c3 := cellB HK4.out (i := 3) rfl
  have c4 := cellB HK4.out (i := 4) rfl
  have c5 := cellB HK4.out (i := 5) rfl
  have c6 := cellB HK4.out (i := 6) rfl
  have c7 := cellB HK4.out (i := 7) rfl
  have c8 := cellB HK4.out (i := 8) rfl
  have c9 := cellB HK4.out (i := 9) rfl
  have c10 := cellB HK4.out (i := 10) rfl
  have c11 := cellB HK4.out (i := 11) rfl
  have c12 := cellB HK4.out (i := 12) rfl
  go_wp2_with fail
  ((with_reducible refine (untSave1 off save st fm y m k w d sec 1 _ v _).mono ?_); rintro e w5 ⟨rfl, hb5⟩)
  have HB5 := Lib.hid (bel_trans HB4.out hb5)
  have HK5 := Lib.hid (block_below HK4.out hb5)
  have HT5 := Lib.hid (HT4.out.below hb5)
  clear hb5 c0 c1 c2 c3 c4 c5 c6 c7 c8 c9 c10 c11 c12
  have c0 := cellB HK5.out (i := 0) rfl
  have c1 := cellB HK5.out (i := 1) rfl
  have c2 := cellB HK5.out (i := 2) rfl
  have c3 := cellB HK5.out (i := 3) rfl
  have c4 := cellB HK5.out (i := 4) rfl
  have c5 := cellB HK5.out (i := 5) rfl
  have c6 := cellB HK5.out (i := 6) rfl
  have c7 := cellB HK5.out (i := 7) rfl
  have c8 := cellB HK5.out (i := 8) rfl
  have c9 := cellB HK5.out (i := 9) rfl
  have c10 := cellB HK5.out (i := 10) rfl
  have c11 := cellB HK5.out (i := 11) rfl
  have c12 := cellB HK5.out (i := 12) rfl
  go_wp2_with fail
  refine (within_any save _ (by omega) (by omega)).mono ?_
  intro e w' hq; obtain ⟨rfl, rfl⟩ := (fun _ _ h => h) _ _ hq; clear hq
  go_wp2_with fail
  ((with_reducible refine (untSecs_any true y m k w d sec 1 x c _ (by exact HT5.out) y1 y2 HX x1 x2 s1 s2).mono ?_); rintro e w6 ⟨rfl, hb6⟩)
  have HB6 := Lib.hid (bel_trans HB5.out hb6)
  have HK6 := Lib.hid (block_below HK5.out hb6)
  clear hb6 c0 c1 c2 c3 c4 c5 c6 c7 c8 c9 c10 c11 c12
  have c0 := cellB HK6.out (i := 0) rfl
  have c1 := cellB HK6.out (i := 1) rfl
  have c2 := cellB HK6.out (i := 2) rfl
  have c3 := cellB HK6.out (i := 3) rfl
  have c4 := cellB HK6.out (i := 4) rfl
  have c5 := cellB HK6.out (i := 5) rfl
  have c6 := cellB HK6.out (i := 6) rfl
  have c7 := cellB HK6.out (i := 7) rfl
  have c8 := cellB HK6.out (i := 8) rfl
  have c9 := cellB HK6.out (i := 9) rfl
  have c10 := cellB HK6.out (i := 10) rfl
  have c11 := cellB HK6.out (i := 11) rfl
  have c12 := cellB HK6.out (i := 12) rfl
  go_wp2_with fail
  go_ret2
  exact ⟨ret2_i64 (by omega) rfl, HB6.out⟩

set_option maxRecDepth 100000 in
set_option maxHeartbeats 4000000 in
theorem untInst12 (off save : Int) (st fm : ByteArray) (y m k w d sec : Int) (x c : Int) (v : Value) (W : World) (hT : Tabs W) (hq : untC true y m k w d sec 2 0 = 0) (hx : on y m k w d = (x, c)) (o1 : -604799 ≤ off) (o2 : off ≤ 604799) (v1 : -604799 ≤ save) (v2 : save ≤ 604799) :
    Calls Tryd.prog 22 #[.agg #[.int .i64 off, .int .i64 1, .int .i64 save, .string st, .string fm, .bool true, .int .i64 y, .int .i64 m, .int .i64 k, .int .i64 w, .int .i64 d, .int .i64 sec, .int .i64 2], v] W fun e w' => e = .returned (.tuple #[.int .i64 (86400 * x + sec), .int .i64 0]) ∧ Below W.heap.size W w' := by
  obtain ⟨-, -, -, y1, y2, -, -, x1, x2, s1, s2⟩ := unt_known hq hx
  have HX := Lib.hid hx
  have HQ := Lib.hid hq
  obtain ⟨N, hN⟩ : ∃ N, untN true y m k w d sec 2 0 = N := ⟨_, rfl⟩
  have HN := Lib.hid hN
  have HT := Lib.hid (hT.alloc (.cells #[.int .i64 off, .int .i64 1, .int .i64 save, .string st, .string fm, .bool true, .int .i64 y, .int .i64 m, .int .i64 k, .int .i64 w, .int .i64 d, .int .i64 sec, .int .i64 2] 60))
  have HB0 := Lib.hid (bel_alloc W (.cells #[.int .i64 off, .int .i64 1, .int .i64 save, .string st, .string fm, .bool true, .int .i64 y, .int .i64 m, .int .i64 k, .int .i64 w, .int .i64 d, .int .i64 sec, .int .i64 2] 60))
  have HK0 := Lib.hid (heap_alloc_new W (.cells #[.int .i64 off, .int .i64 1, .int .i64 save, .string st, .string fm, .bool true, .int .i64 y, .int .i64 m, .int .i64 k, .int .i64 w, .int .i64 d, .int .i64 sec, .int .i64 2] 60))
  clear hq hx hN hT
  go_enter Tryd.func22, Tryd.ntmps22
  go_wp2_with fail
  refine (within_any off _ o1 o2).mono ?_
  intro e w' hq; obtain ⟨rfl, rfl⟩ := (fun _ _ h => h) _ _ hq; clear hq
  go_wp2_with fail
  refine (within_any save _ v1 v2).mono ?_
  intro e w' hq; obtain ⟨rfl, rfl⟩ := (fun _ _ h => h) _ _ hq; clear hq
  go_wp2_with fail
  go_region_held3 (fun w' => w'.cell? ⟨W.heap.size, 0, none⟩ = some (.int .i64 off) ∧ w'.cell? ⟨W.heap.size, 1, none⟩ = some (.int .i64 1) ∧ w'.cell? ⟨W.heap.size, 2, none⟩ = some (.int .i64 save) ∧ w'.cell? ⟨W.heap.size, 3, none⟩ = some (.string st) ∧ w'.cell? ⟨W.heap.size, 4, none⟩ = some (.string fm) ∧ w'.cell? ⟨W.heap.size, 5, none⟩ = some (.bool true) ∧ w'.cell? ⟨W.heap.size, 6, none⟩ = some (.int .i64 y) ∧ w'.cell? ⟨W.heap.size, 7, none⟩ = some (.int .i64 m) ∧ w'.cell? ⟨W.heap.size, 8, none⟩ = some (.int .i64 k) ∧ w'.cell? ⟨W.heap.size, 9, none⟩ = some (.int .i64 w) ∧ w'.cell? ⟨W.heap.size, 10, none⟩ = some (.int .i64 d) ∧ w'.cell? ⟨W.heap.size, 11, none⟩ = some (.int .i64 sec) ∧ w'.cell? ⟨W.heap.size, 12, none⟩ = some (.int .i64 2))
    (first | exact cells13 (by exact HK0.out) | exact cells13 (block_below (by exact HK0.out) hb3) | exact cells13 (block_below (block_below (by exact HK0.out) hb3) hb4))
    (first
     | (go_at_call 35; refine (untBase1 off save st fm y m k w d sec 2 v _).mono ?_; rintro e w3 ⟨rfl, hb3⟩)
     | (go_at_call 34; refine (untNom_any true y m k w d sec 2 0 _ (by exact Tabs.below (by exact HT.out) hb3) (by omega) (by omega)).mono ?_; intro e w4 hq; obtain ⟨rfl, hb4⟩ := NomU.to HN.out HQ.out _ _ hq; clear hq))
  have HB4 := Lib.hid (bel_trans (bel_trans (Below.drew HB0.out) hb3) hb4)
  have HK4 := Lib.hid (block_below (block_below (by exact HK0.out) hb3) hb4)
  have HT4 := Lib.hid (Tabs.below (Tabs.below (by exact HT.out) hb3) hb4)
  clear hb3 hb4
  have c0 := cellB HK4.out (i := 0) rfl
  have c1 := cellB HK4.out (i := 1) rfl
  have c2 := cellB HK4.out (i := 2) rfl
  have c3 := cellB HK4.out (i := 3) rfl
  have c4 := cellB HK4.out (i := 4) rfl
  have c5 := cellB HK4.out (i := 5) rfl
  have c6 := cellB HK4.out (i := 6) rfl
  have c7 := cellB HK4.out (i := 7) rfl
  have c8 := cellB HK4.out (i := 8) rfl
  have c9 := cellB HK4.out (i := 9) rfl
  have c10 := cellB HK4.out (i := 10) rfl
  have c11 := cellB HK4.out (i := 11) rfl
  have c12 := cellB HK4.out (i := 12) rfl
  go_wp2_with fail
  ((with_reducible refine (untSave1 off save st fm y m k w d sec 2 _ v _).mono ?_); rintro e w5 ⟨rfl, hb5⟩)
  have HB5 := Lib.hid (bel_trans HB4.out hb5)
  have HK5 := Lib.hid (block_below HK4.out hb5)
  have HT5 := Lib.hid (HT4.out.below hb5)
  clear hb5 c0 c1 c2 c3 c4 c5 c6 c7 c8 c9 c10 c11 c12
  have c0 := cellB HK5.out (i := 0) rfl
  have c1 := cellB HK5.out (i := 1) rfl
  have c2 := cellB HK5.out (i := 2) rfl
  have c3 := cellB HK5.out (i := 3) rfl
  have c4 := cellB HK5.out (i := 4) rfl
  have c5 := cellB HK5.out (i := 5) rfl
  have c6 := cellB HK5.out (i := 6) rfl
  have c7 := cellB HK5.out (i := 7) rfl
  have c8 := cellB HK5.out (i := 8) rfl
  have c9 := cellB HK5.out (i := 9) rfl
  have c10 := cellB HK5.out (i := 10) rfl
  have c11 := cellB HK5.out (i := 11) rfl
  have c12 := cellB HK5.out (i := 12) rfl
  go_wp2_with fail
  refine (within_any save _ (by omega) (by omega)).mono ?_
  intro e w' hq; obtain ⟨rfl, rfl⟩ := (fun _ _ h => h) _ _ hq; clear hq
  go_wp2_with fail
  ((with_reducible refine (untSecs_any true y m k w d sec 2 x c _ (by exact HT5.out) y1 y2 HX x1 x2 s1 s2).mono ?_); rintro e w6 ⟨rfl, hb6⟩)
  have HB6 := Lib.hid (bel_trans HB5.out hb6)
  have HK6 := Lib.hid (block_below HK5.out hb6)
  clear hb6 c0 c1 c2 c3 c4 c5 c6 c7 c8 c9 c10 c11 c12
  have c0 := cellB HK6.out (i := 0) rfl
  have c1 := cellB HK6.out (i := 1) rfl
  have c2 := cellB HK6.out (i := 2) rfl
  have c3 := cellB HK6.out (i := 3) rfl
  have c4 := cellB HK6.out (i := 4) rfl
  have c5 := cellB HK6.out (i := 5) rfl
  have c6 := cellB HK6.out (i := 6) rfl
  have c7 := cellB HK6.out (i := 7) rfl
  have c8 := cellB HK6.out (i := 8) rfl
  have c9 := cellB HK6.out (i := 9) rfl
  have c10 := cellB HK6.out (i := 10) rfl
  have c11 := cellB HK6.out (i := 11) rfl
  have c12 := cellB HK6.out (i := 12) rfl
  go_wp2_with fail
  go_ret2
  exact ⟨ret2_i64 (by omega) rfl, HB6.out⟩

end Go.Proofs.YtdppmeeobpbfnaaDoor
