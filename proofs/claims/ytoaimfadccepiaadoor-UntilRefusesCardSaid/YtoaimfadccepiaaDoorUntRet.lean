/-
  Ends of eras: Instant's early returns.
-/
import Derived.Test.YtoaimfadccepiaaDoorUntEx
namespace Go.Proofs.YtoaimfadccepiaaDoor
open Go.RowKit Cv
set_option linter.unusedVariables false
set_option linter.unusedSimpArgs false

theorem withinNo_any (n : Int) (W : World) (h : n < -604799 ∨ 604799 < n) : Calls Tryd.prog 29 #[.int .i64 n, .int .i64 604799] W fun e w' => e = .returned (.bool false) ∧ W = w' := by
  rcases h with h | h
  all_goals
    go_enter Tryd.func29, Tryd.ntmps29
    go_wp2_with fail
    go_ret
    first
    | exact ⟨rfl, rfl⟩
    | (refine ⟨?_, rfl⟩; have hd : decide (n ≤ 604799) = false := by simp; omega
       show Ending.returned (.bool (decide (n ≤ 604799))) = _
       rw [hd])

set_option maxRecDepth 100000 in
set_option maxHeartbeats 4000000 in
/-- no such kind -/
theorem instKind_any (off kind save : Int) (st fm : ByteArray) (is : Bool) (y m k w d sec base : Int) (v : Value) (W : World) (h : kind < 0 ∨ 2 < kind) :
    Calls Tryd.prog 16 #[.agg #[.int .i64 off, .int .i64 kind, .int .i64 save, .string st, .string fm, .bool is, .int .i64 y, .int .i64 m, .int .i64 k, .int .i64 w, .int .i64 d, .int .i64 sec, .int .i64 base], v] W fun e w' => e = .returned (.tuple #[.int .i64 0, .int .i64 2]) ∧ Below W.heap.size W w' := by
  rcases h with h | h
  all_goals
    go_enter Tryd.func16, Tryd.ntmps16
    go_wp2_with fail
    go_ret2
    exact ⟨rfl, bel_alloc _ _⟩

set_option maxRecDepth 100000 in
set_option maxHeartbeats 4000000 in
/-- an offset out of range -/
theorem instOff_any (off kind save : Int) (st fm : ByteArray) (is : Bool) (y m k w d sec base : Int) (v : Value) (W : World) (h1 : 0 ≤ kind) (h2 : kind ≤ 2) (h : off < -604799 ∨ 604799 < off) :
    Calls Tryd.prog 16 #[.agg #[.int .i64 off, .int .i64 kind, .int .i64 save, .string st, .string fm, .bool is, .int .i64 y, .int .i64 m, .int .i64 k, .int .i64 w, .int .i64 d, .int .i64 sec, .int .i64 base], v] W fun e w' => e = .returned (.tuple #[.int .i64 0, .int .i64 3]) ∧ Below W.heap.size W w' := by
  have HO := Lib.hid h
  clear h
  go_enter Tryd.func16, Tryd.ntmps16
  go_wp2_with fail
  refine (withinNo_any off _ HO.out).mono ?_
  intro e w' hq; obtain ⟨rfl, rfl⟩ := (fun _ _ h => h) _ _ hq; clear hq
  go_wp2_with fail
  go_ret2
  exact ⟨rfl, bel_alloc _ _⟩

set_option maxRecDepth 100000 in
set_option maxHeartbeats 4000000 in
/-- a fixed save out of range -/
theorem instSave_any (save : Int) (st fm : ByteArray) (is : Bool) (y m k w d sec base : Int) (v : Value) (W : World) (h : save < -604799 ∨ 604799 < save) :
    Calls Tryd.prog 16 #[.agg #[.int .i64 0, .int .i64 1, .int .i64 save, .string st, .string fm, .bool is, .int .i64 y, .int .i64 m, .int .i64 k, .int .i64 w, .int .i64 d, .int .i64 sec, .int .i64 base], v] W fun e w' => e = .returned (.tuple #[.int .i64 0, .int .i64 3]) ∧ Below W.heap.size W w' := by
  have HO := Lib.hid h
  clear h
  go_enter Tryd.func16, Tryd.ntmps16
  go_wp2_with fail
  refine (within_any 0 _ (by decide) (by decide)).mono ?_
  intro e w' hq; obtain ⟨rfl, rfl⟩ := (fun _ _ h => h) _ _ hq; clear hq
  go_wp2_with fail
  refine (withinNo_any save _ HO.out).mono ?_
  intro e w' hq; obtain ⟨rfl, rfl⟩ := (fun _ _ h => h) _ _ hq; clear hq
  go_wp2_with fail
  go_ret2
  exact ⟨rfl, bel_alloc _ _⟩

namespace Cv
theorem q2 {q : Int} (h : q ≠ 0) : (q == 0) = false := by simp [h]
end Cv
set_option maxRecDepth 100000 in
set_option maxHeartbeats 1000000 in
theorem untBaseB (off save : Int) (st fm : ByteArray) (is : Bool) (y m k w d sec base : Int) (v : Value) (W : World) : Calls Tryd.prog 30 #[.agg #[.int .i64 off, .int .i64 0, .int .i64 save, .string st, .string fm, .bool is, .int .i64 y, .int .i64 m, .int .i64 k, .int .i64 w, .int .i64 d, .int .i64 sec, .int .i64 base], v] W fun e w' => e = .returned (.int .i64 0) ∧ Below W.heap.size W w' := by
  go_enter Tryd.func30, Tryd.ntmps30
  go_wp2_with fail
  go_ret
  exact ⟨rfl, bel_alloc _ _⟩

set_option maxRecDepth 100000 in
set_option maxHeartbeats 4000000 in
/-- an end that is wrong, in an era of no rules -/
theorem instBad_any (off save : Int) (st fm : ByteArray) (is : Bool) (y m k w d sec base q : Int) (v : Value) (W : World) (hT : Tabs W) (hy1 : -9223372036854775808 ≤ y) (hy2 : y ≤ 9223372036854775807) (HQ : Hid (untC is y m k w d sec base 0 = q)) (hq : q ≠ 0) (o1 : -604799 ≤ off) (o2 : off ≤ 604799) :
    Calls Tryd.prog 16 #[.agg #[.int .i64 off, .int .i64 0, .int .i64 save, .string st, .string fm, .bool is, .int .i64 y, .int .i64 m, .int .i64 k, .int .i64 w, .int .i64 d, .int .i64 sec, .int .i64 base], v] W fun e w' => e = .returned (.tuple #[.int .i64 0, .int .i64 q]) ∧ Below W.heap.size W w' := by
  have HN := Lib.hid (untN_no (is := is) (y := y) (m := m) (k := k) (w := w) (d := d) (sec := sec) (base := base) (least := 0) (by rw [HQ.out]; exact hq))
  have HT := Lib.hid (hT.alloc (.cells #[.int .i64 off, .int .i64 0, .int .i64 save, .string st, .string fm, .bool is, .int .i64 y, .int .i64 m, .int .i64 k, .int .i64 w, .int .i64 d, .int .i64 sec, .int .i64 base] 45))
  have HB0 := Lib.hid (bel_alloc W (.cells #[.int .i64 off, .int .i64 0, .int .i64 save, .string st, .string fm, .bool is, .int .i64 y, .int .i64 m, .int .i64 k, .int .i64 w, .int .i64 d, .int .i64 sec, .int .i64 base] 45))
  have HK0 := Lib.hid (heap_alloc_new W (.cells #[.int .i64 off, .int .i64 0, .int .i64 save, .string st, .string fm, .bool is, .int .i64 y, .int .i64 m, .int .i64 k, .int .i64 w, .int .i64 d, .int .i64 sec, .int .i64 base] 45))
  have hqb := q2 hq
  clear hq hT
  go_enter Tryd.func16, Tryd.ntmps16
  go_wp2_with fail
  refine (within_any off _ o1 o2).mono ?_
  intro e w' hq; obtain ⟨rfl, rfl⟩ := (fun _ _ h => h) _ _ hq; clear hq
  go_wp2_with fail
  go_region_held3 (fun w' => w'.cell? ⟨W.heap.size, 0, none⟩ = some (.int .i64 off) ∧ w'.cell? ⟨W.heap.size, 1, none⟩ = some (.int .i64 0) ∧ w'.cell? ⟨W.heap.size, 2, none⟩ = some (.int .i64 save) ∧ w'.cell? ⟨W.heap.size, 3, none⟩ = some (.string st) ∧ w'.cell? ⟨W.heap.size, 4, none⟩ = some (.string fm) ∧ w'.cell? ⟨W.heap.size, 5, none⟩ = some (.bool is) ∧ w'.cell? ⟨W.heap.size, 6, none⟩ = some (.int .i64 y) ∧ w'.cell? ⟨W.heap.size, 7, none⟩ = some (.int .i64 m) ∧ w'.cell? ⟨W.heap.size, 8, none⟩ = some (.int .i64 k) ∧ w'.cell? ⟨W.heap.size, 9, none⟩ = some (.int .i64 w) ∧ w'.cell? ⟨W.heap.size, 10, none⟩ = some (.int .i64 d) ∧ w'.cell? ⟨W.heap.size, 11, none⟩ = some (.int .i64 sec) ∧ w'.cell? ⟨W.heap.size, 12, none⟩ = some (.int .i64 base))
    (first | exact cells13 (by exact HK0.out) | exact cells13 (block_below (by exact HK0.out) hb3) | exact cells13 (block_below (block_below (by exact HK0.out) hb3) hb4))
    (first
     | (go_at_call 30; refine (untBaseB off save st fm is y m k w d sec base v _).mono ?_; rintro e w3 ⟨rfl, hb3⟩)
     | (go_at_call 8; refine (untNom_any is y m k w d sec base 0 _ (by exact Tabs.below (by exact HT.out) hb3) hy1 hy2).mono ?_; intro e w4 hq; obtain ⟨rfl, hb4⟩ := NomU.to HN.out HQ.out _ _ hq; clear hq))
  have HB4 := Lib.hid (bel_trans (bel_trans (Below.drew HB0.out) hb3) hb4)
  clear hb3 hb4
  go_wp2_with fail
  go_ret2
  exact ⟨rfl, HB4.out⟩
end Go.Proofs.YtoaimfadccepiaaDoor
