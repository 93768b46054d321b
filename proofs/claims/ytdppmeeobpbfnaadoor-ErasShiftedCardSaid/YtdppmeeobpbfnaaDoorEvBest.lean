/-
  The contracts of the comparing functions of package events, of best, and of Before and After.
-/
import Derived.Test.YtdppmeeobpbfnaaDoorEvLook
namespace Go.Proofs.YtdppmeeobpbfnaaDoor
open Go.RowKit Cv
set_option linter.unusedVariables false
set_option linter.unusedSimpArgs false

namespace Cv
/-- what Compare says -/
def cmpI (a b : Int) : Int := if a < b then -1 else if b < a then 1 else 0
theorem cmpI_lt {a b : Int} (h : a < b) : cmpI a b = -1 := by unfold cmpI; rw [if_pos h]
theorem cmpI_gt {a b : Int} (h : b < a) : cmpI a b = 1 := by unfold cmpI; rw [if_neg (by omega), if_pos h]
theorem cmpI_eq (a : Int) : cmpI a a = 0 := by unfold cmpI; rw [if_neg (by omega), if_neg (by omega)]
theorem heap_alloc3_new (w : World) (a b c : Obj) : (((w.alloc a).alloc b).alloc c).heap[w.heap.size + 1 + 1]? = some c := by
  have h := heap_alloc_new ((w.alloc a).alloc b) c
  have e : ((w.alloc a).alloc b).heap.size = w.heap.size + 1 + 1 := by simp
  rw [e] at h
  exact h
/-- an event as a value -/
def Ev.arr (e : Ev) : Array Value := #[.int .i64 e.year, .int .i64 e.rule, .int .i64 e.nom]
/-- what order says -/
def ordI (a b : Ev) : Int := if cmpI a.nom b.nom ≠ 0 then cmpI a.nom b.nom else if cmpI a.rule b.rule ≠ 0 then cmpI a.rule b.rule else cmpI a.year b.year
theorem ordI_lt (a b : Ev) : ordI a b < 0 ↔ a.lt b := by
  unfold ordI Ev.lt cmpI
  repeat' split
  all_goals omega
end Cv

set_option maxRecDepth 100000 in
set_option maxHeartbeats 1000000 in
theorem cmp64_any (a b : Int) (W : World) : Calls Tryd.prog 72 #[.int .i64 a, .int .i64 b] W fun e w' => e = .returned (.int .i64 (cmpI a b)) ∧ w' = W := by
  have hnan : ∀ (x : Int) (V : World), Calls Tryd.prog 75 #[.int .i64 x] V fun e w' => e = .returned (.bool false) ∧ w' = V := fun x V => by
    go_enter Tryd.func75, Tryd.ntmps75
    go_wp2_with fail
    go_ret
    exact ⟨by simp, rfl⟩
  have HNAN := Lib.hid hnan
  clear hnan
  by_cases h1 : a < b
  · rw [cmpI_lt h1]
    go_enter Tryd.func72, Tryd.ntmps72
    go_wp2_with fail
    ((with_reducible refine (HNAN.out a _).mono ?_); rintro e w' ⟨rfl, rfl⟩)
    go_wp2_with fail
    ((with_reducible refine (HNAN.out b _).mono ?_); rintro e w' ⟨rfl, rfl⟩)
    go_wp2_with fail
    go_ret
    exact ⟨rfl, rfl⟩
  · by_cases h2 : b < a
    · rw [cmpI_gt h2]
      go_enter Tryd.func72, Tryd.ntmps72
      go_wp2_with fail
      ((with_reducible refine (HNAN.out a _).mono ?_); rintro e w' ⟨rfl, rfl⟩)
      go_wp2_with fail
      ((with_reducible refine (HNAN.out b _).mono ?_); rintro e w' ⟨rfl, rfl⟩)
      go_wp2_with fail
      go_ret
      exact ⟨rfl, rfl⟩
    · obtain rfl : a = b := by omega
      rw [cmpI_eq]
      go_enter Tryd.func72, Tryd.ntmps72
      go_wp2_with fail
      ((with_reducible refine (HNAN.out a _).mono ?_); rintro e w' ⟨rfl, rfl⟩)
      go_wp2_with fail
      ((with_reducible refine (HNAN.out a _).mono ?_); rintro e w' ⟨rfl, rfl⟩)
      go_wp2_with fail
      go_ret
      exact ⟨rfl, rfl⟩

set_option maxRecDepth 100000 in
set_option maxHeartbeats 1000000 in
theorem cmpInt_any (a b : Int) (W : World) : Calls Tryd.prog 73 #[.int .i64 a, .int .i64 b] W fun e w' => e = .returned (.int .i64 (cmpI a b)) ∧ w' = W := by
  have hnan : ∀ (x : Int) (V : World), Calls Tryd.prog 76 #[.int .i64 x] V fun e w' => e = .returned (.bool false) ∧ w' = V := fun x V => by
    go_enter Tryd.func76, Tryd.ntmps76
    go_wp2_with fail
    go_ret
    exact ⟨by simp, rfl⟩
  have HNAN := Lib.hid hnan
  clear hnan
  by_cases h1 : a < b
  · rw [cmpI_lt h1]
    go_enter Tryd.func73, Tryd.ntmps73
    go_wp2_with fail
    ((with_reducible refine (HNAN.out a _).mono ?_); rintro e w' ⟨rfl, rfl⟩)
    go_wp2_with fail
    ((with_reducible refine (HNAN.out b _).mono ?_); rintro e w' ⟨rfl, rfl⟩)
    go_wp2_with fail
    go_ret
    exact ⟨rfl, rfl⟩
  · by_cases h2 : b < a
    · rw [cmpI_gt h2]
      go_enter Tryd.func73, Tryd.ntmps73
      go_wp2_with fail
      ((with_reducible refine (HNAN.out a _).mono ?_); rintro e w' ⟨rfl, rfl⟩)
      go_wp2_with fail
      ((with_reducible refine (HNAN.out b _).mono ?_); rintro e w' ⟨rfl, rfl⟩)
      go_wp2_with fail
      go_ret
      exact ⟨rfl, rfl⟩
    · obtain rfl : a = b := by omega
      rw [cmpI_eq]
      go_enter Tryd.func73, Tryd.ntmps73
      go_wp2_with fail
      ((with_reducible refine (HNAN.out a _).mono ?_); rintro e w' ⟨rfl, rfl⟩)
      go_wp2_with fail
      ((with_reducible refine (HNAN.out a _).mono ?_); rintro e w' ⟨rfl, rfl⟩)
      go_wp2_with fail
      go_ret
      exact ⟨rfl, rfl⟩

namespace Cv
def orI (a b c : Int) : Int := if a ≠ 0 then a else if b ≠ 0 then b else c
end Cv

set_option maxRecDepth 100000 in
set_option maxHeartbeats 1000000 in
theorem or_any (a b c : Int) (g : Nat) (W : World) (h0 : W.cell? ⟨g, 0, none⟩ = some (.int .i64 a)) (h1 : W.cell? ⟨g, 1, none⟩ = some (.int .i64 b)) (h2 : W.cell? ⟨g, 2, none⟩ = some (.int .i64 c)) :
    Calls Tryd.prog 71 #[.slice (some ⟨g, 0, none⟩) 3 3] W fun e w' => e = .returned (.int .i64 (orI a b c)) ∧ w' = W := by
  go_enter Tryd.func71, Tryd.ntmps71
  go_wp2_with fail
  go_loop [8] (fun i => ∃ k : Nat, k ≤ 3 ∧ i = .int .i64 (k : Int) ∧ Hid ((1 ≤ k → a = 0) ∧ (2 ≤ k → b = 0) ∧ (3 ≤ k → c = 0))) (fun i => 3 - (intOf i).toNat)
  case atStart => exact ⟨0, by omega, rfl, Lib.hid ⟨by omega, by omega, by omega⟩⟩
  case round =>
    obtain ⟨k, hk, rfl, HZ⟩ := hrel
    have hc : k = 0 ∨ k = 1 ∨ k = 2 ∨ k = 3 := by omega
    rcases hc with rfl | rfl | rfl | rfl
    · by_cases hz : a = 0
      · have HA := Lib.hid hz
        have hb : (a != 0) = false := by simp [hz]
        clear hz
        go_wp2_with fail
        go_round
        case rel => exact ⟨1, by omega, by go_num, Lib.hid ⟨fun _ => HA.out, by omega, by omega⟩⟩
        case measure => simp [intOf]
      · have HV := Lib.hid (show a = orI a b c by unfold orI; rw [if_pos hz])
        have hb : (a != 0) = true := by simp [hz]
        clear hz
        go_wp2_with fail
        go_ret
        exact ⟨ret_i64 HV.out, rfl⟩
    · have ha : a = 0 := HZ.out.1 (by omega)
      by_cases hz : b = 0
      · have HA := Lib.hid ha
        have HB := Lib.hid hz
        have hb : (b != 0) = false := by simp [hz]
        clear hz ha
        go_wp2_with fail
        go_round
        case rel => exact ⟨2, by omega, by go_num, Lib.hid ⟨fun _ => HA.out, fun _ => HB.out, by omega⟩⟩
        case measure => simp [intOf]
      · have HV := Lib.hid (show b = orI a b c by unfold orI; rw [if_neg (by omega), if_pos hz])
        have hb : (b != 0) = true := by simp [hz]
        clear hz ha
        go_wp2_with fail
        go_ret
        exact ⟨ret_i64 HV.out, rfl⟩
    · have ha : a = 0 := HZ.out.1 (by omega)
      have hb0 : b = 0 := HZ.out.2.1 (by omega)
      by_cases hz : c = 0
      · have HA := Lib.hid ha
        have HB := Lib.hid hb0
        have HC := Lib.hid hz
        have hb : (c != 0) = false := by simp [hz]
        clear hz ha hb0
        go_wp2_with fail
        go_round
        case rel => exact ⟨3, by omega, by go_num, Lib.hid ⟨fun _ => HA.out, fun _ => HB.out, fun _ => HC.out⟩⟩
        case measure => simp [intOf]
      · have HV := Lib.hid (show c = orI a b c by unfold orI; rw [if_neg (by omega), if_neg (by omega)])
        have hb : (c != 0) = true := by simp [hz]
        clear hz ha hb0
        go_wp2_with fail
        go_ret
        exact ⟨ret_i64 HV.out, rfl⟩
    · have HV := Lib.hid (show 0 = orI a b c by unfold orI; rw [if_neg (by have := HZ.out.1 (by omega); omega), if_neg (by have := HZ.out.2.1 (by omega); omega), HZ.out.2.2 (by omega)])
      go_wp2_with fail
      go_ret
      exact ⟨ret_i64 HV.out, rfl⟩

set_option maxRecDepth 100000 in
set_option maxHeartbeats 2000000 in
theorem orderX_any (a b : Ev) (W : World) : Calls Tryd.prog 66 #[.agg a.arr, .agg b.arr] W fun e w' => e = .returned (.int .i64 (ordI a b)) ∧ w' = (((W.alloc (.cells #[.int .i64 a.year, .int .i64 a.rule, .int .i64 a.nom] 117)).alloc (.cells #[.int .i64 b.year, .int .i64 b.rule, .int .i64 b.nom] 117)).alloc (.cells #[.int .i64 (cmpI a.nom b.nom), .int .i64 (cmpI a.rule b.rule), .int .i64 (cmpI a.year b.year)] 3)).drew := by
  obtain ⟨ay, ar, an⟩ := a
  obtain ⟨bY, br, bn⟩ := b
  have HO := Lib.hid (show orI (cmpI an bn) (cmpI ar br) (cmpI ay bY) = ordI ⟨ay, ar, an⟩ ⟨bY, br, bn⟩ from rfl)
  have HA := Lib.hid (show ((W.alloc (.cells #[.int .i64 ay, .int .i64 ar, .int .i64 an] 117)).alloc (.cells #[.int .i64 bY, .int .i64 br, .int .i64 bn] 117)).drew.heap[W.heap.size]? = some (.cells #[.int .i64 ay, .int .i64 ar, .int .i64 an] 117) from block_below (heap_alloc_new _ _) (Below.drew (bel_alloc _ _)))
  have HB := Lib.hid (show ((W.alloc (.cells #[.int .i64 ay, .int .i64 ar, .int .i64 an] 117)).alloc (.cells #[.int .i64 bY, .int .i64 br, .int .i64 bn] 117)).drew.heap[W.heap.size + 1]? = some (.cells #[.int .i64 bY, .int .i64 br, .int .i64 bn] 117) from heap_alloc2_new W _ _)
  have HBE := Lib.hid (show Below W.heap.size W ((W.alloc (.cells #[.int .i64 ay, .int .i64 ar, .int .i64 an] 117)).alloc (.cells #[.int .i64 bY, .int .i64 br, .int .i64 bn] 117)).drew from Below.drew (bel_trans (bel_alloc _ _) (bel_alloc _ _)))
  have HC := Lib.hid (show ((((W.alloc (.cells #[.int .i64 ay, .int .i64 ar, .int .i64 an] 117)).alloc (.cells #[.int .i64 bY, .int .i64 br, .int .i64 bn] 117)).alloc (.cells #[.int .i64 (cmpI an bn), .int .i64 (cmpI ar br), .int .i64 (cmpI ay bY)] 3)).drew).heap[W.heap.size + 1 + 1]? = some (.cells #[.int .i64 (cmpI an bn), .int .i64 (cmpI ar br), .int .i64 (cmpI ay bY)] 3) from heap_alloc3_new W _ _ _)
  have HOR := Lib.hid (or_any (cmpI an bn) (cmpI ar br) (cmpI ay bY) (W.heap.size + 1 + 1) ((((W.alloc (.cells #[.int .i64 ay, .int .i64 ar, .int .i64 an] 117)).alloc (.cells #[.int .i64 bY, .int .i64 br, .int .i64 bn] 117)).alloc (.cells #[.int .i64 (cmpI an bn), .int .i64 (cmpI ar br), .int .i64 (cmpI ay bY)] 3)).drew) (cellB HC.out rfl) (cellB HC.out rfl) (cellB HC.out rfl))
  have HB3 := Lib.hid (show Below W.heap.size W ((((W.alloc (.cells #[.int .i64 ay, .int .i64 ar, .int .i64 an] 117)).alloc (.cells #[.int .i64 bY, .int .i64 br, .int .i64 bn] 117)).alloc (.cells #[.int .i64 (cmpI an bn), .int .i64 (cmpI ar br), .int .i64 (cmpI ay bY)] 3)).drew) from Below.drew (bel_trans (bel_trans (bel_alloc _ _) (bel_alloc _ _)) (bel_alloc _ _)))
  unfold Ev.arr
  dsimp only
  go_enter Tryd.func66, Tryd.ntmps66
  go_wp2_with fail
  first
  | (go_region_held3 (fun w' => w'.cell? ⟨W.heap.size, 0, none⟩ = some (.int .i64 ay) ∧ w'.cell? ⟨W.heap.size, 1, none⟩ = some (.int .i64 ar) ∧ w'.cell? ⟨W.heap.size, 2, none⟩ = some (.int .i64 an) ∧ w'.cell? ⟨W.heap.size + 1, 0, none⟩ = some (.int .i64 bY) ∧ w'.cell? ⟨W.heap.size + 1, 1, none⟩ = some (.int .i64 br) ∧ w'.cell? ⟨W.heap.size + 1, 2, none⟩ = some (.int .i64 bn))
      (first | exact ⟨cellB HA.out rfl, cellB HA.out rfl, cellB HA.out rfl, cellB HB.out rfl, cellB HB.out rfl, cellB HB.out rfl⟩ | go_keep)
      (first
       | (go_at_call 72; refine (cmp64_any _ _ _).mono ?_; rintro e w' ⟨rfl, rfl⟩)
       | (go_at_call 73; refine (cmpInt_any _ _ _).mono ?_; rintro e w' ⟨rfl, rfl⟩)
       | (go_at_call 71; refine HOR.out.mono ?_; rintro e w' ⟨rfl, rfl⟩)))
  | fail
  go_wp2_with fail
  go_ret
  exact ⟨ret_i64 HO.out, rfl⟩

theorem order_any (a b : Ev) (W : World) : Calls Tryd.prog 66 #[.agg a.arr, .agg b.arr] W fun e w' => e = .returned (.int .i64 (ordI a b)) ∧ Below W.heap.size W w' :=
  (orderX_any a b W).mono fun e w' h => ⟨h.1, by rw [h.2]; exact Below.drew (bel_trans (bel_trans (bel_alloc _ _) (bel_alloc _ _)) (bel_alloc _ _))⟩

set_option maxRecDepth 100000 in
set_option maxHeartbeats 1000000 in
theorem orderC_any (ay ar an bY br bn : Int) (W : World) : Calls Tryd.prog 66 #[.agg #[.int .i64 ay, .int .i64 ar, .int .i64 an], .agg #[.int .i64 bY, .int .i64 br, .int .i64 bn]] W fun e w' => e = .returned (.int .i64 (ordI ⟨ay, ar, an⟩ ⟨bY, br, bn⟩)) ∧ Below W.heap.size W w' :=
  order_any ⟨ay, ar, an⟩ ⟨bY, br, bn⟩ W

set_option maxRecDepth 100000 in
set_option maxHeartbeats 1000000 in
theorem bef2_any (a b : Ev) (W : World) : Calls Tryd.prog 65 #[.agg a.arr, .agg b.arr] W fun e w' => e = .returned (.int .i64 (ordI b a)) ∧ Below W.heap.size W w' := by
  obtain ⟨ay, ar, an⟩ := a
  obtain ⟨bY, br, bn⟩ := b
  unfold Ev.arr
  dsimp only
  go_enter Tryd.func65, Tryd.ntmps65
  go_wp2_with fail
  ((with_reducible refine (orderC_any _ _ _ _ _ _ _).mono ?_); rintro e w3 ⟨rfl, hb3⟩)
  go_wp2_with fail
  go_ret
  exact ⟨rfl, bel_trans (bel_trans (bel_alloc _ _) (bel_alloc _ _)) hb3⟩

namespace Cv
/-- the best one so far -/
def BestK (p : Nat → Option Ev → Prop) (lt : Ev → Ev → Prop) (k : Nat) : Option Ev → Prop
  | none => ∀ j, j < k → p j none
  | some e => (∃ j, j < k ∧ p j (some e)) ∧ ∀ j, j < k → ∃ o, p j o ∧ ∀ x, o = some x → ¬ lt x e
theorem BestK.skip {p : Nat → Option Ev → Prop} {lt : Ev → Ev → Prop} {k : Nat} {o : Option Ev} (h : BestK p lt k o) (hk : p k none) : BestK p lt (k + 1) o := by
  cases o with
  | none =>
    intro j hj
    by_cases e : j = k
    · subst e; exact hk
    · exact h j (by omega)
  | some e =>
    obtain ⟨⟨j, h1, h2⟩, h3⟩ := h
    refine ⟨⟨j, by omega, h2⟩, fun i hi => ?_⟩
    by_cases e : i = k
    · subst e; exact ⟨none, hk, fun x hx => by cases hx⟩
    · exact h3 i (by omega)
theorem BestK.keep {p : Nat → Option Ev → Prop} {lt : Ev → Ev → Prop} {k : Nat} {e x : Ev} (h : BestK p lt k (some e)) (hk : p k (some x)) (hx : ¬ lt x e) : BestK p lt (k + 1) (some e) := by
  obtain ⟨⟨j, h1, h2⟩, h3⟩ := h
  refine ⟨⟨j, by omega, h2⟩, fun i hi => ?_⟩
  by_cases e : i = k
  · subst e; exact ⟨some x, hk, fun y hy => by cases hy; exact hx⟩
  · exact h3 i (by omega)
theorem BestK.turn {p : Nat → Option Ev → Prop} {lt : Ev → Ev → Prop} (ht : ∀ a b c, lt a b → lt b c → lt a c) (hi : ∀ a, ¬ lt a a) {k : Nat} {e x : Ev} (h : BestK p lt k (some e)) (hk : p k (some x)) (hx : lt x e) : BestK p lt (k + 1) (some x) := by
  obtain ⟨⟨j, h1, h2⟩, h3⟩ := h
  refine ⟨⟨k, by omega, hk⟩, fun i hj => ?_⟩
  by_cases e : i = k
  · subst e; exact ⟨some x, hk, fun y hy => by cases hy; exact hi x⟩
  · obtain ⟨o, h4, h5⟩ := h3 i (by omega)
    exact ⟨o, h4, fun y hy hl => h5 y hy (ht _ _ _ hl hx)⟩
theorem BestK.first {p : Nat → Option Ev → Prop} {lt : Ev → Ev → Prop} (hi : ∀ a, ¬ lt a a) {k : Nat} {x : Ev} (h : BestK p lt k none) (hk : p k (some x)) : BestK p lt (k + 1) (some x) := by
  refine ⟨⟨k, by omega, hk⟩, fun i hj => ?_⟩
  by_cases e : i = k
  · subst e; exact ⟨some x, hk, fun y hy => by cases hy; exact hi x⟩
  · exact ⟨none, h i (by omega), fun y hy => by cases hy⟩
/-- the cells of what was found so far -/
def evC : Option Ev → Obj
  | none => (.cells #[.int .i64 0, .int .i64 0, .int .i64 0] 117)
  | some e => .cells #[.int .i64 e.year, .int .i64 e.rule, .int .i64 e.nom] 117
end Cv

set_option maxRecDepth 100000 in
set_option maxHeartbeats 4000000 in
theorem best_any (A : Option Addr) (n cap : Nat) (F G : FuncId) (caps : Array Value) (p : Nat → Option Ev → Prop) (lt : Ev → Ev → Prop) (W : World) (hn : n ≤ 1000)
    (hcf : ∀ (args : Array Value) (w : World), (callFunc F args).run Tryd.prog w = .ok (.enter F args) w) (hcg : ∀ (args : Array Value) (w : World), (callFunc G args).run Tryd.prog w = .ok (.enter G args) w)
    (ht : ∀ a b c, lt a b → lt b c → lt a c) (hi : ∀ a, ¬ lt a a)
    (hf : ∀ (k : Nat) (V : World), k < n → Below W.heap.size W V → Calls Tryd.prog F (#[.int .i64 (k : Int)] ++ caps) V (LookR (p k) V))
    (hg : ∀ (a b : Ev) (V : World), Calls Tryd.prog G (#[.agg #[.int .i64 a.year, .int .i64 a.rule, .int .i64 a.nom], .agg #[.int .i64 b.year, .int .i64 b.rule, .int .i64 b.nom]] ++ #[]) V fun e w' => (∃ z : Int, Hid (z < 0 ↔ lt a b) ∧ e = .returned (.int .i64 z)) ∧ Below V.heap.size V w') :
    Calls Tryd.prog 61 #[.slice A n cap, .func (.func F) #[] caps, .func (.func G) #[] #[]] W (LookR (BestK p lt n) W) := by
  have HF := Lib.hid hf
  have HG := Lib.hid hg
  have HT := Lib.hid (And.intro ht hi)
  clear hf hg ht hi
  go_enter Tryd.func61, Tryd.ntmps61
  go_wp2_with fail
  go_loopw [9, 15] (fun f s wr => ∃ (k : Nat) (wq : World), k ≤ n ∧ s = .int .i64 (k : Int) ∧ wr = wq ∧ Hid (Below W.heap.size W wq) ∧ Hid (wq.heap[W.heap.size]? = some (.cells #[.int .i64 0, .int .i64 0, .int .i64 0] 117)) ∧ ((f = .bool false ∧ Hid (wq.heap[W.heap.size + 1]? = some (evC (none))) ∧ Hid (BestK p lt k (none))) ∨ (∃ ey er en : Int, f = .bool true ∧ Hid (wq.heap[W.heap.size + 1]? = some (evC (some ⟨ey, er, en⟩))) ∧ Hid (BestK p lt k (some ⟨ey, er, en⟩))))) (fun _ s _ => n - (intOf s).toNat)
  case atStart => exact ⟨0, _, by omega, rfl, rfl, Lib.hid (bel_trans (bel_alloc _ _) (bel_alloc _ _)), Lib.hid (block_below (heap_alloc_new _ _) (bel_alloc _ _)), .inl ⟨rfl, Lib.hid (heap_alloc2_new _ _ _), Lib.hid (fun j hj => by omega)⟩⟩
  case round =>
    obtain ⟨k, wq, hk, rfl, rfl, HB, HZ, hst⟩ := hrel
    by_cases hlt : k < n
    · rcases hst with ⟨rfl, HE, HP⟩ | ⟨ey, er, en, rfl, HE, HP⟩
      · go_wp2_with fail
        refine (HF.out k _ hlt HB.out).mono ?_
        rintro e w2 ⟨ox, hp, he, hb2⟩
        have HB2 := Lib.hid (bel_trans HB.out hb2)
        have HZ2 := Lib.hid (block_below HZ.out hb2)
        have HE2 := Lib.hid (block_below HE.out hb2)
        clear hb2
        cases ox with
        | none =>
          have he' : e = .returned (.tuple #[.agg #[.int .i64 0, .int .i64 0, .int .i64 0], .bool false]) := he
          clear he
          subst he'
          go_wp2_with fail
          go_round
          case rel => exact ⟨k + 1, _, by omega, by go_num, rfl, Lib.hid (bel_trans HB2.out (bel_alloc _ _)), Lib.hid (block_below HZ2.out (bel_alloc _ _)), .inl ⟨rfl, Lib.hid (block_below HE2.out (bel_alloc _ _)), Lib.hid (HP.out.skip hp.out)⟩⟩
          case measure => simp [intOf]; omega
        | some x =>
          obtain ⟨xy, xr, xn⟩ := x
          have he' : e = .returned (.tuple #[.agg #[.int .i64 xy, .int .i64 xr, .int .i64 xn], .bool true]) := he
          clear he
          subst he'
          have z0 : ∀ ob, (w2.alloc ob).cell? ⟨W.heap.size + 1, 0, none⟩ = some (.int .i64 0) := fun ob => cell_below (bel_alloc w2 ob) (cellB HE2.out (i := 0) rfl)
          have z1 : ∀ ob, (w2.alloc ob).cell? ⟨W.heap.size + 1, 1, none⟩ = some (.int .i64 0) := fun ob => cell_below (bel_alloc w2 ob) (cellB HE2.out (i := 1) rfl)
          have z2 : ∀ ob, (w2.alloc ob).cell? ⟨W.heap.size + 1, 2, none⟩ = some (.int .i64 0) := fun ob => cell_below (bel_alloc w2 ob) (cellB HE2.out (i := 2) rfl)
          have g0 : ∀ ob, (w2.alloc ob).frozen? ⟨W.heap.size + 1, 0, none⟩ = false := fun ob => frzB (block_below HE2.out (bel_alloc w2 ob)) 0
          have g1 : ∀ ob, (w2.alloc ob).frozen? ⟨W.heap.size + 1, 1, none⟩ = false := fun ob => frzB (block_below HE2.out (bel_alloc w2 ob)) 1
          have g2 : ∀ ob, (w2.alloc ob).frozen? ⟨W.heap.size + 1, 2, none⟩ = false := fun ob => frzB (block_below HE2.out (bel_alloc w2 ob)) 2
          go_wp2_with fail
          go_round
          case rel => exact ⟨k + 1, _, by omega, by go_num, rfl, Lib.hid (bel_setCells (o := 0) (l := [.int .i64 xy, .int .i64 xr, .int .i64 xn]) (bel_trans HB2.out (bel_alloc w2 _)) (Nat.le_succ _)), Lib.hid (block_setCells (o := 0) (l := [.int .i64 xy, .int .i64 xr, .int .i64 xn]) (block_below HZ2.out (bel_alloc w2 _)) (by omega)), .inr ⟨xy, xr, xn, rfl, Lib.hid (set3c (block_below HE2.out (bel_alloc w2 _))), Lib.hid (BestK.first HT.out.2 HP.out hp.out)⟩⟩
          case measure => simp [intOf]; omega
      · go_wp2_with fail
        refine (HF.out k _ hlt HB.out).mono ?_
        rintro e w2 ⟨ox, hp, he, hb2⟩
        have HB2 := Lib.hid (bel_trans HB.out hb2)
        have HZ2 := Lib.hid (block_below HZ.out hb2)
        have HE2 := Lib.hid (block_below HE.out hb2)
        clear hb2
        cases ox with
        | none =>
          have he' : e = .returned (.tuple #[.agg #[.int .i64 0, .int .i64 0, .int .i64 0], .bool false]) := he
          clear he
          subst he'
          go_wp2_with fail
          go_round
          case rel => exact ⟨k + 1, _, by omega, by go_num, rfl, Lib.hid (bel_trans HB2.out (bel_alloc _ _)), Lib.hid (block_below HZ2.out (bel_alloc _ _)), .inr ⟨ey, er, en, rfl, Lib.hid (block_below HE2.out (bel_alloc _ _)), Lib.hid (HP.out.skip hp.out)⟩⟩
          case measure => simp [intOf]; omega
        | some x =>
          obtain ⟨xy, xr, xn⟩ := x
          have he' : e = .returned (.tuple #[.agg #[.int .i64 xy, .int .i64 xr, .int .i64 xn], .bool true]) := he
          clear he
          subst he'
          have z0 : ∀ ob, (w2.alloc ob).cell? ⟨W.heap.size + 1, 0, none⟩ = some (.int .i64 ey) := fun ob => cell_below (bel_alloc w2 ob) (cellB HE2.out (i := 0) rfl)
          have z1 : ∀ ob, (w2.alloc ob).cell? ⟨W.heap.size + 1, 1, none⟩ = some (.int .i64 er) := fun ob => cell_below (bel_alloc w2 ob) (cellB HE2.out (i := 1) rfl)
          have z2 : ∀ ob, (w2.alloc ob).cell? ⟨W.heap.size + 1, 2, none⟩ = some (.int .i64 en) := fun ob => cell_below (bel_alloc w2 ob) (cellB HE2.out (i := 2) rfl)
          have g0 : ∀ ob, (w2.alloc ob).frozen? ⟨W.heap.size + 1, 0, none⟩ = false := fun ob => frzB (block_below HE2.out (bel_alloc w2 ob)) 0
          have g1 : ∀ ob, (w2.alloc ob).frozen? ⟨W.heap.size + 1, 1, none⟩ = false := fun ob => frzB (block_below HE2.out (bel_alloc w2 ob)) 1
          have g2 : ∀ ob, (w2.alloc ob).frozen? ⟨W.heap.size + 1, 2, none⟩ = false := fun ob => frzB (block_below HE2.out (bel_alloc w2 ob)) 2
          go_wp2_with fail
          refine (HG.out ⟨xy, xr, xn⟩ ⟨ey, er, en⟩ _).mono ?_
          rintro e w3 ⟨⟨z, hz, rfl⟩, hb3⟩
          clear z0 z1 z2 g0 g1 g2
          have HB3 := Lib.hid (bel_trans (bel_trans HB2.out (bel_alloc w2 _)) hb3)
          have HZ3 := Lib.hid (block_below (block_below HZ2.out (bel_alloc w2 _)) hb3)
          have HE3 := Lib.hid (block_below (block_below HE2.out (bel_alloc w2 _)) hb3)
          have HX3 := Lib.hid (block_below (heap_alloc_new w2 _) hb3)
          clear hb3
          by_cases hzn : z < 0
          · have HL := Lib.hid (hz.out.1 hzn)
            have x0 := cellB HX3.out (i := 0) rfl
            have x1 := cellB HX3.out (i := 1) rfl
            have x2 := cellB HX3.out (i := 2) rfl
            have z0 := cellB HE3.out (i := 0) rfl
            have z1 := cellB HE3.out (i := 1) rfl
            have z2 := cellB HE3.out (i := 2) rfl
            have g0 := frzB HE3.out 0
            have g1 := frzB HE3.out 1
            have g2 := frzB HE3.out 2
            go_wp2_with fail
            go_round
            case rel => exact ⟨k + 1, _, by omega, by go_num, rfl, Lib.hid (bel_setCells (o := 0) (l := [.int .i64 xy, .int .i64 xr, .int .i64 xn]) HB3.out (Nat.le_succ _)), Lib.hid (block_setCells (o := 0) (l := [.int .i64 xy, .int .i64 xr, .int .i64 xn]) HZ3.out (by omega)), .inr ⟨xy, xr, xn, rfl, Lib.hid (set3c HE3.out), Lib.hid (BestK.turn HT.out.1 HT.out.2 HP.out hp.out HL.out)⟩⟩
            case measure => simp [intOf]; omega
          · have HL := Lib.hid (fun h => hzn (hz.out.2 h))
            go_wp2_with fail
            go_round
            case rel => exact ⟨k + 1, _, by omega, by go_num, rfl, HB3, HZ3, .inr ⟨ey, er, en, rfl, HE3, Lib.hid (BestK.keep HP.out hp.out HL.out)⟩⟩
            case measure => simp [intOf]; omega
    · obtain rfl : k = n := by omega
      rcases hst with ⟨rfl, HE, HP⟩ | ⟨ey, er, en, rfl, HE, HP⟩
      · skip
        have y0 := cellB HZ.out (i := 0) rfl
        have y1 := cellB HZ.out (i := 1) rfl
        have y2 := cellB HZ.out (i := 2) rfl
        have f0 := frzB HZ.out 0
        have f1 := frzB HZ.out 1
        have f2 := frzB HZ.out 2
        have z0 := cellB HE.out (i := 0) rfl
        have z1 := cellB HE.out (i := 1) rfl
        have z2 := cellB HE.out (i := 2) rfl
        go_wp2_with fail
        refine bodyPost_ret (res_cell_tmp rfl _ _ _ _ _ _ _ rfl (set3c HZ.out) Tryd.underlying117 rfl (by kernel_rfl)) rfl ?_
        exact LookR.none_ HP.out (bel_setCells (o := 0) (l := [.int .i64 0, .int .i64 0, .int .i64 0]) HB.out (Nat.le_refl _))
      · skip
        have y0 := cellB HZ.out (i := 0) rfl
        have y1 := cellB HZ.out (i := 1) rfl
        have y2 := cellB HZ.out (i := 2) rfl
        have f0 := frzB HZ.out 0
        have f1 := frzB HZ.out 1
        have f2 := frzB HZ.out 2
        have z0 := cellB HE.out (i := 0) rfl
        have z1 := cellB HE.out (i := 1) rfl
        have z2 := cellB HE.out (i := 2) rfl
        go_wp2_with fail
        refine bodyPost_ret (res_cell_tmp rfl _ _ _ _ _ _ _ rfl (set3c HZ.out) Tryd.underlying117 rfl (by kernel_rfl)) rfl ?_
        exact LookR.some_ HP.out (bel_setCells (o := 0) (l := [.int .i64 ey, .int .i64 er, .int .i64 en]) HB.out (Nat.le_refl _))
end Go.Proofs.YtdppmeeobpbfnaaDoor
