/-
  The contract of checked.Sum, at every slice of int64s: the sum, if no sum of first numbers leaves 64 bits, and 0 and false otherwise; nothing that was there is turned. (The loop ranges over the function that checked.sums returns.)
-/
import Derived.RangeFuncNested
import Derived.RangeFuncBound
import Derived.RangeFuncCalls
import Derived.RangeFuncLeaves
import Derived.RangeFuncBox
import Derived.Shelf.Abstract
import Derived.WalkKit
import Derived.OwnWalkIn
import Derived.TacticsInMore
import Derived.LoopNIn
import Derived.LoopIn
import Derived.Test.YtnfnjmpaikchcaaChkWalks
namespace Go.Proofs.Ytnfnjmpaikchcaa
open Go.RowKit Go.Shelf Ck
set_option linter.unusedVariables false
set_option linter.unusedSimpArgs false

attribute [local go_sem] Oper.semAt_some

namespace Ck
/-- the sum of the first k numbers, if no such sum leaves 64 bits -/
def psum (zs : List Int) : Nat → Option Int
  | 0 => some 0
  | k + 1 => (psum zs k).bind fun s => if fit (s + zs.getD k 0) then some (s + zs.getD k 0) else none
def pr : Option Int → Int × Bool
  | some s => (s, true)
  | none => (0, false)
theorem psum_some {zs : List Int} {k : Nat} {s : Int} (h : psum zs k = some s) : psum zs (k + 1) = if fit (s + zs.getD k 0) then some (s + zs.getD k 0) else none := by
  simp [psum, h]
theorem psum_none {zs : List Int} {k : Nat} (h : psum zs k = none) : ∀ n, k ≤ n → psum zs n = none := by
  intro n hn
  induction n with
  | zero => rwa [show k = 0 from by omega] at h
  | succ n ih =>
    by_cases e : k = n + 1
    · rwa [e] at h
    · simp [psum, ih (by omega)]
theorem psum_fit {zs : List Int} : ∀ {k : Nat} {s : Int}, psum zs k = some s → fit s
  | 0, s, h => by simp [psum] at h; subst h; decide
  | k + 1, s, h => by
    cases hp : psum zs k with
    | none => simp [psum, hp] at h
    | some u =>
      rw [psum_some hp] at h
      split at h
      · rename_i hf; simp at h; subst h; exact hf
      · simp at h
/-- what has come when k rounds are over -/
def come (zs : List Int) (k : Nat) : List (Int × Bool) := (List.range k).map fun j => pr (psum zs (j + 1))
theorem come_succ (zs : List Int) (k : Nat) : come zs (k + 1) = come zs k ++ [pr (psum zs (k + 1))] := by simp [come, List.range_succ]
theorem come_length (zs : List Int) (k : Nat) : (come zs k).length = k := by simp [come]
/-- the slice value sv holds the int64s zs, in a block below n₀; or it is nil and there are none -/
def Ints (n₀ : Nat) (W : World) (sv : Value) (zs : List Int) : Prop :=
  (sv = .slice none 0 0 ∧ zs = []) ∨ ∃ b off cap, sv = .slice (some ⟨b, off, none⟩) zs.length cap ∧ b < n₀ ∧ ∀ j, j < zs.length → W.cell? ⟨b, off + j, none⟩ = some (.int .i64 (zs[j]?.getD 0))
theorem Ints.below {n₀ : Nat} {A B : World} (h : Below n₀ A B) {sv : Value} {zs : List Int} : Ints n₀ A sv zs → Ints n₀ B sv zs
  | .inl e => .inl e
  | .inr ⟨b, off, cap, e, hb, hc⟩ => .inr ⟨b, off, cap, e, hb, fun j hj => (h.cell (p := ⟨b, off + j, none⟩) hb).trans (hc j hj)⟩
end Ck

set_option maxRecDepth 100000 in
set_option maxHeartbeats 1000000 in
theorem sums_in (F : Fence) (n : Nat) (h5 : F.fn 25) (hro : F.round = none) (a : Option Addr) (len cap : Nat) (w : World) :
    CallsIn F n Try.prog 25 #[.slice a len cap] w fun e w' => e = .returned (.func (.func 29) #[] #[.pointer (some ⟨w.heap.size, 0, none⟩)]) ∧ w' = w.alloc (.cells #[.slice a len cap] 30) := by
  refine callsIn_of_wp Try.func25 rfl h5 ?_ hro
  simp only [Try.ntmps25, List.size_toArray, List.length_cons, List.length_nil, Nat.reduceAdd, Nat.reduceSub, Array.replicate_succ, Array.replicate_zero, List.push_toArray, List.append_toArray, List.nil_append, List.cons_append]
  gi_wp2
  go_ret
  exact ⟨rfl, rfl⟩

set_option maxRecDepth 100000 in
set_option maxHeartbeats 2000000 in
/-- the function that checked.sums returns, over a slice that is not nil -/
theorem sums1_in (l Bs n₀ b off len cap : Nat) (zs : List Int) (hl : len ≤ maxLen) (hz : ∀ z ∈ zs, fit z) (hb : b < n₀) (J Jx : List (Int × Bool) → World → Prop)
    (hY : ∀ pre x W, J pre W → pre.length < len → YieldAt Fence.wide 3 Try.prog l #[.int .i64 x.1, .bool x.2] W fun e W' =>
      (e = .returned (.bool true) ∧ J (pre ++ [x]) W' ∧ Below n₀ W W') ∨ (e = .returned (.bool false) ∧ Jx (pre ++ [x]) W'))
    (W : World) (hBs : W.cell? ⟨Bs, 0, none⟩ = some (.slice (some ⟨b, off, none⟩) len cap)) (hc : ∀ j, j < len → W.cell? ⟨b, off + j, none⟩ = some (.int .i64 (zs[j]?.getD 0))) (h0 : J [] W) :
    CallsIn Fence.wide 4 Try.prog 29 #[.func (.yield l) #[] #[], .pointer (some ⟨Bs, 0, none⟩)] W fun e W' => (∃ v, e = .returned v) ∧
      ((∃ ys, (∃ k, k ≤ len ∧ ys = come zs k ∧ (k = len ∨ psum zs k = none)) ∧ J ys W') ∨ (∃ pre, (∃ k, k ≤ len ∧ pre = come zs k) ∧ Jx pre W')) := by
  unfold maxLen at hl
  refine callsIn_of_wp Try.func29 rfl trivial ?_ rfl
  simp only [Try.ntmps29, List.size_toArray, List.length_cons, List.length_nil, Nat.reduceAdd, Nat.reduceSub, Array.replicate_succ, Array.replicate_zero, List.push_toArray, List.append_toArray, List.nil_append, List.cons_append]
  gi_wp2
  gi_loopw [3, 10] (fun t i wr => ∃ (k : Nat) (s : Int), k ≤ len ∧ i = .int .i64 k ∧ t = .int .i64 s ∧ Hid (psum zs k = some s) ∧ J (come zs k) wr ∧ Below n₀ W wr)
    (fun _ i _ => len - (intOf i).toNat)
  case atStart => exact ⟨0, 0, Nat.zero_le _, rfl, rfl, rfl, h0, Below.refl _ _⟩
  case round =>
    obtain ⟨k, s, hk, rfl, rfl, hs, hJs, hnx⟩ := hrel
    by_cases hlt : k < len
    · have hcx : wr.cell? ⟨b, off + k, none⟩ = some (.int .i64 (zs[k]?.getD 0)) := (hnx.cell (p := ⟨b, off + k, none⟩) hb).trans (hc k hlt)
      have hsf := psum_fit hs.out
      have hzf : fit (zs[k]?.getD 0) := by
        cases hq : zs[k]? with
        | none => simp; decide
        | some z => simpa using hz z (List.mem_of_getElem? hq)
      have HS := Lib.hid hsf
      have HZ := Lib.hid hzf
      have hst := Lib.hid (psum_some hs.out)
      have hgd : zs.getD k 0 = zs[k]?.getD 0 := by simp [List.getD]
      have HG := Lib.hid hgd
      clear hgd hsf hzf
      by_cases hf : fit (s + zs[k]?.getD 0)
      · obtain ⟨fn, tmps, assign, body, hy, hR⟩ := hY _ (s + zs[k]?.getD 0, true) wr hJs (by rw [come_length]; exact hlt)
        have HN : Hid (psum zs (k + 1) = some (s + zs[k]?.getD 0)) := by have := hst.out; rw [HG.out, if_pos hf] at this; exact this
        have HC : Hid (come zs (k + 1) = come zs k ++ [(s + zs[k]?.getD 0, true)]) := by have := come_succ zs k; rw [HN.out] at this; exact this
        have HF := Lib.hid hf
        dsimp only at hy
        clear hf hst HG
        gi_wp2_with (refine ⟨trivial, ?_⟩; gi_at_call 9; refine (callsIn_wide.2 (add_any _ _ _ HS.out HZ.out)).mono ?_; intro e w' hq; obtain ⟨rfl, rfl⟩ := Two.to_yes HF.out rfl _ _ hq; clear hq)
        refine hR.mono ?_
        rintro e W3 (⟨rfl, hJ3, hk3⟩ | ⟨rfl, hJx3⟩)
        · gi_wp2
          go_roundw
          case rel => exact ⟨k + 1, _, by omega, by simp, rfl, HN, by rw [HC.out]; exact hJ3, hnx.trans hk3⟩
          case measure => simp [intOf]; omega
        · gi_wp2
          refine bodyPost_ret (results_none rfl _ _ _) rfl ?_
          exact ⟨⟨_, rfl⟩, .inr ⟨_, ⟨k + 1, by omega, HC.out.symm⟩, hJx3⟩⟩
      · obtain ⟨fn, tmps, assign, body, hy, hR⟩ := hY _ (0, false) wr hJs (by rw [come_length]; exact hlt)
        have HN : Hid (psum zs (k + 1) = none) := by have := hst.out; rw [HG.out, if_neg hf] at this; exact this
        have HC : Hid (come zs (k + 1) = come zs k ++ [(0, false)]) := by have := come_succ zs k; rw [HN.out] at this; exact this
        have HF := Lib.hid hf
        dsimp only at hy
        clear hf hst HG
        gi_wp2_with (refine ⟨trivial, ?_⟩; gi_at_call 9; refine (callsIn_wide.2 (add_any _ _ _ HS.out HZ.out)).mono ?_; intro e w' hq; obtain ⟨rfl, rfl⟩ := Two.to_no HF.out rfl _ _ hq; clear hq)
        refine hR.mono ?_
        rintro e W3 (⟨rfl, hJ3, hk3⟩ | ⟨rfl, hJx3⟩)
        · gi_wp2
          refine bodyPost_ret (results_none rfl _ _ _) rfl ?_
          exact ⟨⟨_, rfl⟩, .inl ⟨_, ⟨k + 1, by omega, HC.out.symm, .inr HN.out⟩, hJ3⟩⟩
        · gi_wp2
          refine bodyPost_ret (results_none rfl _ _ _) rfl ?_
          exact ⟨⟨_, rfl⟩, .inr ⟨_, ⟨k + 1, by omega, HC.out.symm⟩, hJx3⟩⟩
    · obtain rfl : k = len := by omega
      gi_wp2
      go_end0
      exact ⟨⟨_, rfl⟩, .inl ⟨_, ⟨_, Nat.le_refl _, rfl, .inl rfl⟩, hJs⟩⟩

set_option maxRecDepth 100000 in
set_option maxHeartbeats 1000000 in
/-- .. at the nil slice: no round -/
theorem sums1_nil_in (l Bs : Nat) (J : List (Int × Bool) → World → Prop) (W : World) (hBs : W.cell? ⟨Bs, 0, none⟩ = some (.slice none 0 0)) (h0 : J [] W) :
    CallsIn Fence.wide 4 Try.prog 29 #[.func (.yield l) #[] #[], .pointer (some ⟨Bs, 0, none⟩)] W fun e W' => (∃ v, e = .returned v) ∧ J [] W' := by
  refine callsIn_of_wp Try.func29 rfl trivial ?_ rfl
  simp only [Try.ntmps29, List.size_toArray, List.length_cons, List.length_nil, Nat.reduceAdd, Nat.reduceSub, Array.replicate_succ, Array.replicate_zero, List.push_toArray, List.append_toArray, List.nil_append, List.cons_append]
  gi_wp2
  gi_loopw [3, 10] (fun t i wr => t = .int .i64 0 ∧ i = .int .i64 0 ∧ J [] wr) (fun _ _ _ => 0)
  case atStart => exact ⟨rfl, rfl, h0⟩
  case round =>
    obtain ⟨rfl, rfl, hJs⟩ := hrel
    gi_wp2
    go_end0
    exact ⟨⟨_, rfl⟩, hJs⟩

theorem sums_stops (Bs n₀ : Nat) (sv : Value) (zs : List Int) (hl : zs.length ≤ maxLen) (hz : ∀ z ∈ zs, fit z) (w : World) (hBs : Bs < w.heap.size) (hn₀ : n₀ ≤ w.heap.size)
    (hc : w.cell? ⟨Bs, 0, none⟩ = some sv) (hI : Ints n₀ w sv zs) :
    SeqStopsK Fence.wide 4 Try.prog 29 #[.pointer (some ⟨Bs, 0, none⟩)] (fun x : Int × Bool => #[Value.int .i64 x.1, Value.bool x.2]) (Below n₀)
      (fun ys => ∃ k, k ≤ zs.length ∧ ys = come zs k ∧ (k = zs.length ∨ psum zs k = none)) (fun pre => ∃ k, k ≤ zs.length ∧ pre = come zs k) zs.length w := fun l J Jx W hW _ _ hY h0 => by
  have hc' := (hW.cell (p := ⟨Bs, 0, none⟩) hBs).trans hc
  rcases hI.below (hW.mono hn₀) with ⟨rfl, rfl⟩ | ⟨b, off, cap, rfl, hb, hcs⟩
  · exact (sums1_nil_in l Bs J W hc' h0).mono fun e W' ⟨he, hj⟩ => ⟨he, .inl ⟨[], ⟨0, Nat.le_refl _, rfl, .inl rfl⟩, hj⟩⟩
  · exact sums1_in l Bs n₀ b off zs.length cap zs hl hz hb J Jx hY W hc' hcs h0

namespace Ck
/-- what the sum's variable holds when some pairs have come -/
def lastOf (pre : List (Int × Bool)) : Int := pre.foldl (fun _ p => p.1) 0
theorem lastOf_snoc (pre : List (Int × Bool)) (x : Int × Bool) : lastOf (pre ++ [x]) = x.1 := by simp [lastOf]
theorem lastOf_come (zs : List Int) (k : Nat) {s : Int} (h : psum zs k = some s) : lastOf (come zs k) = s := by
  cases k with
  | zero => simp [psum] at h; subst h; rfl
  | succ k => rw [come_succ, lastOf_snoc, h]; rfl
end Ck

set_option maxRecDepth 100000 in
set_option maxHeartbeats 2000000 in
theorem sum_in (a : Option Addr) (len cap : Nat) (zs : List Int) (hl : zs.length ≤ maxLen) (hz : ∀ z ∈ zs, fit z) (w : World) (hI : Ints w.heap.size w (.slice a len cap) zs) :
    CallsIn Fence.wide 5 Try.prog 16 #[.slice a len cap] w fun e W' => e = .returned (.tuple #[.int .i64 (pr (psum zs zs.length)).1, .bool (pr (psum zs zs.length)).2]) ∧ Below w.heap.size w W' := by
  refine callsIn_of_wp_marks Try.func16 rfl trivial ?_ rfl
  simp only [Try.ntmps16, List.size_toArray, List.length_cons, List.length_nil, Nat.reduceAdd, Nat.reduceSub, Array.replicate_succ, Array.replicate_zero, List.push_toArray, List.append_toArray, List.nil_append, List.cons_append]
  gi_wp2_with (refine ⟨trivial, ?_⟩; gi_at_call 25; refine (sums_in Fence.wide 4 trivial rfl _ _ _ _).mono ?_; rintro e w' ⟨rfl, rfl⟩)
  have bS := Boxed.new w 2 (.int .i64 0)
  have bK := Boxed.new (w.alloc (.cells #[.int .i64 0] 2)) 4 (.bool false)
  have bN := Boxed.new ((w.alloc (.cells #[.int .i64 0] 2)).alloc (.cells #[.bool false] 4)) 30 (.slice a len cap)
  rw [World.size_alloc] at bK
  rw [World.size_alloc, World.size_alloc] at bN
  have hB0 : Below w.heap.size w (((w.alloc (.cells #[.int .i64 0] 2)).alloc (.cells #[.bool false] 4)).alloc (.cells #[.slice a len cap] 30)) :=
    (((Below.refl _ w).alloc (Nat.le_refl _) _).alloc (by simp) _).alloc (by simp; omega) _
  refine wpIn_rangeFunc_ownG rfl (by omega) (gf := 29) (lb := #[.pointer (some ⟨w.heap.size + 1 + 1, 0, none⟩)]) rfl trivial (enters_of Try.func29 (by kernel_rfl) rfl)
    (sums_stops (w.heap.size + 1 + 1) w.heap.size _ zs hl hz _ (by simp) (by simp; omega) bN.cell (hI.below hB0)) belowK_t (belowK_b (by simp; omega)) (Below.refl _ _) (fun _ => rfl)
    (fun pre W => ((∀ p ∈ pre, p.2 = true) ∧ W.cell? ⟨w.heap.size, 0, none⟩ = some (.int .i64 (lastOf pre)) ∧ W.frozen? ⟨w.heap.size, 0, none⟩ = false ∧ W.cell? ⟨w.heap.size + 1, 0, none⟩ = some (.bool false) ∧ W.frozen? ⟨w.heap.size + 1, 0, none⟩ = false) ∧ Below w.heap.size w W)
    (fun c pre W => (c = .ret ∧ ∃ ini last, pre = ini ++ [last] ∧ last.2 = false ∧ W.cell? ⟨w.heap.size, 0, none⟩ = some (.int .i64 0) ∧ W.cell? ⟨w.heap.size + 1, 0, none⟩ = some (.bool false)) ∧ Below w.heap.size w W)
    (OwnFrom.and (Own.from (fun s A B row hs hg hr => ⟨hs.1, cell_kept hs.2.1 hg hr, (frozen_kept hs.2.1 hg hr).trans hs.2.2.1, cell_kept hs.2.2.2.1 hg hr, (frozen_kept hs.2.2.2.1 hg hr).trans hs.2.2.2.2⟩) _) (ownFrom_below (Nat.le_refl _) (by simp; omega)))
    (fun c => OwnFrom.and (Own.from (fun s A B row hs hg hr => by obtain ⟨hc, ini, last, e1, e2, e3, e4⟩ := hs; exact ⟨hc, ini, last, e1, e2, cell_kept e3 hg hr, cell_kept e4 hg hr⟩) _) (ownFrom_below (Nat.le_refl _) (by simp; omega)))
    ⟨⟨by simp, ((bS.alloc _).alloc _).cell, ((bS.alloc _).alloc _).frozen, (bK.alloc _).cell, (bK.alloc _).frozen⟩, hB0⟩
    (fun x => { tmps := #[.slice a len cap, undef, .pointer (some ⟨w.heap.size, 0, none⟩), .pointer (some ⟨w.heap.size + 1, 0, none⟩), .int .i64 x.1, .bool x.2, .slice a len cap,
      .func (.func 29) #[] #[.pointer (some ⟨w.heap.size + 1 + 1, 0, none⟩)], .int .i64 x.1, .bool x.2, undef, undef, undef, undef], defers := [] }) ?assign ?body ?done ?stop
  case assign =>
    intro l x W K hK
    gi_wp2
    exact hK
  case body =>
    rintro l pre ⟨x, ok⟩ W ⟨⟨hp, hc, hf, hc2, hf2⟩, hB⟩ _
    cases ok
    · gi_wp2
      exact ⟨((KeepsOthers.setCell _ _ _).trans (KeepsOthers.setCell _ _ _)).from _, ⟨rfl, pre, (x, false), rfl, rfl, by
          rw [World.cell?_setCell_other _ _ _ _ (by simp)]; exact World.cell?_setCell_same' _ _ _ (by rw [hc]; rfl), World.cell?_setCell_same' _ _ _ (by rw [World.cell?_setCell_other _ _ _ _ (by simp), hc2]; rfl)⟩,
        (hB.setCell (p := ⟨w.heap.size, 0, none⟩) (Nat.le_refl _) _).setCell (p := ⟨w.heap.size + 1, 0, none⟩) (by simp) _⟩
    · gi_wp2
      exact ⟨(KeepsOthers.setCell _ _ _).from _, (Below.refl w.heap.size W).setCell (p := ⟨w.heap.size, 0, none⟩) (Nat.le_refl _) _,
        ⟨fun p hp' => (List.mem_append.1 hp').elim (hp p) (fun e => by simp at e; subst e; rfl), by rw [lastOf_snoc]; exact World.cell?_setCell_same' _ _ _ (by rw [hc]; rfl), by rw [World.frozen?_setCell]; exact hf,
          by rw [World.cell?_setCell_other _ _ _ _ (by simp)]; exact hc2, by rw [World.frozen?_setCell]; exact hf2⟩, hB.setCell (p := ⟨w.heap.size, 0, none⟩) (Nat.le_refl _) _⟩
  case done =>
    rintro D ys W hD ⟨k, hk, rfl, hke⟩ ⟨⟨hp, hc, hf, hc2, hf2⟩, hB⟩ hK
    have hD' := Lib.hid hD
    have hp' := Lib.hid hp
    clear hD hp
    gi_wp2
    obtain ⟨s, hs⟩ : ∃ s, psum zs k = some s := by
      cases hq : psum zs k with
      | some s => exact ⟨s, rfl⟩
      | none =>
        cases k with
        | zero => simp [psum] at hq
        | succ k =>
          have := hp'.out (0, false) (by rw [come_succ, hq]; simp [pr])
          simp at this
    have hk' : k = zs.length := by
      rcases hke with h | h
      · exact h
      · rw [hs] at h; simp at h
    subst hk'
    rw [lastOf_come _ _ hs] at hc ⊢
    rw [hs]
    have hK' := ((KeepsOthers.setCell W ⟨w.heap.size, 0, none⟩ (.int .i64 s)).trans (KeepsOthers.setCell _ ⟨w.heap.size + 1, 0, none⟩ (.bool true))).same D _ hK rfl
    refine ⟨by simp, .inl ⟨_, _, rfl, run_takeDeferred hK', ?_⟩⟩
    have x1 : ((W.setCell ⟨w.heap.size, 0, none⟩ (.int .i64 s)).setCell ⟨w.heap.size + 1, 0, none⟩ (.bool true)).cell? ⟨w.heap.size, 0, none⟩ = some (.int .i64 s) := by
      rw [World.cell?_setCell_other _ _ _ _ (by simp)]; exact World.cell?_setCell_same' _ _ _ (by rw [hc]; rfl)
    have x2 : ((W.setCell ⟨w.heap.size, 0, none⟩ (.int .i64 s)).setCell ⟨w.heap.size + 1, 0, none⟩ (.bool true)).cell? ⟨w.heap.size + 1, 0, none⟩ = some (.bool true) :=
      World.cell?_setCell_same' _ _ _ (by rw [World.cell?_setCell_other _ _ _ _ (by simp), hc2]; rfl)
    have y1 := cell_kept x1 (grownBy_putObj' _ D (.deferred none)) (fun r e => by cases e; exact ⟨_, hK', rfl⟩)
    have y2 := cell_kept x2 (grownBy_putObj' _ D (.deferred none)) (fun r e => by cases e; exact ⟨_, hK', rfl⟩)
    refine ⟨.tuple #[.int .i64 s, .bool true], ?_, rfl, ((hB.setCell (p := ⟨w.heap.size, 0, none⟩) (Nat.le_refl _) _).setCell (p := ⟨w.heap.size + 1, 0, none⟩) (by simp) _).trans
      (belowK_b (w := w) (Nat.le_refl _) _ D _ _ (by have := hD'.out; simp at this; omega) hK' rfl rfl)⟩
    simp [results, Try.f16, go_sem, y1, y2]
  case stop =>
    rintro D c pre W hD ⟨k, hk, rfl⟩ ⟨⟨rfl, ini, last, e1, e2, e3, e4⟩, hB⟩ hK
    have hD' := Lib.hid hD
    have E1 := Lib.hid e1
    have E2 := Lib.hid e2
    clear hD e1 e2
    gi_wp2
    have hn : psum zs zs.length = none := by
      cases k with
      | zero => have := E1.out; simp [come] at this
      | succ k =>
        have h2 := E1.out
        rw [come_succ] at h2
        obtain ⟨_, h3⟩ := List.append_inj' h2 rfl
        have h4 : pr (psum zs (k + 1)) = last := by simpa using h3
        refine psum_none ?_ _ hk
        cases hq : psum zs (k + 1) with
        | none => rfl
        | some s => rw [hq] at h4; have := E2.out; rw [← h4] at this; simp [pr] at this
    rw [hn]
    refine ⟨by simp, .inl ⟨_, _, rfl, run_takeDeferred hK, ?_⟩⟩
    have y1 := cell_kept e3 (grownBy_putObj' _ D (.deferred none)) (fun r e => by cases e; exact ⟨_, hK, rfl⟩)
    have y2 := cell_kept e4 (grownBy_putObj' _ D (.deferred none)) (fun r e => by cases e; exact ⟨_, hK, rfl⟩)
    refine ⟨.tuple #[.int .i64 0, .bool false], ?_, rfl, hB.trans (belowK_b (w := w) (Nat.le_refl _) W D _ _ (by have := hD'.out; simp at this; omega) hK rfl rfl)⟩
    simp [results, Try.f16, go_sem, y1, y2]

theorem sum_any (a : Option Addr) (len cap : Nat) (zs : List Int) (hl : zs.length ≤ maxLen) (hz : ∀ z ∈ zs, fit z) (w : World) (hI : Ints w.heap.size w (.slice a len cap) zs) :
    Calls Try.prog 16 #[.slice a len cap] w fun e W' => e = .returned (.tuple #[.int .i64 (pr (psum zs zs.length)).1, .bool (pr (psum zs zs.length)).2]) ∧ Below w.heap.size w W' :=
  callsIn_wide.1 (sum_in a len cap zs hl hz w hI)
end Go.Proofs.Ytnfnjmpaikchcaa
