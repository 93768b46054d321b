/-
  The walk of the law CheckedTwo: it returns true at every two int64s.
-/
import Derived.Test.YtnfnjmpaikchcaaChkRef
import Derived.Great.BuildSlice
import Derived.Laws.EntriesVeiled
import Derived.Handy
namespace Go.Proofs.Ytnfnjmpaikchcaa
open Go.RowKit Ck
set_option linter.unusedVariables false
set_option linter.unusedSimpArgs false

namespace Ck
theorem Two.det {p : Prop} [Decidable p] {s : Int} {w : World} (e : Ending) (w' : World) (h : Two p s w e w') : e = .returned (.tuple #[.int .i64 (if p then s else 0), .bool (decide p)]) ∧ w = w' := by
  obtain ⟨rfl, ⟨hp, rfl⟩ | ⟨hp, rfl⟩⟩ := h
  · simp [hp]
  · simp [hp]
theorem TwoD.det {p : Prop} [Decidable p] {s : Int} {w : World} (e : Ending) (w' : World) (h : TwoD p s w e w') : e = .returned (.tuple #[.int .i64 (if p then s else 0), .bool (decide p)]) ∧ ∃ n, w' = w.drewN n := by
  obtain ⟨hw, ⟨hp, rfl⟩ | ⟨hp, rfl⟩⟩ := h
  · exact ⟨by simp [hp], hw⟩
  · exact ⟨by simp [hp], hw⟩
def pairs : List (Nat × Nat) := [(9, 17), (10, 18), (12, 19), (13, 20), (14, 21)]
def pairCells (r : Nat × Nat) : List Value := [.func (.func r.1) #[] #[], .func (.func r.2) #[] #[]]
def pairTab : Array Value := (pairs.flatMap pairCells).toArray
theorem pairs_len : pairs.length = 5 := rfl
theorem pair_cell (k j : Nat) (hj : j < 2) (r : Nat × Nat) (h : pairs[k]? = some r) : pairTab[k * 2 + j]? = (pairCells r)[j]? := by
  unfold pairTab; rw [List.getElem?_toArray]; exact flat_get pairCells 2 (fun _ => rfl) pairs k j hj r h
theorem pair_calls (a b : Int) (ha : fit a) (hb : fit b) (k : Nat) (hk : k < 5) (f g : Nat) (h : pairs[k]? = some (f, g)) : ∃ (x : Int) (ok : Bool),
    (∀ W, Calls Try.prog f #[.int .i64 a, .int .i64 b] W fun e w' => e = .returned (.tuple #[.int .i64 x, .bool ok]) ∧ W = w') ∧
    (∀ W, Calls Try.prog g #[.int .i64 a, .int .i64 b] W fun e w' => e = .returned (.tuple #[.int .i64 x, .bool ok]) ∧ ∃ n, w' = W.drewN n) := by
  match k, hk with
  | 0, _ => simp [pairs] at h; obtain ⟨rfl, rfl⟩ := h; exact ⟨_, _, fun W => (add_any a b W ha hb).mono Two.det, fun W => (refAdd_any a b W ha hb).mono fun e w' h => ⟨(Two.det e w' h).1, 0, (Two.det e w' h).2.symm⟩⟩
  | 1, _ => simp [pairs] at h; obtain ⟨rfl, rfl⟩ := h; exact ⟨_, _, fun W => (sub_any a b W ha hb).mono Two.det, fun W => (refSub_any a b W ha hb).mono fun e w' h => ⟨(Two.det e w' h).1, 0, (Two.det e w' h).2.symm⟩⟩
  | 2, _ => simp [pairs] at h; obtain ⟨rfl, rfl⟩ := h; exact ⟨_, _, fun W => (mul_any a b W ha hb).mono Two.det, fun W => (refMul_any a b W ha hb).mono fun e w' h => ⟨(Two.det e w' h).1, 0, (Two.det e w' h).2.symm⟩⟩
  | 3, _ => simp [pairs] at h; obtain ⟨rfl, rfl⟩ := h; exact ⟨_, _, fun W => (div_any a b W ha hb).mono Two.det, fun W => (refDiv_any a b W ha hb).mono TwoD.det⟩
  | 4, _ => simp [pairs] at h; obtain ⟨rfl, rfl⟩ := h; exact ⟨_, _, fun W => (mod_any a b W ha hb).mono Two.det, fun W => (refMod_any a b W ha hb).mono TwoD.det⟩
theorem pair_enters (k : Nat) (hk : k < 5) (f g : Nat) (h : pairs[k]? = some (f, g)) : (∀ args w, (callFunc f args).run Try.prog w = .ok (.enter f args) w) ∧ (∀ args w, (callFunc g args).run Try.prog w = .ok (.enter g args) w) := by
  match k, hk with
  | 0, _ => simp [pairs] at h; obtain ⟨rfl, rfl⟩ := h; exact ⟨enters_of Try.func9 (by kernel_rfl) rfl, enters_of Try.func17 (by kernel_rfl) rfl⟩
  | 1, _ => simp [pairs] at h; obtain ⟨rfl, rfl⟩ := h; exact ⟨enters_of Try.func10 (by kernel_rfl) rfl, enters_of Try.func18 (by kernel_rfl) rfl⟩
  | 2, _ => simp [pairs] at h; obtain ⟨rfl, rfl⟩ := h; exact ⟨enters_of Try.func12 (by kernel_rfl) rfl, enters_of Try.func19 (by kernel_rfl) rfl⟩
  | 3, _ => simp [pairs] at h; obtain ⟨rfl, rfl⟩ := h; exact ⟨enters_of Try.func13 (by kernel_rfl) rfl, enters_of Try.func20 (by kernel_rfl) rfl⟩
  | 4, _ => simp [pairs] at h; obtain ⟨rfl, rfl⟩ := h; exact ⟨enters_of Try.func14 (by kernel_rfl) rfl, enters_of Try.func21 (by kernel_rfl) rfl⟩
theorem below_drewN {B : Nat} {a w : World} (h : Below B a w) (n : Nat) : Below B a (w.drewN n) := ⟨h.os, h.tape, h.output, h.size, h.block⟩
end Ck
theorem infoT33 : ∃ i, Try.prog.info? 33 = some i ∧ i.zero = some (.agg #[.nilFunc, .nilFunc]) ∧ i.size = 2 := ⟨_, rfl, rfl, rfl⟩

set_option maxRecDepth 100000 in
set_option maxHeartbeats 4000000 in
theorem checkedTwo.checkedTwo_walk (w : World) (a : Int) (wa : (Lit.int .i64 a).wf = true) (b : Int) (wb : (Lit.int .i64 b).wf = true) :
    Calls Try.prog 7 #[.int .i64 a, .int .i64 b] w fun e w' => e = .returned (.bool true) ∧ Below w.heap.size w w' := by
  have ha := Lib.hid (fit_of wa)
  have hb := Lib.hid (fit_of wb)
  clear wa wb
  obtain ⟨i0, hi, hz, hs⟩ := infoT33
  have Hs := Lib.hid hs; have Hi := Lib.hid hi; have Hz := Lib.hid hz
  clear hs hi hz
  go_enter Try.func7, Try.ntmps7
  go_wp2_with (with_reducible refine wpList_buildSlice rfl 34 33 5 _ rfl pairTab i0 _ Try.underlying34 Hi.out Hz.out (by rw [Hs.out]; decide) (by rw [Hs.out]; decide) (by rw [Hs.out]; kernel_rfl) ?_)
  go_loopw [18] (fun i wr => ∃ k : Nat, k ≤ 5 ∧ i = .int .i64 k ∧ Below (w.heap.size + 1) (w.alloc (.cells pairTab 33)) wr) (fun i _ => 5 - (intOf i).toNat)
  case atStart => exact ⟨0, by omega, rfl, Below.refl _ _⟩
  case round =>
    obtain ⟨k, hk, rfl, hB⟩ := hrel
    have hsz : w.heap.size + 1 ≤ wr.heap.size := by have := hB.size; simpa using this
    by_cases hlt : k < 5
    · obtain ⟨⟨f, g⟩, hrow⟩ : ∃ r, pairs[k]? = some r := ⟨pairs[k]'(by rw [pairs_len]; exact hlt), List.getElem?_eq_getElem _⟩
      obtain ⟨x, ok, hc1, hc2⟩ := pair_calls a b ha.out hb.out k hlt f g hrow
      have HC1 := Lib.hid hc1; have HC2 := Lib.hid hc2
      obtain ⟨HE1, HE2⟩ := pair_enters k hlt f g hrow
      have hcell : ∀ j v, (pairCells (f, g))[j]? = some v → wr.cell? ⟨w.heap.size, k * 2 + j, none⟩ = some v := by
        intro j v hv
        have hj : j < 2 := by
          have := (List.getElem?_eq_some_iff.1 hv).1
          simpa [pairCells] using this
        refine (hB.cell (p := ⟨w.heap.size, k * 2 + j, none⟩) (by simp)).trans ?_
        rw [World.cell?_alloc_at _ _ _ _ rfl, pair_cell k j hj _ hrow, hv]
      have c0 : wr.cell? ⟨w.heap.size, k * 2, none⟩ = some (.func (.func f) #[] #[]) := hcell 0 _ rfl
      have c1 := hcell 1 _ rfl
      clear hcell hrow hc1 hc2
      go_wp2_with fail
      refine (HC1.out _).mono ?_
      rintro e w' ⟨rfl, rfl⟩
      go_wp2_with fail
      refine (HC2.out _).mono ?_
      rintro e w' ⟨rfl, nd, rfl⟩
      go_wp2_with fail
      refine (is_any _ _ _ _ _).mono ?_
      intro e w' hq; obtain ⟨rfl, rfl⟩ := Yes.to_yes ⟨rfl, rfl⟩ _ _ hq; clear hq
      go_wp2_with fail
      go_roundw
      case rel => exact ⟨k + 1, by omega, by go_num, below_drewN (hB.alloc hsz _) _⟩
      case measure => simp [intOf]; omega
    · obtain rfl : k = 5 := by omega
      have hB0 : Below w.heap.size w wr := ((Below.refl _ w).alloc (Nat.le_refl _) _).trans (hB.mono (by simp))
      go_wp2_with fail
      refine (works_any _).mono ?_
      rintro e w1 ⟨rfl, hB1⟩
      go_wp2_with fail
      go_ret
      exact ⟨rfl, hB0.trans (hB1.mono (by omega))⟩
end Go.Proofs.Ytnfnjmpaikchcaa
