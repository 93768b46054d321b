/-
  Rows in memory, and the contracts of slices.Clone at the five types of chapter 28: a copy of the call's own.
-/
import Derived.Test.YtdlmlcgmonkdfaaProg
import Derived.WalkKit
import Derived.WalkSpells
import Derived.WalkLawsBesides
import Derived.OwnWalk
import Derived.Laws.OwnMore
import Derived.Laws.AppendOwnNone
import Derived.Deep.MidRow
import Derived.Deep.Upon
import Derived.Below
import Derived.Lib.Hide
namespace Go.Proofs.Ytdlmlcgmonkdfaa
open Go.RowKit
set_option linter.unusedVariables false
set_option linter.unusedSimpArgs false

namespace Sh
theorem bel_alloc (w : World) (o : Obj) : Below w.heap.size w (w.alloc o) := (Below.refl _ _).alloc (Nat.le_refl _) o
theorem bel_trans {a b c : World} (h : Below a.heap.size a b) (k : Below b.heap.size b c) : Below a.heap.size a c := h.trans (k.mono h.size)
theorem lt_of_cell {W : World} {a : Addr} {v : Value} (h : W.cell? a = some v) : a.block < W.heap.size := by
  apply Nat.lt_of_not_le
  intro hn
  have h0 : W.heap[a.block]? = none := Array.getElem?_eq_none hn
  unfold World.cell? at h
  rw [h0] at h
  simp at h
theorem cell_below {A B : World} (hb : Below A.heap.size A B) {a : Addr} {v : Value} (h : A.cell? a = some v) : B.cell? a = some v := by
  rw [hb.cell (lt_of_cell h)]; exact h
/-- v reads as a row of n elements of so many cells each: its cells are xs -/
def Rd (size : Nat) (v : Value) (n : Nat) (xs : _root_.List Value) (w : World) : Prop :=
  xs.length = n * size ∧ n ≤ 1000 ∧ (∀ u ∈ xs, u.oneCell' = true) ∧
    ((∃ A : Option Addr, v = .slice A 0 0 ∧ n = 0) ∨ ∃ g off cap : Nat, v = .slice (some ⟨g, off, none⟩) n cap ∧ (∀ j u, xs[j]? = some u → w.cell? ⟨g, off + j, none⟩ = some u))
theorem Rd.below {size n : Nat} {v : Value} {xs : _root_.List Value} {A B : World} (h : Rd size v n xs A) (hb : Below A.heap.size A B) : Rd size v n xs B := by
  obtain ⟨h1, h2, h3, h4 | ⟨g, off, cap, hv, hc⟩⟩ := h
  · exact ⟨h1, h2, h3, .inl h4⟩
  · exact ⟨h1, h2, h3, .inr ⟨g, off, cap, hv, fun j u hu => cell_below hb (hc j u hu)⟩⟩
/-- a row of the call's own, as it reads -/
def Own (base : Nat) (t : TypeId) (size : Nat) (v : Value) (n : Nat) (xs : _root_.List Value) (w : World) : Prop := w.ownsRow base t size v n xs ∧ n ≤ 1000 ∧ (∀ u ∈ xs, u.oneCell' = true)
theorem Own.rd {base size n : Nat} {t : TypeId} {v : Value} {xs : _root_.List Value} {w : World} (h : Own base t size v n xs w) : Rd size v n xs w := by
  obtain ⟨ho, hn, h1⟩ := h
  have ho' := ho
  obtain ⟨hl, ⟨rfl, rfl⟩ | ⟨g, cap, cur, rfl, _⟩⟩ := ho
  · exact ⟨hl, hn, h1, .inl ⟨none, rfl, rfl⟩⟩
  · refine ⟨hl, hn, h1, .inr ⟨g, 0, cap, rfl, fun j u hu => ?_⟩⟩
    have hj : j < n * size := by rw [← hl]; exact (_root_.List.getElem?_eq_some_iff.1 hu).1
    rw [Nat.zero_add, ho'.cellAt j hj]; exact hu
theorem Own.mono {base base' size n : Nat} {t : TypeId} {v : Value} {xs : _root_.List Value} {w : World} (h : Own base t size v n xs w) (hb : base' ≤ base) : Own base' t size v n xs w := by
  obtain ⟨⟨hl, h0 | ⟨g, cap, cur, h1, h2, h3⟩⟩, hn, ho⟩ := h
  · exact ⟨⟨hl, .inl h0⟩, hn, ho⟩
  · exact ⟨⟨hl, .inr ⟨g, cap, cur, h1, Nat.le_trans hb h2, h3⟩⟩, hn, ho⟩
theorem Own.below {base size n : Nat} {t : TypeId} {v : Value} {xs : _root_.List Value} {A B : World} (h : Own base t size v n xs A) (hb : Below A.heap.size A B) : Own base t size v n xs B := by
  obtain ⟨⟨hl, h0 | ⟨g, cap, cur, h1, h2, h3, h4⟩⟩, hn, ho⟩ := h
  · exact ⟨⟨hl, .inl h0⟩, hn, ho⟩
  · exact ⟨⟨hl, .inr ⟨g, cap, cur, h1, h2, by rw [hb.block g (Array.getElem?_eq_some_iff.1 h3).1]; exact h3, h4⟩⟩, hn, ho⟩
theorem parts {P : Program} {e : TypeId} {k size bytes : Nat} (h : (P.info? e).map (fun i => (i.zero.map (·.cells.size), i.size, i.bytes)) = some (some k, size, bytes)) :
    ∃ i z, P.info? e = some i ∧ i.zero = some z ∧ i.size = size ∧ i.bytes = bytes ∧ z.cells.size = k := by
  obtain ⟨i, hi, hzz⟩ := Option.map_eq_some_iff.1 h
  simp only [Prod.mk.injEq, Option.map_eq_some_iff] at hzz
  obtain ⟨⟨z, hz, hk⟩, hs, hb⟩ := hzz
  exact ⟨i, z, hi, hz, hs, hb, hk⟩
end Sh
open Sh

theorem infoRule : (Try.prog.info? 44).map (fun i => (i.zero.map (·.cells.size), i.size, i.bytes)) = some (some 11, 11, 104) := by kernel_rfl

set_option maxRecDepth 100000 in
set_option maxHeartbeats 1000000 in
theorem cloneRule_any (v : Value) (n : Nat) (xs : _root_.List Value) (W : World) (h : Rd 11 v n xs W) :
    Calls Try.prog 30 #[v] W fun e w' => ∃ v', e = .returned v' ∧ Hid (Own W.heap.size 44 11 v' n xs w') ∧ Below W.heap.size W w' := by
  obtain ⟨i0, z0, hi, hz0, hzs, hzb, hzk⟩ := parts infoRule
  have hq : ∀ (w : World) (a : Option Addr) (n c n' c' : Nat), (binOp .eql 22 (.slice a n c) (.slice none n' c')).run Try.prog w = .ok (.bool a.isNone) w := fun w a n c n' c' => Lib.run_eql_slice_nil w _ _ a n c n' c' Try.underlying22
  obtain ⟨hl, hn, h1, ⟨A, rfl, rfl⟩ | ⟨g, off, cap, rfl, hc⟩⟩ := h
  · have hx : xs = [] := by simpa using hl
    subst hx
    cases A with
    | none =>
      go_enter Try.func30, Try.ntmps30
      go_wp2_with fail
      go_ret
      exact ⟨_, rfl, Lib.hid ⟨World.ownsRow_nil _ _ _ _, hn, h1⟩, Below.refl _ _⟩
    | some ad =>
      have H1 := Lib.hid h1
      clear h1 hl
      go_enter Try.func30, Try.ntmps30
      go_wp2_with (at_builtin; refine wpList_append_own _ rfl (.tmp 5) (.tmp 6) 22 rfl W.heap.size 44 i0 z0 11 104 Try.underlying22 hi hz0 hzs hzb hzk (by decide) _ 0 [] rfl (World.ownsRow_made W #[] 0 (Nat.le_refl _) (by decide) (by simp)) ad 0 0 [] rfl (by simp) (fun j u hu => by simp at hu) H1.out (by unfold maxLen; omega) (by omega) (by simp) ?_; intro v1 w1 hown1 hgrow1 hnil1)
      go_ret
      refine ⟨_, rfl, Lib.hid ⟨by simpa using hown1, hn, H1.out⟩, ?_⟩
      exact Below.grown (bel_alloc W _) hgrow1 (by simp) (fun k hk => (World.ownsRow_made W #[] 0 (e := 44) (size := 11) (Nat.le_refl W.heap.size) (by decide) (by simp)).lt k (by exact hk) |>.1)
  · have HC := Lib.hid hc
    have H1 := Lib.hid h1
    have HL := Lib.hid hl
    clear hc h1 hl
    go_enter Try.func30, Try.ntmps30
    go_wp2_with (at_builtin; refine wpList_append_own _ rfl (.tmp 5) (.tmp 6) 22 rfl W.heap.size 44 i0 z0 11 104 Try.underlying22 hi hz0 hzs hzb hzk (by decide) _ 0 [] rfl (World.ownsRow_made W #[] 0 (Nat.le_refl _) (by decide) (by simp)) ⟨g, off, none⟩ n cap xs rfl HL.out (fun j u hu => cell_below (bel_alloc W _) (by rw [Addr.add_mid]; exact HC.out j u hu)) H1.out (by unfold maxLen; omega) (by omega) (by simp) ?_; intro v1 w1 hown1 hgrow1 hnil1)
    go_ret
    refine ⟨_, rfl, Lib.hid ⟨by simpa using hown1, hn, H1.out⟩, ?_⟩
    exact Below.grown (bel_alloc W _) hgrow1 (by simp) (fun k hk => (World.ownsRow_made W #[] 0 (e := 44) (size := 11) (Nat.le_refl W.heap.size) (by decide) (by simp)).lt k (by exact hk) |>.1)

theorem infoEra : (Try.prog.info? 52).map (fun i => (i.zero.map (·.cells.size), i.size, i.bytes)) = some (some 13, 13, 120) := by kernel_rfl

set_option maxRecDepth 100000 in
set_option maxHeartbeats 1000000 in
theorem cloneEra_any (v : Value) (n : Nat) (xs : _root_.List Value) (W : World) (h : Rd 13 v n xs W) :
    Calls Try.prog 40 #[v] W fun e w' => ∃ v', e = .returned v' ∧ Hid (Own W.heap.size 52 13 v' n xs w') ∧ Below W.heap.size W w' := by
  obtain ⟨i0, z0, hi, hz0, hzs, hzb, hzk⟩ := parts infoEra
  have hq : ∀ (w : World) (a : Option Addr) (n c n' c' : Nat), (binOp .eql 46 (.slice a n c) (.slice none n' c')).run Try.prog w = .ok (.bool a.isNone) w := fun w a n c n' c' => Lib.run_eql_slice_nil w _ _ a n c n' c' Try.underlying46
  obtain ⟨hl, hn, h1, ⟨A, rfl, rfl⟩ | ⟨g, off, cap, rfl, hc⟩⟩ := h
  · have hx : xs = [] := by simpa using hl
    subst hx
    cases A with
    | none =>
      go_enter Try.func40, Try.ntmps40
      go_wp2_with fail
      go_ret
      exact ⟨_, rfl, Lib.hid ⟨World.ownsRow_nil _ _ _ _, hn, h1⟩, Below.refl _ _⟩
    | some ad =>
      have H1 := Lib.hid h1
      clear h1 hl
      go_enter Try.func40, Try.ntmps40
      go_wp2_with (at_builtin; refine wpList_append_own _ rfl (.tmp 5) (.tmp 6) 46 rfl W.heap.size 52 i0 z0 13 120 Try.underlying46 hi hz0 hzs hzb hzk (by decide) _ 0 [] rfl (World.ownsRow_made W #[] 0 (Nat.le_refl _) (by decide) (by simp)) ad 0 0 [] rfl (by simp) (fun j u hu => by simp at hu) H1.out (by unfold maxLen; omega) (by omega) (by simp) ?_; intro v1 w1 hown1 hgrow1 hnil1)
      go_ret
      refine ⟨_, rfl, Lib.hid ⟨by simpa using hown1, hn, H1.out⟩, ?_⟩
      exact Below.grown (bel_alloc W _) hgrow1 (by simp) (fun k hk => (World.ownsRow_made W #[] 0 (e := 52) (size := 13) (Nat.le_refl W.heap.size) (by decide) (by simp)).lt k (by exact hk) |>.1)
  · have HC := Lib.hid hc
    have H1 := Lib.hid h1
    have HL := Lib.hid hl
    clear hc h1 hl
    go_enter Try.func40, Try.ntmps40
    go_wp2_with (at_builtin; refine wpList_append_own _ rfl (.tmp 5) (.tmp 6) 46 rfl W.heap.size 52 i0 z0 13 120 Try.underlying46 hi hz0 hzs hzb hzk (by decide) _ 0 [] rfl (World.ownsRow_made W #[] 0 (Nat.le_refl _) (by decide) (by simp)) ⟨g, off, none⟩ n cap xs rfl HL.out (fun j u hu => cell_below (bel_alloc W _) (by rw [Addr.add_mid]; exact HC.out j u hu)) H1.out (by unfold maxLen; omega) (by omega) (by simp) ?_; intro v1 w1 hown1 hgrow1 hnil1)
    go_ret
    refine ⟨_, rfl, Lib.hid ⟨by simpa using hown1, hn, H1.out⟩, ?_⟩
    exact Below.grown (bel_alloc W _) hgrow1 (by simp) (fun k hk => (World.ownsRow_made W #[] 0 (e := 52) (size := 13) (Nat.le_refl W.heap.size) (by decide) (by simp)).lt k (by exact hk) |>.1)

theorem infoZone : (Try.prog.info? 48).map (fun i => (i.zero.map (·.cells.size), i.size, i.bytes)) = some (some 2, 2, 40) := by kernel_rfl

set_option maxRecDepth 100000 in
set_option maxHeartbeats 1000000 in
theorem cloneZone_any (v : Value) (n : Nat) (xs : _root_.List Value) (W : World) (h : Rd 2 v n xs W) :
    Calls Try.prog 39 #[v] W fun e w' => ∃ v', e = .returned v' ∧ Hid (Own W.heap.size 48 2 v' n xs w') ∧ Below W.heap.size W w' := by
  obtain ⟨i0, z0, hi, hz0, hzs, hzb, hzk⟩ := parts infoZone
  have hq : ∀ (w : World) (a : Option Addr) (n c n' c' : Nat), (binOp .eql 23 (.slice a n c) (.slice none n' c')).run Try.prog w = .ok (.bool a.isNone) w := fun w a n c n' c' => Lib.run_eql_slice_nil w _ _ a n c n' c' Try.underlying23
  obtain ⟨hl, hn, h1, ⟨A, rfl, rfl⟩ | ⟨g, off, cap, rfl, hc⟩⟩ := h
  · have hx : xs = [] := by simpa using hl
    subst hx
    cases A with
    | none =>
      go_enter Try.func39, Try.ntmps39
      go_wp2_with fail
      go_ret
      exact ⟨_, rfl, Lib.hid ⟨World.ownsRow_nil _ _ _ _, hn, h1⟩, Below.refl _ _⟩
    | some ad =>
      have H1 := Lib.hid h1
      clear h1 hl
      go_enter Try.func39, Try.ntmps39
      go_wp2_with (at_builtin; refine wpList_append_own _ rfl (.tmp 5) (.tmp 6) 23 rfl W.heap.size 48 i0 z0 2 40 Try.underlying23 hi hz0 hzs hzb hzk (by decide) _ 0 [] rfl (World.ownsRow_made W #[] 0 (Nat.le_refl _) (by decide) (by simp)) ad 0 0 [] rfl (by simp) (fun j u hu => by simp at hu) H1.out (by unfold maxLen; omega) (by omega) (by simp) ?_; intro v1 w1 hown1 hgrow1 hnil1)
      go_ret
      refine ⟨_, rfl, Lib.hid ⟨by simpa using hown1, hn, H1.out⟩, ?_⟩
      exact Below.grown (bel_alloc W _) hgrow1 (by simp) (fun k hk => (World.ownsRow_made W #[] 0 (e := 48) (size := 2) (Nat.le_refl W.heap.size) (by decide) (by simp)).lt k (by exact hk) |>.1)
  · have HC := Lib.hid hc
    have H1 := Lib.hid h1
    have HL := Lib.hid hl
    clear hc h1 hl
    go_enter Try.func39, Try.ntmps39
    go_wp2_with (at_builtin; refine wpList_append_own _ rfl (.tmp 5) (.tmp 6) 23 rfl W.heap.size 48 i0 z0 2 40 Try.underlying23 hi hz0 hzs hzb hzk (by decide) _ 0 [] rfl (World.ownsRow_made W #[] 0 (Nat.le_refl _) (by decide) (by simp)) ⟨g, off, none⟩ n cap xs rfl HL.out (fun j u hu => cell_below (bel_alloc W _) (by rw [Addr.add_mid]; exact HC.out j u hu)) H1.out (by unfold maxLen; omega) (by omega) (by simp) ?_; intro v1 w1 hown1 hgrow1 hnil1)
    go_ret
    refine ⟨_, rfl, Lib.hid ⟨by simpa using hown1, hn, H1.out⟩, ?_⟩
    exact Below.grown (bel_alloc W _) hgrow1 (by simp) (fun k hk => (World.ownsRow_made W #[] 0 (e := 48) (size := 2) (Nat.le_refl W.heap.size) (by decide) (by simp)).lt k (by exact hk) |>.1)

theorem infoLink : (Try.prog.info? 54).map (fun i => (i.zero.map (·.cells.size), i.size, i.bytes)) = some (some 2, 2, 32) := by kernel_rfl

set_option maxRecDepth 100000 in
set_option maxHeartbeats 1000000 in
theorem cloneLink_any (v : Value) (n : Nat) (xs : _root_.List Value) (W : World) (h : Rd 2 v n xs W) :
    Calls Try.prog 34 #[v] W fun e w' => ∃ v', e = .returned v' ∧ Hid (Own W.heap.size 54 2 v' n xs w') ∧ Below W.heap.size W w' := by
  obtain ⟨i0, z0, hi, hz0, hzs, hzb, hzk⟩ := parts infoLink
  have hq : ∀ (w : World) (a : Option Addr) (n c n' c' : Nat), (binOp .eql 24 (.slice a n c) (.slice none n' c')).run Try.prog w = .ok (.bool a.isNone) w := fun w a n c n' c' => Lib.run_eql_slice_nil w _ _ a n c n' c' Try.underlying24
  obtain ⟨hl, hn, h1, ⟨A, rfl, rfl⟩ | ⟨g, off, cap, rfl, hc⟩⟩ := h
  · have hx : xs = [] := by simpa using hl
    subst hx
    cases A with
    | none =>
      go_enter Try.func34, Try.ntmps34
      go_wp2_with fail
      go_ret
      exact ⟨_, rfl, Lib.hid ⟨World.ownsRow_nil _ _ _ _, hn, h1⟩, Below.refl _ _⟩
    | some ad =>
      have H1 := Lib.hid h1
      clear h1 hl
      go_enter Try.func34, Try.ntmps34
      go_wp2_with (at_builtin; refine wpList_append_own _ rfl (.tmp 5) (.tmp 6) 24 rfl W.heap.size 54 i0 z0 2 32 Try.underlying24 hi hz0 hzs hzb hzk (by decide) _ 0 [] rfl (World.ownsRow_made W #[] 0 (Nat.le_refl _) (by decide) (by simp)) ad 0 0 [] rfl (by simp) (fun j u hu => by simp at hu) H1.out (by unfold maxLen; omega) (by omega) (by simp) ?_; intro v1 w1 hown1 hgrow1 hnil1)
      go_ret
      refine ⟨_, rfl, Lib.hid ⟨by simpa using hown1, hn, H1.out⟩, ?_⟩
      exact Below.grown (bel_alloc W _) hgrow1 (by simp) (fun k hk => (World.ownsRow_made W #[] 0 (e := 54) (size := 2) (Nat.le_refl W.heap.size) (by decide) (by simp)).lt k (by exact hk) |>.1)
  · have HC := Lib.hid hc
    have H1 := Lib.hid h1
    have HL := Lib.hid hl
    clear hc h1 hl
    go_enter Try.func34, Try.ntmps34
    go_wp2_with (at_builtin; refine wpList_append_own _ rfl (.tmp 5) (.tmp 6) 24 rfl W.heap.size 54 i0 z0 2 32 Try.underlying24 hi hz0 hzs hzb hzk (by decide) _ 0 [] rfl (World.ownsRow_made W #[] 0 (Nat.le_refl _) (by decide) (by simp)) ⟨g, off, none⟩ n cap xs rfl HL.out (fun j u hu => cell_below (bel_alloc W _) (by rw [Addr.add_mid]; exact HC.out j u hu)) H1.out (by unfold maxLen; omega) (by omega) (by simp) ?_; intro v1 w1 hown1 hgrow1 hnil1)
    go_ret
    refine ⟨_, rfl, Lib.hid ⟨by simpa using hown1, hn, H1.out⟩, ?_⟩
    exact Below.grown (bel_alloc W _) hgrow1 (by simp) (fun k hk => (World.ownsRow_made W #[] 0 (e := 54) (size := 2) (Nat.le_refl W.heap.size) (by decide) (by simp)).lt k (by exact hk) |>.1)

theorem infoStr : (Try.prog.info? 9).map (fun i => (i.zero.map (·.cells.size), i.size, i.bytes)) = some (some 1, 1, 16) := by kernel_rfl

set_option maxRecDepth 100000 in
set_option maxHeartbeats 1000000 in
theorem cloneStr_any (v : Value) (n : Nat) (xs : _root_.List Value) (W : World) (h : Rd 1 v n xs W) :
    Calls Try.prog 35 #[v] W fun e w' => ∃ v', e = .returned v' ∧ Hid (Own W.heap.size 9 1 v' n xs w') ∧ Below W.heap.size W w' := by
  obtain ⟨i0, z0, hi, hz0, hzs, hzb, hzk⟩ := parts infoStr
  have hq : ∀ (w : World) (a : Option Addr) (n c n' c' : Nat), (binOp .eql 25 (.slice a n c) (.slice none n' c')).run Try.prog w = .ok (.bool a.isNone) w := fun w a n c n' c' => Lib.run_eql_slice_nil w _ _ a n c n' c' Try.underlying25
  obtain ⟨hl, hn, h1, ⟨A, rfl, rfl⟩ | ⟨g, off, cap, rfl, hc⟩⟩ := h
  · have hx : xs = [] := by simpa using hl
    subst hx
    cases A with
    | none =>
      go_enter Try.func35, Try.ntmps35
      go_wp2_with fail
      go_ret
      exact ⟨_, rfl, Lib.hid ⟨World.ownsRow_nil _ _ _ _, hn, h1⟩, Below.refl _ _⟩
    | some ad =>
      have H1 := Lib.hid h1
      clear h1 hl
      go_enter Try.func35, Try.ntmps35
      go_wp2_with (at_builtin; refine wpList_append_own _ rfl (.tmp 5) (.tmp 6) 25 rfl W.heap.size 9 i0 z0 1 16 Try.underlying25 hi hz0 hzs hzb hzk (by decide) _ 0 [] rfl (World.ownsRow_made W #[] 0 (Nat.le_refl _) (by decide) (by simp)) ad 0 0 [] rfl (by simp) (fun j u hu => by simp at hu) H1.out (by unfold maxLen; omega) (by omega) (by simp) ?_; intro v1 w1 hown1 hgrow1 hnil1)
      go_ret
      refine ⟨_, rfl, Lib.hid ⟨by simpa using hown1, hn, H1.out⟩, ?_⟩
      exact Below.grown (bel_alloc W _) hgrow1 (by simp) (fun k hk => (World.ownsRow_made W #[] 0 (e := 9) (size := 1) (Nat.le_refl W.heap.size) (by decide) (by simp)).lt k (by exact hk) |>.1)
  · have HC := Lib.hid hc
    have H1 := Lib.hid h1
    have HL := Lib.hid hl
    clear hc h1 hl
    go_enter Try.func35, Try.ntmps35
    go_wp2_with (at_builtin; refine wpList_append_own _ rfl (.tmp 5) (.tmp 6) 25 rfl W.heap.size 9 i0 z0 1 16 Try.underlying25 hi hz0 hzs hzb hzk (by decide) _ 0 [] rfl (World.ownsRow_made W #[] 0 (Nat.le_refl _) (by decide) (by simp)) ⟨g, off, none⟩ n cap xs rfl HL.out (fun j u hu => cell_below (bel_alloc W _) (by rw [Addr.add_mid]; exact HC.out j u hu)) H1.out (by unfold maxLen; omega) (by omega) (by simp) ?_; intro v1 w1 hown1 hgrow1 hnil1)
    go_ret
    refine ⟨_, rfl, Lib.hid ⟨by simpa using hown1, hn, H1.out⟩, ?_⟩
    exact Below.grown (bel_alloc W _) hgrow1 (by simp) (fun k hk => (World.ownsRow_made W #[] 0 (e := 9) (size := 1) (Nat.le_refl W.heap.size) (by decide) (by simp)).lt k (by exact hk) |>.1)
end Go.Proofs.Ytdlmlcgmonkdfaa
