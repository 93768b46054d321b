/-
  The examples of chapter 17.
-/
import Derived.Test.YtophiphhgcmjpaaDoorEvIn
import Derived.Laws.StructEq
namespace Go.Proofs.YtophiphhgcmjpaaDoor
open Go.RowKit Cv
set_option linter.unusedVariables false
set_option linter.unusedSimpArgs false

set_option maxHeartbeats 1000000 in
theorem eqEv (w : World) (x y z a b c : Int) : (binOp .eql 31 (.agg #[.int .i64 x, .int .i64 y, .int .i64 z]) (.agg #[.int .i64 a, .int .i64 b, .int .i64 c])).run Tryd.prog w = .ok (.bool (x == a && y == b && z == c)) w := by
  have u3 := Tryd.underlying3
  have a3 := Tryd.isAgg3
  have z3 := Tryd.sizeOf3
  have u2 := Tryd.underlying2
  have a2 := Tryd.isAgg2
  have z2 := Tryd.sizeOf2
  have hS : Tryd.prog.underlying 31 = some (.struct (Tryd.prog.fieldsOf 31)) := by kernel_rfl
  have hp : Tryd.prog.stoodInHeld 31 = false := by kernel_rfl
  rw [run_eql_struct, show (10000 : Nat) = 9999 + 1 from rfl, run_equalIn_agg w 9999 31 _ _ hS hp]
  simp only [Program.fieldsOf, Tryd.underlying31]
  go_simp
  by_cases h1 : x = a <;> by_cases h2 : y = b <;> by_cases h3 : z = c <;> simp [h1, h2, h3]

set_option maxHeartbeats 1000000 in
theorem neEv (w : World) (x y z a b c : Int) : (binOp .neq 31 (.agg #[.int .i64 x, .int .i64 y, .int .i64 z]) (.agg #[.int .i64 a, .int .i64 b, .int .i64 c])).run Tryd.prog w = .ok (.bool (!(x == a && y == b && z == c))) w := by
  have u3 := Tryd.underlying3
  have a3 := Tryd.isAgg3
  have z3 := Tryd.sizeOf3
  have u2 := Tryd.underlying2
  have a2 := Tryd.isAgg2
  have z2 := Tryd.sizeOf2
  have hS : Tryd.prog.underlying 31 = some (.struct (Tryd.prog.fieldsOf 31)) := by kernel_rfl
  have hp : Tryd.prog.stoodInHeld 31 = false := by kernel_rfl
  rw [run_neq_struct, show (10000 : Nat) = 9999 + 1 from rfl, run_equalIn_agg w 9999 31 _ _ hS hp]
  simp only [Program.fieldsOf, Tryd.underlying31]
  go_simp
  by_cases h1 : x = a <;> by_cases h2 : y = b <;> by_cases h3 : z = c <;> simp [h1, h2, h3]

namespace Cv
/-- v reads as the events l -/
def RdEv (v : Value) (l : _root_.List Ev) (w : World) : Prop :=
  ∃ (A : Option Addr) (cap : Nat), v = .slice A l.length cap ∧ ∀ (i : Nat) (e : Ev), l[i]? = some e → ∃ g off, A = some ⟨g, off, none⟩ ∧ w.rangeAt g (off + i * 3) (encEv e)
theorem RdEv.below {v : Value} {l : _root_.List Ev} {A B : World} (h : RdEv v l A) (hb : Below A.heap.size A B) : RdEv v l B := by
  obtain ⟨a, c, h1, h4⟩ := h
  exact ⟨a, c, h1, fun i r hr => by obtain ⟨g, off, e, k⟩ := h4 i r hr; exact ⟨g, off, e, range_below hb k⟩⟩
theorem RdEv.own {base : Nat} {t : TypeId} {v : Value} {l : _root_.List Ev} {w : World} (h : w.ownsRow base t 3 v l.length (flatEv l)) : RdEv v l w := by
  have h' := h
  obtain ⟨hl, ⟨rfl, h0⟩ | ⟨g, cap, cur, rfl, _⟩⟩ := h
  · have : l = [] := _root_.List.length_eq_zero_iff.1 h0
    subst this
    exact ⟨none, 0, rfl, fun i e he => by simp at he⟩
  · refine ⟨some ⟨g, 0, none⟩, cap, rfl, fun i e he => ⟨g, 0, rfl, fun j u hu => ?_⟩⟩
    have hj : j < 3 := (_root_.List.getElem?_eq_some_iff.1 hu).1
    have hi : i < l.length := (_root_.List.getElem?_eq_some_iff.1 he).1
    rw [Nat.zero_add, h'.cellAt (i * 3 + j) (by omega), flatEv_at l i j e he hj]; exact hu
theorem RdEv.sl {v : Value} {l : _root_.List Ev} {w : World} (h : RdEv v l w) : ∃ (A : Option Addr) (cap : Nat), v = .slice A l.length cap := by
  obtain ⟨a, c, h1, _⟩ := h; exact ⟨a, c, h1⟩
theorem RdEv.at_ {A : Option Addr} {n cap i : Nat} {l : _root_.List Ev} {w : World} {e : Ev} (h : RdEv (.slice A n cap) l w) (hr : l[i]? = some e) : ∃ g off, A = some ⟨g, off, none⟩ ∧ w.cell? ⟨g, off + i * 3, none⟩ = some (.int .i64 e.year) ∧ w.cell? ⟨g, off + i * 3 + 1, none⟩ = some (.int .i64 e.rule) ∧ w.cell? ⟨g, off + i * 3 + 2, none⟩ = some (.int .i64 e.nom) := by
  obtain ⟨a, c, h1, h4⟩ := h
  injection h1 with e1 e2 e3
  subst e1
  obtain ⟨g, off, h5, h6⟩ := h4 i e hr
  exact ⟨g, off, h5, h6 0 _ rfl, h6 1 _ rfl, h6 2 _ rfl⟩
theorem RdEv.block {w : World} {b : Nat} {t : TypeId} {cs : Array Value} {l : _root_.List Ev} (h : w.heap[b]? = some (.cells cs t)) (hc : cs.toList = flatEv l) : RdEv (.slice (some ⟨b, 0, none⟩) l.length l.length) l w := by
  refine ⟨_, _, rfl, fun i e he => ⟨b, 0, rfl, fun j u hu => ?_⟩⟩
  have hj : j < 3 := (_root_.List.getElem?_eq_some_iff.1 hu).1
  refine cellB h ?_
  rw [← Array.getElem?_toList, hc, Nat.zero_add, flatEv_at l i j e he hj]; exact hu
/-- rules that lie in one block -/
theorem flatR_at (rs : _root_.List Ru) : ∀ (i j : Nat) (r : Ru), rs[i]? = some r → j < 11 → (rs.flatMap fun r => r.arr.toList)[i * 11 + j]? = r.arr.toList[j]? := by
  induction rs with
  | nil => intro i j r h; simp at h
  | cons s rs ih =>
    intro i j r h hj
    rw [_root_.List.flatMap_cons]
    have hl : s.arr.toList.length = 11 := rfl
    cases i with
    | zero =>
      simp at h
      subst h
      rw [_root_.List.getElem?_append_left (by omega)]
      congr 1; omega
    | succ i =>
      rw [_root_.List.getElem?_append_right (by omega), hl, show (i + 1) * 11 + j - 11 = i * 11 + j by omega]
      exact ih i j r (by simpa using h) hj
theorem Rul.block {w : World} {b : Nat} {t : TypeId} {cs : Array Value} {rs : _root_.List Ru} (h : w.heap[b]? = some (.cells cs t)) (hc : cs.toList = rs.flatMap fun r => r.arr.toList) (hl : rs.length ≤ 1000) (hf : ∀ r ∈ rs, r.fits) : Rul (.slice (some ⟨b, 0, none⟩) rs.length rs.length) rs w := by
  refine ⟨_, _, rfl, hl, hf, fun i r hr => ⟨b, 0, rfl, fun j u hu => ?_⟩⟩
  have hj : j < 11 := (_root_.List.getElem?_eq_some_iff.1 hu).1
  refine cellB h ?_
  rw [← Array.getElem?_toList, hc, Nat.zero_add, flatR_at rs i j r hr hj]; exact hu
end Cv

set_option maxRecDepth 100000 in
set_option maxHeartbeats 2000000 in
theorem equalEv_any (u v : Value) (l : _root_.List Ev) (W : World) (hu : RdEv u l W) (hv : RdEv v l W) (hl : l.length ≤ 100000000) : Calls Tryd.prog 16 #[u, v] W fun e w' => e = .returned (.bool true) ∧ Below W.heap.size W w' := by
  obtain ⟨A, c1, rfl⟩ := hu.sl
  obtain ⟨B, c2, rfl⟩ := hv.sl
  have HU := Lib.hid hu
  have HV := Lib.hid hv
  clear hu hv
  obtain ⟨n, hN⟩ : ∃ n, n = l.length := ⟨_, rfl⟩
  rw [← hN] at hl HU HV ⊢
  have HN := Lib.hid hN
  clear hN
  have hne := neEv
  go_enter Tryd.func16, Tryd.ntmps16
  go_wp2_with fail
  go_loopw [13] (fun s wr => ∃ (k : Nat) (wq : World), k ≤ n ∧ s = .int .i64 (k : Int) ∧ wr = wq ∧ Hid (Below W.heap.size W wq)) (fun s _ => n - (intOf s).toNat)
  case atStart => exact ⟨0, _, by omega, rfl, rfl, Lib.hid (Below.refl _ _)⟩
  case round =>
    obtain ⟨k, wq, hk, rfl, rfl, HB⟩ := hrel
    by_cases hlt : k < n
    · obtain ⟨e, he⟩ : ∃ e, l[k]? = some e := by rw [_root_.List.getElem?_eq_getElem (by rw [← HN.out]; exact hlt)]; exact ⟨_, rfl⟩
      obtain ⟨g1, o1, rfl, a0, a1, a2⟩ := (HU.out.below HB.out).at_ he
      obtain ⟨g2, o2, rfl, b0, b1, b2⟩ := (HV.out.below HB.out).at_ he
      have hk0 : (0 : Int) ≤ (k : Int) := by omega
      have hk1 : (k : Int) < (n : Int) := by omega
      clear he
      go_wp2_with fail
      go_quiet (fail)
      have HB2 := Lib.hid (bel_drew HB.out nq)
      clear a0 a1 a2 b0 b1 b2
      go_wp2_with fail
      go_round
      case rel => exact ⟨k + 1, _, by omega, by go_num, rfl, HB2⟩
      case measure => simp [intOf]; omega
    · obtain rfl : k = n := by omega
      go_wp2_with fail
      go_ret
      exact ⟨rfl, HB.out⟩
end Go.Proofs.YtophiphhgcmjpaaDoor
