/-
  Rules in memory, and the contracts of the functions that read them one by one.
-/
import Derived.Test.YtdppmeeobpbfnaaDoorEvMath
import Derived.Deep.MidRow
import Derived.Deep.RegionHeld3
import Derived.StillTailTactics
import Derived.OwnWalk
import Derived.Laws.OwnMore
import Derived.Deep.AppendLies
import Derived.Deep.Upon
namespace Go.Proofs.YtdppmeeobpbfnaaDoor
open Go.RowKit Cv
set_option linter.unusedVariables false
set_option linter.unusedSimpArgs false

namespace Cv
/-- a rule's cells -/
def Ru.arr (r : Ru) : Array Value := #[.string r.na, .int .i64 r.fr, .int .i64 r.ut, .int .i64 r.mo, .int .i64 r.k, .int .i64 r.w, .int .i64 r.d, .int .i64 r.sec, .int .i64 r.base, .int .i64 r.save, .string r.le]
theorem cell_below {A B : World} (hb : Below A.heap.size A B) {a : Addr} {v : Value} (h : A.cell? a = some v) : B.cell? a = some v := by
  rw [hb.cell (lt_of_cell h)]; exact h
theorem range_below {A B : World} (hb : Below A.heap.size A B) {g o : Nat} {cs : _root_.List Value} (h : A.rangeAt g o cs) : B.rangeAt g o cs := fun j v hv => cell_below hb (h j v hv)
theorem block_below {A B : World} {b : Nat} {o : Obj} (h : A.heap[b]? = some o) (hb : Below A.heap.size A B) : B.heap[b]? = some o := by
  rw [hb.block b (Array.getElem?_eq_some_iff.1 h).1]; exact h
/-- a cell of a block that is known whole, and that it can be written -/
theorem cellB {V : World} {b i : Nat} {t : TypeId} {cs : Array Value} {v : Value} (h : V.heap[b]? = some (.cells cs t)) (hv : cs[i]? = some v) : V.cell? ⟨b, i, none⟩ = some v := by
  unfold World.cell?
  rw [h]
  simpa using hv
theorem frzB {V : World} {b : Nat} {t : TypeId} {cs : Array Value} (h : V.heap[b]? = some (.cells cs t)) (i : Nat) : V.frozen? ⟨b, i, none⟩ = false := by
  unfold World.frozen?
  rw [h]
  simp
theorem bel_setCells {A V : World} {B b o : Nat} {l : _root_.List Value} (h : Below B A V) (hb : B ≤ b) : Below B A (V.setCells b o l) := by
  induction l generalizing V o with
  | nil => exact h
  | cons v r ih => exact ih (h.setCell (p := ⟨b, o, none⟩) hb v)
theorem set3c {V : World} {b : Nat} {t : TypeId} {a0 a1 a2 d0 d1 d2 : Value} (h : V.heap[b]? = some (.cells #[a0, a1, a2] t)) :
    (V.setCells b 0 [d0, d1, d2]).heap[b]? = some (.cells #[d0, d1, d2] t) := by
  simp [World.setCells, World.setCell, Array.getElem?_modify, h]
theorem block_setCells {V : World} {b c o : Nat} {ob : Obj} {l : _root_.List Value} (h : V.heap[b]? = some ob) (hne : b ≠ c) : (V.setCells c o l).heap[b]? = some ob := by
  rw [World.heap_setCells_other V c o l (Array.getElem?_eq_some_iff.1 h).1 hne]; exact h
theorem cell_setCells {V : World} {b c i o : Nat} {v : Value} {l : _root_.List Value} (h : V.cell? ⟨b, i, none⟩ = some v) (hne : b ≠ c) : (V.setCells c o l).cell? ⟨b, i, none⟩ = some v := by
  rw [World.cell?_setCells_out c l o V ⟨b, i, none⟩ (fun h2 _ => absurd h2 hne)]; exact h
/-- numbers that fit -/
def Ru.fits (r : Ru) : Prop := fit r.fr ∧ fit r.ut ∧ fit r.mo ∧ fit r.k ∧ fit r.w ∧ fit r.d ∧ fit r.sec ∧ fit r.base ∧ fit r.save
/-- v reads as the rules rs -/
def Rul (v : Value) (rs : _root_.List Ru) (w : World) : Prop :=
  ∃ (A : Option Addr) (cap : Nat), v = .slice A rs.length cap ∧ rs.length ≤ 1000 ∧ (∀ r ∈ rs, r.fits) ∧ ∀ (i : Nat) (r : Ru), rs[i]? = some r → ∃ g off, A = some ⟨g, off, none⟩ ∧ w.rangeAt g (off + i * 11) r.arr.toList
theorem Rul.below {v : Value} {rs : _root_.List Ru} {A B : World} (h : Rul v rs A) (hb : Below A.heap.size A B) : Rul v rs B := by
  obtain ⟨a, c, h1, h2, h3, h4⟩ := h
  exact ⟨a, c, h1, h2, h3, fun i r hr => by obtain ⟨g, off, e, k⟩ := h4 i r hr; exact ⟨g, off, e, range_below hb k⟩⟩
theorem Rul.sl {v : Value} {rs : _root_.List Ru} {w : World} (h : Rul v rs w) : ∃ (A : Option Addr) (cap : Nat), v = .slice A rs.length cap := by
  obtain ⟨a, c, h1, _⟩ := h; exact ⟨a, c, h1⟩
theorem Rul.at_ {A : Option Addr} {n cap i : Nat} {rs : _root_.List Ru} {w : World} {r : Ru} (h : Rul (.slice A n cap) rs w) (hr : rs[i]? = some r) : ∃ g off, A = some ⟨g, off, none⟩ ∧ w.rangeAt g (off + i * 11) r.arr.toList := by
  obtain ⟨a, c, h1, _, _, h4⟩ := h
  injection h1 with e1 e2 e3
  subst e1
  exact h4 i r hr
theorem Rul.fits {v : Value} {rs : _root_.List Ru} {w : World} (h : Rul v rs w) {i : Nat} {r : Ru} (hr : rs[i]? = some r) : r.fits := by
  obtain ⟨_, _, _, _, h3, _⟩ := h
  exact h3 r (_root_.List.mem_of_getElem? hr)
theorem Rul.len {v : Value} {rs : _root_.List Ru} {w : World} (h : Rul v rs w) : rs.length ≤ 1000 := by
  obtain ⟨_, _, _, h2, _⟩ := h; exact h2
theorem range11 {w : World} {g o : Nat} {r : Ru} (h : w.rangeAt g o r.arr.toList) : w.cell? ⟨g, o, none⟩ = some (.string r.na) ∧ w.cell? ⟨g, o + 1, none⟩ = some (.int .i64 r.fr) ∧ w.cell? ⟨g, o + 2, none⟩ = some (.int .i64 r.ut) ∧ w.cell? ⟨g, o + 3, none⟩ = some (.int .i64 r.mo) ∧ w.cell? ⟨g, o + 4, none⟩ = some (.int .i64 r.k) ∧ w.cell? ⟨g, o + 5, none⟩ = some (.int .i64 r.w) ∧ w.cell? ⟨g, o + 6, none⟩ = some (.int .i64 r.d) ∧ w.cell? ⟨g, o + 7, none⟩ = some (.int .i64 r.sec) ∧ w.cell? ⟨g, o + 8, none⟩ = some (.int .i64 r.base) ∧ w.cell? ⟨g, o + 9, none⟩ = some (.int .i64 r.save) ∧ w.cell? ⟨g, o + 10, none⟩ = some (.string r.le) :=
  ⟨h 0 _ rfl, h 1 _ rfl, h 2 _ rfl, h 3 _ rfl, h 4 _ rfl, h 5 _ rfl, h 6 _ rfl, h 7 _ rfl, h 8 _ rfl, h 9 _ rfl, h 10 _ rfl⟩
/-- the code of a time of day -/
def clkC (sec base : Int) : Int := if clk sec base then 0 else 2
theorem clkC_yes {s b : Int} (h : clk s b) : clkC s b = 0 := by unfold clkC; rw [if_pos h]
theorem clkC_no {s b : Int} (h : ¬ clk s b) : clkC s b = 2 := by unfold clkC; rw [if_neg h]
theorem ret_i64 {a b : Int} (h : a = b) : Ending.returned (.int .i64 a) = .returned (.int .i64 b) := by rw [h]
theorem min_if (x y : Int) : (if y < x then y else x) = min x y := by split <;> omega
theorem leastL_take {rs : _root_.List Ru} {k : Nat} {r : Ru} (h : rs[k]? = some r) : leastL (rs.take (k + 1)) = min (leastL (rs.take k)) r.save := by
  unfold leastL
  rw [_root_.List.take_add_one, h, _root_.List.foldl_append]
  rfl
end Cv

set_option maxRecDepth 100000 in
set_option maxHeartbeats 1000000 in
theorem last_any (r : Ru) (W : World) : Calls Tryd.prog 63 #[.agg r.arr] W fun e w' => e = .returned (.int .i64 (lastY r)) ∧ Below W.heap.size W w' := by
  obtain ⟨na, fr, ut, mo, k, w, d, sec, base, save, le⟩ := r
  unfold Ru.arr
  dsimp only
  by_cases h : ut = 1048576
  · have HL := Lib.hid (show 2000000000 = lastY ⟨na, fr, ut, mo, k, w, d, sec, base, save, le⟩ by unfold lastY; rw [if_pos h])
    subst h
    go_enter Tryd.func63, Tryd.ntmps63
    go_wp2_with fail
    go_ret
    exact ⟨ret_i64 HL.out, bel_alloc _ _⟩
  · have HL := Lib.hid (show min ut 2000000000 = lastY ⟨na, fr, ut, mo, k, w, d, sec, base, save, le⟩ by unfold lastY; rw [if_neg h])
    have hb : (ut == 1048576) = false := by simp [h]
    by_cases h2 : ut ≤ 2000000000
    · go_enter Tryd.func63, Tryd.ntmps63
      go_wp2_with fail
      go_ret
      exact ⟨ret_i64 (by rw [← HL.out]; omega), bel_alloc _ _⟩
    · have h3 : 2000000000 < ut := by omega
      go_enter Tryd.func63, Tryd.ntmps63
      go_wp2_with fail
      go_ret
      exact ⟨ret_i64 (by rw [← HL.out]; omega), bel_alloc _ _⟩

theorem lastC_any (na : ByteArray) (fr ut mo k w d sec base save : Int) (le : ByteArray) (W : World) : Calls Tryd.prog 63 #[.agg #[.string na, .int .i64 fr, .int .i64 ut, .int .i64 mo, .int .i64 k, .int .i64 w, .int .i64 d, .int .i64 sec, .int .i64 base, .int .i64 save, .string le]] W fun e w' => e = .returned (.int .i64 (lastY ⟨na, fr, ut, mo, k, w, d, sec, base, save, le⟩)) ∧ Below W.heap.size W w' :=
  last_any ⟨na, fr, ut, mo, k, w, d, sec, base, save, le⟩ W

set_option maxRecDepth 100000 in
set_option maxHeartbeats 1000000 in
theorem clock_any (sec base : Int) (W : World) : Calls Tryd.prog 50 #[.agg #[.int .i64 sec, .int .i64 base]] W fun e w' => e = .returned (.int .i64 (clkC sec base)) ∧ Below W.heap.size W w' := by
  go_enter Tryd.func50, Tryd.ntmps50
  go_wp2
  all_goals
    go_ret
    first
    | exact ⟨ret_i64 (clkC_yes (by unfold clk; simp_all <;> omega)).symm, bel_alloc _ _⟩
    | exact ⟨ret_i64 (clkC_no (by unfold clk; simp_all <;> omega)).symm, bel_alloc _ _⟩

set_option maxRecDepth 100000 in
set_option maxHeartbeats 1000000 in
theorem least_any (v : Value) (rs : _root_.List Ru) (W : World) (h : Rul v rs W) : Calls Tryd.prog 43 #[v] W fun e w' => e = .returned (.int .i64 (leastL rs)) ∧ Below W.heap.size W w' := by
  obtain ⟨A, cap, rfl⟩ := h.sl
  have H := Lib.hid h
  have hn := h.len
  clear h
  obtain ⟨n, hN⟩ : ∃ n, n = rs.length := ⟨_, rfl⟩
  rw [← hN] at hn ⊢
  have HN := Lib.hid hN
  clear hN
  go_enter Tryd.func43, Tryd.ntmps43
  go_wp2_with fail
  go_loopw [3, 8] (fun s i wr => ∃ (k : Nat) (wq : World), k ≤ n ∧ i = .int .i64 (k : Int) ∧ s = .int .i64 (leastL (rs.take k)) ∧ wr = wq ∧ Hid (Below W.heap.size W wq)) (fun _ i _ => n - (intOf i).toNat)
  case atStart => exact ⟨0, _, by omega, rfl, rfl, rfl, Lib.hid (Below.refl _ _)⟩
  case round =>
    obtain ⟨k, wq, hk, rfl, rfl, rfl, HB⟩ := hrel
    by_cases hlt : k < n
    · obtain ⟨r, hr⟩ : ∃ r, rs[k]? = some r := by rw [_root_.List.getElem?_eq_getElem (by rw [← HN.out]; exact hlt)]; exact ⟨_, rfl⟩
      obtain ⟨g, off, rfl, hrg⟩ := H.out.at_ hr
      obtain ⟨e0, e1, e2, e3, e4, e5, e6, e7, e8, e9, e10⟩ := range11 (range_below HB.out hrg)
      have HS := Lib.hid (leastL_take hr)
      clear hr hrg
      go_wp2_with fail
      go_round
      case rel => exact ⟨k + 1, _, by omega, by go_num, by rw [HS.out]; exact congrArg _ (min_if _ _), rfl, Lib.hid (bel_trans HB.out (bel_alloc _ _))⟩
      case measure => simp [intOf]; omega
    · obtain rfl : k = n := by omega
      go_wp2_with fail
      go_ret
      exact ⟨ret_i64 (by rw [HN.out, _root_.List.take_length]), HB.out⟩
end Go.Proofs.YtdppmeeobpbfnaaDoor
