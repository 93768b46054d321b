/-
  The examples of chapter 28 hold.
-/
import Derived.Test.YtdlmlcgmonkdfaaShfSame
namespace Go.Proofs.Ytdlmlcgmonkdfaa
open Go.RowKit Sh
set_option linter.unusedVariables false
set_option linter.unusedSimpArgs false

namespace Sh
theorem rd_block {w : World} {g n size : Nat} {arr : Array Value} {t : TypeId} {xs : _root_.List Value} (h : w.heap[g]? = some (.cells arr t)) (hx : arr.toList = xs) (hl : xs.length = n * size) (hn : n ≤ 1000) (ho : ∀ u ∈ xs, u.oneCell' = true) : Rd size (.slice (some ⟨g, 0, none⟩) n n) n xs w := by
  refine ⟨hl, hn, ho, .inr ⟨g, 0, n, rfl, fun j u hu => ?_⟩⟩
  subst hx
  unfold World.cell?
  rw [h, Nat.zero_add]
  simpa using hu
def sR : ByteArray := ⟨#[82]⟩
def sQ : ByteArray := ⟨#[81]⟩
def exR0 : Ru := ⟨⟨#[82]⟩, 1971, 1971, 3, 1, 0, 1, 7200, 1, 0, ⟨#[]⟩⟩
def exR1 : Ru := ⟨⟨#[82]⟩, 1971, 1971, 10, 1, 0, 1, 3600, 2, -3600, ⟨#[]⟩⟩
def exE0 : Er := ⟨0, 0, 0, ⟨#[]⟩, ⟨#[71, 77, 84]⟩, true, 1968, 1, 1, 0, 1, 0, 0⟩
def exE1 : Er := ⟨3600, 2, 0, ⟨#[82]⟩, ⟨#[73, 83, 84, 47, 71, 77, 84]⟩, true, 1990, 1, 1, 0, 1, 10800, 1⟩
def exE2 : Er := ⟨0, 0, 0, ⟨#[]⟩, ⟨#[71, 77, 84]⟩, false, 0, 0, 0, 0, 0, 0, 0⟩
def exS : Sou := ⟨[exR0, exR1], [⟨⟨#[90]⟩, [exE0, exE1, exE2]⟩], [], []⟩
def exR0' : Ru := ⟨⟨#[82]⟩, 1971, 1971, 3, 1, 0, 1, 3600, 1, 3600, ⟨#[]⟩⟩
def exR1' : Ru := ⟨⟨#[82]⟩, 1971, 1971, 10, 1, 0, 1, 3600, 2, 0, ⟨#[]⟩⟩
def exE1' : Er := ⟨0, 2, 0, ⟨#[82]⟩, ⟨#[73, 83, 84, 47, 71, 77, 84]⟩, true, 1990, 1, 1, 0, 1, 7200, 1⟩
def exT : Sou := ⟨[exR0, exR1], [⟨⟨#[90]⟩, [exE0, exE1', exE2]⟩], [], []⟩
def exU : Sou := ⟨[exR0', exR1'], [⟨⟨#[90]⟩, [exE0, exE1', exE2]⟩], [], []⟩
theorem ex_rules : exS.rs.map (fun r => r.sh 3600) = [exR0', exR1'] := by kernel_rfl
theorem ex_eras : exS.shE ⟨#[82]⟩ 3600 = exT := by kernel_rfl
theorem ex_set : exS.shS ⟨#[82]⟩ 3600 = exU := by kernel_rfl
theorem rdz_one {w : World} {g e : Nat} {na : ByteArray} {es : _root_.List Er} (hz : w.heap[g]? = some (.cells #[.string na, .slice (some ⟨e, 0, none⟩) es.length es.length] 48)) (he : Rd 13 (.slice (some ⟨e, 0, none⟩) es.length es.length) es.length (flatE es) w) : RdZ (.slice (some ⟨g, 0, none⟩) 1 1) [⟨na, es⟩] w := by
  refine ⟨[(na, .slice (some ⟨e, 0, none⟩) es.length es.length)], rfl, rd_block hz rfl rfl (by decide) (flatZ_one _ (by intro p hp; simp at hp; subst hp; rfl)), fun i z h => ?_⟩
  cases i with
  | zero => simp at h; subst h; exact ⟨_, rfl, rfl, he⟩
  | succ i => simp at h
end Sh

theorem neCl (w : World) (a b : Int) : (binOp .neq 42 (.agg #[.int .i64 a, .int .i64 b]) (.agg #[.int .i64 a, .int .i64 b])).run Try.prog w = .ok (.bool false) w := by
  rw [run_neq_struct, eqClock w 9998, decide_eq_true ⟨rfl, rfl⟩]; rfl
theorem eqCl (w : World) (a b : Int) : (binOp .eql 42 (.agg #[.int .i64 a, .int .i64 b]) (.agg #[.int .i64 a, .int .i64 b])).run Try.prog w = .ok (.bool true) w := by
  rw [run_eql_struct, eqClock w 9998, decide_eq_true ⟨rfl, rfl⟩]; rfl

set_option maxRecDepth 100000 in
set_option maxHeartbeats 8000000 in
theorem example28_any (W : World) : Calls Try.prog 22 #[] W fun e w' => ∃ u1 u2 : Value, e = .returned (.agg #[u1, u2, .slice none 0 0, .slice none 0 0]) ∧ Hid (RdS u1 u2 (.slice none 0 0) (.slice none 0 0) exS w') ∧ Below W.heap.size W w' := by
  go_enter Try.func22, Try.ntmps22
  go_wp2_with fail
  have hs1 : ∀ (V : World) (o : Obj), (V.alloc o).heap.size = V.heap.size + 1 := fun V o => by show (V.heap.push o).size = _; simp
  refine bodyPost_ret (results_cell_row rfl _ _ _ _ _ _ _ rfl (block_below (heap_alloc_new W _) (bel_trans (bel_trans (bel_alloc _ _) (bel_alloc _ _)) (bel_alloc _ _))) Try.underlying27 rfl (by kernel_rfl)) rfl ?_
  refine ⟨_, _, rfl, Lib.hid ⟨?_, ?_, ⟨rfl, by decide, fun u hu => (by simp [flatL, exS] at hu), .inl ⟨none, rfl, rfl⟩⟩, ⟨rfl, by decide, fun u hu => (by simp [flatN, exS] at hu), .inl ⟨none, rfl, rfl⟩⟩⟩, bel_trans (bel_trans (bel_trans (bel_alloc _ _) (bel_alloc _ _)) (bel_alloc _ _)) (bel_alloc _ _)⟩
  · refine rd_block (n := 2) (arr := exR0.arr ++ exR1.arr) (t := 44) ?_ (by rfl) (by rfl) (by decide) (flatR_one _)
    have h := heap_alloc2_new W (.cells #[.slice (some ⟨W.heap.size + 1, 0, none⟩) 2 2, .slice (some ⟨W.heap.size + 1 + 1 + 1, 0, none⟩) 1 1, .slice none 0 0, .slice none 0 0] 27) (.cells (exR0.arr ++ exR1.arr) 44)
    exact block_below (block_below h (bel_alloc _ _)) (bel_alloc _ _)
  · refine rdz_one (na := ⟨#[90]⟩) (es := [exE0, exE1, exE2]) (g := W.heap.size + 1 + 1 + 1) (e := W.heap.size + 1 + 1) ?_ ?_
    · have h := heap_alloc_new (((W.alloc (.cells #[.slice (some ⟨W.heap.size + 1, 0, none⟩) 2 2, .slice (some ⟨W.heap.size + 1 + 1 + 1, 0, none⟩) 1 1, .slice none 0 0, .slice none 0 0] 27)).alloc (.cells (exR0.arr ++ exR1.arr) 44)).alloc (.cells (exE0.arr ++ exE1.arr ++ exE2.arr) 52)) (.cells #[.string ⟨#[90]⟩, .slice (some ⟨W.heap.size + 1 + 1, 0, none⟩) 3 3] 48)
      rw [hs1, hs1, hs1] at h
      exact h
    · refine rd_block (n := 3) (arr := exE0.arr ++ exE1.arr ++ exE2.arr) (t := 52) ?_ (by rfl) (by rfl) (by decide) (flatE_one _)
      have h := heap_alloc_new ((W.alloc (.cells #[.slice (some ⟨W.heap.size + 1, 0, none⟩) 2 2, .slice (some ⟨W.heap.size + 1 + 1 + 1, 0, none⟩) 1 1, .slice none 0 0, .slice none 0 0] 27)).alloc (.cells (exR0.arr ++ exR1.arr) 44)) (.cells (exE0.arr ++ exE1.arr ++ exE2.arr) 52)
      rw [hs1, hs1] at h
      exact block_below h (bel_alloc _ _)
end Go.Proofs.Ytdlmlcgmonkdfaa
