/-
  The contracts of package shift's functions Rules, Eras and Set.
-/
import Derived.Test.YtdlmlcgmonkdfaaShfChgE
namespace Go.Proofs.Ytdlmlcgmonkdfaa
open Go.RowKit Sh
set_option linter.unusedVariables false
set_option linter.unusedSimpArgs false

theorem cf_rule1 (args : Array Value) (w : World) : (callFunc 38 args).run Try.prog w = .ok (.enter 38 args) w := by
  rfl
theorem cf_set2 (args : Array Value) (w : World) : (callFunc 26 args).run Try.prog w = .ok (.enter 26 args) w := by
  rfl
theorem cf_era1 (args : Array Value) (w : World) : (callFunc 28 args).run Try.prog w = .ok (.enter 28 args) w := by
  rfl
theorem cf_era2 (args : Array Value) (w : World) : (callFunc 32 args).run Try.prog w = .ok (.enter 32 args) w := by
  rfl

set_option maxRecDepth 100000 in
set_option maxHeartbeats 1000000 in
theorem rules_any (v : Value) (rs : _root_.List Ru) (x : Int) (W : World) (h : Rd 11 v rs.length (flatR rs) W) :
    Calls Try.prog 18 #[v, .int .i64 x] W fun e w' => ∃ v', e = .returned v' ∧ Hid (Own W.heap.size 44 11 v' rs.length (flatR (rs.map fun r => r.sh x)) w') ∧ Below W.heap.size W w' := by
  have H := Lib.hid h
  clear h
  have HC : Hid (∀ (r : Ru) (V : World), Below (W.alloc (.cells #[.int .i64 x] 2)).heap.size (W.alloc (.cells #[.int .i64 x] 2)) V → Calls Try.prog 38 (#[.agg r.arr] ++ #[.pointer (some ⟨W.heap.size, 0, none⟩)]) V fun e w' => e = .returned (.agg (r.sh x).arr) ∧ Below V.heap.size V w') := fun r V hb =>
    rule1_any r x W.heap.size V (cell_below hb (cell_one W _ _))
  go_enter Try.func18, Try.ntmps18
  go_wp2_with fail
  refine (rule_any x _).mono ?_
  rintro e w1 ⟨rfl, rfl⟩
  go_wp2_with fail
  refine (changedR_any v rs 38 #[.pointer (some ⟨W.heap.size, 0, none⟩)] (fun r => r.sh x) _ (H.out.below (bel_alloc _ _)) cf_rule1 HC.out).mono ?_
  rintro e w2 ⟨v', rfl, ho, hb⟩
  go_wp2_with fail
  go_ret
  exact ⟨_, rfl, Lib.hid (ho.out.mono (by simp)), bel_trans (bel_alloc _ _) hb⟩

namespace Sh
theorem Rd.sl {size n : Nat} {v : Value} {xs : _root_.List Value} {w : World} (h : Rd size v n xs w) : ∃ (a : Option Addr) (c : Nat), v = .slice a n c := by
  obtain ⟨_, _, _, ⟨A, rfl, rfl⟩ | ⟨g, off, cap, rfl, _⟩⟩ := h
  · exact ⟨_, _, rfl⟩
  · exact ⟨_, _, rfl⟩
theorem Own.setc {base size n b o : Nat} {t : TypeId} {a : Option Addr} {c : Nat} {xs l : _root_.List Value} {w : World} (h : Own base t size (.slice a n c) n xs w) (hne : ∀ g cap, (Value.slice a n c) = .slice (some ⟨g, 0, none⟩) n cap → g ≠ b) : Own base t size (.slice a n c) n xs (w.setCells b o l) := by
  obtain ⟨⟨hl, h0 | ⟨g, cap, cur, h1, h2, h3, h4⟩⟩, hn, ho⟩ := h
  · exact ⟨⟨hl, .inl h0⟩, hn, ho⟩
  · exact ⟨⟨hl, .inr ⟨g, cap, cur, h1, h2, block_setCells h3 (hne g cap h1), h4⟩⟩, hn, ho⟩
theorem Own.far {base size n : Nat} {t : TypeId} {v : Value} {xs : _root_.List Value} {w : World} (h : Own base t size v n xs w) : ∀ g cap, v = .slice (some ⟨g, 0, none⟩) n cap → base ≤ g := by
  intro g cap hv
  obtain ⟨⟨_, ⟨h0, _⟩ | ⟨g', cap', cur, h1, h2, _⟩⟩, _⟩ := h
  · rw [hv] at h0; simp at h0
  · rw [hv] at h1; simp at h1; omega
theorem bk2 {V : World} {b : Nat} {o : Obj} (h : V.heap[b]? = some o) : b < V.heap.size := (Array.getElem?_eq_some_iff.1 h).1
theorem row2x {V : World} {b c : Nat} {t : TypeId} {a0 a1 x : Value} (h : V.heap[b]? = some (.cells #[a0, a1] t)) (hx : V.cell? ⟨c, 0, none⟩ = some x) : V.cell? ⟨b, 0, none⟩ = some a0 ∧ V.cell? ⟨b, 1, none⟩ = some a1 ∧ V.cell? ⟨c, 0, none⟩ = some x := by
  obtain ⟨c0, c1⟩ := row2 h
  exact ⟨c0, c1, hx⟩
end Sh

set_option maxRecDepth 100000 in
set_option maxHeartbeats 2000000 in
theorem era2_any (na : ByteArray) (v : Value) (es : _root_.List Er) (s : ByteArray) (x : Int) (bf bs bx : Nat) (W : World) (h : Rd 13 v es.length (flatE es) W)
    (hf : W.cell? ⟨bf, 0, none⟩ = some (.func (.func 28) #[] #[.pointer (some ⟨bs, 0, none⟩), .pointer (some ⟨bx, 0, none⟩)]))
    (hs : W.cell? ⟨bs, 0, none⟩ = some (.string s)) (hx : W.cell? ⟨bx, 0, none⟩ = some (.int .i64 x)) :
    Calls Try.prog 32 #[.agg #[.string na, v], .pointer (some ⟨bf, 0, none⟩)] W fun e w' => ∃ v', e = .returned (.agg #[.string na, v']) ∧ Hid (Own W.heap.size 52 13 v' es.length (flatE (es.map fun r => r.sh s x)) w') ∧ Below W.heap.size W w' := by
  obtain ⟨a, c, rfl⟩ := h.sl
  obtain ⟨n, hN⟩ : ∃ n, n = es.length := ⟨_, rfl⟩
  have H := Lib.hid h
  have HN := Lib.hid hN
  rw [← hN]
  have hbf : bf < W.heap.size := lt_of_cell hf
  have HW1 := Lib.hid (show Below W.heap.size W (((W.alloc (.cells #[.string na, .slice a n c] 48)).alloc (.cells #[.string ⟨#[]⟩, .slice none 0 0] 48)).drew) from Below.drew (bel_trans (bel_alloc _ _) (bel_alloc _ _)))
  have HF := Lib.hid (cell_below HW1.out hf)
  have HC : Hid (∀ (r : Er) (V : World), Below (((W.alloc (.cells #[.string na, .slice a n c] 48)).alloc (.cells #[.string ⟨#[]⟩, .slice none 0 0] 48)).drew).heap.size (((W.alloc (.cells #[.string na, .slice a n c] 48)).alloc (.cells #[.string ⟨#[]⟩, .slice none 0 0] 48)).drew) V → Calls Try.prog 28 (#[.agg r.arr] ++ #[.pointer (some ⟨bs, 0, none⟩), .pointer (some ⟨bx, 0, none⟩)]) V fun e w' => e = .returned (.agg (r.sh s x).arr) ∧ Below V.heap.size V w') := fun r V hb =>
    era1_any r s x bs bx V (cell_below hb (cell_below HW1.out hs)) (cell_below hb (cell_below HW1.out hx))
  have h2 : Rd 13 (.slice a n c) es.length (flatE es) W := by rw [hN]; exact h
  have HH := Lib.hid (h2.below HW1.out)
  clear h2
  have hk := Lib.hid (show (((W.alloc (.cells #[.string na, .slice a n c] 48)).alloc (.cells #[.string ⟨#[]⟩, .slice none 0 0] 48)).drew).heap[W.heap.size]? = some (.cells #[.string na, .slice a n c] 48) from block_below (heap_alloc_new W _) (Below.drew (bel_alloc _ _)))
  have hz := Lib.hid (show (((W.alloc (.cells #[.string na, .slice a n c] 48)).alloc (.cells #[.string ⟨#[]⟩, .slice none 0 0] 48)).drew).heap[W.heap.size + 1]? = some (.cells #[.string ⟨#[]⟩, .slice none 0 0] 48) from heap_alloc2_new W _ _)
  clear h hN hf hs hx
  go_enter Try.func32, Try.ntmps32
  go_wp2_with fail
  first
  | (go_region_held3 (fun w' => w'.cell? ⟨W.heap.size, 0, none⟩ = some (.string na) ∧ w'.cell? ⟨W.heap.size, 1, none⟩ = some (.slice a n c) ∧ w'.cell? ⟨bf, 0, none⟩ = some (.func (.func 28) #[] #[.pointer (some ⟨bs, 0, none⟩), .pointer (some ⟨bx, 0, none⟩)]))
      (first | exact row2x hk.out HF.out | exact row2x hk3.out HF3.out | exact row2x (block_setCells (o := 0) (l := [.string na, .slice a' es.length c']) hk3.out (by omega)) (cell_setCells (o := 0) (l := [.string na, .slice a' es.length c']) HF3.out (by omega)))
      (first
       | (go_at_call 33; refine (changedE_any (.slice a n c) es 28 #[.pointer (some ⟨bs, 0, none⟩), .pointer (some ⟨bx, 0, none⟩)] (fun r => r.sh s x) _ (by exact HH.out) cf_era1 (by exact HC.out)).mono ?_; rintro e w3 ⟨v', rfl, ho, hb3⟩; obtain ⟨a', c', rfl⟩ := ho.out.rd.sl; have hk3 := Lib.hid (block_below hk.out hb3); have hz3 := Lib.hid (block_below hz.out hb3); have HF3 := Lib.hid (cell_below hb3 HF.out); have HB3 := Lib.hid (bel_trans HW1.out hb3); obtain ⟨y0, y1⟩ := row2 hz3.out; obtain ⟨f0, f1⟩ := frz2 hz3.out)))
  | fail
  go_wp2_with fail
  refine bodyPost_ret (results_cell_row rfl _ _ _ _ _ _ _ rfl (set2 hz3.out) Try.underlying48 rfl (by kernel_rfl)) rfl ?_
  exact ⟨_, rfl, by rw [HN.out]; exact Lib.hid ((ho.out.mono HW1.out.size).setc (b := W.heap.size + 1) (o := 0) (l := [.string na, .slice a' es.length c']) (fun g cap hg => by have := ho.out.far g cap hg; have h2 := bk2 hz.out; omega)), bel_setCells (o := 0) (l := [.string na, .slice a' es.length c']) HB3.out (Nat.le_succ _)⟩
end Go.Proofs.Ytdlmlcgmonkdfaa
