/-
  The state of ShiftApart's loops: three sources of the caller's own, of which the first ones are changed.
-/
import Derived.Test.YtdlmlcgmonkdfaaShfApZ
import Derived.Laws.Concat
namespace Go.Proofs.Ytdlmlcgmonkdfaa
open Go.RowKit Sh
set_option linter.unusedVariables false
set_option linter.unusedSimpArgs false

namespace Sh
theorem Row.wide {lo hi lo' hi' size n : Nat} {t : TypeId} {v : Value} {P : Nat → Value → Prop} {w : World} (h : Row lo hi t size v n P w) (h1 : lo' ≤ lo) (h2 : hi ≤ hi') : Row lo' hi' t size v n P w := by
  obtain ⟨hn, h0 | ⟨g, cap, cur, rfl, k1, k2, h3⟩⟩ := h
  · exact ⟨hn, .inl h0⟩
  · exact ⟨hn, .inr ⟨g, cap, cur, rfl, by omega, by omega, h3⟩⟩
theorem Sro.wide {lo hi lo' hi' n1 n2 n3 n4 kz kl kn : Nat} {x1 x2 x3 x4 : Value} {us : _root_.List Value} {w : World} (h : Sro lo hi x1 x2 x3 x4 n1 n2 n3 n4 us kz kl kn w) (h1 : lo' ≤ lo) (h2 : hi ≤ hi') : Sro lo' hi' x1 x2 x3 x4 n1 n2 n3 n4 us kz kl kn w :=
  ⟨h.r.wide h1 h2, h.z.wide h1 h2, h.l.wide h1 h2, h.n.wide h1 h2, h.ul, fun i u hu => (by obtain ⟨m, hm⟩ := h.e i u hu; exact ⟨m, hm.wide h1 h2⟩)⟩
/-- the sources from the k-th on are as they were returned -/
def Srcs (f : Nat → Nat) (arr : Array Value) (k : Nat) (w : World) : Prop := ∀ j, k ≤ j → j < 3 → ∃ x1 x2 x3 x4 n1 n2 n3 n4 us, arr[j * 4]? = some x1 ∧ arr[j * 4 + 1]? = some x2 ∧ arr[j * 4 + 2]? = some x3 ∧ arr[j * 4 + 3]? = some x4 ∧ Sro (f j) (f (j + 1)) x1 x2 x3 x4 n1 n2 n3 n4 us 0 0 0 w
theorem Srcs.below {f : Nat → Nat} {arr : Array Value} {k : Nat} {A B : World} (h : Srcs f arr k A) (hb : Below A.heap.size A B) : Srcs f arr k B := fun j h1 h2 => by
  obtain ⟨x1, x2, x3, x4, n1, n2, n3, n4, us, a1, a2, a3, a4, hs⟩ := h j h1 h2
  exact ⟨x1, x2, x3, x4, n1, n2, n3, n4, us, a1, a2, a3, a4, hs.below hb⟩
structure Mono3 (f : Nat → Nat) (b0 top : Nat) : Prop where
  h0 : b0 ≤ f 0
  m : ∀ i j, i ≤ j → f i ≤ f j
  t : ∀ i, f i ≤ top
theorem Srcs.far {f : Nat → Nat} {arr : Array Value} {k b o b0 top : Nat} {u : Value} {w : World} (h : Srcs f arr k w) (hm : Mono3 f b0 top) (hb : b < f k) : Srcs f arr k (w.setCell ⟨b, o, none⟩ u) := fun j h1 h2 => by
  obtain ⟨x1, x2, x3, x4, n1, n2, n3, n4, us, a1, a2, a3, a4, hs⟩ := h j h1 h2
  exact ⟨x1, x2, x3, x4, n1, n2, n3, n4, us, a1, a2, a3, a4, hs.far (.inl (by have := hm.m k j h1; omega))⟩
/-- the state within a round -/
structure Inv (f : Nat → Nat) (arr : Array Value) (t44 : TypeId) (b44 b13 : Nat) (W0 : World) (j : Nat) (x1 x2 x3 x4 : Value) (n1 n2 n3 n4 : Nat) (us : _root_.List Value) (kz kl kn : Nat) (w : World) : Prop where
  m : Mono3 f W0.heap.size b44
  hb : b44 < b13
  k44 : w.heap[b44]? = some (.cells arr t44)
  k13 : w.heap[b13]? = some (.cells #[x1, x2, x3, x4] 27)
  s : Sro (f j) (f (j + 1)) x1 x2 x3 x4 n1 n2 n3 n4 us kz kl kn w
  l : Srcs f arr (j + 1) w
  b : Below W0.heap.size W0 w
variable {f : Nat → Nat} {arr : Array Value} {t44 : TypeId} {b44 b13 : Nat} {W0 : World} {j : Nat} {x1 x2 x3 x4 : Value} {n1 n2 n3 n4 : Nat} {us : _root_.List Value} {kz kl kn : Nat} {w : World}
theorem Inv.store {kz' kl' kn' g o : Nat} {u : Value} (h : Inv f arr t44 b44 b13 W0 j x1 x2 x3 x4 n1 n2 n3 n4 us kz kl kn w) (h1 : f j ≤ g) (h2 : g < f (j + 1)) (hs : Sro (f j) (f (j + 1)) x1 x2 x3 x4 n1 n2 n3 n4 us kz' kl' kn' (w.setCell ⟨g, o, none⟩ u)) : Inv f arr t44 b44 b13 W0 j x1 x2 x3 x4 n1 n2 n3 n4 us kz' kl' kn' (w.setCell ⟨g, o, none⟩ u) := by
  have t1 := h.m.t (j + 1)
  have t2 := h.m.m 0 j (Nat.zero_le _)
  have t3 := h.m.h0
  have t4 := h.hb
  exact ⟨h.m, h.hb, blk_setCell h.k44 (by omega), blk_setCell h.k13 (by omega), hs, h.l.far h.m h2, bel_setCell h.b (by omega)⟩
/-- the state between two rounds -/
structure Out (f : Nat → Nat) (arr : Array Value) (t44 : TypeId) (b44 : Nat) (W0 : World) (k : Nat) (w : World) : Prop where
  m : Mono3 f W0.heap.size b44
  k44 : w.heap[b44]? = some (.cells arr t44)
  l : Srcs f arr k w
  b : Below W0.heap.size W0 w
theorem Inv.out_ (h : Inv f arr t44 b44 b13 W0 j x1 x2 x3 x4 n1 n2 n3 n4 us kz kl kn w) : Out f arr t44 b44 W0 (j + 1) w := ⟨h.m, h.k44, h.l, h.b⟩
theorem Out.inv (h : Out f arr t44 b44 W0 j w) (hs : Sro (f j) (f (j + 1)) x1 x2 x3 x4 n1 n2 n3 n4 us 0 0 0 w) : Inv f arr t44 b44 w.heap.size W0 j x1 x2 x3 x4 n1 n2 n3 n4 us 0 0 0 (w.alloc (.cells #[x1, x2, x3, x4] 27)) :=
  ⟨h.m, bk2 h.k44, block_below h.k44 (bel_alloc _ _), heap_alloc_new _ _, hs.below (bel_alloc _ _), fun i h1 h2 => (Srcs.below h.l (bel_alloc _ _)) i (by omega) h2, bel_trans h.b ((bel_alloc w _).mono (Nat.le_refl _))⟩
/-- the first state -/
theorem Out.first {W1 W2 w2 w3 w4 : World} {y1 y2 y3 y4 z1 z2 z3 z4 l1 : Value} {m1 m2 m3 m4 p1 p2 p3 p4 r1 : Nat} {ut uu : _root_.List Value} (h2 : w2.heap.size + 1 = W1.heap.size) (h3 : w3.heap.size + 1 = W2.heap.size) (q1 : W0.heap.size ≤ W1.heap.size) (q2 : W1.heap.size ≤ W2.heap.size) (q3 : W2.heap.size ≤ w4.heap.size)
    (hb : Below W0.heap.size W0 w4) (ht : Sro W0.heap.size w2.heap.size y1 y2 y3 y4 m1 m2 m3 m4 ut 0 0 0 w4) (hv : Sro W1.heap.size w3.heap.size z1 z2 z3 z4 p1 p2 p3 p4 uu 0 0 0 w4) (hl : Sro W2.heap.size w4.heap.size l1 (.slice none 0 0) (.slice none 0 0) (.slice none 0 0) r1 0 0 0 [] 0 0 0 w4) :
    ∃ f, Out f #[y1, y2, y3, y4, z1, z2, z3, z4, l1, .slice none 0 0, .slice none 0 0, .slice none 0 0] 27 w4.heap.size W0 0 (w4.alloc (.cells #[y1, y2, y3, y4, z1, z2, z3, z4, l1, .slice none 0 0, .slice none 0 0, .slice none 0 0] 27)) := by
  refine ⟨fun i => if i = 0 then W0.heap.size else if i = 1 then W1.heap.size else if i = 2 then W2.heap.size else w4.heap.size, ⟨by simp, fun i j hij => ?_, fun i => ?_⟩, heap_alloc_new _ _, fun j h0 hj => ?_, bel_trans hb ((bel_alloc w4 _).mono (Nat.le_refl _))⟩
  · show (if i = 0 then _ else if i = 1 then _ else if i = 2 then _ else _) ≤ (if j = 0 then _ else if j = 1 then _ else if j = 2 then _ else _)
    split <;> split <;> (try split) <;> (try split) <;> (try split) <;> (try split) <;> omega
  · show (if i = 0 then _ else if i = 1 then _ else if i = 2 then _ else _) ≤ _
    split <;> (try split) <;> (try split) <;> omega
  · have hc : j = 0 ∨ j = 1 ∨ j = 2 := by omega
    rcases hc with rfl | rfl | rfl
    · exact ⟨y1, y2, y3, y4, m1, m2, m3, m4, ut, rfl, rfl, rfl, rfl, (ht.wide (Nat.le_refl _) (by show _ ≤ W1.heap.size; omega)).below (bel_alloc _ _)⟩
    · exact ⟨z1, z2, z3, z4, p1, p2, p3, p4, uu, rfl, rfl, rfl, rfl, (hv.wide (Nat.le_refl _) (by show _ ≤ W2.heap.size; omega)).below (bel_alloc _ _)⟩
    · exact ⟨l1, _, _, _, r1, 0, 0, 0, [], rfl, rfl, rfl, rfl, (hl.wide (Nat.le_refl _) (Nat.le_refl _)).below (bel_alloc _ _)⟩
end Sh

set_option maxRecDepth 100000 in
theorem setA_any (v1 v2 v3 v4 : Value) (s : Sou) (n : ByteArray) (x : Int) (W : World) (h : RdS v1 v2 v3 v4 s W) (hs : s.short) :
    Calls Try.prog 12 #[.agg #[v1, v2, v3, v4], .string n, .int .i64 x] W fun e w' => ∃ (u1 u2 u3 u4 : Value) (n1 n2 n3 n4 : Nat) (us : _root_.List Value) (q : Int), e = .returned (.tuple #[.agg #[u1, u2, u3, u4], .int .i64 q]) ∧ Hid (Sro W.heap.size w'.heap.size u1 u2 u3 u4 n1 n2 n3 n4 us 0 0 0 w') ∧ Below W.heap.size W w' := by
  cases hN : hasN n s.rs
  · exact (setN_any v1 v2 v3 v4 s n x W h hN).mono fun e w' ⟨he, hb⟩ => ⟨_, _, _, _, 0, 0, 0, 0, [], 4, he, Lib.hid Sro.none, hb⟩
  · exact (setY_any v1 v2 v3 v4 s n x W h hN).mono fun e w' ⟨u1, u2, u3, u4, he, ho, hb⟩ => (by
      obtain ⟨us, hu⟩ := Sro.of ho.out ⟨fun z hz => by
        unfold Sou.shS shZ at hz
        obtain ⟨y, hy, rfl⟩ := _root_.List.mem_map.1 hz
        exact hs.1 y hy, hs.2.1, hs.2.2⟩
      exact ⟨u1, u2, u3, u4, _, _, _, _, us, 0, he, Lib.hid hu, hb⟩)
theorem erasA_any (v1 v2 v3 v4 : Value) (s : Sou) (n : ByteArray) (x : Int) (W : World) (h : RdS v1 v2 v3 v4 s W) (hs : s.short) :
    Calls Try.prog 15 #[.agg #[v1, v2, v3, v4], .string n, .int .i64 x] W fun e w' => ∃ (u1 u2 u3 u4 : Value) (n1 n2 n3 n4 : Nat) (us : _root_.List Value), e = .returned (.agg #[u1, u2, u3, u4]) ∧ Hid (Sro W.heap.size w'.heap.size u1 u2 u3 u4 n1 n2 n3 n4 us 0 0 0 w') ∧ Below W.heap.size W w' :=
  (erasS_any v1 v2 v3 v4 s n x W h).mono fun e w' ⟨u1, u2, u3, u4, he, ho, hb⟩ => (by
    obtain ⟨us, hu⟩ := Sro.of ho.out ⟨fun z hz => by
      unfold Sou.shE shZ at hz
      obtain ⟨y, hy, rfl⟩ := _root_.List.mem_map.1 hz
      exact hs.1 y hy, hs.2.1, hs.2.2⟩
    exact ⟨u1, u2, u3, u4, _, _, _, _, us, he, Lib.hid hu, hb⟩)
theorem rulesA_any (v : Value) (rs : _root_.List Ru) (x : Int) (W : World) (h : Rd 11 v rs.length (flatR rs) W) :
    Calls Try.prog 18 #[v, .int .i64 x] W fun e w' => ∃ (u1 : Value) (n1 : Nat), e = .returned u1 ∧ Hid (Sro W.heap.size w'.heap.size u1 (.slice none 0 0) (.slice none 0 0) (.slice none 0 0) n1 0 0 0 [] 0 0 0 w') ∧ Below W.heap.size W w' :=
  (rules_any v rs x W h).mono fun e w' ⟨u1, he, ho, hb⟩ => (by
    have ho2 : Own W.heap.size 44 11 u1 (rs.map fun r => r.sh x).length (flatR (rs.map fun r => r.sh x)) w' := by rw [_root_.List.length_map]; exact ho.out
    exact ⟨u1, _, he, Lib.hid (Sro.rules ho2), hb⟩)
end Go.Proofs.Ytdlmlcgmonkdfaa
