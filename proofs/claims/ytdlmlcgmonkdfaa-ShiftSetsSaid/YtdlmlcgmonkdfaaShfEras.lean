/-
  The contract of package shift's function Eras.
-/
import Derived.Test.YtdlmlcgmonkdfaaShfZone
namespace Go.Proofs.Ytdlmlcgmonkdfaa
open Go.RowKit Sh
set_option linter.unusedVariables false
set_option linter.unusedSimpArgs false

namespace Sh
/-- a zone's eras with a set, shifted -/
def shZ (s : ByteArray) (x : Int) (zs : _root_.List Zn) : _root_.List Zn := zs.map fun z => ⟨z.na, z.es.map fun r => r.sh s x⟩
theorem RdZ.sl {v : Value} {zs : _root_.List Zn} {w : World} (h : RdZ v zs w) : ∃ (a : Option Addr) (c : Nat), v = .slice a zs.length c := by
  obtain ⟨ps, _, h2, _⟩ := h
  exact h2.sl
theorem OwnZ.mono {base base' : Nat} {v : Value} {zs : _root_.List Zn} {w : World} (h : OwnZ base v zs w) (hb : base' ≤ base) : OwnZ base' v zs w := by
  obtain ⟨ps, hl, ho, hp, hd⟩ := h
  exact ⟨ps, hl, ho.mono hb, fun i z hz => (by obtain ⟨p, h1, h2, h3⟩ := hp i z hz; exact ⟨p, h1, h2, h3.mono hb⟩), hd⟩
theorem row4 {V : World} {b : Nat} {t : TypeId} {a0 a1 a2 a3 : Value} (h : V.heap[b]? = some (.cells #[a0, a1, a2, a3] t)) : V.cell? ⟨b, 0, none⟩ = some a0 ∧ V.cell? ⟨b, 1, none⟩ = some a1 ∧ V.cell? ⟨b, 2, none⟩ = some a2 ∧ V.cell? ⟨b, 3, none⟩ = some a3 := by
  unfold World.cell?
  rw [h]
  simp
theorem frz4 {V : World} {b : Nat} {t : TypeId} {a0 a1 a2 a3 : Value} (h : V.heap[b]? = some (.cells #[a0, a1, a2, a3] t)) : V.frozen? ⟨b, 0, none⟩ = false ∧ V.frozen? ⟨b, 1, none⟩ = false ∧ V.frozen? ⟨b, 2, none⟩ = false ∧ V.frozen? ⟨b, 3, none⟩ = false := by
  unfold World.frozen?
  rw [h]
  simp
theorem set4 {V : World} {b : Nat} {t : TypeId} {a0 a1 a2 a3 d0 d1 d2 d3 : Value} (h : V.heap[b]? = some (.cells #[a0, a1, a2, a3] t)) :
    (V.setCells b 0 [d0, d1, d2, d3]).heap[b]? = some (.cells #[d0, d1, d2, d3] t) := by
  simp [World.setCells, World.setCell, Array.getElem?_modify, h]
theorem there4 {V : World} {b : Nat} {t : TypeId} {a0 a1 a2 a3 : Value} (h : V.heap[b]? = some (.cells #[a0, a1, a2, a3] t)) : V.there b 0 4 := by
  intro j hj
  unfold World.cell? World.frozen?
  rw [h]
  have hc : j = 0 ∨ j = 1 ∨ j = 2 ∨ j = 3 := by omega
  rcases hc with rfl | rfl | rfl | rfl <;> simp
theorem Own.fall {base size n b o : Nat} {t : TypeId} {v : Value} {xs l : _root_.List Value} {w : World} (h : Own base t size v n xs w) (hne : b < base) : Own base t size v n xs (w.setCells b o l) := by
  obtain ⟨⟨hl, h0 | ⟨g, cap, cu, h1, h2, h3, h4⟩⟩, hn, ho⟩ := h
  · exact ⟨⟨hl, .inl h0⟩, hn, ho⟩
  · exact ⟨⟨hl, .inr ⟨g, cap, cu, h1, h2, block_setCells h3 (by omega), h4⟩⟩, hn, ho⟩
theorem OwnZ.fall {base b o : Nat} {v : Value} {zs : _root_.List Zn} {l : _root_.List Value} {w : World} (h : OwnZ base v zs w) (hne : b < base) : OwnZ base v zs (w.setCells b o l) := by
  obtain ⟨ps, hl, ho, hp, hd⟩ := h
  exact ⟨ps, hl, ho.fall hne, fun i z hz => (by obtain ⟨p, h1, h2, h3⟩ := hp i z hz; exact ⟨p, h1, h2, h3.fall hne⟩), hd⟩
end Sh

set_option maxRecDepth 100000 in
set_option maxHeartbeats 2000000 in
theorem eras_any (v1 v2 v3 v4 : Value) (rs : _root_.List Ru) (zs : _root_.List Zn) (n3 n4 : Nat) (x3 x4 : _root_.List Value) (s : ByteArray) (x : Int) (W : World)
    (h1 : Rd 11 v1 rs.length (flatR rs) W) (h2 : RdZ v2 zs W) (h3 : Rd 2 v3 n3 x3 W) (h4 : Rd 1 v4 n4 x4 W) :
    Calls Try.prog 15 #[.agg #[v1, v2, v3, v4], .string s, .int .i64 x] W fun e w' => ∃ u1 u2 u3 u4, e = .returned (.agg #[u1, u2, u3, u4]) ∧
      Hid (Own W.heap.size 44 11 u1 rs.length (flatR rs) w' ∧ OwnZ W.heap.size u2 (shZ s x zs) w' ∧ Own W.heap.size 54 2 u3 n3 x3 w' ∧ Own W.heap.size 9 1 u4 n4 x4 w') ∧ Below W.heap.size W w' := by
  obtain ⟨a1, c1, rfl⟩ := h1.sl
  obtain ⟨a2, c2, rfl⟩ := h2.sl
  obtain ⟨a3, c3, rfl⟩ := h3.sl
  obtain ⟨a4, c4, rfl⟩ := h4.sl
  have H1 := Lib.hid h1
  have H2 := Lib.hid h2
  have H3 := Lib.hid h3
  have H4 := Lib.hid h4
  clear h1 h2 h3 h4
  have hmf : ∀ (fn : Fn) (first cap : Array Value) (w : World), (Instr.makeFunc fn first cap).run Try.prog w = .ok (.func fn first cap) w := fun _ _ _ _ => rfl
  have hst := fun (w : World) (a : Addr) (fn : Fn) (f c : Array Value) => run_store Try.prog w a (.func fn f c) .plain rfl
  go_enter Try.func15, Try.ntmps15
  go_wp2_with fail
  obtain ⟨WX, hWX⟩ : ∃ WX, WX = (((((W.alloc (.cells #[.slice a1 rs.length c1, .slice a2 zs.length c2, .slice a3 n3 c3, .slice a4 n4 c4] 27)).alloc (.cells #[.string s] 9)).alloc (.cells #[.int .i64 x] 2)).alloc (.cells #[.slice none 0 0, .slice none 0 0, .slice none 0 0, .slice none 0 0] 27)).alloc (.cells #[(.func (.func 28) #[] #[.pointer (some ⟨W.heap.size + 1, 0, none⟩), .pointer (some ⟨W.heap.size + 1 + 1, 0, none⟩)])] 67)) := ⟨_, rfl⟩
  have hs1 : ∀ (V : World) (o : Obj), (V.alloc o).heap.size = V.heap.size + 1 := fun V o => by show (V.heap.push o).size = _; simp
  have hk0 : Hid (WX.drew.heap[W.heap.size]? = some (.cells #[.slice a1 rs.length c1, .slice a2 zs.length c2, .slice a3 n3 c3, .slice a4 n4 c4] 27)) := by
    rw [hWX]; exact block_below (heap_alloc_new W _) (Below.drew (bel_trans (bel_trans (bel_trans (bel_alloc _ _) (bel_alloc _ _)) (bel_alloc _ _)) (bel_alloc _ _)))
  have hr0 : Hid (WX.drew.heap[W.heap.size + 1 + 1 + 1]? = some (.cells #[.slice none 0 0, .slice none 0 0, .slice none 0 0, .slice none 0 0] 27)) := by
    rw [hWX]; have := heap_alloc_new (((W.alloc (.cells #[.slice a1 rs.length c1, .slice a2 zs.length c2, .slice a3 n3 c3, .slice a4 n4 c4] 27)).alloc (.cells #[.string s] 9)).alloc (.cells #[.int .i64 x] 2)) (.cells #[.slice none 0 0, .slice none 0 0, .slice none 0 0, .slice none 0 0] 27); rw [hs1, hs1, hs1] at this; exact block_below this (Below.drew (bel_alloc _ _))
  have hfc : Hid (WX.drew.cell? ⟨W.heap.size + 1 + 1 + 1 + 1, 0, none⟩ = some (.func (.func 28) #[] #[.pointer (some ⟨W.heap.size + 1, 0, none⟩), .pointer (some ⟨W.heap.size + 1 + 1, 0, none⟩)])) := by
    rw [hWX]; have := cell_one ((((W.alloc (.cells #[.slice a1 rs.length c1, .slice a2 zs.length c2, .slice a3 n3 c3, .slice a4 n4 c4] 27)).alloc (.cells #[.string s] 9)).alloc (.cells #[.int .i64 x] 2)).alloc (.cells #[.slice none 0 0, .slice none 0 0, .slice none 0 0, .slice none 0 0] 27)) (.func (.func 28) #[] #[.pointer (some ⟨W.heap.size + 1, 0, none⟩), .pointer (some ⟨W.heap.size + 1 + 1, 0, none⟩)]) 67; rw [hs1, hs1, hs1, hs1] at this; exact this
  have hsc : Hid (WX.drew.cell? ⟨W.heap.size + 1, 0, none⟩ = some (.string s)) := by
    rw [hWX]; have := cell_one (W.alloc (.cells #[.slice a1 rs.length c1, .slice a2 zs.length c2, .slice a3 n3 c3, .slice a4 n4 c4] 27)) (.string s) 9; rw [hs1] at this; exact cell_below (Below.drew (bel_trans (bel_trans (bel_alloc _ _) (bel_alloc _ _)) (bel_alloc _ _))) this
  have hxc : Hid (WX.drew.cell? ⟨W.heap.size + 1 + 1, 0, none⟩ = some (.int .i64 x)) := by
    rw [hWX]; have := cell_one ((W.alloc (.cells #[.slice a1 rs.length c1, .slice a2 zs.length c2, .slice a3 n3 c3, .slice a4 n4 c4] 27)).alloc (.cells #[.string s] 9)) (.int .i64 x) 2; rw [hs1, hs1] at this; exact cell_below (Below.drew (bel_trans (bel_alloc _ _) (bel_alloc _ _))) this
  have hB0 : Hid (Below W.heap.size W WX.drew) := by
    rw [hWX]; exact Below.drew (bel_trans (bel_trans (bel_trans (bel_trans (bel_alloc _ _) (bel_alloc _ _)) (bel_alloc _ _)) (bel_alloc _ _)) (bel_alloc _ _))
  have hX0 : Hid (Below WX.drew.heap.size WX.drew WX.drew) := Below.refl _ _
  rw [← hWX]
  clear hWX hs1 hst
  have HZC : Hid (∀ w1 : World, Below WX.drew.heap.size WX.drew w1 → ∀ (na : ByteArray) (u : Value) (es : _root_.List Er) (V : World), Below w1.heap.size w1 V → Rd 13 u es.length (flatE es) V → Calls Try.prog 32 (#[.agg #[.string na, u]] ++ #[.pointer (some ⟨W.heap.size + 1 + 1 + 1 + 1, 0, none⟩)]) V fun e w' => ∃ u', e = .returned (.agg #[.string na, u']) ∧ Hid (Own V.heap.size 52 13 u' (es.map fun r => r.sh s x).length (flatE (es.map fun r => r.sh s x)) w') ∧ Below V.heap.size V w') := fun w1 h1 na u es V hb hu =>
    (era2_any na u es s x (W.heap.size + 1 + 1 + 1 + 1) (W.heap.size + 1) (W.heap.size + 1 + 1) V hu (cell_below (bel_trans h1 hb) hfc.out) (cell_below (bel_trans h1 hb) hsc.out) (cell_below (bel_trans h1 hb) hxc.out)).mono fun e w' ⟨u', k1, k2, k3⟩ => ⟨u', k1, Lib.hid (by have := k2.out; rw [_root_.List.length_map]; exact this), k3⟩
  refine wp_region_noPanic ?_
  refine wp_region_held_drew (S := (fun w' => w'.cell? ⟨W.heap.size, 0, none⟩ = some (.slice a1 rs.length c1) ∧ w'.cell? ⟨W.heap.size, 1, none⟩ = some (.slice a2 zs.length c2) ∧ w'.cell? ⟨W.heap.size, 2, none⟩ = some (.slice a3 n3 c3) ∧ w'.cell? ⟨W.heap.size, 3, none⟩ = some (.slice a4 n4 c4))) (by kernel_rfl) (by exact row4 hk0.out) (fun hHeld => ?_)
  refine wpAnyH_take (i := 0) (v := ?_) rfl (by kernel_rfl) (by kernel_rfl) (by kernel_rfl) (fun _ _ _ h => h) (Or.inl ⟨by rfl, ?_⟩) (by assumption) ?_
  rotate_left 1
  · (intro w hSw; (try dsimp only at hSw); first | (go_simp; done) | (go_simp; with_reducible rfl))
  try simp only [Act.put, List.getElem_toArray, List.getElem_cons_succ, List.getElem_cons_zero, List.setIfInBounds_toArray, List.set_cons_zero, List.set_cons_succ]
  refine wpAnyH_take (i := 1) (v := ?_) rfl (by kernel_rfl) (by kernel_rfl) (by kernel_rfl) (fun _ _ _ h => h) (Or.inl ⟨by rfl, ?_⟩) (by assumption) ?_
  rotate_left 1
  · (intro w hSw; (try dsimp only at hSw); first | (go_simp; done) | (go_simp; with_reducible rfl))
  try simp only [Act.put, List.getElem_toArray, List.getElem_cons_succ, List.getElem_cons_zero, List.setIfInBounds_toArray, List.set_cons_zero, List.set_cons_succ]
  refine wpAnyH_take (i := 3) (v := ?_) rfl (by kernel_rfl) (by kernel_rfl) (by kernel_rfl) (fun _ _ _ h => h) (Or.inl ⟨by rfl, ?_⟩) (by assumption) ?_
  rotate_left 1
  · (intro w hSw; (try dsimp only at hSw); first | (go_simp; done) | (go_simp; with_reducible rfl))
  try simp only [Act.put, List.getElem_toArray, List.getElem_cons_succ, List.getElem_cons_zero, List.setIfInBounds_toArray, List.set_cons_zero, List.set_cons_succ]
  refine wpAnyH_take (i := 4) (v := ?_) rfl (by kernel_rfl) (by kernel_rfl) (by kernel_rfl) (fun _ _ _ h => h) (Or.inl ⟨by rfl, ?_⟩) (by assumption) ?_
  rotate_left 1
  · (intro w hSw; (try dsimp only at hSw); first | (go_simp; done) | (go_simp; with_reducible rfl))
  try simp only [Act.put, List.getElem_toArray, List.getElem_cons_succ, List.getElem_cons_zero, List.setIfInBounds_toArray, List.set_cons_zero, List.set_cons_succ]
  refine wpAnyH_take (i := 5) (v := ?_) rfl (by kernel_rfl) (by kernel_rfl) (by kernel_rfl) (fun _ _ _ h => h) (Or.inl ⟨by rfl, ?_⟩) (by assumption) ?_
  rotate_left 1
  · (intro w hSw; (try dsimp only at hSw); first | (go_simp; done) | (go_simp; with_reducible rfl))
  try simp only [Act.put, List.getElem_toArray, List.getElem_cons_succ, List.getElem_cons_zero, List.setIfInBounds_toArray, List.set_cons_zero, List.set_cons_succ]
  refine wpAnyH_take (i := 7) (v := ?_) rfl (by kernel_rfl) (by kernel_rfl) (by kernel_rfl) (fun _ _ _ h => h) (Or.inl ⟨by rfl, ?_⟩) (by assumption) ?_
  rotate_left 1
  · (intro w hSw; (try dsimp only at hSw); first | (go_simp; done) | (go_simp; with_reducible rfl))
  try simp only [Act.put, List.getElem_toArray, List.getElem_cons_succ, List.getElem_cons_zero, List.setIfInBounds_toArray, List.set_cons_zero, List.set_cons_succ]
  refine wpAnyH_take (i := 8) (v := ?_) rfl (by kernel_rfl) (by kernel_rfl) (by kernel_rfl) (fun _ _ _ h => h) (Or.inl ⟨by rfl, ?_⟩) (by assumption) ?_
  rotate_left 1
  · (intro w hSw; (try dsimp only at hSw); first | (go_simp; done) | (go_simp; with_reducible rfl))
  try simp only [Act.put, List.getElem_toArray, List.getElem_cons_succ, List.getElem_cons_zero, List.setIfInBounds_toArray, List.set_cons_zero, List.set_cons_succ]
  refine wpAnyH_take (i := 10) (v := ?_) rfl (by kernel_rfl) (by kernel_rfl) (by kernel_rfl) (fun _ _ _ h => h) (Or.inl ⟨by rfl, ?_⟩) (by assumption) ?_
  rotate_left 1
  · (intro w hSw; (try dsimp only at hSw); first | (go_simp; done) | (go_simp; with_reducible rfl))
  try simp only [Act.put, List.getElem_toArray, List.getElem_cons_succ, List.getElem_cons_zero, List.setIfInBounds_toArray, List.set_cons_zero, List.set_cons_succ]
  refine wpAnyH_take (i := 11) (v := ?_) rfl (by kernel_rfl) (by kernel_rfl) (by kernel_rfl) (fun _ _ _ h => h) (Or.inl ⟨by rfl, ?_⟩) (by assumption) ?_
  rotate_left 1
  · (intro w hSw; (try dsimp only at hSw); first | (go_simp; done) | (go_simp; with_reducible rfl))
  try simp only [Act.put, List.getElem_toArray, List.getElem_cons_succ, List.getElem_cons_zero, List.setIfInBounds_toArray, List.set_cons_zero, List.set_cons_succ]
  refine wpAnyH_ready (rs := [2]) (by kernel_rfl) (by simp) ?_
  refine AllReadyH.cons rfl (fun K hK => ?_) AllReadyH.nil
  go_simp
  refine (cloneRule_any (.slice a1 rs.length c1) rs.length (flatR rs) _ (by exact H1.out.below hB0.out)).mono ?_
  rintro e w1 ⟨v', rfl, ho1, hb⟩
  obtain ⟨b1, d1, rfl⟩ := ho1.out.rd.sl
  have hk1 := Lib.hid (block_below hk0.out hb)
  have hr1 := Lib.hid (block_below hr0.out hb)
  have hB1 := Lib.hid (bel_trans hB0.out hb)
  have hX1 := Lib.hid (bel_trans hX0.out hb)
  have hY1 := Lib.hid hb
  clear hb hHeld
  go_wp2_with fail
  refine hK.out _ _ (by exact row4 hk1.out) (fun hHeld => ?_)
  clear hK K
  try simp only [Act.put, List.getElem_toArray, List.getElem_cons_succ, List.getElem_cons_zero, List.setIfInBounds_toArray, List.set_cons_zero, List.set_cons_succ]
  refine wpAnyH_ready (rs := [6]) (by kernel_rfl) (by simp) ?_
  refine AllReadyH.cons rfl (fun K hK => ?_) AllReadyH.nil
  go_simp
  refine (changedZ_any (.slice a2 zs.length c2) zs 32 #[.pointer (some ⟨W.heap.size + 1 + 1 + 1 + 1, 0, none⟩)] (fun es => es.map fun r => r.sh s x) _ (by exact H2.out.below hB1.out) cf_era2 (HZC.out _ hX1.out)).mono ?_
  rintro e w2 ⟨v', rfl, ho2, hb⟩
  obtain ⟨b2, d2, hv2⟩ := ho2.out.rd.sl
  have hv2' : v' = .slice b2 (shZ s x zs).length d2 := hv2
  clear hv2
  subst hv2'
  have hk2 := Lib.hid (block_below hk1.out hb)
  have hr2 := Lib.hid (block_below hr1.out hb)
  have hB2 := Lib.hid (bel_trans hB1.out hb)
  have hX2 := Lib.hid (bel_trans hX1.out hb)
  have hY2 := Lib.hid hb
  clear hb hHeld
  go_wp2_with fail
  refine hK.out _ _ (by exact row4 hk2.out) (fun hHeld => ?_)
  clear hK K
  try simp only [Act.put, List.getElem_toArray, List.getElem_cons_succ, List.getElem_cons_zero, List.setIfInBounds_toArray, List.set_cons_zero, List.set_cons_succ]
  refine wpAnyH_ready (rs := [9]) (by kernel_rfl) (by simp) ?_
  refine AllReadyH.cons rfl (fun K hK => ?_) AllReadyH.nil
  go_simp
  refine (cloneLink_any (.slice a3 n3 c3) n3 x3 _ (by exact H3.out.below hB2.out)).mono ?_
  rintro e w3 ⟨v', rfl, ho3, hb⟩
  obtain ⟨b3, d3, rfl⟩ := ho3.out.rd.sl
  have hk3 := Lib.hid (block_below hk2.out hb)
  have hr3 := Lib.hid (block_below hr2.out hb)
  have hB3 := Lib.hid (bel_trans hB2.out hb)
  have hX3 := Lib.hid (bel_trans hX2.out hb)
  have hY3 := Lib.hid hb
  clear hb hHeld
  go_wp2_with fail
  refine hK.out _ _ (by exact row4 hk3.out) (fun hHeld => ?_)
  clear hK K
  try simp only [Act.put, List.getElem_toArray, List.getElem_cons_succ, List.getElem_cons_zero, List.setIfInBounds_toArray, List.set_cons_zero, List.set_cons_succ]
  refine wpAnyH_ready (rs := [12]) (by kernel_rfl) (by simp) ?_
  refine AllReadyH.cons rfl (fun K hK => ?_) AllReadyH.nil
  go_simp
  refine (cloneStr_any (.slice a4 n4 c4) n4 x4 _ (by exact H4.out.below hB3.out)).mono ?_
  rintro e w4 ⟨v', rfl, ho4, hb⟩
  obtain ⟨b4, d4, rfl⟩ := ho4.out.rd.sl
  have hk4 := Lib.hid (block_below hk3.out hb)
  have hr4 := Lib.hid (block_below hr3.out hb)
  have hB4 := Lib.hid (bel_trans hB3.out hb)
  have hX4 := Lib.hid (bel_trans hX3.out hb)
  have hY4 := Lib.hid hb
  clear hb hHeld
  go_wp2_with fail
  refine hK.out _ _ (by exact row4 hk4.out) (fun hHeld => ?_)
  clear hK K
  try simp only [Act.put, List.getElem_toArray, List.getElem_cons_succ, List.getElem_cons_zero, List.setIfInBounds_toArray, List.set_cons_zero, List.set_cons_succ]
  refine wpAnyH_take (i := 13) (v := ?_) rfl (by kernel_rfl) (by kernel_rfl) (by kernel_rfl) (fun _ _ _ h => h) (Or.inl ⟨by rfl, ?_⟩) (by assumption) ?_
  rotate_left 1
  · (intro w hSw; (try dsimp only at hSw); first | (go_simp; done) | (go_simp; with_reducible rfl))
  try simp only [Act.put, List.getElem_toArray, List.getElem_cons_succ, List.getElem_cons_zero, List.setIfInBounds_toArray, List.set_cons_zero, List.set_cons_succ]
  refine wpAnyH_ready (rs := [14]) (by kernel_rfl) (by simp) ?_
  refine AllReadyH.cons rfl (fun K hK => ?_) AllReadyH.nil
  rw [if_pos (by rfl)]
  refine wp_store_mid _ _ _ rfl (W.heap.size + 1 + 1 + 1) 0 #[.slice b1 rs.length d1, .slice b2 (shZ s x zs).length d2, .slice b3 n3 d3, .slice b4 n4 d4] rfl rfl (there4 hr4.out) (by kernel_rfl) (by simp [Value.oneCell']) ?_
  refine hK.out _ _ (by exact row4 (block_setCells (b := W.heap.size) (c := W.heap.size + 1 + 1 + 1) (o := 0) (l := [.slice b1 rs.length d1, .slice b2 (shZ s x zs).length d2, .slice b3 n3 d3, .slice b4 n4 d4]) hk4.out (by omega))) (fun hHeld => ?_)
  clear hK K
  try simp only [Act.put, List.getElem_toArray, List.getElem_cons_succ, List.getElem_cons_zero, List.setIfInBounds_toArray, List.set_cons_zero, List.set_cons_succ]
  refine wpAnyH_done (by kernel_rfl) ?_ _
  refine NoPanic.normal ?_
  go_wp2_with fail
  refine bodyPost_ret (results_cell_row rfl _ _ _ _ _ _ _ rfl (set4 hr4.out) Try.underlying27 rfl (by kernel_rfl)) rfl ?_
  have hsz := (bk2 hr0.out)
  refine ⟨_, _, _, _, rfl, Lib.hid ⟨?_, ?_, ?_, ?_⟩, bel_setCells (o := 0) (l := [.slice b1 rs.length d1, .slice b2 (shZ s x zs).length d2, .slice b3 n3 d3, .slice b4 n4 d4]) hB4.out (by omega)⟩
  · exact ((((ho1.out.below hY2.out).below hY3.out).below hY4.out).fall (Nat.lt_of_lt_of_le hsz (Nat.le_refl _))).mono hB0.out.size
  · exact (((ho2.out.below hY3.out).below hY4.out).fall (Nat.lt_of_lt_of_le hsz hX1.out.size)).mono hB1.out.size
  · exact ((ho3.out.below hY4.out).fall (Nat.lt_of_lt_of_le hsz hX2.out.size)).mono hB2.out.size
  · exact (ho4.out.fall (Nat.lt_of_lt_of_le hsz hX3.out.size)).mono hB3.out.size
end Go.Proofs.Ytdlmlcgmonkdfaa
