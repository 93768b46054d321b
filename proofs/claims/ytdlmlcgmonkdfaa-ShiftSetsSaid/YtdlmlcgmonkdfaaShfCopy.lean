/-
  The reference's Copy.
-/
import Derived.Test.YtdlmlcgmonkdfaaShfWk2
import Derived.Deep.AppendLies
namespace Go.Proofs.Ytdlmlcgmonkdfaa
open Go.RowKit Sh
set_option linter.unusedVariables false
set_option linter.unusedSimpArgs false

namespace Sh
theorem run_append_rd {P : Program} {w : World} (t ty : TypeId) (e : TypeId) (i : TypeInfo) (z : Value) (size bytes : Nat) (ht : P.underlying t = some (.slice e)) (hi : P.info? e = some i) (hz : i.zero = some z)
    (hsize : i.size = size) (hby : i.bytes = bytes) (hzs : z.cells.size = size) (hsz : 0 < size) (v : Value) (n : Nat) (xs : _root_.List Value) (h : Rd size v n xs w) (hb : bytes ≤ 1000) :
    ∃ v' w', (Builtin.append_ #[t, t] ty #[.slice none 0 0, v]).run P w = .ok v' w' ∧ Own w.heap.size e size v' n xs w' ∧ Below w.heap.size w w' := by
  obtain ⟨hl, hn, h1, ⟨A, rfl, rfl⟩ | ⟨g, off, cap, rfl, hc⟩⟩ := h
  · have hx : xs = [] := by simpa using hl
    subst hx
    cases A with
    | none =>
      exact ⟨_, _, run_append_owned_none (P := P) (w := w) w.heap.size t ty e i size ht hi _ 0 [] (World.ownsRow_nil _ _ _ _), ⟨World.ownsRow_nil _ _ _ _, hn, h1⟩, Below.refl _ _⟩
    | some ad =>
      obtain ⟨v', w', hr, h2, h3, _⟩ := run_append_own (P := P) w w.heap.size t ty e i z size bytes ht hi hz hsize hby hzs hsz (.slice none 0 0) 0 [] (World.ownsRow_nil _ _ _ _) ad 0 0 [] (by simp) (fun j u hu => by simp at hu) (fun u hu => by simp at hu) (by unfold maxLen; omega) (by omega) (Nat.le_refl _)
      exact ⟨_, _, hr, ⟨by simpa using h2, hn, h1⟩, Below.grown (Below.refl _ _) h3 (Nat.le_refl _) (fun k hk => by simp [Value.ownBlock] at hk)⟩
  · obtain ⟨v', w', hr, h2, h3, _⟩ := run_append_own (P := P) w w.heap.size t ty e i z size bytes ht hi hz hsize hby hzs hsz (.slice none 0 0) 0 [] (World.ownsRow_nil _ _ _ _) ⟨g, off, none⟩ n cap xs hl (fun j u hu => by rw [Addr.add_mid]; exact hc j u hu) h1 (by unfold maxLen; omega) (by rw [Nat.zero_add]; exact Nat.le_trans (Nat.mul_le_mul hn hb) (by decide)) (Nat.le_refl _)
    exact ⟨_, _, hr, ⟨by simpa using h2, hn, h1⟩, Below.grown (Below.refl _ _) h3 (Nat.le_refl _) (fun k hk => by simp [Value.ownBlock] at hk)⟩
theorem wp_append_rd {P : Program} {w : World} {o : Oper} {a : Act} {K : Act → World → Prop} {Q : Exit → Act → World → Prop} (s x : Operand) (t : TypeId)
    (ho : o.op = .call { callee := .builtin .append, args := #[s, x], argTypes := #[t, t] })
    (e : TypeId) (i : TypeInfo) (z : Value) (size bytes : Nat) (ht : P.underlying t = some (.slice e)) (hi : P.info? e = some i) (hz : i.zero = some z)
    (hsize : i.size = size) (hby : i.bytes = bytes) (hzs : z.cells.size = size) (hsz : 0 < size) (v : Value) (n : Nat) (xs : _root_.List Value) (hs : a.eval s = .slice none 0 0) (hx : a.eval x = v) (h : Rd size v n xs w) (hb : bytes ≤ 1000)
    (hk : ∀ v' w', Own w.heap.size e size v' n xs w' → Below w.heap.size w w' → K (a.put o.dst v') w') : o.wp P a w K Q := by
  obtain ⟨v', w', hr, h2, h3⟩ := run_append_rd (P := P) (w := w) t o.type e i z size bytes ht hi hz hsize hby hzs hsz v n xs h hb
  unfold Oper.wp execOp
  simp only [ho, resolve, invoke, builtin, Sem.run_bind, Sem.run_pure, Result.andThen_ok, List.map_toArray, List.map_cons, List.map_nil, hs, hx, hr]
  exact hk v' w' h2 h3
theorem wpList_append_rd {P : Program} {w : World} {ops : Array Oper} {rest : List Oper} {o : Oper} {a : Act} {Q : Exit → Act → World → Prop} (hgd : o.guard = none) (s x : Operand) (t : TypeId)
    (ho : o.op = .call { callee := .builtin .append, args := #[s, x], argTypes := #[t, t] })
    (e : TypeId) (i : TypeInfo) (z : Value) (size bytes : Nat) (ht : P.underlying t = some (.slice e)) (hi : P.info? e = some i) (hz : i.zero = some z)
    (hsize : i.size = size) (hby : i.bytes = bytes) (hzs : z.cells.size = size) (hsz : 0 < size) (v : Value) (n : Nat) (xs : _root_.List Value) (hs : a.eval s = .slice none 0 0) (hx : a.eval x = v) (h : Rd size v n xs w) (hb : bytes ≤ 1000)
    (hk : ∀ v' w', Own w.heap.size e size v' n xs w' → Below w.heap.size w w' → wpList P ops Q rest (a.put o.dst v') w') : wpList P ops Q (o :: rest) a w :=
  wpList_plain hgd fun _ hK => wp_append_rd s x t ho e i z size bytes ht hi hz hsize hby hzs hsz v n xs hs hx h hb fun v' w' h2 h3 => hK _ _ (hk v' w' h2 h3)
theorem step_append_rd {P : Program} {w : World} {ops : Array Oper} {o : Oper} {a : Act} {K : Act → World → Prop} {Q : Exit → Act → World → Prop} {E : Prop} (hgd : o.guard = none) (s x : Operand) (t : TypeId)
    (ho : o.op = .call { callee := .builtin .append, args := #[s, x], argTypes := #[t, t] })
    (e : TypeId) (i : TypeInfo) (z : Value) (size bytes : Nat) (ht : P.underlying t = some (.slice e)) (hi : P.info? e = some i) (hz : i.zero = some z)
    (hsize : i.size = size) (hby : i.bytes = bytes) (hzs : z.cells.size = size) (hsz : 0 < size) (v : Value) (n : Nat) (xs : _root_.List Value) (hs : a.eval s = .slice none 0 0) (hx : a.eval x = v) (h : Rd size v n xs w) (hb : bytes ≤ 1000)
    (hk : ∀ v' w', Own w.heap.size e size v' n xs w' → Below w.heap.size w w' → K (a.put o.dst v') w') :
    if Region.wanted o (yielded ops a.tmps) = true then Oper.wp P o a w K Q else E := by
  have hw : Region.wanted o (yielded ops a.tmps) = true := by simp [Region.wanted, hgd]
  rw [if_pos hw]
  exact wp_append_rd s x t ho e i z size bytes ht hi hz hsize hby hzs hsz v n xs hs hx h hb hk
theorem Own.grown {base base2 size size2 n n2 : Nat} {t t2 : TypeId} {v v2 : Value} {xs xs2 : _root_.List Value} {w w' : World} (h : Own base t size v n xs w) (h2 : w.ownsRow base2 t2 size2 v2 n2 xs2) (hg : w.grownBy w' v2.ownBlock) (ht : t ≠ t2) : Own base t size v n xs w' := by
  obtain ⟨⟨hl, h0 | ⟨g, cap, cu, h1, hb, h3, h4⟩⟩, hn, ho⟩ := h
  · exact ⟨⟨hl, .inl h0⟩, hn, ho⟩
  · refine ⟨⟨hl, .inr ⟨g, cap, cu, h1, hb, ?_, h4⟩⟩, hn, ho⟩
    rw [hg.block g (Array.getElem?_eq_some_iff.1 h3).1]
    · exact h3
    · intro e
      obtain ⟨_, ⟨rfl, _⟩ | ⟨g', cap', cur', rfl, _, h5, _⟩⟩ := h2
      · cases e
      · simp [Value.ownBlock] at e
        subst e
        rw [h3] at h5
        simp at h5
        exact ht h5.2
theorem blk_grown {base2 size2 n2 b : Nat} {t2 : TypeId} {v2 : Value} {xs2 : _root_.List Value} {w w' : World} {o : Obj} (h : w.heap[b]? = some o) (h2 : w.ownsRow base2 t2 size2 v2 n2 xs2) (hg : w.grownBy w' v2.ownBlock) (hb : b < base2) : w'.heap[b]? = some o := by
  rw [hg.block b (Array.getElem?_eq_some_iff.1 h).1]
  · exact h
  · intro e
    have := (h2.lt b e.symm).1
    omega
theorem flatZ_snoc (ps : _root_.List (ByteArray × Value)) (p : ByteArray × Value) : flatZ (ps ++ [p]) = flatZ ps ++ [.string p.1, p.2] := by
  unfold flatZ
  rw [_root_.List.flatMap_append]
  rfl
/-- zones of the call's own, with one more behind them -/
theorem OwnZ.snoc {base : Nat} {v v' u : Value} {zs : _root_.List Zn} {z : Zn} {ps : _root_.List (ByteArray × Value)} {w w' : World} (hpl : ps.length = zs.length) (ho : Own base 48 2 v zs.length (flatZ ps) w)
    (hp : ∀ (i : Nat) (z : Zn), zs[i]? = some z → ∃ p, ps[i]? = some p ∧ p.1 = z.na ∧ Own base 52 13 p.2 z.es.length (flatE z.es) w) (hu : Own base 52 13 u z.es.length (flatE z.es) w)
    (hd : Dst zs.length ps) (hfr : ∀ (k c : Nat) (q : ByteArray × Value), k < zs.length → ps[k]? = some q → q.2.ownBlock = some c → u.ownBlock ≠ some c)
    (hn : zs.length + 1 ≤ 1000) (h1 : u.oneCell' = true) (hown : w'.ownsRow base 48 2 v' (zs.length + 1) (flatZ ps ++ [.string z.na, u])) (hg : w.grownBy w' v.ownBlock) : OwnZ base v' (zs ++ [z]) w' := by
  refine ⟨ps ++ [(z.na, u)], by simp [hpl], ⟨?_, by simpa using hn, ?_⟩, fun i y hy => ?_, ?_⟩
  · rw [flatZ_snoc, _root_.List.length_append]; exact hown
  · rw [flatZ_snoc]
    intro x hx
    rcases _root_.List.mem_append.1 hx with h | h
    · exact ho.2.2 x h
    · simp at h
      rcases h with rfl | rfl
      · rfl
      · exact h1
  · by_cases hi : i < zs.length
    · rw [_root_.List.getElem?_append_left hi] at hy
      obtain ⟨p, h1, h2, h3⟩ := hp i y hy
      exact ⟨p, by rw [_root_.List.getElem?_append_left (by omega)]; exact h1, h2, h3.grown ho.1 hg (by decide)⟩
    · rw [_root_.List.getElem?_append_right (by omega)] at hy
      have hj := (_root_.List.getElem?_eq_some_iff.1 hy).1
      simp at hj
      have hi0 : i = zs.length := by omega
      subst hi0
      simp at hy
      subst hy
      exact ⟨(z.na, u), by rw [_root_.List.getElem?_append_right (by omega)]; simp [hpl], rfl, hu.grown ho.1 hg (by decide)⟩
  · intro j k p q c hj hk hjk hp' hq' hc
    rw [_root_.List.length_append] at hj hk
    simp at hj hk
    by_cases hj2 : j < zs.length
    · rw [_root_.List.getElem?_append_left (by omega)] at hp'
      by_cases hk2 : k < zs.length
      · rw [_root_.List.getElem?_append_left (by omega)] at hq'
        exact hd j k p q c hj2 hk2 hjk hp' hq' hc
      · rw [_root_.List.getElem?_append_right (by omega), show k - ps.length = 0 by omega] at hq'
        simp at hq'
        subst hq'
        exact hfr j c p hj2 hp' hc
    · rw [_root_.List.getElem?_append_right (by omega), show j - ps.length = 0 by omega] at hp'
      simp at hp'
      subst hp'
      rw [_root_.List.getElem?_append_left (by omega)] at hq'
      intro hqc
      exact hfr k c q (by omega) hq' hqc hc
theorem setc {V : World} {b o : Nat} {t : TypeId} {cs : Array Value} {v : Value} (h : V.heap[b]? = some (.cells cs t)) : (V.setCell ⟨b, o, none⟩ v).heap[b]? = some (.cells (cs.setIfInBounds o v) t) := by
  simp [World.setCell, Array.getElem?_modify, h]
theorem frzB {V : World} {b : Nat} {t : TypeId} {cs : Array Value} (h : V.heap[b]? = some (.cells cs t)) (i : Nat) : V.frozen? ⟨b, i, none⟩ = false := by
  unfold World.frozen?
  rw [h]
  simp
theorem blk_setCell {V : World} {b c o : Nat} {ob : Obj} {v : Value} (h : V.heap[b]? = some ob) (hne : b ≠ c) : (V.setCell ⟨c, o, none⟩ v).heap[b]? = some ob := block_setCells (o := o) (l := [v]) h hne
theorem Own.fall1 {base size n b o : Nat} {t : TypeId} {v u : Value} {xs : _root_.List Value} {w : World} (h : Own base t size v n xs w) (hne : b < base) : Own base t size v n xs (w.setCell ⟨b, o, none⟩ u) := h.fall (o := o) (l := [u]) hne
theorem OwnZ.fall1 {base b o : Nat} {v u : Value} {zs : _root_.List Zn} {w : World} (h : OwnZ base v zs w) (hne : b < base) : OwnZ base v zs (w.setCell ⟨b, o, none⟩ u) := h.fall (o := o) (l := [u]) hne
theorem bel_setCell {A V : World} {B b o : Nat} {v : Value} (h : Below B A V) (hb : B ≤ b) : Below B A (V.setCell ⟨b, o, none⟩ v) := bel_setCells (o := o) (l := [v]) h hb
theorem OwnZ.sl {base : Nat} {v : Value} {zs : _root_.List Zn} {w : World} (h : OwnZ base v zs w) : ∃ (a : Option Addr) (c : Nat), v = .slice a zs.length c := h.rd.sl
end Sh

set_option maxRecDepth 100000 in
set_option maxHeartbeats 8000000 in
theorem copy_any (v1 v2 v3 v4 : Value) (s : Sou) (W : World) (h : RdS v1 v2 v3 v4 s W) : Calls Try.prog 11 #[.agg #[v1, v2, v3, v4]] W fun e w' => ∃ u1 u2 u3 u4, e = .returned (.agg #[u1, u2, u3, u4]) ∧ Hid (OwnS W.heap.size u1 u2 u3 u4 s w') ∧ Below W.heap.size W w' := by
  obtain ⟨A1, c1, A2, c2, A3, c3, A4, c4, rfl, rfl, rfl, rfl⟩ := h.sl
  have H := Lib.hid h
  have hl2 : s.zs.length ≤ 1000 := by obtain ⟨ps, _, h, _⟩ := h.2.1; exact h.2.1
  clear h
  obtain ⟨ir, zr, hir, hzr, hsr, hbr, hkr⟩ := parts infoRule
  obtain ⟨ie, ze, hie, hze, hse, hbe, hke⟩ := parts infoEra
  obtain ⟨iz, zz, hiz, hzz, hsz, hbz, hkz⟩ := parts infoZone
  obtain ⟨il, zl, hil, hzl, hsl, hbl, hkl⟩ := parts infoLink
  obtain ⟨i_n, zn, hin, hzn, hsn, hbn, hkn⟩ := parts infoStr
  have hs1 : ∀ (V : World) (o : Obj), (V.alloc o).heap.size = V.heap.size + 1 := fun V o => by show (V.heap.push o).size = _; simp
  have KS : Hid ((((W.alloc (.cells #[.slice A1 s.rs.length c1, .slice A2 s.zs.length c2, .slice A3 s.ls.length c3, .slice A4 s.ns.length c4] 27)).alloc (.cells #[.slice none 0 0, .slice none 0 0, .slice none 0 0, .slice none 0 0] 27)).alloc (.cells #[.slice none 0 0, .slice none 0 0, .slice none 0 0, .slice none 0 0] 27)).heap[W.heap.size]? = some (.cells #[.slice A1 s.rs.length c1, .slice A2 s.zs.length c2, .slice A3 s.ls.length c3, .slice A4 s.ns.length c4] 27)) := Lib.hid (block_below (heap_alloc_new W _) (bel_trans (bel_alloc _ _) (bel_alloc _ _)))
  have KR : Hid ((((W.alloc (.cells #[.slice A1 s.rs.length c1, .slice A2 s.zs.length c2, .slice A3 s.ls.length c3, .slice A4 s.ns.length c4] 27)).alloc (.cells #[.slice none 0 0, .slice none 0 0, .slice none 0 0, .slice none 0 0] 27)).alloc (.cells #[.slice none 0 0, .slice none 0 0, .slice none 0 0, .slice none 0 0] 27)).heap[W.heap.size + 1]? = some (.cells #[.slice none 0 0, .slice none 0 0, .slice none 0 0, .slice none 0 0] 27)) := Lib.hid (block_below (heap_alloc2_new W (.cells #[.slice A1 s.rs.length c1, .slice A2 s.zs.length c2, .slice A3 s.ls.length c3, .slice A4 s.ns.length c4] 27) (.cells #[.slice none 0 0, .slice none 0 0, .slice none 0 0, .slice none 0 0] 27)) (bel_alloc _ _))
  have KT : Hid ((((W.alloc (.cells #[.slice A1 s.rs.length c1, .slice A2 s.zs.length c2, .slice A3 s.ls.length c3, .slice A4 s.ns.length c4] 27)).alloc (.cells #[.slice none 0 0, .slice none 0 0, .slice none 0 0, .slice none 0 0] 27)).alloc (.cells #[.slice none 0 0, .slice none 0 0, .slice none 0 0, .slice none 0 0] 27)).heap[W.heap.size + 1 + 1]? = some (.cells #[.slice none 0 0, .slice none 0 0, .slice none 0 0, .slice none 0 0] 27)) := by
    have h := heap_alloc_new ((W.alloc (.cells #[.slice A1 s.rs.length c1, .slice A2 s.zs.length c2, .slice A3 s.ls.length c3, .slice A4 s.ns.length c4] 27)).alloc (.cells #[.slice none 0 0, .slice none 0 0, .slice none 0 0, .slice none 0 0] 27)) (.cells #[.slice none 0 0, .slice none 0 0, .slice none 0 0, .slice none 0 0] 27)
    rw [hs1, hs1] at h; exact h
  have HB : Hid (Below W.heap.size W (((W.alloc (.cells #[.slice A1 s.rs.length c1, .slice A2 s.zs.length c2, .slice A3 s.ls.length c3, .slice A4 s.ns.length c4] 27)).alloc (.cells #[.slice none 0 0, .slice none 0 0, .slice none 0 0, .slice none 0 0] 27)).alloc (.cells #[.slice none 0 0, .slice none 0 0, .slice none 0 0, .slice none 0 0] 27))) := bel_trans (bel_trans (bel_alloc _ _) (bel_alloc _ _)) (bel_alloc _ _)
  have hS3 : (((W.alloc (.cells #[.slice A1 s.rs.length c1, .slice A2 s.zs.length c2, .slice A3 s.ls.length c3, .slice A4 s.ns.length c4] 27)).alloc (.cells #[.slice none 0 0, .slice none 0 0, .slice none 0 0, .slice none 0 0] 27)).alloc (.cells #[.slice none 0 0, .slice none 0 0, .slice none 0 0, .slice none 0 0] 27)).heap.size = W.heap.size + 1 + 1 + 1 := by rw [hs1, hs1, hs1]
  go_enter Try.func11, Try.ntmps11
  clear hs1
  go_wp2_with (at_builtin; refine wpList_append_rd rfl (.tmp 7) (.tmp 9) 22 rfl 44 ir zr 11 104 Try.underlying22 hir hzr hsr hbr hkr (by decide) (.slice A1 s.rs.length c1) s.rs.length (flatR s.rs) rfl rfl (H.out.1.below HB.out) (by decide) ?_; intro u1 w1 ho1 hb1; obtain ⟨b1, d1, rfl⟩ := ho1.rd.sl; have KT1 := block_below KT.out hb1; have x0 := cellB KT1 (i := 0) rfl; have f0 := frzB KT1 0)
  have HT := Lib.hid (setc (o := 0) (v := .slice b1 s.rs.length d1) KT1)
  have HSr := Lib.hid (blk_setCell (c := W.heap.size + 1 + 1) (o := 0) (v := .slice b1 s.rs.length d1) (block_below KS.out hb1) (by omega))
  have HRr := Lib.hid (blk_setCell (c := W.heap.size + 1 + 1) (o := 0) (v := .slice b1 s.rs.length d1) (block_below KR.out hb1) (by omega))
  rw [hS3] at ho1
  have HO := Lib.hid (ho1.fall1 (b := W.heap.size + 1 + 1) (o := 0) (u := .slice b1 s.rs.length d1) (by omega))
  have HBr := Lib.hid (bel_setCell (b := W.heap.size + 1 + 1) (o := 0) (v := .slice b1 s.rs.length d1) (bel_trans HB.out hb1) (by omega))
  clear KS KR KT HB hb1 ho1 x0 f0 KT1
  go_loopw [4] (fun s4 wr => ∃ (i : Nat) (vz : Value) (wq : World), i ≤ s.zs.length ∧ s4 = .int .i64 (i : Int) ∧ wr = wq ∧ Hid (wq.heap[W.heap.size + 1 + 1]? = some (.cells #[.slice b1 s.rs.length d1, vz, .slice none 0 0, .slice none 0 0] 27)) ∧ Hid (wq.heap[W.heap.size]? = some (.cells #[.slice A1 s.rs.length c1, .slice A2 s.zs.length c2, .slice A3 s.ls.length c3, .slice A4 s.ns.length c4] 27)) ∧ Hid (wq.heap[W.heap.size + 1]? = some (.cells #[.slice none 0 0, .slice none 0 0, .slice none 0 0, .slice none 0 0] 27)) ∧ Hid (Own (W.heap.size + 1 + 1 + 1) 44 11 (.slice b1 s.rs.length d1) s.rs.length (flatR s.rs) wq) ∧ Hid (OwnZ (W.heap.size + 1 + 1 + 1) vz (s.zs.take i) wq) ∧ Hid (Below W.heap.size W wq)) (fun s4 _ => s.zs.length - (intOf s4).toNat)
  case atStart => exact ⟨0, .slice none 0 0, _, by omega, rfl, rfl, HT, HSr, HRr, HO, Lib.hid ⟨[], by simp, ⟨World.ownsRow_nil _ _ _ _, by simp, fun u hu => by simp [flatZ] at hu⟩, fun i z hz => (by simp at hz), fun j k p q b hj => (by simp at hj)⟩, HBr⟩
  case round =>
    clear HT HSr HRr HO HBr
    obtain ⟨i, vz, wq, hile, rfl, rfl, HT, HS, HR, HO, HZ, HB⟩ := hrel
    have hx1 := cellB HS.out (i := 1) rfl
    by_cases hlt : i < s.zs.length
    · obtain ⟨z, hz⟩ : ∃ z, s.zs[i]? = some z := ⟨_, _root_.List.getElem?_eq_getElem hlt⟩
      obtain ⟨g, o, cap, a, p, q1, m1, n1, E1⟩ := (H.out.2.1.below HB.out).at_ hz
      simp only [Value.slice.injEq] at q1
      obtain ⟨rfl, _, rfl⟩ := q1
      have HE := Lib.hid E1
      have HZI := Lib.hid hz
      have hi0 : (0 : Int) ≤ (i : Int) := by omega
      have hi1 : (i : Int) < (s.zs.length : Int) := by omega
      clear hz E1
      have hA := bel_alloc wr (.cells #[.string z.na, .slice none 0 0] 48)
      have KZ0 := Lib.hid (heap_alloc_new wr (.cells #[.string z.na, .slice none 0 0] 48))
      have hS4 : (wr.alloc (.cells #[.string z.na, .slice none 0 0] 48)).heap.size = wr.heap.size + 1 := by show (wr.heap.push _).size = _; simp
      go_wp2_with fail
      have hbd : Below (wr.alloc (.cells #[.string z.na, .slice none 0 0] 48)).heap.size (wr.alloc (.cells #[.string z.na, .slice none 0 0] 48)) (wr.alloc (.cells #[.string z.na, .slice none 0 0] 48)).drew := Below.drew (Below.refl _ _)
      have hbA := bel_trans hA hbd
      refine wp_region_noPanic ?_
      refine wp_region_held_drew (S := (fun w' => w'.cell? ⟨W.heap.size, 1, none⟩ = some (.slice (some ⟨g, o, none⟩) s.zs.length c2) ∧ w'.cell? ⟨g, o + i * 2 + 1, none⟩ = some (.slice a z.es.length p))) (by kernel_rfl) (by exact ⟨cell_below hA hx1, cell_below hA n1⟩) (fun hHeld => ?_)
      refine wpAnyH_take (i := 0) (v := ?_) rfl (by kernel_rfl) (by kernel_rfl) (by kernel_rfl) (fun _ _ _ h => h) (Or.inl ⟨by rfl, ?_⟩) (by assumption) ?_
      rotate_left 1
      · (intro w hSw; (try dsimp only at hSw); first | (go_simp; done) | (go_simp; with_reducible rfl))
      try simp only [Act.put, List.getElem_toArray, List.getElem_cons_succ, List.getElem_cons_zero, List.setIfInBounds_toArray, List.set_cons_zero, List.set_cons_succ]
      refine wpAnyH_take (i := 2) (v := ?_) rfl (by kernel_rfl) (by kernel_rfl) (by kernel_rfl) (fun _ _ _ h => h) (Or.inl ⟨by rfl, ?_⟩) (by assumption) ?_
      rotate_left 1
      · (intro w hSw; (try dsimp only at hSw); first | (go_simp; done) | (go_simp; with_reducible rfl))
      try simp only [Act.put, List.getElem_toArray, List.getElem_cons_succ, List.getElem_cons_zero, List.setIfInBounds_toArray, List.set_cons_zero, List.set_cons_succ]
      refine wpAnyH_take (i := 3) (v := ?_) rfl (by kernel_rfl) (by kernel_rfl) (by kernel_rfl) (fun _ _ _ h => h) (Or.inl ⟨by rfl, ?_⟩) (by assumption) ?_
      rotate_left 1
      · (intro w hSw; (try dsimp only at hSw); first | (go_simp; done) | (go_simp; with_reducible rfl))
      try simp only [Act.put, List.getElem_toArray, List.getElem_cons_succ, List.getElem_cons_zero, List.setIfInBounds_toArray, List.set_cons_zero, List.set_cons_succ]
      refine wpAnyH_take (i := 4) (v := ?_) rfl (by kernel_rfl) (by kernel_rfl) (by kernel_rfl) (fun _ _ _ h => h) (Or.inl ⟨by rfl, ?_⟩) (by assumption) ?_
      rotate_left 1
      · (intro w hSw; (try dsimp only at hSw); first | (go_simp; done) | (go_simp; with_reducible rfl))
      try simp only [Act.put, List.getElem_toArray, List.getElem_cons_succ, List.getElem_cons_zero, List.setIfInBounds_toArray, List.set_cons_zero, List.set_cons_succ]
      refine wpAnyH_take (i := 5) (v := ?_) rfl (by kernel_rfl) (by kernel_rfl) (by kernel_rfl) (fun _ _ _ h => h) (Or.inl ⟨by rfl, ?_⟩) (by assumption) ?_
      rotate_left 1
      · (intro w hSw; (try dsimp only at hSw); first | (go_simp; done) | (go_simp; with_reducible rfl))
      try simp only [Act.put, List.getElem_toArray, List.getElem_cons_succ, List.getElem_cons_zero, List.setIfInBounds_toArray, List.set_cons_zero, List.set_cons_succ]
      refine wpAnyH_take (i := 6) (v := ?_) rfl (by kernel_rfl) (by kernel_rfl) (by kernel_rfl) (fun _ _ _ h => h) (Or.inl ⟨by rfl, ?_⟩) (by assumption) ?_
      rotate_left 1
      · (intro w hSw; (try dsimp only at hSw); first | (go_simp; done) | (go_simp; with_reducible rfl))
      try simp only [Act.put, List.getElem_toArray, List.getElem_cons_succ, List.getElem_cons_zero, List.setIfInBounds_toArray, List.set_cons_zero, List.set_cons_succ]
      refine wpAnyH_take (i := 7) (v := ?_) rfl (by kernel_rfl) (by kernel_rfl) (by kernel_rfl) (fun _ _ _ h => h) (Or.inl ⟨by rfl, ?_⟩) (by assumption) ?_
      rotate_left 1
      · (intro w hSw; (try dsimp only at hSw); first | (go_simp; done) | (go_simp; with_reducible rfl))
      try simp only [Act.put, List.getElem_toArray, List.getElem_cons_succ, List.getElem_cons_zero, List.setIfInBounds_toArray, List.set_cons_zero, List.set_cons_succ]
      refine wpAnyH_ready (rs := [1]) (by kernel_rfl) (by simp) ?_
      refine AllReadyH.cons rfl (fun K hK => ?_) AllReadyH.nil
      have y1 := cellB (block_below KZ0.out hbd) (i := 1) rfl
      go_simp
      clear hHeld y1
      refine hK.out _ _ (by exact ⟨cell_below hbA hx1, cell_below hbA n1⟩) (fun hHeld => ?_)
      clear hK K
      try simp only [Act.put, List.getElem_toArray, List.getElem_cons_succ, List.getElem_cons_zero, List.setIfInBounds_toArray, List.set_cons_zero, List.set_cons_succ]
      refine wpAnyH_ready (rs := [8]) (by kernel_rfl) (by simp) ?_
      refine AllReadyH.cons rfl (fun K hK => ?_) AllReadyH.nil
      refine step_append_rd (by rfl) (.tmp 27) (.tmp 33) 46 (by rfl) 52 ie ze 13 120 Try.underlying46 hie hze hse hbe hke (by decide) (.slice a z.es.length p) z.es.length (flatE z.es) (by rfl) (by rfl) (HE.out.below hbA) (by decide) ?_
      intro ve w8 hoe hb8
      obtain ⟨be, de, rfl⟩ := hoe.rd.sl
      have hb9 := bel_trans hbA hb8
      refine hK.out _ _ (by exact ⟨cell_below hb9 hx1, cell_below hb9 n1⟩) (fun hHeld => ?_)
      clear hK K
      try simp only [Act.put, List.getElem_toArray, List.getElem_cons_succ, List.getElem_cons_zero, List.setIfInBounds_toArray, List.set_cons_zero, List.set_cons_succ]
      refine wpAnyH_take (i := 9) (v := ?_) rfl (by kernel_rfl) (by kernel_rfl) (by kernel_rfl) (fun _ _ _ h => h) (Or.inl ⟨by rfl, ?_⟩) (by assumption) ?_
      rotate_left 1
      · (intro w hSw; (try dsimp only at hSw); first | (go_simp; done) | (go_simp; with_reducible rfl))
      try simp only [Act.put, List.getElem_toArray, List.getElem_cons_succ, List.getElem_cons_zero, List.setIfInBounds_toArray, List.set_cons_zero, List.set_cons_succ]
      refine wpAnyH_ready (rs := [10]) (by kernel_rfl) (by simp) ?_
      refine AllReadyH.cons rfl (fun K hK => ?_) AllReadyH.nil
      have KZ8 := block_below (block_below KZ0.out hbd) hb8
      have y1 := cellB KZ8 (i := 1) rfl
      have f1 := frzB KZ8 1
      go_simp
      clear hHeld y1 f1
      have hb10 := bel_setCell (b := wr.heap.size) (o := 1) (v := .slice be z.es.length de) hb9 (Nat.le_refl _)
      refine hK.out _ _ (by exact ⟨cell_below hb10 hx1, cell_below hb10 n1⟩) (fun hHeld => ?_)
      clear hK K hHeld
      try simp only [Act.put, List.getElem_toArray, List.getElem_cons_succ, List.getElem_cons_zero, List.setIfInBounds_toArray, List.set_cons_zero, List.set_cons_succ]
      refine wpAnyH_done (by kernel_rfl) ?_ _
      refine NoPanic.normal ?_
      have KZ9 := Lib.hid (setc (o := 1) (v := .slice be z.es.length de) KZ8)
      have hsz8 : wr.heap.size + 1 + 1 + 1 ≤ wr.heap.size + 1 + 1 + 1 := Nat.le_refl _
      have hWr := bk2 HT.out
      have hdr : (wr.alloc (.cells #[.string z.na, .slice none 0 0] 48)).drew.heap.size = wr.heap.size + 1 := hS4
      rw [hdr] at hoe
      have HVE := Lib.hid (hoe.fall1 (b := wr.heap.size) (o := 1) (u := .slice be z.es.length de) (Nat.lt_succ_self _))
      obtain ⟨w9, hw9⟩ : ∃ w9, w9 = w8.setCell ⟨wr.heap.size, 1, none⟩ (.slice be z.es.length de) := ⟨_, rfl⟩
      rw [← hw9] at hb10 KZ9 HVE ⊢
      clear hw9 hb9 hb8 hoe KZ8 hbA hbd hA KZ0 hS4 hdr hsz8 hx1 m1 n1
      replace HT := Lib.hid (block_below HT.out hb10)
      replace HS := Lib.hid (block_below HS.out hb10)
      replace HR := Lib.hid (block_below HR.out hb10)
      replace HO := Lib.hid (HO.out.below hb10)
      obtain ⟨ps, hps0, hplt⟩ := HZ.out.p
      have HZP := Lib.hid (hps0.below hb10)
      have HLT := Lib.hid hplt
      clear hps0 hplt
      replace HB := Lib.hid (bel_trans HB.out hb10)
      have hw9s := hb10.size
      clear hb10
      have hti : (s.zs.take i).length = i := by rw [_root_.List.length_take]; omega
      obtain ⟨az, cz, hvz⟩ := HZP.out.z.sl
      rw [hti] at hvz
      subst hvz
      have t1 := cellB HT.out (i := 1) rfl
      have y0 := cellB KZ9.out (i := 0) rfl
      have y1 := cellB KZ9.out (i := 1) rfl
      have hb9 := bel_alloc w9 (.cells #[.string z.na, .slice be z.es.length de] 48)
      have HN := Lib.hid (heap_alloc_new w9 (.cells #[.string z.na, .slice be z.es.length de] 48))
      obtain ⟨hpl, hown0, hp, hds⟩ := HZP.out.below hb9
      rw [hti] at hpl hown0 hds
      have HDS := Lib.hid hds
      have HOW := Lib.hid hown0
      have HPP := Lib.hid hp
      have HPL := Lib.hid hpl
      have HTA := Lib.hid (block_below HT.out hb9)
      have HSA := Lib.hid (block_below HS.out hb9)
      have HRA := Lib.hid (block_below HR.out hb9)
      have HOA := Lib.hid (HO.out.below hb9)
      have HVA := Lib.hid (HVE.out.below hb9)
      have HBA := Lib.hid (bel_trans HB.out hb9)
      have hb9s := hb9.size
      clear hown0 hp hpl hds hb9 HT HS HR HO HB HVE
      go_wp2_with (at_builtin; refine wpList_append_own _ rfl (.tmp 37) (.tmp 39) 23 rfl (W.heap.size + 1 + 1 + 1) 48 iz zz 2 40 Try.underlying23 hiz hzz hsz hbz hkz (by decide) (.slice az i cz) i (flatZ ps) rfl HOW.out.1 ⟨w9.heap.size, 0, none⟩ 1 1 [.string z.na, .slice be z.es.length de] rfl rfl (World.news_of_block HN.out) (by intro u hu; simp at hu; rcases hu with rfl | rfl <;> rfl) (by unfold maxLen; omega) (by omega) (by omega) ?_; intro v9 w10 hown hgrow hnil; obtain ⟨g9, cap9, rfl, _, _⟩ := hown.form (by omega); have HT10 := Lib.hid (blk_grown HTA.out HOW.out.1 hgrow (by omega)); have x1 := cellB HT10.out (i := 1) rfl; have fx1 := frzB HT10.out 1)
      have HTF := Lib.hid (setc (o := 1) (v := .slice (some ⟨g9, 0, none⟩) (i + 1) cap9) HT10.out)
      have HSF := Lib.hid (blk_setCell (c := W.heap.size + 1 + 1) (o := 1) (v := .slice (some ⟨g9, 0, none⟩) (i + 1) cap9) (blk_grown HSA.out HOW.out.1 hgrow (by omega)) (by omega))
      have HRF := Lib.hid (blk_setCell (c := W.heap.size + 1 + 1) (o := 1) (v := .slice (some ⟨g9, 0, none⟩) (i + 1) cap9) (blk_grown HRA.out HOW.out.1 hgrow (by omega)) (by omega))
      have HOF := Lib.hid ((HOA.out.grown HOW.out.1 hgrow (by decide)).fall1 (b := W.heap.size + 1 + 1) (o := 1) (u := .slice (some ⟨g9, 0, none⟩) (i + 1) cap9) (by omega))
      have hz10 : OwnZ (W.heap.size + 1 + 1 + 1) (.slice (some ⟨g9, 0, none⟩) (i + 1) cap9) (s.zs.take i ++ [z]) w10 := OwnZ.snoc (v := .slice az i cz) (u := .slice be z.es.length de) (ps := ps) (by rw [hti]; exact HPL.out) (by rw [hti]; exact HOW.out) HPP.out (HVA.out.mono (by omega)) (by rw [hti]; exact HDS.out) (fun k c q hk hq hqc huc => (by have h1 := HLT.out k c q hq hqc; have h2 := (HVA.out.1.lt c huc).1; omega)) (by rw [hti]; omega) rfl (by rw [hti]; exact hown) hgrow
      rw [show s.zs.take i ++ [z] = s.zs.take (i + 1) by rw [_root_.List.take_add_one, HZI.out]; rfl] at hz10
      have HZF := Lib.hid (hz10.fall1 (b := W.heap.size + 1 + 1) (o := 1) (u := .slice (some ⟨g9, 0, none⟩) (i + 1) cap9) (by omega))
      have HBF := Lib.hid (bel_setCell (b := W.heap.size + 1 + 1) (o := 1) (v := .slice (some ⟨g9, 0, none⟩) (i + 1) cap9) (Below.grown HBA.out hgrow (by have := HBA.out.size; omega) (fun k hk => by have := (HOW.out.1.lt k hk).1; omega)) (by omega))
      clear HT10 x1 fx1 hz10 HTA HSA HRA HOA HVA HBA HOW HPP HPL HN HZI HE
      go_round
      case rel => exact ⟨i + 1, _, _, by omega, by go_num, rfl, HTF, HSF, HRF, HOF, HZF, HBF⟩
      case measure => simp [intOf]; omega
    · have hie : i = s.zs.length := by omega
      subst hie
      have hx2 : wr.cell? ⟨W.heap.size, 2, none⟩ = some (.slice A3 s.ls.length c3) := cellB HS.out (i := 2) rfl
      have hx3 : wr.cell? ⟨W.heap.size, 3, none⟩ = some (.slice A4 s.ns.length c4) := cellB HS.out (i := 3) rfl
      have ht2 : wr.cell? ⟨W.heap.size + 1 + 1, 2, none⟩ = some (.slice none 0 0) := cellB HT.out (i := 2) rfl
      have hft := frzB HT.out 2
      rw [_root_.List.take_length] at HZ
      obtain ⟨az, cz, rfl⟩ := HZ.out.sl
      go_wp2_with (at_builtin; first | (refine wpList_append_rd rfl (.tmp 43) (.tmp 45) 24 rfl 54 il zl 2 32 Try.underlying24 hil hzl hsl hbl hkl (by decide) (.slice A3 s.ls.length c3) s.ls.length (flatL s.ls) rfl rfl (H.out.2.2.1.below HB.out) (by decide) ?_; intro u3 w3 ho3 hb3; obtain ⟨b3, d3, rfl⟩ := ho3.rd.sl; clear hx1 hx2 ht2 hft; have HT3 := Lib.hid (block_below HT.out hb3); have ht2 : w3.cell? ⟨W.heap.size + 1 + 1, 2, none⟩ = some (.slice none 0 0) := cellB HT3.out (i := 2) rfl; have hft := frzB HT3.out 2; have ht3 : w3.cell? ⟨W.heap.size + 1 + 1, 3, none⟩ = some (.slice none 0 0) := cellB HT3.out (i := 3) rfl; have hx3 := cell_below hb3 hx3; have HB3 := Lib.hid (bel_setCell (b := W.heap.size + 1 + 1) (o := 2) (v := .slice b3 s.ls.length d3) (bel_trans HB.out hb3) (by omega)); have HT3' : Hid ((w3.setCell ⟨W.heap.size + 1 + 1, 2, none⟩ (.slice b3 s.ls.length d3)).heap[W.heap.size + 1 + 1]? = some (.cells #[(.slice b1 s.rs.length d1), (.slice az s.zs.length cz), (.slice b3 s.ls.length d3), (.slice none 0 0)] 27)) := Lib.hid (setc (o := 2) (v := .slice b3 s.ls.length d3) HT3.out)) | (refine wpList_append_rd rfl (.tmp 49) (.tmp 51) 25 rfl 9 i_n zn 1 16 Try.underlying25 hin hzn hsn hbn hkn (by decide) (.slice A4 s.ns.length c4) s.ns.length (flatN s.ns) rfl rfl (H.out.2.2.2.below HB3.out) (by decide) ?_; intro u4 w4 ho4 hb4; obtain ⟨b4, d4, rfl⟩ := ho4.rd.sl; clear hx3 ht2 hft ht3; have HT4 := Lib.hid (block_below HT3'.out hb4); have HR4 := Lib.hid (block_below (blk_setCell (c := W.heap.size + 1 + 1) (o := 2) (v := .slice b3 s.ls.length d3) (block_below HR.out hb3) (by omega)) hb4); have ht0 : w4.cell? ⟨W.heap.size + 1 + 1, 0, none⟩ = some (.slice b1 s.rs.length d1) := cellB HT4.out (i := 0) rfl; have ht1 : w4.cell? ⟨W.heap.size + 1 + 1, 1, none⟩ = some (.slice az s.zs.length cz) := cellB HT4.out (i := 1) rfl; have ht2 : w4.cell? ⟨W.heap.size + 1 + 1, 2, none⟩ = some (.slice b3 s.ls.length d3) := cellB HT4.out (i := 2) rfl; have ht3 : w4.cell? ⟨W.heap.size + 1 + 1, 3, none⟩ = some (.slice none 0 0) := cellB HT4.out (i := 3) rfl; have hft := frzB HT4.out 3; have hr0 : w4.cell? ⟨W.heap.size + 1, 0, none⟩ = some (.slice none 0 0) := cellB HR4.out (i := 0) rfl; have hr1 : w4.cell? ⟨W.heap.size + 1, 1, none⟩ = some (.slice none 0 0) := cellB HR4.out (i := 1) rfl; have hr2 : w4.cell? ⟨W.heap.size + 1, 2, none⟩ = some (.slice none 0 0) := cellB HR4.out (i := 2) rfl; have hr3 : w4.cell? ⟨W.heap.size + 1, 3, none⟩ = some (.slice none 0 0) := cellB HR4.out (i := 3) rfl; have hf0 := frzB HR4.out 0; have hf1 := frzB HR4.out 1; have hf2 := frzB HR4.out 2; have hf3 := frzB HR4.out 3))
      have hdz := (bk2 HR.out)
      refine bodyPost_ret (results_cell_row rfl _ _ _ _ _ _ _ rfl (set4 (b := W.heap.size + 1) (blk_setCell (b := W.heap.size + 1) (c := W.heap.size + 1 + 1) (o := 3) (v := .slice b4 s.ns.length d4) HR4.out (by omega))) Try.underlying27 rfl (by kernel_rfl)) rfl ?_
      have hWr := bk2 HT.out
      have hb3' := bel_trans HB.out hb3
      have e3 : (w3.setCell ⟨W.heap.size + 1 + 1, 2, none⟩ (.slice b3 s.ls.length d3)).heap.size = w3.heap.size := World.size_setCell _ _ _
      rw [e3] at ho4
      have hsz3 := hb3.size
      have hL : ∀ l : _root_.List Value, OwnS (W.heap.size + 1 + 1 + 1) (.slice b1 s.rs.length d1) (.slice az s.zs.length cz) (.slice b3 s.ls.length d3) (.slice b4 s.ns.length d4) s ((w4.setCell ⟨W.heap.size + 1 + 1, 3, none⟩ (.slice b4 s.ns.length d4)).setCells (W.heap.size + 1) 0 l) := fun l => by
        refine ⟨?_, ?_, ?_, ?_⟩
        · exact ((((HO.out.below hb3).fall1 (b := W.heap.size + 1 + 1) (by omega)).below hb4).fall1 (b := W.heap.size + 1 + 1) (by omega)).fall (b := W.heap.size + 1) (by omega)
        · exact ((((HZ.out.below hb3).fall1 (b := W.heap.size + 1 + 1) (by omega)).below hb4).fall1 (b := W.heap.size + 1 + 1) (by omega)).fall (b := W.heap.size + 1) (by omega)
        · exact (((((ho3.mono (by omega : (W.heap.size + 1 + 1 + 1) ≤ _)).fall1 (b := W.heap.size + 1 + 1) (by omega)).below hb4).fall1 (b := W.heap.size + 1 + 1) (by omega)).fall (b := W.heap.size + 1) (by omega))
        · exact (((ho4.mono (by omega : (W.heap.size + 1 + 1 + 1) ≤ _)).fall1 (b := W.heap.size + 1 + 1) (by omega)).fall (b := W.heap.size + 1) (by omega))
      refine ⟨_, _, _, _, rfl, Lib.hid ((hL [.slice b1 s.rs.length d1, .slice az s.zs.length cz, .slice b3 s.ls.length d3, .slice b4 s.ns.length d4]).mono (by omega)), ?_⟩
      exact bel_setCells (b := W.heap.size + 1) (o := 0) (l := [.slice b1 s.rs.length d1, .slice az s.zs.length cz, .slice b3 s.ls.length d3, .slice b4 s.ns.length d4]) (bel_setCell (b := W.heap.size + 1 + 1) (o := 3) (v := .slice b4 s.ns.length d4) (bel_trans HB3.out hb4) (by omega)) (by omega)
end Go.Proofs.Ytdlmlcgmonkdfaa
