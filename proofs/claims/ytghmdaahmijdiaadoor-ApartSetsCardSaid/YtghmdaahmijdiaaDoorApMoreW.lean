/-
  The walk of the law ApartMore.
-/
import Derived.Test.YtghmdaahmijdiaaDoorApEx
import Derived.Test.YtghmdaahmijdiaaDoorEvClone
namespace Go.Proofs.YtghmdaahmijdiaaDoor
open Go.RowKit Cv
set_option linter.unusedVariables false
set_option linter.unusedSimpArgs false

namespace Cv
theorem leastL_more (rs : _root_.List Ru) (r : Ru) (h : r.save = 0) : leastL (rs ++ [r]) = leastL rs := by
  have h0 := leastL_le0 rs
  unfold leastL at *
  rw [_root_.List.foldl_append]
  simp only [_root_.List.foldl_cons, _root_.List.foldl_nil, h]
  omega
theorem isEv_more {rs : _root_.List Ru} {r : Ru} {e : Ev} (hr : r.save = 0) (h : IsEv rs e) : IsEv (rs ++ [r]) e := by
  obtain ⟨q, hq, hh, hn⟩ := h
  refine ⟨q, ?_, hh, ?_⟩
  · unfold ruleAt at hq ⊢
    split
    · rename_i h0
      rw [if_pos h0] at hq
      rw [_root_.List.getElem?_append_left (_root_.List.getElem?_eq_some_iff.1 hq).1]
      exact hq
    · rename_i h0
      rw [if_neg h0] at hq
      cases hq
  · unfold baseL at *
    rw [leastL_more rs r hr]
    exact hn
theorem close_more {rs : _root_.List Ru} {r : Ru} {e : Ev} (hr : r.save = 0) (h : Close rs e) : Close (rs ++ [r]) e := by
  obtain ⟨⟨h1, h2, h3⟩, d, ⟨k1, k2, k3⟩, hl, hn⟩ := h
  exact ⟨⟨isEv_more hr h1, h2, h3⟩, d, ⟨isEv_more hr k1, k2, k3⟩, hl, hn⟩
theorem far_more {rs : _root_.List Ru} {r : Ru} {N : Int} (hr : r.save = 0) (h : FarIs (rs ++ [r]) N) : FarIs rs N := fun e he => h e (isEv_more hr he)
theorem chkV_ex (o : Option Ev) : ∃ (y r n c : Int), chkV o = .tuple #[.agg #[.int .i64 y, .int .i64 r, .int .i64 n], .int .i64 c] := by
  cases o with
  | none => exact ⟨0, 0, 0, 0, rfl⟩
  | some e => exact ⟨e.year, e.rule, e.nom, 13, rfl⟩
theorem own_none_at {w : World} {base n : Nat} {t : TypeId} (e : n = w.heap.size) (hb : base ≤ w.heap.size) : (w.alloc (.cells #[] t)).ownsRow base t 11 (.slice (some ⟨n, 0, none⟩) 0 0) 0 [] := by
  rw [e]; exact World.ownsRow_made w #[] 0 hb (by decide) (by simp)
theorem row_ne {w : World} {base b n : Nat} {t : TypeId} {v : Value} {xs : _root_.List Value} (h : w.ownsRow base t 11 v n xs) (hb : b < base ∨ w.heap.size ≤ b) : some b ≠ v.ownBlock := fun e => by
  have := h.lt b e.symm
  omega
theorem wp_append_own_none {P : Program} {w : World} {o : Oper} {a : Act} {K : Act → World → Prop} {Q : Exit → Act → World → Prop} (s x : Operand) (t : TypeId)
    (ho : o.op = .call { callee := .builtin .append, args := #[s, x], argTypes := #[t, t] })
    (base : Nat) (e : TypeId) (i : TypeInfo) (size : Nat) (ht : P.underlying t = some (.slice e)) (hi : P.info? e = some i)
    (v : Value) (n : Nat) (xs : _root_.List Value) (hs : a.eval s = v) (hown : w.ownsRow base e size v n xs) (hx : a.eval x = .slice none 0 0)
    (h : K (a.put o.dst v) w) : o.wp P a w K Q := by
  have hrun := run_append_owned_none (P := P) (w := w) base t o.type e i size ht hi v n xs hown
  unfold Oper.wp
  simp [execOp, ho, resolve, invoke, builtin, hs, hx, hrun, Result.andThen]
  exact h
end Cv


theorem nil_cap {W : World} {H : Type} {enc : TypeId × Value → H} {sp : Nat → Bool} {hd : Bool} {v : Value} {d : DataW H} {p : List MemPlace} (h : DataW.Trod enc Tryd.prog W 0 sp hd 22 v d p) {n cap : Nat} (e : v = .slice none n cap) : cap = 0 := by
  obtain ⟨fuel, hf⟩ := h
  subst e
  rcases DataW.trod_slice Tryd.underlying22 hf with ⟨h1, _⟩ | ⟨a, len, cap', _, _, _, _, h1, _⟩
  · simp [Value.cells] at h1; exact h1.2
  · simp [Value.cells] at h1
theorem flatRu_more (rs : _root_.List Ru) (r : Ru) : flatRu (rs ++ [r]) = flatRu rs ++ r.arr.toList := by unfold flatRu; simp

set_option maxRecDepth 100000 in
set_option maxHeartbeats 16000000 in
theorem apMore_core (v : Value) (rs : _root_.List Ru) (na : ByteArray) (fr ut mo kk ww dd sec base save : Int) (le : ByteArray) (N : Int) (W : World) (hT : Tabs W) (h : Rul v rs W) (hc : ∀ n cap, v = .slice none n cap → cap = 0) (hl : rs.length ≤ 5) (hf : Ru.fits ⟨na, fr, ut, mo, kk, ww, dd, sec, base, save, le⟩) (hN1 : -9223372036854775808 ≤ N) (hN2 : N ≤ 9223372036854775807) :
    Calls Tryd.prog 8 #[v, .agg #[.string na, .int .i64 fr, .int .i64 ut, .int .i64 mo, .int .i64 kk, .int .i64 ww, .int .i64 dd, .int .i64 sec, .int .i64 base, .int .i64 save, .string le], .int .i64 N] W fun e w' => e = .returned (.bool true) ∧ Below W.heap.size W w' := by
  have HT := Lib.hid hT
  have H := Lib.hid h
  have HCAP0 := hc
  have HF := Lib.hid (show ∀ r ∈ rs ++ [(⟨na, fr, ut, mo, kk, ww, dd, sec, base, 0, le⟩ : Ru)], r.fits from fun r hr => by
    rcases _root_.List.mem_append.1 hr with h1 | h1
    · obtain ⟨i, hi⟩ := _root_.List.mem_iff_getElem?.1 h1; exact h.fits hi
    · rw [_root_.List.mem_singleton] at h1; subst h1; unfold Ru.fits at hf ⊢; dsimp only at hf ⊢; unfold fit at hf ⊢; omega)
  obtain ⟨A, cap, rfl⟩ := h.sl
  obtain ⟨n, hN⟩ : ∃ n, n = rs.length := ⟨_, rfl⟩
  rw [← hN] at hl H ⊢
  have HN := Lib.hid hN
  have HCAP := Lib.hid (show A = none → cap = 0 from fun e => by subst e; exact HCAP0 _ _ rfl)
  clear hT h hf hN hc HCAP0
  have hnl : (n : Int) ≤ 5 := by omega
  obtain ⟨i0, hi, hz0, hzs, hzb⟩ := info_parts infoRu
  have HS1 := Lib.hid (show (W.alloc (.cells #[.string na, .int .i64 fr, .int .i64 ut, .int .i64 mo, .int .i64 kk, .int .i64 ww, .int .i64 dd, .int .i64 sec, .int .i64 base, .int .i64 0, .string le] 34)).heap.size = W.heap.size + 1 by simp)
  cases A with
  | none =>
    have hx : rs = [] := by
      cases rs with
      | nil => rfl
      | cons r l => obtain ⟨g, off, e, _⟩ := H.out.at_ (i := 0) rfl; cases e
    have hn0 : n = 0 := by rw [HN.out, hx]; rfl
    have HX := Lib.hid hx
    subst hn0
    clear hx
    have hc0 : cap = 0 := HCAP.out rfl
    subst hc0
    go_enter Tryd.func8, Tryd.ntmps8
    go_upto_region 4 with fail
    go_cut [7] (fun s w' => ∃ s' : Value, s = s' ∧ Hid (Rul s' (rs ++ [(⟨na, fr, ut, mo, kk, ww, dd, sec, base, 0, le⟩ : Ru)]) w') ∧ Hid (Below (W.alloc (.cells #[.string na, .int .i64 fr, .int .i64 ut, .int .i64 mo, .int .i64 kk, .int .i64 ww, .int .i64 dd, .int .i64 sec, .int .i64 base, .int .i64 0, .string le] 34)).heap.size (W.alloc (.cells #[.string na, .int .i64 fr, .int .i64 ut, .int .i64 mo, .int .i64 kk, .int .i64 ww, .int .i64 dd, .int .i64 sec, .int .i64 base, .int .i64 0, .string le] 34)) w'))
    case first =>
      have HBc := Lib.hid (Below.drew (Below.refl (W.alloc (.cells #[.string na, .int .i64 fr, .int .i64 ut, .int .i64 mo, .int .i64 kk, .int .i64 ww, .int .i64 dd, .int .i64 sec, .int .i64 base, .int .i64 0, .string le] 34)).heap.size (W.alloc (.cells #[.string na, .int .i64 fr, .int .i64 ut, .int .i64 mo, .int .i64 kk, .int .i64 ww, .int .i64 dd, .int .i64 sec, .int .i64 base, .int .i64 0, .string le] 34))))
      have HSc := Lib.hid (show (W.alloc (.cells #[.string na, .int .i64 fr, .int .i64 ut, .int .i64 mo, .int .i64 kk, .int .i64 ww, .int .i64 dd, .int .i64 sec, .int .i64 base, .int .i64 0, .string le] 34)).drew.heap[W.heap.size]? = some (.cells #[.string na, .int .i64 fr, .int .i64 ut, .int .i64 mo, .int .i64 kk, .int .i64 ww, .int .i64 dd, .int .i64 sec, .int .i64 base, .int .i64 0, .string le] 34) from heap_alloc_new W (.cells #[.string na, .int .i64 fr, .int .i64 ut, .int .i64 mo, .int .i64 kk, .int .i64 ww, .int .i64 dd, .int .i64 sec, .int .i64 base, .int .i64 0, .string le] 34))
      go_wp2_with fail
      refine wp_region_held_drew (S := (fun w' => w'.cell? ⟨W.heap.size, 0, none⟩ = some (.string na) ∧ w'.cell? ⟨W.heap.size, 1, none⟩ = some (.int .i64 fr) ∧ w'.cell? ⟨W.heap.size, 2, none⟩ = some (.int .i64 ut) ∧ w'.cell? ⟨W.heap.size, 3, none⟩ = some (.int .i64 mo) ∧ w'.cell? ⟨W.heap.size, 4, none⟩ = some (.int .i64 kk) ∧ w'.cell? ⟨W.heap.size, 5, none⟩ = some (.int .i64 ww) ∧ w'.cell? ⟨W.heap.size, 6, none⟩ = some (.int .i64 dd) ∧ w'.cell? ⟨W.heap.size, 7, none⟩ = some (.int .i64 sec) ∧ w'.cell? ⟨W.heap.size, 8, none⟩ = some (.int .i64 base) ∧ w'.cell? ⟨W.heap.size, 9, none⟩ = some (.int .i64 0) ∧ w'.cell? ⟨W.heap.size, 10, none⟩ = some (.string le))) (by kernel_rfl) (by exact cells11x HSc.out) (fun hHeld => ?_)
      refine wpAnyH_take (i := 1) (v := ?_) rfl (by kernel_rfl) (by kernel_rfl) (by kernel_rfl) (fun _ _ _ h => h) (Or.inl ⟨by rfl, ?_⟩) (by assumption) ?_
      rotate_left 1
      · (intro w hSw; (try dsimp only at hSw); first | (go_simp; done) | (go_simp; with_reducible rfl))
      try simp only [Act.put, List.getElem_toArray, List.getElem_cons_succ, List.getElem_cons_zero, List.setIfInBounds_toArray, List.set_cons_zero, List.set_cons_succ]
      refine wpAnyH_take (i := 3) (v := ?_) rfl (by kernel_rfl) (by kernel_rfl) (by kernel_rfl) (fun _ _ _ h => h) (Or.inl ⟨by rfl, ?_⟩) (by assumption) ?_
      rotate_left 1
      · (intro w hSw; (try dsimp only at hSw); first | (go_simp; done) | (go_simp; with_reducible rfl))
      try simp only [Act.put, List.getElem_toArray, List.getElem_cons_succ, List.getElem_cons_zero, List.setIfInBounds_toArray, List.set_cons_zero, List.set_cons_succ]
      refine wpAnyH_ready (rs := [0, 4]) (by kernel_rfl) (by simp) ?_
      refine AllReadyH.cons rfl (fun K hK => ?_) (AllReadyH.cons rfl (fun K hK => ?_) AllReadyH.nil)
      · skip
        go_simp
        refine hK.out _ _ ?_ (fun hHeld => ?_)
        · exact cells11x (block_below HSc.out (bel_alloc _ _))
        clear hK K
        try simp only [Act.put, List.getElem_toArray, List.getElem_cons_succ, List.getElem_cons_zero, List.setIfInBounds_toArray, List.set_cons_zero, List.set_cons_succ]
        have HOc := Lib.hid (show ((W.alloc (.cells #[.string na, .int .i64 fr, .int .i64 ut, .int .i64 mo, .int .i64 kk, .int .i64 ww, .int .i64 dd, .int .i64 sec, .int .i64 base, .int .i64 0, .string le] 34)).drew.alloc (.cells #[] 34)).ownsRow (W.heap.size + 1) 34 11 (.slice (some ⟨W.heap.size + 1, 0, none⟩) 0 0) 0 [] from own_none_at (by first | rfl | simp) (by rw [← HS1.out]; exact HBc.out.size))
        have HSc := Lib.hid (block_below HSc.out (bel_alloc (W.alloc (.cells #[.string na, .int .i64 fr, .int .i64 ut, .int .i64 mo, .int .i64 kk, .int .i64 ww, .int .i64 dd, .int .i64 sec, .int .i64 base, .int .i64 0, .string le] 34)).drew (.cells #[] 34)))
        have HBc := Lib.hid (bel_trans HBc.out (bel_alloc (W.alloc (.cells #[.string na, .int .i64 fr, .int .i64 ut, .int .i64 mo, .int .i64 kk, .int .i64 ww, .int .i64 dd, .int .i64 sec, .int .i64 base, .int .i64 0, .string le] 34)).drew (.cells #[] 34)))
        refine wpAnyH_ready (rs := [2, 4]) (by kernel_rfl) (by simp) ?_
        refine AllReadyH.cons rfl (fun K hK => ?_) (AllReadyH.cons rfl (fun K hK => ?_) AllReadyH.nil)
        · skip
          rw [if_pos (by rfl)]
          refine wp_append_own_none (.tmp 17) (.tmp 18) 22 rfl (W.heap.size + 1) 34 i0 11 Tryd.underlying22 hi _ 0 [] (by rfl) HOc.out (by rfl) ?_
          refine hK.out _ _ ?_ (fun hHeld => ?_)
          · exact cells11x HSc.out
          clear hK K
          try simp only [Act.put, List.getElem_toArray, List.getElem_cons_succ, List.getElem_cons_zero, List.setIfInBounds_toArray, List.set_cons_zero, List.set_cons_succ]
          refine wpAnyH_ready (rs := [4]) (by kernel_rfl) (by simp) ?_
          refine AllReadyH.cons rfl (fun K hK => ?_) AllReadyH.nil
          go_simp
          refine hK.out _ _ ?_ (fun hHeld => ?_)
          · exact cells11x (block_below HSc.out (bel_alloc _ _))
          clear hK K
          try simp only [Act.put, List.getElem_toArray, List.getElem_cons_succ, List.getElem_cons_zero, List.setIfInBounds_toArray, List.set_cons_zero, List.set_cons_succ]
          obtain ⟨bq, hbq⟩ : ∃ bq, bq = W.heap.size + 1 + 1 := ⟨_, rfl⟩
          have HQc := Lib.hid (show (((W.alloc (.cells #[.string na, .int .i64 fr, .int .i64 ut, .int .i64 mo, .int .i64 kk, .int .i64 ww, .int .i64 dd, .int .i64 sec, .int .i64 base, .int .i64 0, .string le] 34)).drew.alloc (.cells #[] 34)).alloc (.cells #[.string na, .int .i64 fr, .int .i64 ut, .int .i64 mo, .int .i64 kk, .int .i64 ww, .int .i64 dd, .int .i64 sec, .int .i64 base, .int .i64 0, .string le] 34)).heap[bq]? = some (.cells #[.string na, .int .i64 fr, .int .i64 ut, .int .i64 mo, .int .i64 kk, .int .i64 ww, .int .i64 dd, .int .i64 sec, .int .i64 base, .int .i64 0, .string le] 34) from new_atx (w := ((W.alloc (.cells #[.string na, .int .i64 fr, .int .i64 ut, .int .i64 mo, .int .i64 kk, .int .i64 ww, .int .i64 dd, .int .i64 sec, .int .i64 base, .int .i64 0, .string le] 34)).drew.alloc (.cells #[] 34))) (.cells #[.string na, .int .i64 fr, .int .i64 ut, .int .i64 mo, .int .i64 kk, .int .i64 ww, .int .i64 dd, .int .i64 sec, .int .i64 base, .int .i64 0, .string le] 34) (hbq.trans (by first | rfl | simp)))
          have HNE := Lib.hid (row_ne HOc.out (b := bq) (.inr (Nat.le_of_eq (hbq.trans (by first | rfl | simp)).symm)))
          have HOc := Lib.hid (own_below HOc.out (bel_alloc ((W.alloc (.cells #[.string na, .int .i64 fr, .int .i64 ut, .int .i64 mo, .int .i64 kk, .int .i64 ww, .int .i64 dd, .int .i64 sec, .int .i64 base, .int .i64 0, .string le] 34)).drew.alloc (.cells #[] 34)) (.cells #[.string na, .int .i64 fr, .int .i64 ut, .int .i64 mo, .int .i64 kk, .int .i64 ww, .int .i64 dd, .int .i64 sec, .int .i64 base, .int .i64 0, .string le] 34)))
          have HSc := Lib.hid (block_below HSc.out (bel_alloc ((W.alloc (.cells #[.string na, .int .i64 fr, .int .i64 ut, .int .i64 mo, .int .i64 kk, .int .i64 ww, .int .i64 dd, .int .i64 sec, .int .i64 base, .int .i64 0, .string le] 34)).drew.alloc (.cells #[] 34)) (.cells #[.string na, .int .i64 fr, .int .i64 ut, .int .i64 mo, .int .i64 kk, .int .i64 ww, .int .i64 dd, .int .i64 sec, .int .i64 base, .int .i64 0, .string le] 34)))
          have HBc := Lib.hid (bel_trans HBc.out (bel_alloc ((W.alloc (.cells #[.string na, .int .i64 fr, .int .i64 ut, .int .i64 mo, .int .i64 kk, .int .i64 ww, .int .i64 dd, .int .i64 sec, .int .i64 base, .int .i64 0, .string le] 34)).drew.alloc (.cells #[] 34)) (.cells #[.string na, .int .i64 fr, .int .i64 ut, .int .i64 mo, .int .i64 kk, .int .i64 ww, .int .i64 dd, .int .i64 sec, .int .i64 base, .int .i64 0, .string le] 34)))
          rw [← hbq]
          clear hbq
          refine wpAnyH_ready (rs := [5]) (by kernel_rfl) (by simp) ?_
          refine AllReadyH.cons rfl (fun K hK => ?_) AllReadyH.nil
          rw [if_pos (by rfl)]
          refine wp_append_own (w := (((W.alloc (.cells #[.string na, .int .i64 fr, .int .i64 ut, .int .i64 mo, .int .i64 kk, .int .i64 ww, .int .i64 dd, .int .i64 sec, .int .i64 base, .int .i64 0, .string le] 34)).drew.alloc (.cells #[] 34)).alloc (.cells #[.string na, .int .i64 fr, .int .i64 ut, .int .i64 mo, .int .i64 kk, .int .i64 ww, .int .i64 dd, .int .i64 sec, .int .i64 base, .int .i64 0, .string le] 34))) (.tmp 19) (.tmp 21) 22 rfl (W.heap.size + 1) 34 i0 (.agg #[.string ⟨#[]⟩, .int .i64 0, .int .i64 0, .int .i64 0, .int .i64 0, .int .i64 0, .int .i64 0, .int .i64 0, .int .i64 0, .int .i64 0, .string ⟨#[]⟩]) 11 104 Tryd.underlying22 hi hz0 hzs hzb rfl (by decide) _ 0 [] (by rfl) HOc.out ⟨bq, 0, none⟩ 1 1 [.string na, .int .i64 fr, .int .i64 ut, .int .i64 mo, .int .i64 kk, .int .i64 ww, .int .i64 dd, .int .i64 sec, .int .i64 base, .int .i64 0, .string le] (by rfl) (by rfl) (World.news_of_block HQc.out) (by intro u hu; simp at hu; rcases hu with rfl | rfl | rfl | rfl | rfl | rfl | rfl | rfl | rfl | rfl | rfl <;> rfl) (by unfold maxLen; omega) (by omega) (by rw [← HS1.out]; exact HBc.out.size) ?_
          intro s2 vz hown2 hgrow2 hnil2
          have HSn := Lib.hid (show vz.heap[W.heap.size]? = some (.cells #[.string na, .int .i64 fr, .int .i64 ut, .int .i64 mo, .int .i64 kk, .int .i64 ww, .int .i64 dd, .int .i64 sec, .int .i64 base, .int .i64 0, .string le] 34) by rw [hgrow2.block W.heap.size (Array.getElem?_eq_some_iff.1 HSc.out).1 (row_ne HOc.out (.inl (Nat.lt_succ_self _)))]; exact HSc.out)
          have HBn := Lib.hid (Below.grown (B := (W.alloc (.cells #[.string na, .int .i64 fr, .int .i64 ut, .int .i64 mo, .int .i64 kk, .int .i64 ww, .int .i64 dd, .int .i64 sec, .int .i64 base, .int .i64 0, .string le] 34)).heap.size) HBc.out hgrow2 HBc.out.size (fun k hk => by rw [HS1.out]; exact (HOc.out.lt k hk).1))
          refine hK.out _ _ ?_ (fun hHeld => ?_)
          · exact cells11x HSn.out
          clear hK K
          try simp only [Act.put, List.getElem_toArray, List.getElem_cons_succ, List.getElem_cons_zero, List.setIfInBounds_toArray, List.set_cons_zero, List.set_cons_succ]
          have HRn := Lib.hid (show Rul s2 (rs ++ [(⟨na, fr, ut, mo, kk, ww, dd, sec, base, 0, le⟩ : Ru)]) vz from rul_of_own (by rw [flatRu_more, _root_.List.length_append, ← HN.out, HX.out]; simpa [flatRu, Ru.arr] using hown2) (by rw [_root_.List.length_append, ← HN.out]; simp <;> omega) HF.out)
          refine wpAnyH_take (i := 6) (v := ?_) rfl (by kernel_rfl) (by kernel_rfl) (by kernel_rfl) (fun _ _ _ h => h) (Or.inl ⟨by rfl, ?_⟩) (by assumption) ?_
          rotate_left 1
          · (intro w hSw; (try dsimp only at hSw); first | (go_simp; done) | (go_simp; with_reducible rfl))
          try simp only [Act.put, List.getElem_toArray, List.getElem_cons_succ, List.getElem_cons_zero, List.setIfInBounds_toArray, List.set_cons_zero, List.set_cons_succ]
          refine wpAnyH_done (by kernel_rfl) ?_ _
          go_wp2_with fail
          go_meet
          case rel => exact ⟨s2, rfl, HRn, HBn⟩
        · skip
          go_simp
          refine hK.out _ _ ?_ (fun hHeld => ?_)
          · exact cells11x (block_below HSc.out (bel_alloc _ _))
          clear hK K
          try simp only [Act.put, List.getElem_toArray, List.getElem_cons_succ, List.getElem_cons_zero, List.setIfInBounds_toArray, List.set_cons_zero, List.set_cons_succ]
          obtain ⟨bq, hbq⟩ : ∃ bq, bq = W.heap.size + 1 + 1 := ⟨_, rfl⟩
          have HQc := Lib.hid (show (((W.alloc (.cells #[.string na, .int .i64 fr, .int .i64 ut, .int .i64 mo, .int .i64 kk, .int .i64 ww, .int .i64 dd, .int .i64 sec, .int .i64 base, .int .i64 0, .string le] 34)).drew.alloc (.cells #[] 34)).alloc (.cells #[.string na, .int .i64 fr, .int .i64 ut, .int .i64 mo, .int .i64 kk, .int .i64 ww, .int .i64 dd, .int .i64 sec, .int .i64 base, .int .i64 0, .string le] 34)).heap[bq]? = some (.cells #[.string na, .int .i64 fr, .int .i64 ut, .int .i64 mo, .int .i64 kk, .int .i64 ww, .int .i64 dd, .int .i64 sec, .int .i64 base, .int .i64 0, .string le] 34) from new_atx (w := ((W.alloc (.cells #[.string na, .int .i64 fr, .int .i64 ut, .int .i64 mo, .int .i64 kk, .int .i64 ww, .int .i64 dd, .int .i64 sec, .int .i64 base, .int .i64 0, .string le] 34)).drew.alloc (.cells #[] 34))) (.cells #[.string na, .int .i64 fr, .int .i64 ut, .int .i64 mo, .int .i64 kk, .int .i64 ww, .int .i64 dd, .int .i64 sec, .int .i64 base, .int .i64 0, .string le] 34) (hbq.trans (by first | rfl | simp)))
          have HNE := Lib.hid (row_ne HOc.out (b := bq) (.inr (Nat.le_of_eq (hbq.trans (by first | rfl | simp)).symm)))
          have HOc := Lib.hid (own_below HOc.out (bel_alloc ((W.alloc (.cells #[.string na, .int .i64 fr, .int .i64 ut, .int .i64 mo, .int .i64 kk, .int .i64 ww, .int .i64 dd, .int .i64 sec, .int .i64 base, .int .i64 0, .string le] 34)).drew.alloc (.cells #[] 34)) (.cells #[.string na, .int .i64 fr, .int .i64 ut, .int .i64 mo, .int .i64 kk, .int .i64 ww, .int .i64 dd, .int .i64 sec, .int .i64 base, .int .i64 0, .string le] 34)))
          have HSc := Lib.hid (block_below HSc.out (bel_alloc ((W.alloc (.cells #[.string na, .int .i64 fr, .int .i64 ut, .int .i64 mo, .int .i64 kk, .int .i64 ww, .int .i64 dd, .int .i64 sec, .int .i64 base, .int .i64 0, .string le] 34)).drew.alloc (.cells #[] 34)) (.cells #[.string na, .int .i64 fr, .int .i64 ut, .int .i64 mo, .int .i64 kk, .int .i64 ww, .int .i64 dd, .int .i64 sec, .int .i64 base, .int .i64 0, .string le] 34)))
          have HBc := Lib.hid (bel_trans HBc.out (bel_alloc ((W.alloc (.cells #[.string na, .int .i64 fr, .int .i64 ut, .int .i64 mo, .int .i64 kk, .int .i64 ww, .int .i64 dd, .int .i64 sec, .int .i64 base, .int .i64 0, .string le] 34)).drew.alloc (.cells #[] 34)) (.cells #[.string na, .int .i64 fr, .int .i64 ut, .int .i64 mo, .int .i64 kk, .int .i64 ww, .int .i64 dd, .int .i64 sec, .int .i64 base, .int .i64 0, .string le] 34)))
          rw [← hbq]
          clear hbq
          refine wpAnyH_ready (rs := [2]) (by kernel_rfl) (by simp) ?_
          refine AllReadyH.cons rfl (fun K hK => ?_) AllReadyH.nil
          rw [if_pos (by rfl)]
          refine wp_append_own_none (.tmp 17) (.tmp 18) 22 rfl (W.heap.size + 1) 34 i0 11 Tryd.underlying22 hi _ 0 [] (by rfl) HOc.out (by rfl) ?_
          refine hK.out _ _ ?_ (fun hHeld => ?_)
          · exact cells11x HSc.out
          clear hK K
          try simp only [Act.put, List.getElem_toArray, List.getElem_cons_succ, List.getElem_cons_zero, List.setIfInBounds_toArray, List.set_cons_zero, List.set_cons_succ]
          refine wpAnyH_ready (rs := [5]) (by kernel_rfl) (by simp) ?_
          refine AllReadyH.cons rfl (fun K hK => ?_) AllReadyH.nil
          rw [if_pos (by rfl)]
          refine wp_append_own (w := (((W.alloc (.cells #[.string na, .int .i64 fr, .int .i64 ut, .int .i64 mo, .int .i64 kk, .int .i64 ww, .int .i64 dd, .int .i64 sec, .int .i64 base, .int .i64 0, .string le] 34)).drew.alloc (.cells #[] 34)).alloc (.cells #[.string na, .int .i64 fr, .int .i64 ut, .int .i64 mo, .int .i64 kk, .int .i64 ww, .int .i64 dd, .int .i64 sec, .int .i64 base, .int .i64 0, .string le] 34))) (.tmp 19) (.tmp 21) 22 rfl (W.heap.size + 1) 34 i0 (.agg #[.string ⟨#[]⟩, .int .i64 0, .int .i64 0, .int .i64 0, .int .i64 0, .int .i64 0, .int .i64 0, .int .i64 0, .int .i64 0, .int .i64 0, .string ⟨#[]⟩]) 11 104 Tryd.underlying22 hi hz0 hzs hzb rfl (by decide) _ 0 [] (by rfl) HOc.out ⟨bq, 0, none⟩ 1 1 [.string na, .int .i64 fr, .int .i64 ut, .int .i64 mo, .int .i64 kk, .int .i64 ww, .int .i64 dd, .int .i64 sec, .int .i64 base, .int .i64 0, .string le] (by rfl) (by rfl) (World.news_of_block HQc.out) (by intro u hu; simp at hu; rcases hu with rfl | rfl | rfl | rfl | rfl | rfl | rfl | rfl | rfl | rfl | rfl <;> rfl) (by unfold maxLen; omega) (by omega) (by rw [← HS1.out]; exact HBc.out.size) ?_
          intro s2 vz hown2 hgrow2 hnil2
          have HSn := Lib.hid (show vz.heap[W.heap.size]? = some (.cells #[.string na, .int .i64 fr, .int .i64 ut, .int .i64 mo, .int .i64 kk, .int .i64 ww, .int .i64 dd, .int .i64 sec, .int .i64 base, .int .i64 0, .string le] 34) by rw [hgrow2.block W.heap.size (Array.getElem?_eq_some_iff.1 HSc.out).1 (row_ne HOc.out (.inl (Nat.lt_succ_self _)))]; exact HSc.out)
          have HBn := Lib.hid (Below.grown (B := (W.alloc (.cells #[.string na, .int .i64 fr, .int .i64 ut, .int .i64 mo, .int .i64 kk, .int .i64 ww, .int .i64 dd, .int .i64 sec, .int .i64 base, .int .i64 0, .string le] 34)).heap.size) HBc.out hgrow2 HBc.out.size (fun k hk => by rw [HS1.out]; exact (HOc.out.lt k hk).1))
          refine hK.out _ _ ?_ (fun hHeld => ?_)
          · exact cells11x HSn.out
          clear hK K
          try simp only [Act.put, List.getElem_toArray, List.getElem_cons_succ, List.getElem_cons_zero, List.setIfInBounds_toArray, List.set_cons_zero, List.set_cons_succ]
          have HRn := Lib.hid (show Rul s2 (rs ++ [(⟨na, fr, ut, mo, kk, ww, dd, sec, base, 0, le⟩ : Ru)]) vz from rul_of_own (by rw [flatRu_more, _root_.List.length_append, ← HN.out, HX.out]; simpa [flatRu, Ru.arr] using hown2) (by rw [_root_.List.length_append, ← HN.out]; simp <;> omega) HF.out)
          refine wpAnyH_take (i := 6) (v := ?_) rfl (by kernel_rfl) (by kernel_rfl) (by kernel_rfl) (fun _ _ _ h => h) (Or.inl ⟨by rfl, ?_⟩) (by assumption) ?_
          rotate_left 1
          · (intro w hSw; (try dsimp only at hSw); first | (go_simp; done) | (go_simp; with_reducible rfl))
          try simp only [Act.put, List.getElem_toArray, List.getElem_cons_succ, List.getElem_cons_zero, List.setIfInBounds_toArray, List.set_cons_zero, List.set_cons_succ]
          refine wpAnyH_done (by kernel_rfl) ?_ _
          go_wp2_with fail
          go_meet
          case rel => exact ⟨s2, rfl, HRn, HBn⟩
      · skip
        go_simp
        refine hK.out _ _ ?_ (fun hHeld => ?_)
        · exact cells11x (block_below HSc.out (bel_alloc _ _))
        clear hK K
        try simp only [Act.put, List.getElem_toArray, List.getElem_cons_succ, List.getElem_cons_zero, List.setIfInBounds_toArray, List.set_cons_zero, List.set_cons_succ]
        obtain ⟨bq, hbq⟩ : ∃ bq, bq = W.heap.size + 1 := ⟨_, rfl⟩
        have HQc := Lib.hid (show ((W.alloc (.cells #[.string na, .int .i64 fr, .int .i64 ut, .int .i64 mo, .int .i64 kk, .int .i64 ww, .int .i64 dd, .int .i64 sec, .int .i64 base, .int .i64 0, .string le] 34)).drew.alloc (.cells #[.string na, .int .i64 fr, .int .i64 ut, .int .i64 mo, .int .i64 kk, .int .i64 ww, .int .i64 dd, .int .i64 sec, .int .i64 base, .int .i64 0, .string le] 34)).heap[bq]? = some (.cells #[.string na, .int .i64 fr, .int .i64 ut, .int .i64 mo, .int .i64 kk, .int .i64 ww, .int .i64 dd, .int .i64 sec, .int .i64 base, .int .i64 0, .string le] 34) from new_atx (w := (W.alloc (.cells #[.string na, .int .i64 fr, .int .i64 ut, .int .i64 mo, .int .i64 kk, .int .i64 ww, .int .i64 dd, .int .i64 sec, .int .i64 base, .int .i64 0, .string le] 34)).drew) (.cells #[.string na, .int .i64 fr, .int .i64 ut, .int .i64 mo, .int .i64 kk, .int .i64 ww, .int .i64 dd, .int .i64 sec, .int .i64 base, .int .i64 0, .string le] 34) (hbq.trans (by first | rfl | simp)))
        have HSc := Lib.hid (block_below HSc.out (bel_alloc (W.alloc (.cells #[.string na, .int .i64 fr, .int .i64 ut, .int .i64 mo, .int .i64 kk, .int .i64 ww, .int .i64 dd, .int .i64 sec, .int .i64 base, .int .i64 0, .string le] 34)).drew (.cells #[.string na, .int .i64 fr, .int .i64 ut, .int .i64 mo, .int .i64 kk, .int .i64 ww, .int .i64 dd, .int .i64 sec, .int .i64 base, .int .i64 0, .string le] 34)))
        have HBc := Lib.hid (bel_trans HBc.out (bel_alloc (W.alloc (.cells #[.string na, .int .i64 fr, .int .i64 ut, .int .i64 mo, .int .i64 kk, .int .i64 ww, .int .i64 dd, .int .i64 sec, .int .i64 base, .int .i64 0, .string le] 34)).drew (.cells #[.string na, .int .i64 fr, .int .i64 ut, .int .i64 mo, .int .i64 kk, .int .i64 ww, .int .i64 dd, .int .i64 sec, .int .i64 base, .int .i64 0, .string le] 34)))
        rw [← hbq]
        clear hbq
        refine wpAnyH_ready (rs := [0]) (by kernel_rfl) (by simp) ?_
        refine AllReadyH.cons rfl (fun K hK => ?_) AllReadyH.nil
        go_simp
        refine hK.out _ _ ?_ (fun hHeld => ?_)
        · exact cells11x (block_below HSc.out (bel_alloc _ _))
        clear hK K
        try simp only [Act.put, List.getElem_toArray, List.getElem_cons_succ, List.getElem_cons_zero, List.setIfInBounds_toArray, List.set_cons_zero, List.set_cons_succ]
        have HOc := Lib.hid (show (((W.alloc (.cells #[.string na, .int .i64 fr, .int .i64 ut, .int .i64 mo, .int .i64 kk, .int .i64 ww, .int .i64 dd, .int .i64 sec, .int .i64 base, .int .i64 0, .string le] 34)).drew.alloc (.cells #[.string na, .int .i64 fr, .int .i64 ut, .int .i64 mo, .int .i64 kk, .int .i64 ww, .int .i64 dd, .int .i64 sec, .int .i64 base, .int .i64 0, .string le] 34)).alloc (.cells #[] 34)).ownsRow (W.heap.size + 1) 34 11 (.slice (some ⟨W.heap.size + 1 + 1, 0, none⟩) 0 0) 0 [] from own_none_at (by first | rfl | simp) (by rw [← HS1.out]; exact HBc.out.size))
        have HNE := Lib.hid (show some bq ≠ (Value.slice (some ⟨W.heap.size + 1 + 1, 0, none⟩) 0 0).ownBlock from fun e => by have h1 := (Array.getElem?_eq_some_iff.1 HQc.out).1; have h2 : bq = W.heap.size + 1 + 1 := (by simpa [Value.ownBlock] using e); rw [h2] at h1; simp at h1)
        have HSc := Lib.hid (block_below HSc.out (bel_alloc ((W.alloc (.cells #[.string na, .int .i64 fr, .int .i64 ut, .int .i64 mo, .int .i64 kk, .int .i64 ww, .int .i64 dd, .int .i64 sec, .int .i64 base, .int .i64 0, .string le] 34)).drew.alloc (.cells #[.string na, .int .i64 fr, .int .i64 ut, .int .i64 mo, .int .i64 kk, .int .i64 ww, .int .i64 dd, .int .i64 sec, .int .i64 base, .int .i64 0, .string le] 34)) (.cells #[] 34)))
        have HBc := Lib.hid (bel_trans HBc.out (bel_alloc ((W.alloc (.cells #[.string na, .int .i64 fr, .int .i64 ut, .int .i64 mo, .int .i64 kk, .int .i64 ww, .int .i64 dd, .int .i64 sec, .int .i64 base, .int .i64 0, .string le] 34)).drew.alloc (.cells #[.string na, .int .i64 fr, .int .i64 ut, .int .i64 mo, .int .i64 kk, .int .i64 ww, .int .i64 dd, .int .i64 sec, .int .i64 base, .int .i64 0, .string le] 34)) (.cells #[] 34)))
        have HQc := Lib.hid (block_below HQc.out (bel_alloc ((W.alloc (.cells #[.string na, .int .i64 fr, .int .i64 ut, .int .i64 mo, .int .i64 kk, .int .i64 ww, .int .i64 dd, .int .i64 sec, .int .i64 base, .int .i64 0, .string le] 34)).drew.alloc (.cells #[.string na, .int .i64 fr, .int .i64 ut, .int .i64 mo, .int .i64 kk, .int .i64 ww, .int .i64 dd, .int .i64 sec, .int .i64 base, .int .i64 0, .string le] 34)) (.cells #[] 34)))
        refine wpAnyH_ready (rs := [2]) (by kernel_rfl) (by simp) ?_
        refine AllReadyH.cons rfl (fun K hK => ?_) AllReadyH.nil
        rw [if_pos (by rfl)]
        refine wp_append_own_none (.tmp 17) (.tmp 18) 22 rfl (W.heap.size + 1) 34 i0 11 Tryd.underlying22 hi _ 0 [] (by rfl) HOc.out (by rfl) ?_
        refine hK.out _ _ ?_ (fun hHeld => ?_)
        · exact cells11x HSc.out
        clear hK K
        try simp only [Act.put, List.getElem_toArray, List.getElem_cons_succ, List.getElem_cons_zero, List.setIfInBounds_toArray, List.set_cons_zero, List.set_cons_succ]
        refine wpAnyH_ready (rs := [5]) (by kernel_rfl) (by simp) ?_
        refine AllReadyH.cons rfl (fun K hK => ?_) AllReadyH.nil
        rw [if_pos (by rfl)]
        refine wp_append_own (w := (((W.alloc (.cells #[.string na, .int .i64 fr, .int .i64 ut, .int .i64 mo, .int .i64 kk, .int .i64 ww, .int .i64 dd, .int .i64 sec, .int .i64 base, .int .i64 0, .string le] 34)).drew.alloc (.cells #[.string na, .int .i64 fr, .int .i64 ut, .int .i64 mo, .int .i64 kk, .int .i64 ww, .int .i64 dd, .int .i64 sec, .int .i64 base, .int .i64 0, .string le] 34)).alloc (.cells #[] 34))) (.tmp 19) (.tmp 21) 22 rfl (W.heap.size + 1) 34 i0 (.agg #[.string ⟨#[]⟩, .int .i64 0, .int .i64 0, .int .i64 0, .int .i64 0, .int .i64 0, .int .i64 0, .int .i64 0, .int .i64 0, .int .i64 0, .string ⟨#[]⟩]) 11 104 Tryd.underlying22 hi hz0 hzs hzb rfl (by decide) _ 0 [] (by rfl) HOc.out ⟨bq, 0, none⟩ 1 1 [.string na, .int .i64 fr, .int .i64 ut, .int .i64 mo, .int .i64 kk, .int .i64 ww, .int .i64 dd, .int .i64 sec, .int .i64 base, .int .i64 0, .string le] (by rfl) (by rfl) (World.news_of_block HQc.out) (by intro u hu; simp at hu; rcases hu with rfl | rfl | rfl | rfl | rfl | rfl | rfl | rfl | rfl | rfl | rfl <;> rfl) (by unfold maxLen; omega) (by omega) (by rw [← HS1.out]; exact HBc.out.size) ?_
        intro s2 vz hown2 hgrow2 hnil2
        have HSn := Lib.hid (show vz.heap[W.heap.size]? = some (.cells #[.string na, .int .i64 fr, .int .i64 ut, .int .i64 mo, .int .i64 kk, .int .i64 ww, .int .i64 dd, .int .i64 sec, .int .i64 base, .int .i64 0, .string le] 34) by rw [hgrow2.block W.heap.size (Array.getElem?_eq_some_iff.1 HSc.out).1 (row_ne HOc.out (.inl (Nat.lt_succ_self _)))]; exact HSc.out)
        have HBn := Lib.hid (Below.grown (B := (W.alloc (.cells #[.string na, .int .i64 fr, .int .i64 ut, .int .i64 mo, .int .i64 kk, .int .i64 ww, .int .i64 dd, .int .i64 sec, .int .i64 base, .int .i64 0, .string le] 34)).heap.size) HBc.out hgrow2 HBc.out.size (fun k hk => by rw [HS1.out]; exact (HOc.out.lt k hk).1))
        refine hK.out _ _ ?_ (fun hHeld => ?_)
        · exact cells11x HSn.out
        clear hK K
        try simp only [Act.put, List.getElem_toArray, List.getElem_cons_succ, List.getElem_cons_zero, List.setIfInBounds_toArray, List.set_cons_zero, List.set_cons_succ]
        have HRn := Lib.hid (show Rul s2 (rs ++ [(⟨na, fr, ut, mo, kk, ww, dd, sec, base, 0, le⟩ : Ru)]) vz from rul_of_own (by rw [flatRu_more, _root_.List.length_append, ← HN.out, HX.out]; simpa [flatRu, Ru.arr] using hown2) (by rw [_root_.List.length_append, ← HN.out]; simp <;> omega) HF.out)
        refine wpAnyH_take (i := 6) (v := ?_) rfl (by kernel_rfl) (by kernel_rfl) (by kernel_rfl) (fun _ _ _ h => h) (Or.inl ⟨by rfl, ?_⟩) (by assumption) ?_
        rotate_left 1
        · (intro w hSw; (try dsimp only at hSw); first | (go_simp; done) | (go_simp; with_reducible rfl))
        try simp only [Act.put, List.getElem_toArray, List.getElem_cons_succ, List.getElem_cons_zero, List.setIfInBounds_toArray, List.set_cons_zero, List.set_cons_succ]
        refine wpAnyH_done (by kernel_rfl) ?_ _
        go_wp2_with fail
        go_meet
        case rel => exact ⟨s2, rfl, HRn, HBn⟩
    case rest =>
      obtain ⟨s', rfl, hrm, hbw⟩ := hcut
      have HB := Lib.hid (bel_trans (bel_alloc W (.cells #[.string na, .int .i64 fr, .int .i64 ut, .int .i64 mo, .int .i64 kk, .int .i64 ww, .int .i64 dd, .int .i64 sec, .int .i64 base, .int .i64 0, .string le] 34)) hbw.out)
      have HM := hrm
      clear hbw
      go_wp2_with fail
      refine (apCheck_any _ rs _ (by exact HT.out.below HB.out) (by exact H.out.below HB.out)).mono ?_
      rintro e w3 ⟨o1, hp1, he, hb⟩
      obtain ⟨ay, ar, an, ac, hv⟩ := chkV_ex o1
      rw [hv] at he
      subst he
      have HB := Lib.hid (bel_trans (bel_trans HB.out hb) (bel_alloc w3 (.cells #[.int .i64 ay, .int .i64 ar, .int .i64 an] 25)))
      have HM := Lib.hid (Rul.below HM.out (bel_trans hb (bel_alloc w3 (.cells #[.int .i64 ay, .int .i64 ar, .int .i64 an] 25))))
      have HV1 := Lib.hid hv
      clear hb hv
      go_wp2_with fail
      refine (apCheck_any _ (rs ++ [(⟨na, fr, ut, mo, kk, ww, dd, sec, base, 0, le⟩ : Ru)]) _ (by exact HT.out.below HB.out) (by exact HM.out)).mono ?_
      rintro e w4 ⟨o2, hp2, he, hb⟩
      obtain ⟨zy, zr, zn, zc, hv⟩ := chkV_ex o2
      rw [hv] at he
      subst he
      have HB := Lib.hid (bel_trans (bel_trans HB.out hb) (bel_alloc w4 (.cells #[.int .i64 zy, .int .i64 zr, .int .i64 zn] 25)))
      have HM := Lib.hid (Rul.below HM.out (bel_trans hb (bel_alloc w4 (.cells #[.int .i64 zy, .int .i64 zr, .int .i64 zn] 25))))
      have HV2 := Lib.hid hv
      clear hb hv
      cases o1 with
      | none =>
        have hac : ac = 0 := by have h := HV1.out; simp [chkV] at h; omega
        subst hac
        clear hp1 hp2 HV1 HV2
        go_wp2_with fail
        refine (apFar_any _ rs N _ (by exact HT.out.below HB.out) (by exact H.out.below HB.out) (by omega) (by omega)).mono ?_
        rintro e w5 ⟨b1, hp, rfl, hb⟩
        have HB := Lib.hid (bel_trans HB.out hb)
        have HM := Lib.hid (Rul.below HM.out hb)
        clear hb
        cases b1 with
        | true =>
          clear hp
          go_wp2_with fail
          refine (works18_any _ (by exact HT.out.below HB.out)).mono ?_
          rintro e w6 ⟨rfl, hb⟩
          go_wp2_with fail
          go_ret
          exact ⟨rfl, bel_trans HB.out hb⟩
        | false =>
          have HNF := Lib.hid (show ¬ FarIs (rs ++ [(⟨na, fr, ut, mo, kk, ww, dd, sec, base, 0, le⟩ : Ru)]) N from fun h => by have := hp.out.2 (far_more rfl h); cases this)
          clear hp
          go_wp2_with fail
          refine (apFar_any _ (rs ++ [(⟨na, fr, ut, mo, kk, ww, dd, sec, base, 0, le⟩ : Ru)]) N _ (by exact HT.out.below HB.out) (by exact HM.out) (by omega) (by omega)).mono ?_
          intro e w6 hq; obtain ⟨rfl, hb⟩ := FarR.no HNF.out _ _ hq; clear hq
          have HB := Lib.hid (bel_trans HB.out hb)
          clear hb
          go_wp2_with fail
          refine (works18_any _ (by exact HT.out.below HB.out)).mono ?_
          rintro e w7 ⟨rfl, hb⟩
          go_wp2_with fail
          go_ret
          exact ⟨rfl, bel_trans HB.out hb⟩
      | some x1 =>
        have hac : ac = 13 := by have h := HV1.out; simp [chkV] at h; omega
        subst hac
        cases o2 with
        | none => exact (hp2.out x1 (close_more rfl hp1.out.1)).elim
        | some x2 =>
          have hzc : zc = 13 := by have h := HV2.out; simp [chkV] at h; omega
          subst hzc
          clear hp1 hp2 HV1 HV2
          go_wp2_with fail
          refine (apFar_any _ rs N _ (by exact HT.out.below HB.out) (by exact H.out.below HB.out) (by omega) (by omega)).mono ?_
          rintro e w5 ⟨b1, hp, rfl, hb⟩
          have HB := Lib.hid (bel_trans HB.out hb)
          have HM := Lib.hid (Rul.below HM.out hb)
          clear hb
          cases b1 with
          | true =>
            clear hp
            go_wp2_with fail
            refine (works18_any _ (by exact HT.out.below HB.out)).mono ?_
            rintro e w6 ⟨rfl, hb⟩
            go_wp2_with fail
            go_ret
            exact ⟨rfl, bel_trans HB.out hb⟩
          | false =>
            have HNF := Lib.hid (show ¬ FarIs (rs ++ [(⟨na, fr, ut, mo, kk, ww, dd, sec, base, 0, le⟩ : Ru)]) N from fun h => by have := hp.out.2 (far_more rfl h); cases this)
            clear hp
            go_wp2_with fail
            refine (apFar_any _ (rs ++ [(⟨na, fr, ut, mo, kk, ww, dd, sec, base, 0, le⟩ : Ru)]) N _ (by exact HT.out.below HB.out) (by exact HM.out) (by omega) (by omega)).mono ?_
            intro e w6 hq; obtain ⟨rfl, hb⟩ := FarR.no HNF.out _ _ hq; clear hq
            have HB := Lib.hid (bel_trans HB.out hb)
            clear hb
            go_wp2_with fail
            refine (works18_any _ (by exact HT.out.below HB.out)).mono ?_
            rintro e w7 ⟨rfl, hb⟩
            go_wp2_with fail
            go_ret
            exact ⟨rfl, bel_trans HB.out hb⟩
  | some ad =>
    go_enter Tryd.func8, Tryd.ntmps8
    go_upto_region 4 with fail
    go_cut [7] (fun s w' => ∃ s' : Value, s = s' ∧ Hid (Rul s' (rs ++ [(⟨na, fr, ut, mo, kk, ww, dd, sec, base, 0, le⟩ : Ru)]) w') ∧ Hid (Below (W.alloc (.cells #[.string na, .int .i64 fr, .int .i64 ut, .int .i64 mo, .int .i64 kk, .int .i64 ww, .int .i64 dd, .int .i64 sec, .int .i64 base, .int .i64 0, .string le] 34)).heap.size (W.alloc (.cells #[.string na, .int .i64 fr, .int .i64 ut, .int .i64 mo, .int .i64 kk, .int .i64 ww, .int .i64 dd, .int .i64 sec, .int .i64 base, .int .i64 0, .string le] 34)) w'))
    case first =>
      have HBc := Lib.hid (Below.drew (Below.refl (W.alloc (.cells #[.string na, .int .i64 fr, .int .i64 ut, .int .i64 mo, .int .i64 kk, .int .i64 ww, .int .i64 dd, .int .i64 sec, .int .i64 base, .int .i64 0, .string le] 34)).heap.size (W.alloc (.cells #[.string na, .int .i64 fr, .int .i64 ut, .int .i64 mo, .int .i64 kk, .int .i64 ww, .int .i64 dd, .int .i64 sec, .int .i64 base, .int .i64 0, .string le] 34))))
      have HSc := Lib.hid (show (W.alloc (.cells #[.string na, .int .i64 fr, .int .i64 ut, .int .i64 mo, .int .i64 kk, .int .i64 ww, .int .i64 dd, .int .i64 sec, .int .i64 base, .int .i64 0, .string le] 34)).drew.heap[W.heap.size]? = some (.cells #[.string na, .int .i64 fr, .int .i64 ut, .int .i64 mo, .int .i64 kk, .int .i64 ww, .int .i64 dd, .int .i64 sec, .int .i64 base, .int .i64 0, .string le] 34) from heap_alloc_new W (.cells #[.string na, .int .i64 fr, .int .i64 ut, .int .i64 mo, .int .i64 kk, .int .i64 ww, .int .i64 dd, .int .i64 sec, .int .i64 base, .int .i64 0, .string le] 34))
      go_wp2_with fail
      refine wp_region_held_drew (S := (fun w' => w'.cell? ⟨W.heap.size, 0, none⟩ = some (.string na) ∧ w'.cell? ⟨W.heap.size, 1, none⟩ = some (.int .i64 fr) ∧ w'.cell? ⟨W.heap.size, 2, none⟩ = some (.int .i64 ut) ∧ w'.cell? ⟨W.heap.size, 3, none⟩ = some (.int .i64 mo) ∧ w'.cell? ⟨W.heap.size, 4, none⟩ = some (.int .i64 kk) ∧ w'.cell? ⟨W.heap.size, 5, none⟩ = some (.int .i64 ww) ∧ w'.cell? ⟨W.heap.size, 6, none⟩ = some (.int .i64 dd) ∧ w'.cell? ⟨W.heap.size, 7, none⟩ = some (.int .i64 sec) ∧ w'.cell? ⟨W.heap.size, 8, none⟩ = some (.int .i64 base) ∧ w'.cell? ⟨W.heap.size, 9, none⟩ = some (.int .i64 0) ∧ w'.cell? ⟨W.heap.size, 10, none⟩ = some (.string le))) (by kernel_rfl) (by exact cells11x HSc.out) (fun hHeld => ?_)
      refine wpAnyH_take (i := 1) (v := ?_) rfl (by kernel_rfl) (by kernel_rfl) (by kernel_rfl) (fun _ _ _ h => h) (Or.inl ⟨by rfl, ?_⟩) (by assumption) ?_
      rotate_left 1
      · (intro w hSw; (try dsimp only at hSw); first | (go_simp; done) | (go_simp; with_reducible rfl))
      try simp only [Act.put, List.getElem_toArray, List.getElem_cons_succ, List.getElem_cons_zero, List.setIfInBounds_toArray, List.set_cons_zero, List.set_cons_succ]
      refine wpAnyH_take (i := 3) (v := ?_) rfl (by kernel_rfl) (by kernel_rfl) (by kernel_rfl) (fun _ _ _ h => h) (Or.inl ⟨by rfl, ?_⟩) (by assumption) ?_
      rotate_left 1
      · (intro w hSw; (try dsimp only at hSw); first | (go_simp; done) | (go_simp; with_reducible rfl))
      try simp only [Act.put, List.getElem_toArray, List.getElem_cons_succ, List.getElem_cons_zero, List.setIfInBounds_toArray, List.set_cons_zero, List.set_cons_succ]
      refine wpAnyH_ready (rs := [0, 4]) (by kernel_rfl) (by simp) ?_
      refine AllReadyH.cons rfl (fun K hK => ?_) (AllReadyH.cons rfl (fun K hK => ?_) AllReadyH.nil)
      · skip
        go_simp
        refine hK.out _ _ ?_ (fun hHeld => ?_)
        · exact cells11x (block_below HSc.out (bel_alloc _ _))
        clear hK K
        try simp only [Act.put, List.getElem_toArray, List.getElem_cons_succ, List.getElem_cons_zero, List.setIfInBounds_toArray, List.set_cons_zero, List.set_cons_succ]
        have HOc := Lib.hid (show ((W.alloc (.cells #[.string na, .int .i64 fr, .int .i64 ut, .int .i64 mo, .int .i64 kk, .int .i64 ww, .int .i64 dd, .int .i64 sec, .int .i64 base, .int .i64 0, .string le] 34)).drew.alloc (.cells #[] 34)).ownsRow (W.heap.size + 1) 34 11 (.slice (some ⟨W.heap.size + 1, 0, none⟩) 0 0) 0 [] from own_none_at (by first | rfl | simp) (by rw [← HS1.out]; exact HBc.out.size))
        have HSc := Lib.hid (block_below HSc.out (bel_alloc (W.alloc (.cells #[.string na, .int .i64 fr, .int .i64 ut, .int .i64 mo, .int .i64 kk, .int .i64 ww, .int .i64 dd, .int .i64 sec, .int .i64 base, .int .i64 0, .string le] 34)).drew (.cells #[] 34)))
        have HBc := Lib.hid (bel_trans HBc.out (bel_alloc (W.alloc (.cells #[.string na, .int .i64 fr, .int .i64 ut, .int .i64 mo, .int .i64 kk, .int .i64 ww, .int .i64 dd, .int .i64 sec, .int .i64 base, .int .i64 0, .string le] 34)).drew (.cells #[] 34)))
        refine wpAnyH_ready (rs := [2, 4]) (by kernel_rfl) (by simp) ?_
        refine AllReadyH.cons rfl (fun K hK => ?_) (AllReadyH.cons rfl (fun K hK => ?_) AllReadyH.nil)
        · skip
          rw [if_pos (by rfl)]
          refine wp_append_own (w := ((W.alloc (.cells #[.string na, .int .i64 fr, .int .i64 ut, .int .i64 mo, .int .i64 kk, .int .i64 ww, .int .i64 dd, .int .i64 sec, .int .i64 base, .int .i64 0, .string le] 34)).drew.alloc (.cells #[] 34))) (.tmp 17) (.tmp 18) 22 rfl (W.heap.size + 1) 34 i0 (.agg #[.string ⟨#[]⟩, .int .i64 0, .int .i64 0, .int .i64 0, .int .i64 0, .int .i64 0, .int .i64 0, .int .i64 0, .int .i64 0, .int .i64 0, .string ⟨#[]⟩]) 11 104 Tryd.underlying22 hi hz0 hzs hzb rfl (by decide) _ 0 [] (by rfl) HOc.out ad n cap (flatRu rs) (by rfl) (by rw [flatRu_len, HN.out]) (fun j u hu => cell_below (bel_trans (bel_alloc W (.cells #[.string na, .int .i64 fr, .int .i64 ut, .int .i64 mo, .int .i64 kk, .int .i64 ww, .int .i64 dd, .int .i64 sec, .int .i64 base, .int .i64 0, .string le] 34)) HBc.out) (H.out.news j u hu)) (flat_one rs) (by unfold maxLen; omega) (by omega) (by rw [← HS1.out]; exact HBc.out.size) ?_
          intro s1 v2 hown1 hgrow1 hnil1
          have HSn := Lib.hid (show v2.heap[W.heap.size]? = some (.cells #[.string na, .int .i64 fr, .int .i64 ut, .int .i64 mo, .int .i64 kk, .int .i64 ww, .int .i64 dd, .int .i64 sec, .int .i64 base, .int .i64 0, .string le] 34) by rw [hgrow1.block W.heap.size (Array.getElem?_eq_some_iff.1 HSc.out).1 (row_ne HOc.out (.inl (Nat.lt_succ_self _)))]; exact HSc.out)
          have HBn := Lib.hid (Below.grown (B := (W.alloc (.cells #[.string na, .int .i64 fr, .int .i64 ut, .int .i64 mo, .int .i64 kk, .int .i64 ww, .int .i64 dd, .int .i64 sec, .int .i64 base, .int .i64 0, .string le] 34)).heap.size) HBc.out hgrow1 HBc.out.size (fun k hk => by rw [HS1.out]; exact (HOc.out.lt k hk).1))
          refine hK.out _ _ ?_ (fun hHeld => ?_)
          · exact cells11x HSn.out
          clear hK K
          try simp only [Act.put, List.getElem_toArray, List.getElem_cons_succ, List.getElem_cons_zero, List.setIfInBounds_toArray, List.set_cons_zero, List.set_cons_succ]
          have HSc := HSn
          have HBc := HBn
          have HOc := Lib.hid hown1
          rw [Nat.zero_add, _root_.List.nil_append] at HOc
          clear hown1 hgrow1 hnil1 HSn HBn
          refine wpAnyH_ready (rs := [4]) (by kernel_rfl) (by simp) ?_
          refine AllReadyH.cons rfl (fun K hK => ?_) AllReadyH.nil
          go_simp
          refine hK.out _ _ ?_ (fun hHeld => ?_)
          · exact cells11x (block_below HSc.out (bel_alloc _ _))
          clear hK K
          try simp only [Act.put, List.getElem_toArray, List.getElem_cons_succ, List.getElem_cons_zero, List.setIfInBounds_toArray, List.set_cons_zero, List.set_cons_succ]
          obtain ⟨bq, hbq⟩ : ∃ bq, bq = v2.heap.size := ⟨_, rfl⟩
          have HQc := Lib.hid (show (v2.alloc (.cells #[.string na, .int .i64 fr, .int .i64 ut, .int .i64 mo, .int .i64 kk, .int .i64 ww, .int .i64 dd, .int .i64 sec, .int .i64 base, .int .i64 0, .string le] 34)).heap[bq]? = some (.cells #[.string na, .int .i64 fr, .int .i64 ut, .int .i64 mo, .int .i64 kk, .int .i64 ww, .int .i64 dd, .int .i64 sec, .int .i64 base, .int .i64 0, .string le] 34) from new_atx (w := v2) (.cells #[.string na, .int .i64 fr, .int .i64 ut, .int .i64 mo, .int .i64 kk, .int .i64 ww, .int .i64 dd, .int .i64 sec, .int .i64 base, .int .i64 0, .string le] 34) (hbq.trans (by first | rfl | simp)))
          have HNE := Lib.hid (row_ne HOc.out (b := bq) (.inr (Nat.le_of_eq (hbq.trans (by first | rfl | simp)).symm)))
          have HOc := Lib.hid (own_below HOc.out (bel_alloc v2 (.cells #[.string na, .int .i64 fr, .int .i64 ut, .int .i64 mo, .int .i64 kk, .int .i64 ww, .int .i64 dd, .int .i64 sec, .int .i64 base, .int .i64 0, .string le] 34)))
          have HSc := Lib.hid (block_below HSc.out (bel_alloc v2 (.cells #[.string na, .int .i64 fr, .int .i64 ut, .int .i64 mo, .int .i64 kk, .int .i64 ww, .int .i64 dd, .int .i64 sec, .int .i64 base, .int .i64 0, .string le] 34)))
          have HBc := Lib.hid (bel_trans HBc.out (bel_alloc v2 (.cells #[.string na, .int .i64 fr, .int .i64 ut, .int .i64 mo, .int .i64 kk, .int .i64 ww, .int .i64 dd, .int .i64 sec, .int .i64 base, .int .i64 0, .string le] 34)))
          rw [← hbq]
          clear hbq
          refine wpAnyH_ready (rs := [5]) (by kernel_rfl) (by simp) ?_
          refine AllReadyH.cons rfl (fun K hK => ?_) AllReadyH.nil
          rw [if_pos (by rfl)]
          refine wp_append_own (w := (v2.alloc (.cells #[.string na, .int .i64 fr, .int .i64 ut, .int .i64 mo, .int .i64 kk, .int .i64 ww, .int .i64 dd, .int .i64 sec, .int .i64 base, .int .i64 0, .string le] 34))) (.tmp 19) (.tmp 21) 22 rfl (W.heap.size + 1) 34 i0 (.agg #[.string ⟨#[]⟩, .int .i64 0, .int .i64 0, .int .i64 0, .int .i64 0, .int .i64 0, .int .i64 0, .int .i64 0, .int .i64 0, .int .i64 0, .string ⟨#[]⟩]) 11 104 Tryd.underlying22 hi hz0 hzs hzb rfl (by decide) _ n (flatRu rs) (by rfl) HOc.out ⟨bq, 0, none⟩ 1 1 [.string na, .int .i64 fr, .int .i64 ut, .int .i64 mo, .int .i64 kk, .int .i64 ww, .int .i64 dd, .int .i64 sec, .int .i64 base, .int .i64 0, .string le] (by rfl) (by rfl) (World.news_of_block HQc.out) (by intro u hu; simp at hu; rcases hu with rfl | rfl | rfl | rfl | rfl | rfl | rfl | rfl | rfl | rfl | rfl <;> rfl) (by unfold maxLen; omega) (by omega) (by rw [← HS1.out]; exact HBc.out.size) ?_
          intro s2 vz hown2 hgrow2 hnil2
          have HSn := Lib.hid (show vz.heap[W.heap.size]? = some (.cells #[.string na, .int .i64 fr, .int .i64 ut, .int .i64 mo, .int .i64 kk, .int .i64 ww, .int .i64 dd, .int .i64 sec, .int .i64 base, .int .i64 0, .string le] 34) by rw [hgrow2.block W.heap.size (Array.getElem?_eq_some_iff.1 HSc.out).1 (row_ne HOc.out (.inl (Nat.lt_succ_self _)))]; exact HSc.out)
          have HBn := Lib.hid (Below.grown (B := (W.alloc (.cells #[.string na, .int .i64 fr, .int .i64 ut, .int .i64 mo, .int .i64 kk, .int .i64 ww, .int .i64 dd, .int .i64 sec, .int .i64 base, .int .i64 0, .string le] 34)).heap.size) HBc.out hgrow2 HBc.out.size (fun k hk => by rw [HS1.out]; exact (HOc.out.lt k hk).1))
          refine hK.out _ _ ?_ (fun hHeld => ?_)
          · exact cells11x HSn.out
          clear hK K
          try simp only [Act.put, List.getElem_toArray, List.getElem_cons_succ, List.getElem_cons_zero, List.setIfInBounds_toArray, List.set_cons_zero, List.set_cons_succ]
          have HRn := Lib.hid (show Rul s2 (rs ++ [(⟨na, fr, ut, mo, kk, ww, dd, sec, base, 0, le⟩ : Ru)]) vz from rul_of_own (by rw [flatRu_more, _root_.List.length_append, ← HN.out]; simpa [flatRu, Ru.arr] using hown2) (by rw [_root_.List.length_append, ← HN.out]; simp <;> omega) HF.out)
          refine wpAnyH_take (i := 6) (v := ?_) rfl (by kernel_rfl) (by kernel_rfl) (by kernel_rfl) (fun _ _ _ h => h) (Or.inl ⟨by rfl, ?_⟩) (by assumption) ?_
          rotate_left 1
          · (intro w hSw; (try dsimp only at hSw); first | (go_simp; done) | (go_simp; with_reducible rfl))
          try simp only [Act.put, List.getElem_toArray, List.getElem_cons_succ, List.getElem_cons_zero, List.setIfInBounds_toArray, List.set_cons_zero, List.set_cons_succ]
          refine wpAnyH_done (by kernel_rfl) ?_ _
          go_wp2_with fail
          go_meet
          case rel => exact ⟨s2, rfl, HRn, HBn⟩
        · skip
          go_simp
          refine hK.out _ _ ?_ (fun hHeld => ?_)
          · exact cells11x (block_below HSc.out (bel_alloc _ _))
          clear hK K
          try simp only [Act.put, List.getElem_toArray, List.getElem_cons_succ, List.getElem_cons_zero, List.setIfInBounds_toArray, List.set_cons_zero, List.set_cons_succ]
          obtain ⟨bq, hbq⟩ : ∃ bq, bq = W.heap.size + 1 + 1 := ⟨_, rfl⟩
          have HQc := Lib.hid (show (((W.alloc (.cells #[.string na, .int .i64 fr, .int .i64 ut, .int .i64 mo, .int .i64 kk, .int .i64 ww, .int .i64 dd, .int .i64 sec, .int .i64 base, .int .i64 0, .string le] 34)).drew.alloc (.cells #[] 34)).alloc (.cells #[.string na, .int .i64 fr, .int .i64 ut, .int .i64 mo, .int .i64 kk, .int .i64 ww, .int .i64 dd, .int .i64 sec, .int .i64 base, .int .i64 0, .string le] 34)).heap[bq]? = some (.cells #[.string na, .int .i64 fr, .int .i64 ut, .int .i64 mo, .int .i64 kk, .int .i64 ww, .int .i64 dd, .int .i64 sec, .int .i64 base, .int .i64 0, .string le] 34) from new_atx (w := ((W.alloc (.cells #[.string na, .int .i64 fr, .int .i64 ut, .int .i64 mo, .int .i64 kk, .int .i64 ww, .int .i64 dd, .int .i64 sec, .int .i64 base, .int .i64 0, .string le] 34)).drew.alloc (.cells #[] 34))) (.cells #[.string na, .int .i64 fr, .int .i64 ut, .int .i64 mo, .int .i64 kk, .int .i64 ww, .int .i64 dd, .int .i64 sec, .int .i64 base, .int .i64 0, .string le] 34) (hbq.trans (by first | rfl | simp)))
          have HNE := Lib.hid (row_ne HOc.out (b := bq) (.inr (Nat.le_of_eq (hbq.trans (by first | rfl | simp)).symm)))
          have HOc := Lib.hid (own_below HOc.out (bel_alloc ((W.alloc (.cells #[.string na, .int .i64 fr, .int .i64 ut, .int .i64 mo, .int .i64 kk, .int .i64 ww, .int .i64 dd, .int .i64 sec, .int .i64 base, .int .i64 0, .string le] 34)).drew.alloc (.cells #[] 34)) (.cells #[.string na, .int .i64 fr, .int .i64 ut, .int .i64 mo, .int .i64 kk, .int .i64 ww, .int .i64 dd, .int .i64 sec, .int .i64 base, .int .i64 0, .string le] 34)))
          have HSc := Lib.hid (block_below HSc.out (bel_alloc ((W.alloc (.cells #[.string na, .int .i64 fr, .int .i64 ut, .int .i64 mo, .int .i64 kk, .int .i64 ww, .int .i64 dd, .int .i64 sec, .int .i64 base, .int .i64 0, .string le] 34)).drew.alloc (.cells #[] 34)) (.cells #[.string na, .int .i64 fr, .int .i64 ut, .int .i64 mo, .int .i64 kk, .int .i64 ww, .int .i64 dd, .int .i64 sec, .int .i64 base, .int .i64 0, .string le] 34)))
          have HBc := Lib.hid (bel_trans HBc.out (bel_alloc ((W.alloc (.cells #[.string na, .int .i64 fr, .int .i64 ut, .int .i64 mo, .int .i64 kk, .int .i64 ww, .int .i64 dd, .int .i64 sec, .int .i64 base, .int .i64 0, .string le] 34)).drew.alloc (.cells #[] 34)) (.cells #[.string na, .int .i64 fr, .int .i64 ut, .int .i64 mo, .int .i64 kk, .int .i64 ww, .int .i64 dd, .int .i64 sec, .int .i64 base, .int .i64 0, .string le] 34)))
          rw [← hbq]
          clear hbq
          refine wpAnyH_ready (rs := [2]) (by kernel_rfl) (by simp) ?_
          refine AllReadyH.cons rfl (fun K hK => ?_) AllReadyH.nil
          rw [if_pos (by rfl)]
          refine wp_append_own (w := (((W.alloc (.cells #[.string na, .int .i64 fr, .int .i64 ut, .int .i64 mo, .int .i64 kk, .int .i64 ww, .int .i64 dd, .int .i64 sec, .int .i64 base, .int .i64 0, .string le] 34)).drew.alloc (.cells #[] 34)).alloc (.cells #[.string na, .int .i64 fr, .int .i64 ut, .int .i64 mo, .int .i64 kk, .int .i64 ww, .int .i64 dd, .int .i64 sec, .int .i64 base, .int .i64 0, .string le] 34))) (.tmp 17) (.tmp 18) 22 rfl (W.heap.size + 1) 34 i0 (.agg #[.string ⟨#[]⟩, .int .i64 0, .int .i64 0, .int .i64 0, .int .i64 0, .int .i64 0, .int .i64 0, .int .i64 0, .int .i64 0, .int .i64 0, .string ⟨#[]⟩]) 11 104 Tryd.underlying22 hi hz0 hzs hzb rfl (by decide) _ 0 [] (by rfl) HOc.out ad n cap (flatRu rs) (by rfl) (by rw [flatRu_len, HN.out]) (fun j u hu => cell_below (bel_trans (bel_alloc W (.cells #[.string na, .int .i64 fr, .int .i64 ut, .int .i64 mo, .int .i64 kk, .int .i64 ww, .int .i64 dd, .int .i64 sec, .int .i64 base, .int .i64 0, .string le] 34)) HBc.out) (H.out.news j u hu)) (flat_one rs) (by unfold maxLen; omega) (by omega) (by rw [← HS1.out]; exact HBc.out.size) ?_
          intro s1 v3 hown1 hgrow1 hnil1
          have HSn := Lib.hid (show v3.heap[W.heap.size]? = some (.cells #[.string na, .int .i64 fr, .int .i64 ut, .int .i64 mo, .int .i64 kk, .int .i64 ww, .int .i64 dd, .int .i64 sec, .int .i64 base, .int .i64 0, .string le] 34) by rw [hgrow1.block W.heap.size (Array.getElem?_eq_some_iff.1 HSc.out).1 (row_ne HOc.out (.inl (Nat.lt_succ_self _)))]; exact HSc.out)
          have HBn := Lib.hid (Below.grown (B := (W.alloc (.cells #[.string na, .int .i64 fr, .int .i64 ut, .int .i64 mo, .int .i64 kk, .int .i64 ww, .int .i64 dd, .int .i64 sec, .int .i64 base, .int .i64 0, .string le] 34)).heap.size) HBc.out hgrow1 HBc.out.size (fun k hk => by rw [HS1.out]; exact (HOc.out.lt k hk).1))
          have HQn := Lib.hid (show v3.heap[bq]? = some (.cells #[.string na, .int .i64 fr, .int .i64 ut, .int .i64 mo, .int .i64 kk, .int .i64 ww, .int .i64 dd, .int .i64 sec, .int .i64 base, .int .i64 0, .string le] 34) by rw [hgrow1.block bq (Array.getElem?_eq_some_iff.1 HQc.out).1 HNE.out]; exact HQc.out)
          refine hK.out _ _ ?_ (fun hHeld => ?_)
          · exact cells11x HSn.out
          clear hK K
          try simp only [Act.put, List.getElem_toArray, List.getElem_cons_succ, List.getElem_cons_zero, List.setIfInBounds_toArray, List.set_cons_zero, List.set_cons_succ]
          have HSc := HSn
          have HBc := HBn
          have HQc := HQn
          have HOc := Lib.hid hown1
          rw [Nat.zero_add, _root_.List.nil_append] at HOc
          clear hown1 hgrow1 hnil1 HSn HBn
          refine wpAnyH_ready (rs := [5]) (by kernel_rfl) (by simp) ?_
          refine AllReadyH.cons rfl (fun K hK => ?_) AllReadyH.nil
          rw [if_pos (by rfl)]
          refine wp_append_own (w := v3) (.tmp 19) (.tmp 21) 22 rfl (W.heap.size + 1) 34 i0 (.agg #[.string ⟨#[]⟩, .int .i64 0, .int .i64 0, .int .i64 0, .int .i64 0, .int .i64 0, .int .i64 0, .int .i64 0, .int .i64 0, .int .i64 0, .string ⟨#[]⟩]) 11 104 Tryd.underlying22 hi hz0 hzs hzb rfl (by decide) _ n (flatRu rs) (by rfl) HOc.out ⟨bq, 0, none⟩ 1 1 [.string na, .int .i64 fr, .int .i64 ut, .int .i64 mo, .int .i64 kk, .int .i64 ww, .int .i64 dd, .int .i64 sec, .int .i64 base, .int .i64 0, .string le] (by rfl) (by rfl) (World.news_of_block HQc.out) (by intro u hu; simp at hu; rcases hu with rfl | rfl | rfl | rfl | rfl | rfl | rfl | rfl | rfl | rfl | rfl <;> rfl) (by unfold maxLen; omega) (by omega) (by rw [← HS1.out]; exact HBc.out.size) ?_
          intro s2 vz hown2 hgrow2 hnil2
          have HSn := Lib.hid (show vz.heap[W.heap.size]? = some (.cells #[.string na, .int .i64 fr, .int .i64 ut, .int .i64 mo, .int .i64 kk, .int .i64 ww, .int .i64 dd, .int .i64 sec, .int .i64 base, .int .i64 0, .string le] 34) by rw [hgrow2.block W.heap.size (Array.getElem?_eq_some_iff.1 HSc.out).1 (row_ne HOc.out (.inl (Nat.lt_succ_self _)))]; exact HSc.out)
          have HBn := Lib.hid (Below.grown (B := (W.alloc (.cells #[.string na, .int .i64 fr, .int .i64 ut, .int .i64 mo, .int .i64 kk, .int .i64 ww, .int .i64 dd, .int .i64 sec, .int .i64 base, .int .i64 0, .string le] 34)).heap.size) HBc.out hgrow2 HBc.out.size (fun k hk => by rw [HS1.out]; exact (HOc.out.lt k hk).1))
          refine hK.out _ _ ?_ (fun hHeld => ?_)
          · exact cells11x HSn.out
          clear hK K
          try simp only [Act.put, List.getElem_toArray, List.getElem_cons_succ, List.getElem_cons_zero, List.setIfInBounds_toArray, List.set_cons_zero, List.set_cons_succ]
          have HRn := Lib.hid (show Rul s2 (rs ++ [(⟨na, fr, ut, mo, kk, ww, dd, sec, base, 0, le⟩ : Ru)]) vz from rul_of_own (by rw [flatRu_more, _root_.List.length_append, ← HN.out]; simpa [flatRu, Ru.arr] using hown2) (by rw [_root_.List.length_append, ← HN.out]; simp <;> omega) HF.out)
          refine wpAnyH_take (i := 6) (v := ?_) rfl (by kernel_rfl) (by kernel_rfl) (by kernel_rfl) (fun _ _ _ h => h) (Or.inl ⟨by rfl, ?_⟩) (by assumption) ?_
          rotate_left 1
          · (intro w hSw; (try dsimp only at hSw); first | (go_simp; done) | (go_simp; with_reducible rfl))
          try simp only [Act.put, List.getElem_toArray, List.getElem_cons_succ, List.getElem_cons_zero, List.setIfInBounds_toArray, List.set_cons_zero, List.set_cons_succ]
          refine wpAnyH_done (by kernel_rfl) ?_ _
          go_wp2_with fail
          go_meet
          case rel => exact ⟨s2, rfl, HRn, HBn⟩
      · skip
        go_simp
        refine hK.out _ _ ?_ (fun hHeld => ?_)
        · exact cells11x (block_below HSc.out (bel_alloc _ _))
        clear hK K
        try simp only [Act.put, List.getElem_toArray, List.getElem_cons_succ, List.getElem_cons_zero, List.setIfInBounds_toArray, List.set_cons_zero, List.set_cons_succ]
        obtain ⟨bq, hbq⟩ : ∃ bq, bq = W.heap.size + 1 := ⟨_, rfl⟩
        have HQc := Lib.hid (show ((W.alloc (.cells #[.string na, .int .i64 fr, .int .i64 ut, .int .i64 mo, .int .i64 kk, .int .i64 ww, .int .i64 dd, .int .i64 sec, .int .i64 base, .int .i64 0, .string le] 34)).drew.alloc (.cells #[.string na, .int .i64 fr, .int .i64 ut, .int .i64 mo, .int .i64 kk, .int .i64 ww, .int .i64 dd, .int .i64 sec, .int .i64 base, .int .i64 0, .string le] 34)).heap[bq]? = some (.cells #[.string na, .int .i64 fr, .int .i64 ut, .int .i64 mo, .int .i64 kk, .int .i64 ww, .int .i64 dd, .int .i64 sec, .int .i64 base, .int .i64 0, .string le] 34) from new_atx (w := (W.alloc (.cells #[.string na, .int .i64 fr, .int .i64 ut, .int .i64 mo, .int .i64 kk, .int .i64 ww, .int .i64 dd, .int .i64 sec, .int .i64 base, .int .i64 0, .string le] 34)).drew) (.cells #[.string na, .int .i64 fr, .int .i64 ut, .int .i64 mo, .int .i64 kk, .int .i64 ww, .int .i64 dd, .int .i64 sec, .int .i64 base, .int .i64 0, .string le] 34) (hbq.trans (by first | rfl | simp)))
        have HSc := Lib.hid (block_below HSc.out (bel_alloc (W.alloc (.cells #[.string na, .int .i64 fr, .int .i64 ut, .int .i64 mo, .int .i64 kk, .int .i64 ww, .int .i64 dd, .int .i64 sec, .int .i64 base, .int .i64 0, .string le] 34)).drew (.cells #[.string na, .int .i64 fr, .int .i64 ut, .int .i64 mo, .int .i64 kk, .int .i64 ww, .int .i64 dd, .int .i64 sec, .int .i64 base, .int .i64 0, .string le] 34)))
        have HBc := Lib.hid (bel_trans HBc.out (bel_alloc (W.alloc (.cells #[.string na, .int .i64 fr, .int .i64 ut, .int .i64 mo, .int .i64 kk, .int .i64 ww, .int .i64 dd, .int .i64 sec, .int .i64 base, .int .i64 0, .string le] 34)).drew (.cells #[.string na, .int .i64 fr, .int .i64 ut, .int .i64 mo, .int .i64 kk, .int .i64 ww, .int .i64 dd, .int .i64 sec, .int .i64 base, .int .i64 0, .string le] 34)))
        rw [← hbq]
        clear hbq
        refine wpAnyH_ready (rs := [0]) (by kernel_rfl) (by simp) ?_
        refine AllReadyH.cons rfl (fun K hK => ?_) AllReadyH.nil
        go_simp
        refine hK.out _ _ ?_ (fun hHeld => ?_)
        · exact cells11x (block_below HSc.out (bel_alloc _ _))
        clear hK K
        try simp only [Act.put, List.getElem_toArray, List.getElem_cons_succ, List.getElem_cons_zero, List.setIfInBounds_toArray, List.set_cons_zero, List.set_cons_succ]
        have HOc := Lib.hid (show (((W.alloc (.cells #[.string na, .int .i64 fr, .int .i64 ut, .int .i64 mo, .int .i64 kk, .int .i64 ww, .int .i64 dd, .int .i64 sec, .int .i64 base, .int .i64 0, .string le] 34)).drew.alloc (.cells #[.string na, .int .i64 fr, .int .i64 ut, .int .i64 mo, .int .i64 kk, .int .i64 ww, .int .i64 dd, .int .i64 sec, .int .i64 base, .int .i64 0, .string le] 34)).alloc (.cells #[] 34)).ownsRow (W.heap.size + 1) 34 11 (.slice (some ⟨W.heap.size + 1 + 1, 0, none⟩) 0 0) 0 [] from own_none_at (by first | rfl | simp) (by rw [← HS1.out]; exact HBc.out.size))
        have HNE := Lib.hid (show some bq ≠ (Value.slice (some ⟨W.heap.size + 1 + 1, 0, none⟩) 0 0).ownBlock from fun e => by have h1 := (Array.getElem?_eq_some_iff.1 HQc.out).1; have h2 : bq = W.heap.size + 1 + 1 := (by simpa [Value.ownBlock] using e); rw [h2] at h1; simp at h1)
        have HSc := Lib.hid (block_below HSc.out (bel_alloc ((W.alloc (.cells #[.string na, .int .i64 fr, .int .i64 ut, .int .i64 mo, .int .i64 kk, .int .i64 ww, .int .i64 dd, .int .i64 sec, .int .i64 base, .int .i64 0, .string le] 34)).drew.alloc (.cells #[.string na, .int .i64 fr, .int .i64 ut, .int .i64 mo, .int .i64 kk, .int .i64 ww, .int .i64 dd, .int .i64 sec, .int .i64 base, .int .i64 0, .string le] 34)) (.cells #[] 34)))
        have HBc := Lib.hid (bel_trans HBc.out (bel_alloc ((W.alloc (.cells #[.string na, .int .i64 fr, .int .i64 ut, .int .i64 mo, .int .i64 kk, .int .i64 ww, .int .i64 dd, .int .i64 sec, .int .i64 base, .int .i64 0, .string le] 34)).drew.alloc (.cells #[.string na, .int .i64 fr, .int .i64 ut, .int .i64 mo, .int .i64 kk, .int .i64 ww, .int .i64 dd, .int .i64 sec, .int .i64 base, .int .i64 0, .string le] 34)) (.cells #[] 34)))
        have HQc := Lib.hid (block_below HQc.out (bel_alloc ((W.alloc (.cells #[.string na, .int .i64 fr, .int .i64 ut, .int .i64 mo, .int .i64 kk, .int .i64 ww, .int .i64 dd, .int .i64 sec, .int .i64 base, .int .i64 0, .string le] 34)).drew.alloc (.cells #[.string na, .int .i64 fr, .int .i64 ut, .int .i64 mo, .int .i64 kk, .int .i64 ww, .int .i64 dd, .int .i64 sec, .int .i64 base, .int .i64 0, .string le] 34)) (.cells #[] 34)))
        refine wpAnyH_ready (rs := [2]) (by kernel_rfl) (by simp) ?_
        refine AllReadyH.cons rfl (fun K hK => ?_) AllReadyH.nil
        rw [if_pos (by rfl)]
        refine wp_append_own (w := (((W.alloc (.cells #[.string na, .int .i64 fr, .int .i64 ut, .int .i64 mo, .int .i64 kk, .int .i64 ww, .int .i64 dd, .int .i64 sec, .int .i64 base, .int .i64 0, .string le] 34)).drew.alloc (.cells #[.string na, .int .i64 fr, .int .i64 ut, .int .i64 mo, .int .i64 kk, .int .i64 ww, .int .i64 dd, .int .i64 sec, .int .i64 base, .int .i64 0, .string le] 34)).alloc (.cells #[] 34))) (.tmp 17) (.tmp 18) 22 rfl (W.heap.size + 1) 34 i0 (.agg #[.string ⟨#[]⟩, .int .i64 0, .int .i64 0, .int .i64 0, .int .i64 0, .int .i64 0, .int .i64 0, .int .i64 0, .int .i64 0, .int .i64 0, .string ⟨#[]⟩]) 11 104 Tryd.underlying22 hi hz0 hzs hzb rfl (by decide) _ 0 [] (by rfl) HOc.out ad n cap (flatRu rs) (by rfl) (by rw [flatRu_len, HN.out]) (fun j u hu => cell_below (bel_trans (bel_alloc W (.cells #[.string na, .int .i64 fr, .int .i64 ut, .int .i64 mo, .int .i64 kk, .int .i64 ww, .int .i64 dd, .int .i64 sec, .int .i64 base, .int .i64 0, .string le] 34)) HBc.out) (H.out.news j u hu)) (flat_one rs) (by unfold maxLen; omega) (by omega) (by rw [← HS1.out]; exact HBc.out.size) ?_
        intro s1 v3 hown1 hgrow1 hnil1
        have HSn := Lib.hid (show v3.heap[W.heap.size]? = some (.cells #[.string na, .int .i64 fr, .int .i64 ut, .int .i64 mo, .int .i64 kk, .int .i64 ww, .int .i64 dd, .int .i64 sec, .int .i64 base, .int .i64 0, .string le] 34) by rw [hgrow1.block W.heap.size (Array.getElem?_eq_some_iff.1 HSc.out).1 (row_ne HOc.out (.inl (Nat.lt_succ_self _)))]; exact HSc.out)
        have HBn := Lib.hid (Below.grown (B := (W.alloc (.cells #[.string na, .int .i64 fr, .int .i64 ut, .int .i64 mo, .int .i64 kk, .int .i64 ww, .int .i64 dd, .int .i64 sec, .int .i64 base, .int .i64 0, .string le] 34)).heap.size) HBc.out hgrow1 HBc.out.size (fun k hk => by rw [HS1.out]; exact (HOc.out.lt k hk).1))
        have HQn := Lib.hid (show v3.heap[bq]? = some (.cells #[.string na, .int .i64 fr, .int .i64 ut, .int .i64 mo, .int .i64 kk, .int .i64 ww, .int .i64 dd, .int .i64 sec, .int .i64 base, .int .i64 0, .string le] 34) by rw [hgrow1.block bq (Array.getElem?_eq_some_iff.1 HQc.out).1 HNE.out]; exact HQc.out)
        refine hK.out _ _ ?_ (fun hHeld => ?_)
        · exact cells11x HSn.out
        clear hK K
        try simp only [Act.put, List.getElem_toArray, List.getElem_cons_succ, List.getElem_cons_zero, List.setIfInBounds_toArray, List.set_cons_zero, List.set_cons_succ]
        have HSc := HSn
        have HBc := HBn
        have HQc := HQn
        have HOc := Lib.hid hown1
        rw [Nat.zero_add, _root_.List.nil_append] at HOc
        clear hown1 hgrow1 hnil1 HSn HBn
        refine wpAnyH_ready (rs := [5]) (by kernel_rfl) (by simp) ?_
        refine AllReadyH.cons rfl (fun K hK => ?_) AllReadyH.nil
        rw [if_pos (by rfl)]
        refine wp_append_own (w := v3) (.tmp 19) (.tmp 21) 22 rfl (W.heap.size + 1) 34 i0 (.agg #[.string ⟨#[]⟩, .int .i64 0, .int .i64 0, .int .i64 0, .int .i64 0, .int .i64 0, .int .i64 0, .int .i64 0, .int .i64 0, .int .i64 0, .string ⟨#[]⟩]) 11 104 Tryd.underlying22 hi hz0 hzs hzb rfl (by decide) _ n (flatRu rs) (by rfl) HOc.out ⟨bq, 0, none⟩ 1 1 [.string na, .int .i64 fr, .int .i64 ut, .int .i64 mo, .int .i64 kk, .int .i64 ww, .int .i64 dd, .int .i64 sec, .int .i64 base, .int .i64 0, .string le] (by rfl) (by rfl) (World.news_of_block HQc.out) (by intro u hu; simp at hu; rcases hu with rfl | rfl | rfl | rfl | rfl | rfl | rfl | rfl | rfl | rfl | rfl <;> rfl) (by unfold maxLen; omega) (by omega) (by rw [← HS1.out]; exact HBc.out.size) ?_
        intro s2 vz hown2 hgrow2 hnil2
        have HSn := Lib.hid (show vz.heap[W.heap.size]? = some (.cells #[.string na, .int .i64 fr, .int .i64 ut, .int .i64 mo, .int .i64 kk, .int .i64 ww, .int .i64 dd, .int .i64 sec, .int .i64 base, .int .i64 0, .string le] 34) by rw [hgrow2.block W.heap.size (Array.getElem?_eq_some_iff.1 HSc.out).1 (row_ne HOc.out (.inl (Nat.lt_succ_self _)))]; exact HSc.out)
        have HBn := Lib.hid (Below.grown (B := (W.alloc (.cells #[.string na, .int .i64 fr, .int .i64 ut, .int .i64 mo, .int .i64 kk, .int .i64 ww, .int .i64 dd, .int .i64 sec, .int .i64 base, .int .i64 0, .string le] 34)).heap.size) HBc.out hgrow2 HBc.out.size (fun k hk => by rw [HS1.out]; exact (HOc.out.lt k hk).1))
        refine hK.out _ _ ?_ (fun hHeld => ?_)
        · exact cells11x HSn.out
        clear hK K
        try simp only [Act.put, List.getElem_toArray, List.getElem_cons_succ, List.getElem_cons_zero, List.setIfInBounds_toArray, List.set_cons_zero, List.set_cons_succ]
        have HRn := Lib.hid (show Rul s2 (rs ++ [(⟨na, fr, ut, mo, kk, ww, dd, sec, base, 0, le⟩ : Ru)]) vz from rul_of_own (by rw [flatRu_more, _root_.List.length_append, ← HN.out]; simpa [flatRu, Ru.arr] using hown2) (by rw [_root_.List.length_append, ← HN.out]; simp <;> omega) HF.out)
        refine wpAnyH_take (i := 6) (v := ?_) rfl (by kernel_rfl) (by kernel_rfl) (by kernel_rfl) (fun _ _ _ h => h) (Or.inl ⟨by rfl, ?_⟩) (by assumption) ?_
        rotate_left 1
        · (intro w hSw; (try dsimp only at hSw); first | (go_simp; done) | (go_simp; with_reducible rfl))
        try simp only [Act.put, List.getElem_toArray, List.getElem_cons_succ, List.getElem_cons_zero, List.setIfInBounds_toArray, List.set_cons_zero, List.set_cons_succ]
        refine wpAnyH_done (by kernel_rfl) ?_ _
        go_wp2_with fail
        go_meet
        case rel => exact ⟨s2, rfl, HRn, HBn⟩
    case rest =>
      obtain ⟨s', rfl, hrm, hbw⟩ := hcut
      have HB := Lib.hid (bel_trans (bel_alloc W (.cells #[.string na, .int .i64 fr, .int .i64 ut, .int .i64 mo, .int .i64 kk, .int .i64 ww, .int .i64 dd, .int .i64 sec, .int .i64 base, .int .i64 0, .string le] 34)) hbw.out)
      have HM := hrm
      clear hbw
      go_wp2_with fail
      refine (apCheck_any _ rs _ (by exact HT.out.below HB.out) (by exact H.out.below HB.out)).mono ?_
      rintro e w3 ⟨o1, hp1, he, hb⟩
      obtain ⟨ay, ar, an, ac, hv⟩ := chkV_ex o1
      rw [hv] at he
      subst he
      have HB := Lib.hid (bel_trans (bel_trans HB.out hb) (bel_alloc w3 (.cells #[.int .i64 ay, .int .i64 ar, .int .i64 an] 25)))
      have HM := Lib.hid (Rul.below HM.out (bel_trans hb (bel_alloc w3 (.cells #[.int .i64 ay, .int .i64 ar, .int .i64 an] 25))))
      have HV1 := Lib.hid hv
      clear hb hv
      go_wp2_with fail
      refine (apCheck_any _ (rs ++ [(⟨na, fr, ut, mo, kk, ww, dd, sec, base, 0, le⟩ : Ru)]) _ (by exact HT.out.below HB.out) (by exact HM.out)).mono ?_
      rintro e w4 ⟨o2, hp2, he, hb⟩
      obtain ⟨zy, zr, zn, zc, hv⟩ := chkV_ex o2
      rw [hv] at he
      subst he
      have HB := Lib.hid (bel_trans (bel_trans HB.out hb) (bel_alloc w4 (.cells #[.int .i64 zy, .int .i64 zr, .int .i64 zn] 25)))
      have HM := Lib.hid (Rul.below HM.out (bel_trans hb (bel_alloc w4 (.cells #[.int .i64 zy, .int .i64 zr, .int .i64 zn] 25))))
      have HV2 := Lib.hid hv
      clear hb hv
      cases o1 with
      | none =>
        have hac : ac = 0 := by have h := HV1.out; simp [chkV] at h; omega
        subst hac
        clear hp1 hp2 HV1 HV2
        go_wp2_with fail
        refine (apFar_any _ rs N _ (by exact HT.out.below HB.out) (by exact H.out.below HB.out) (by omega) (by omega)).mono ?_
        rintro e w5 ⟨b1, hp, rfl, hb⟩
        have HB := Lib.hid (bel_trans HB.out hb)
        have HM := Lib.hid (Rul.below HM.out hb)
        clear hb
        cases b1 with
        | true =>
          clear hp
          go_wp2_with fail
          refine (works18_any _ (by exact HT.out.below HB.out)).mono ?_
          rintro e w6 ⟨rfl, hb⟩
          go_wp2_with fail
          go_ret
          exact ⟨rfl, bel_trans HB.out hb⟩
        | false =>
          have HNF := Lib.hid (show ¬ FarIs (rs ++ [(⟨na, fr, ut, mo, kk, ww, dd, sec, base, 0, le⟩ : Ru)]) N from fun h => by have := hp.out.2 (far_more rfl h); cases this)
          clear hp
          go_wp2_with fail
          refine (apFar_any _ (rs ++ [(⟨na, fr, ut, mo, kk, ww, dd, sec, base, 0, le⟩ : Ru)]) N _ (by exact HT.out.below HB.out) (by exact HM.out) (by omega) (by omega)).mono ?_
          intro e w6 hq; obtain ⟨rfl, hb⟩ := FarR.no HNF.out _ _ hq; clear hq
          have HB := Lib.hid (bel_trans HB.out hb)
          clear hb
          go_wp2_with fail
          refine (works18_any _ (by exact HT.out.below HB.out)).mono ?_
          rintro e w7 ⟨rfl, hb⟩
          go_wp2_with fail
          go_ret
          exact ⟨rfl, bel_trans HB.out hb⟩
      | some x1 =>
        have hac : ac = 13 := by have h := HV1.out; simp [chkV] at h; omega
        subst hac
        cases o2 with
        | none => exact (hp2.out x1 (close_more rfl hp1.out.1)).elim
        | some x2 =>
          have hzc : zc = 13 := by have h := HV2.out; simp [chkV] at h; omega
          subst hzc
          clear hp1 hp2 HV1 HV2
          go_wp2_with fail
          refine (apFar_any _ rs N _ (by exact HT.out.below HB.out) (by exact H.out.below HB.out) (by omega) (by omega)).mono ?_
          rintro e w5 ⟨b1, hp, rfl, hb⟩
          have HB := Lib.hid (bel_trans HB.out hb)
          have HM := Lib.hid (Rul.below HM.out hb)
          clear hb
          cases b1 with
          | true =>
            clear hp
            go_wp2_with fail
            refine (works18_any _ (by exact HT.out.below HB.out)).mono ?_
            rintro e w6 ⟨rfl, hb⟩
            go_wp2_with fail
            go_ret
            exact ⟨rfl, bel_trans HB.out hb⟩
          | false =>
            have HNF := Lib.hid (show ¬ FarIs (rs ++ [(⟨na, fr, ut, mo, kk, ww, dd, sec, base, 0, le⟩ : Ru)]) N from fun h => by have := hp.out.2 (far_more rfl h); cases this)
            clear hp
            go_wp2_with fail
            refine (apFar_any _ (rs ++ [(⟨na, fr, ut, mo, kk, ww, dd, sec, base, 0, le⟩ : Ru)]) N _ (by exact HT.out.below HB.out) (by exact HM.out) (by omega) (by omega)).mono ?_
            intro e w6 hq; obtain ⟨rfl, hb⟩ := FarR.no HNF.out _ _ hq; clear hq
            have HB := Lib.hid (bel_trans HB.out hb)
            clear hb
            go_wp2_with fail
            refine (works18_any _ (by exact HT.out.below HB.out)).mono ?_
            rintro e w7 ⟨rfl, hb⟩
            go_wp2_with fail
            go_ret
            exact ⟨rfl, bel_trans HB.out hb⟩

set_option maxRecDepth 100000 in
theorem apartMore.apartMore_walk (W : World) (hL : laidMetH Tryd.prog Rows.apartMoreRow.laid W) (v : Value) {H : Type} {enc : TypeId × Value → H} {base : Nat} {d : DataW H} {p : List MemPlace} (hv : Value.okWide Tryd.prog W .any base 22 v)
    (h : DataW.Trod enc Tryd.prog W 0 (fun _ => true) true 22 v d p) (q : Value) {base2 : Nat} {d2 : DataW H} {p2 : List MemPlace} (hv2 : Value.okWide Tryd.prog W .any base2 34 q)
    (h2 : DataW.Trod enc Tryd.prog W 0 (fun _ => true) true 34 q d2 p2) (N : Int) (wN : (Lit.int .i64 N).wf = true) :
    Calls Tryd.prog 8 #[v, q, .int .i64 N] W fun e w' => e = .returned (.bool true) ∧ Below W.heap.size W w' := by
  obtain ⟨hN1, hN2⟩ := fit_of wN
  obtain ⟨r, rfl, hf, _, _⟩ := rule_of hv2 h2
  obtain ⟨A, n, cap, rfl, hn, hrs⟩ := rules_of hv h
  by_cases h8 : n ≤ 5
  · obtain ⟨rs, hl, hR, _⟩ := hrs (by omega)
    exact apMore_core _ rs r.na r.fr r.ut r.mo r.k r.w r.d r.sec r.base r.save r.le N W ⟨tab_of hL, ktab_of hL⟩ hR (fun n cap e => nil_cap h e) (by omega) hf hN1 hN2
  · have HT := Lib.hid (show Tabs W from ⟨tab_of hL, ktab_of hL⟩)
    have hn8 : (5 : Int) < (n : Int) := by omega
    obtain ⟨na, fr, ut, mo, kk, ww, dd, sec, base, save, le⟩ := r
    unfold Ru.arr
    dsimp only
    have HB := Lib.hid (bel_alloc W (.cells #[.string na, .int .i64 fr, .int .i64 ut, .int .i64 mo, .int .i64 kk, .int .i64 ww, .int .i64 dd, .int .i64 sec, .int .i64 base, .int .i64 save, .string le] 34))
    clear hrs h hv hL h2 hv2
    go_enter Tryd.func8, Tryd.ntmps8
    go_wp2_with fail
    refine (works18_any _ (by exact HT.out.below HB.out)).mono ?_
    rintro e w' ⟨rfl, hb⟩
    go_wp2_with fail
    go_ret
    exact ⟨rfl, bel_trans HB.out hb⟩
end Go.Proofs.YtghmdaahmijdiaaDoor
