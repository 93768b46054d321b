/-
  The reference's Set.
-/
import Derived.Test.YtdlmlcgmonkdfaaShfRefE
namespace Go.Proofs.Ytdlmlcgmonkdfaa
open Go.RowKit Sh
set_option linter.unusedVariables false
set_option linter.unusedSimpArgs false

namespace Sh
theorem flatR_1 (r : Ru) : flatR [r] = r.arr.toList := by
  unfold flatR
  rw [_root_.List.flatMap_cons, _root_.List.flatMap_nil, _root_.List.append_nil]
/-- what Set answers -/
def setR (n : ByteArray) (x : Int) (s : Sou) : Sou := bif hasN n s.rs then s.shS n x else noS
def setE (n : ByteArray) (s : Sou) : Int := bif hasN n s.rs then 0 else 4
end Sh

set_option maxRecDepth 100000 in
set_option maxHeartbeats 8000000 in
theorem refSet_any (v1 v2 v3 v4 : Value) (s : Sou) (n : ByteArray) (x : Int) (W : World) (h : RdS v1 v2 v3 v4 s W) :
    Calls Try.prog 13 #[.agg #[v1, v2, v3, v4], .string n, .int .i64 x] W fun e w' => ∃ u1 u2 u3 u4, e = .returned (.tuple #[.agg #[u1, u2, u3, u4], .int .i64 (bif hasN n s.rs then 0 else 4)]) ∧ Hid (RdS u1 u2 u3 u4 (bif hasN n s.rs then s.shS n x else noS) w') ∧ Below W.heap.size W w' := by
  obtain ⟨A1, c1, A2, c2, A3, c3, A4, c4, rfl, rfl, rfl, rfl⟩ := h.sl
  have H := Lib.hid h
  have hl1 : s.rs.length ≤ 1000 := h.1.2.1
  clear h
  have hs1 : ∀ (V : World) (o : Obj), (V.alloc o).heap.size = V.heap.size + 1 := fun V o => by show (V.heap.push o).size = _; simp
  have K3 := Lib.hid (block_below (heap_alloc_new W (.cells #[.slice A1 s.rs.length c1, .slice A2 s.zs.length c2, .slice A3 s.ls.length c3, .slice A4 s.ns.length c4] 27)) (bel_alloc _ (.cells #[.slice none 0 0, .slice none 0 0, .slice none 0 0, .slice none 0 0] 27)))
  have K6 := Lib.hid (heap_alloc2_new W (.cells #[.slice A1 s.rs.length c1, .slice A2 s.zs.length c2, .slice A3 s.ls.length c3, .slice A4 s.ns.length c4] 27) (.cells #[.slice none 0 0, .slice none 0 0, .slice none 0 0, .slice none 0 0] 27))
  have HB := Lib.hid (bel_trans (bel_alloc W (.cells #[.slice A1 s.rs.length c1, .slice A2 s.zs.length c2, .slice A3 s.ls.length c3, .slice A4 s.ns.length c4] 27)) (bel_alloc _ (.cells #[.slice none 0 0, .slice none 0 0, .slice none 0 0, .slice none 0 0] 27)))
  have hsz : ((W.alloc (.cells #[.slice A1 s.rs.length c1, .slice A2 s.zs.length c2, .slice A3 s.ls.length c3, .slice A4 s.ns.length c4] 27)).alloc (.cells #[.slice none 0 0, .slice none 0 0, .slice none 0 0, .slice none 0 0] 27)).heap.size = W.heap.size + 1 + 1 := by rw [hs1, hs1]
  clear hs1
  go_enter Try.func13, Try.ntmps13
  obtain ⟨x0, x1, x2, x3⟩ := row4 K3.out
  go_wp2_with fail
  refine (refEras_any _ _ _ _ s n x _ (H.out.below HB.out)).mono ?_
  rintro e w1 ⟨u1, u2, u3, u4, rfl, HU, hb⟩
  rw [hsz] at HU
  obtain ⟨a1, d1, a2, d2, a3, d3, a4, d4, e1, e2, e3, e4⟩ := HU.out.rd.sl
  have e1' : u1 = .slice a1 s.rs.length d1 := e1
  have e2' : u2 = .slice a2 (shZ n x s.zs).length d2 := e2
  have e3' : u3 = .slice a3 s.ls.length d3 := e3
  have e4' : u4 = .slice a4 s.ns.length d4 := e4
  subst e1' e2' e3' e4'
  clear e1 e2 e3 e4
  clear x0 x1 x2 x3 K3
  replace hb := bel_trans hb (bel_alloc w1 (.cells #[.slice a1 s.rs.length d1, .slice a2 (shZ n x s.zs).length d2, .slice a3 s.ls.length d3, .slice a4 s.ns.length d4] 27))
  have K8 := Lib.hid (heap_alloc_new w1 (.cells #[.slice a1 s.rs.length d1, .slice a2 (shZ n x s.zs).length d2, .slice a3 s.ls.length d3, .slice a4 s.ns.length d4] 27))
  have HO := Lib.hid (HU.out.below (bel_alloc w1 (.cells #[.slice a1 s.rs.length d1, .slice a2 (shZ n x s.zs).length d2, .slice a3 s.ls.length d3, .slice a4 s.ns.length d4] 27)))
  replace K6 := Lib.hid (block_below K6.out hb)
  replace HB := Lib.hid (bel_trans HB.out hb)
  clear hb HU H hsz
  go_wp2_with fail
  generalize w1.alloc (.cells #[.slice a1 s.rs.length d1, .slice a2 (shZ n x s.zs).length d2, .slice a3 s.ls.length d3, .slice a4 s.ns.length d4] 27) = WX at *
  go_loopw [9, 10] (fun t9 t10 wr => ∃ (i : Nat) (wq : World), i ≤ s.rs.length ∧ t9 = .bool (hasN n (s.rs.take i)) ∧ t10 = .int .i64 (i : Int) ∧ wr = wq ∧ Hid (wq.heap[W.heap.size + 1]? = some (.cells #[.slice none 0 0, .slice none 0 0, .slice none 0 0, .slice none 0 0] 27)) ∧ Hid (wq.heap[w1.heap.size]? = some (.cells #[.slice a1 s.rs.length d1, .slice a2 (shZ n x s.zs).length d2, .slice a3 s.ls.length d3, .slice a4 s.ns.length d4] 27)) ∧ Hid (OwnS (W.heap.size + 1 + 1) (.slice a1 s.rs.length d1) (.slice a2 (shZ n x s.zs).length d2) (.slice a3 s.ls.length d3) (.slice a4 s.ns.length d4) ⟨mix (fun r : Ru => r.of n x) s.rs i, shZ n x s.zs, s.ls, s.ns⟩ wq) ∧ Hid (Below W.heap.size W wq)) (fun _ t10 _ => s.rs.length - (intOf t10).toNat)
  case atStart => exact ⟨0, _, by omega, rfl, rfl, by trivial, K6, K8, Lib.hid (by rw [mix_0]; exact HO.out), HB⟩
  case round =>
    clear K6 K8 HO HB
    obtain ⟨i, wq, hi, rfl, rfl, rfl, K6, K8, HO, HB⟩ := hrel
    have y0 := cellB K8.out (i := 0) rfl
    by_cases hiz : i < s.rs.length
    · obtain ⟨r, hr⟩ : ∃ r, s.rs[i]? = some r := ⟨_, _root_.List.getElem?_eq_getElem hiz⟩
      have HR := Lib.hid hr
      obtain ⟨g, cap, cur, q1, q2, q3, q4, q5, q6⟩ := HO.out.rule (mix_at _ s.rs i _ hr)
      have q1' : a1 = some ⟨g, 0, none⟩ ∧ d1 = cap := by simp only [Value.slice.injEq] at q1; exact ⟨q1.1, q1.2.2⟩
      have hdc : s.rs.length ≤ d1 ∧ d1 ≤ maxLen := by
        obtain ⟨_, ⟨h0, _⟩ | ⟨_, cap', _, hv, _, _, h1, h2, _⟩⟩ := HO.out.1.1
        · rw [q1'.1] at h0; simp at h0
        · simp only [Value.slice.injEq] at hv
          rw [hv.2.2]
          have h1' : (mix (fun r : Ru => r.of n x) s.rs i).length ≤ cap' := h1
          rw [mix_len] at h1'
          exact ⟨h1', h2⟩
      obtain ⟨rfl, rfl⟩ := q1'
      obtain ⟨hd1, hd2⟩ := hdc
      unfold maxLen at hd2
      obtain ⟨na, fr, ut, mo, kk, wd, d, sec, bs, save, le⟩ := r
      obtain ⟨x0, x1, x2, x3, x4, x5, x6, x7, x8, x9, x10⟩ := Ru.cells (o := i * 11) q4
      have hi0 : (0 : Int) ≤ (i : Int) := by omega
      have hi1 : (i : Int) < (s.rs.length : Int) := by omega
      have hi2 : (s.rs.length : Int) ≤ (d1 : Int) := by omega
      have hi3 : (d1 : Int) ≤ 9223372036854775807 := by omega
      clear hr q1 q2 q3 q5 q6
      by_cases hna : na = n
      · subst hna
        have hsub : ∀ V : World, Below wr.heap.size wr V → Rd 11 (.slice (some ⟨g, i * 11, none⟩) 1 (d1 - i)) 1 (flatR [(Ru.mk na fr ut mo kk wd d sec bs save le)]) V := fun V hV => ⟨rfl, by omega, flatR_one _, .inr ⟨g, i * 11, d1 - i, rfl, fun j u hu => cell_below hV (q4 j u (by rw [flatR_1] at hu; exact hu))⟩⟩
        have HSUB := Lib.hid hsub
        have hw1 : IntKind.i64.wrap ((i : Int) + 1) = (i : Int) + 1 := IntWalk.i64_in _ (by omega)
        have hw2 : ((i : Int) + 1).toNat = i + 1 := by omega
        have hw3 : i + 1 - i = 1 := by omega
        have hw4 : d1 ≠ i := by omega
        have hw5 : i ≤ i + 1 := by omega
        have hw6 : (0 : Int) ≤ (i : Int) + 1 := by omega
        have hw7 : (i : Int) + 1 ≤ (d1 : Int) := by omega
        clear hsub q4
        go_upto_region 7 with fail
        clear x0 x1 x2 x3 x4 x5 x6 x7 x8 x9 x10 y0
        have hVd := Below.drew (Below.refl wr.heap.size wr)
        replace K6 := Lib.hid (block_below K6.out hVd)
        replace K8 := Lib.hid (block_below K8.out hVd)
        replace HO := Lib.hid (HO.out.below hVd)
        replace HB := Lib.hid (bel_trans HB.out hVd)
        have HBel := Lib.hid hVd
        clear hVd
        refine wp_region_noPanic ?_
        refine wp_region_held_drew (S := (fun w' => w'.cell? ⟨w1.heap.size, 0, none⟩ = some (.slice (some ⟨g, 0, none⟩) s.rs.length d1))) (by kernel_rfl) (by exact cellB K8.out (i := 0) rfl) (fun hHeld => ?_)
        refine wpAnyH_take (i := 0) (v := ?_) rfl (by kernel_rfl) (by kernel_rfl) (by kernel_rfl) (fun _ _ _ h => h) (Or.inl ⟨by rfl, ?_⟩) (by assumption) ?_
        rotate_left 1
        · (intro w hSw; (try dsimp only at hSw); first | (go_simp; done) | (go_simp; with_reducible rfl))
        try simp only [Act.put, List.getElem_toArray, List.getElem_cons_succ, List.getElem_cons_zero, List.setIfInBounds_toArray, List.set_cons_zero, List.set_cons_succ]
        refine wpAnyH_take (i := 1) (v := ?_) rfl (by kernel_rfl) (by kernel_rfl) (by kernel_rfl) (fun _ _ _ h => h) (Or.inl ⟨by rfl, ?_⟩) (by assumption) ?_
        rotate_left 1
        · (intro w hSw; (try dsimp only at hSw); first | (go_simp; done) | (go_simp; with_reducible rfl))
        try simp only [Act.put, List.getElem_toArray, List.getElem_cons_succ, List.getElem_cons_zero, List.setIfInBounds_toArray, List.set_cons_zero, List.set_cons_succ]
        refine wpAnyH_take (i := 2) (v := ?_) rfl (by kernel_rfl) (by kernel_rfl) (by kernel_rfl) (fun _ _ _ h => h) (Or.inl ⟨by rfl, ?_⟩) (by assumption) ?_
        rotate_left 1
        · (intro w hSw; (try dsimp only at hSw); first | (go_simp; done) | (go_simp; with_reducible rfl))
        try simp only [Act.put, List.getElem_toArray, List.getElem_cons_succ, List.getElem_cons_zero, List.setIfInBounds_toArray, List.set_cons_zero, List.set_cons_succ]
        refine wpAnyH_take (i := 3) (v := ?_) rfl (by kernel_rfl) (by kernel_rfl) (by kernel_rfl) (fun _ _ _ h => h) (Or.inl ⟨by rfl, ?_⟩) (by assumption) ?_
        rotate_left 1
        · (intro w hSw; (try dsimp only at hSw); first | (go_simp; done) | (go_simp; with_reducible rfl))
        try simp only [Act.put, List.getElem_toArray, List.getElem_cons_succ, List.getElem_cons_zero, List.setIfInBounds_toArray, List.set_cons_zero, List.set_cons_succ]
        refine wpAnyH_take (i := 4) (v := ?_) rfl (by kernel_rfl) (by kernel_rfl) (by kernel_rfl) (fun _ _ _ h => h) (Or.inl ⟨by rfl, ?_⟩) (by assumption) ?_
        rotate_left 1
        · (intro w hSw; (try dsimp only at hSw); first | (go_simp; done) | (go_simp; with_reducible rfl))
        try simp only [Act.put, List.getElem_toArray, List.getElem_cons_succ, List.getElem_cons_zero, List.setIfInBounds_toArray, List.set_cons_zero, List.set_cons_succ]
        refine wpAnyH_take (i := 5) (v := ?_) rfl (by kernel_rfl) (by kernel_rfl) (by kernel_rfl) (fun _ _ _ h => h) (Or.inl ⟨by rfl, ?_⟩) (by assumption) ?_
        rotate_left 1
        · (intro w hSw; (try dsimp only at hSw); first | (go_simp; done) | (go_simp; with_reducible rfl))
        try simp only [Act.put, List.getElem_toArray, List.getElem_cons_succ, List.getElem_cons_zero, List.setIfInBounds_toArray, List.set_cons_zero, List.set_cons_succ]
        refine wpAnyH_take (i := 6) (v := ?_) rfl (by kernel_rfl) (by kernel_rfl) (by kernel_rfl) (fun _ _ _ h => h) (Or.inl ⟨by rfl, ?_⟩) (by assumption) ?_
        rotate_left 1
        · (intro w hSw; (try dsimp only at hSw); first | (go_simp; done) | (go_simp; with_reducible rfl))
        try simp only [Act.put, List.getElem_toArray, List.getElem_cons_succ, List.getElem_cons_zero, List.setIfInBounds_toArray, List.set_cons_zero, List.set_cons_succ]
        refine wpAnyH_take (i := 7) (v := ?_) rfl (by kernel_rfl) (by kernel_rfl) (by kernel_rfl) (fun _ _ _ h => h) (Or.inl ⟨by rfl, ?_⟩) (by assumption) ?_
        rotate_left 1
        · (intro w hSw; (try dsimp only at hSw); first | (go_simp; done) | (go_simp; with_reducible rfl))
        try simp only [Act.put, List.getElem_toArray, List.getElem_cons_succ, List.getElem_cons_zero, List.setIfInBounds_toArray, List.set_cons_zero, List.set_cons_succ]
        refine wpAnyH_take (i := 8) (v := ?_) rfl (by kernel_rfl) (by kernel_rfl) (by kernel_rfl) (fun _ _ _ h => h) (Or.inl ⟨by rfl, ?_⟩) (by assumption) ?_
        rotate_left 1
        · (intro w hSw; (try dsimp only at hSw); first | (go_simp; done) | (go_simp; with_reducible rfl))
        try simp only [Act.put, List.getElem_toArray, List.getElem_cons_succ, List.getElem_cons_zero, List.setIfInBounds_toArray, List.set_cons_zero, List.set_cons_succ]
        refine wpAnyH_take (i := 9) (v := ?_) rfl (by kernel_rfl) (by kernel_rfl) (by kernel_rfl) (fun _ _ _ h => h) (Or.inl ⟨by rfl, ?_⟩) (by assumption) ?_
        rotate_left 1
        · (intro w hSw; (try dsimp only at hSw); first | (go_simp; done) | (go_simp; with_reducible rfl))
        try simp only [Act.put, List.getElem_toArray, List.getElem_cons_succ, List.getElem_cons_zero, List.setIfInBounds_toArray, List.set_cons_zero, List.set_cons_succ]
        refine wpAnyH_ready (rs := [10]) (by kernel_rfl) (by simp) ?_
        refine AllReadyH.cons rfl (fun K hK => ?_) AllReadyH.nil
        go_simp
        refine (refRules_any (.slice (some ⟨g, i * 11, none⟩) 1 (d1 - i)) [(Ru.mk na fr ut mo kk wd d sec bs save le)] x _ (by exact HSUB.out _ HBel.out)).mono ?_
        rintro e w3 ⟨v', rfl, hv, hb3⟩
        obtain ⟨gn, cn, cun, hvs, _, hcn, _⟩ := hv.out.shape (by simp)
        have hv1 : v' = .slice (some ⟨gn, 0, none⟩) 1 cn := hvs
        subst hv1
        have hvo : w3.ownsRow _ 44 11 (.slice (some ⟨gn, 0, none⟩) 1 cn) 1 (flatR [((Ru.mk na fr ut mo kk wd d sec bs save le)).sh x]) := hv.out.1
        have n_ : ∀ j u, (((Ru.mk na fr ut mo kk wd d sec bs save le)).sh x).arr.toList[j]? = some u → w3.cell? ⟨gn, j, none⟩ = some u := fun j u hu => (by
          have hj : j < 11 := (_root_.List.getElem?_eq_some_iff.1 hu).1
          rw [hvo.cellAt j (by omega)]
          rw [flatR_1]; exact hu)
        have n0 : w3.cell? ⟨gn, 0, none⟩ = some (.string na) := n_ 0 _ rfl
        have n1 : w3.cell? ⟨gn, 1, none⟩ = some (.int .i64 fr) := n_ 1 _ rfl
        have n2 : w3.cell? ⟨gn, 2, none⟩ = some (.int .i64 ut) := n_ 2 _ rfl
        have n3 : w3.cell? ⟨gn, 3, none⟩ = some (.int .i64 mo) := n_ 3 _ rfl
        have n4 : w3.cell? ⟨gn, 4, none⟩ = some (.int .i64 kk) := n_ 4 _ rfl
        have n5 : w3.cell? ⟨gn, 5, none⟩ = some (.int .i64 wd) := n_ 5 _ rfl
        have n6 : w3.cell? ⟨gn, 6, none⟩ = some (.int .i64 d) := n_ 6 _ rfl
        have n7 : w3.cell? ⟨gn, 7, none⟩ = some (.int .i64 (less sec bs x)) := n_ 7 _ rfl
        have n8 : w3.cell? ⟨gn, 8, none⟩ = some (.int .i64 bs) := n_ 8 _ rfl
        have n9 : w3.cell? ⟨gn, 9, none⟩ = some (.int .i64 (wrap64 (save + x))) := n_ 9 _ rfl
        have n10 : w3.cell? ⟨gn, 10, none⟩ = some (.string le) := n_ 10 _ rfl
        clear n_ hvo hvs hv hcn HSUB HBel hHeld
        replace K6 := Lib.hid (block_below K6.out hb3)
        replace K8 := Lib.hid (block_below K8.out hb3)
        replace HO := Lib.hid (HO.out.below hb3)
        replace HB := Lib.hid (bel_trans HB.out hb3)
        clear hb3
        go_wp2_with fail
        refine hK.out _ _ (by exact cellB K8.out (i := 0) rfl) (fun hHeld => ?_)
        clear hK K
        try simp only [Act.put, List.getElem_toArray, List.getElem_cons_succ, List.getElem_cons_zero, List.setIfInBounds_toArray, List.set_cons_zero, List.set_cons_succ]
        refine wpAnyH_take (i := 11) (v := ?_) rfl (by kernel_rfl) (by kernel_rfl) (by kernel_rfl) (fun _ _ _ h => h) (Or.inl ⟨by rfl, ?_⟩) (by assumption) ?_
        rotate_left 1
        · (intro w hSw; (try dsimp only at hSw); first | (go_simp; done) | (go_simp; with_reducible rfl))
        try simp only [Act.put, List.getElem_toArray, List.getElem_cons_succ, List.getElem_cons_zero, List.setIfInBounds_toArray, List.set_cons_zero, List.set_cons_succ]
        refine wpAnyH_ready (rs := [12]) (by kernel_rfl) (by simp) ?_
        refine AllReadyH.cons rfl (fun K hK => ?_) AllReadyH.nil
        go_simp
        refine hK.out _ _ (by exact cellB K8.out (i := 0) rfl) (fun hHeld => ?_)
        clear hK K
        try simp only [Act.put, List.getElem_toArray, List.getElem_cons_succ, List.getElem_cons_zero, List.setIfInBounds_toArray, List.set_cons_zero, List.set_cons_succ]
        refine wpAnyH_take (i := 13) (v := ?_) rfl (by kernel_rfl) (by kernel_rfl) (by kernel_rfl) (fun _ _ _ h => h) (Or.inl ⟨by rfl, ?_⟩) (by assumption) ?_
        rotate_left 1
        · (intro w hSw; (try dsimp only at hSw); first | (go_simp; done) | (go_simp; with_reducible rfl))
        try simp only [Act.put, List.getElem_toArray, List.getElem_cons_succ, List.getElem_cons_zero, List.setIfInBounds_toArray, List.set_cons_zero, List.set_cons_succ]
        obtain ⟨g', cap', cur', q1, q2, q3, q4, q5, q6⟩ := HO.out.rule (mix_at _ s.rs i _ HR.out)
        have hg : g = g' := by simp only [Value.slice.injEq, Option.some.injEq, Addr.mk.injEq] at q1; exact q1.1.1
        subst hg
        refine wpAnyH_ready (rs := [14]) (by kernel_rfl) (by simp) ?_
        refine AllReadyH.cons rfl (fun K hK => ?_) AllReadyH.nil
        rw [if_pos (by rfl)]
        refine wp_store_mid _ _ _ rfl g (i * 11) (((Ru.mk na fr ut mo kk wd d sec bs save le)).sh x).arr rfl rfl q5 (by kernel_rfl) (by simp [Value.oneCell', Ru.arr, Ru.sh]) ?_
        have hsh : ((Ru.mk na fr ut mo kk wd d sec bs save le)).of na x = ((Ru.mk na fr ut mo kk wd d sec bs save le)).sh x := if_pos rfl
        have HO4 : Hid (OwnS (W.heap.size + 1 + 1) (.slice (some ⟨g, 0, none⟩) s.rs.length d1) (.slice a2 (shZ na x s.zs).length d2) (.slice a3 s.ls.length d3) (.slice a4 s.ns.length d4) ⟨mix (fun r : Ru => r.of na x) s.rs (i + 1), shZ na x s.zs, s.ls, s.ns⟩ (w3.setCells g (i * 11) ((Ru.mk na fr ut mo kk wd d sec bs save le).sh x).arr.toList)) := by
          rw [mix_set (fun r : Ru => r.of na x) s.rs i _ HR.out, hsh]
          exact Lib.hid (q6 (((Ru.mk na fr ut mo kk wd d sec bs save le)).sh x))
        have ht8 : w1.heap.size ≠ g := fun e => by have h := K8.out; rw [e, q3] at h; simp at h
        have ht6 : W.heap.size + 1 ≠ g := by omega
        have K8' := Lib.hid (block_setCells (o := i * 11) (l := (((Ru.mk na fr ut mo kk wd d sec bs save le)).sh x).arr.toList) K8.out ht8)
        have K6' := Lib.hid (block_setCells (o := i * 11) (l := (((Ru.mk na fr ut mo kk wd d sec bs save le)).sh x).arr.toList) K6.out ht6)
        have HB' := Lib.hid (bel_setCells (b := g) (o := i * 11) (l := (((Ru.mk na fr ut mo kk wd d sec bs save le)).sh x).arr.toList) HB.out (by omega))
        generalize w3.setCells g (i * 11) (((Ru.mk na fr ut mo kk wd d sec bs save le)).sh x).arr.toList = W4 at *
        refine hK.out _ _ (by exact cellB K8'.out (i := 0) rfl) (fun hHeld => ?_)
        clear hK K
        try simp only [Act.put, List.getElem_toArray, List.getElem_cons_succ, List.getElem_cons_zero, List.setIfInBounds_toArray, List.set_cons_zero, List.set_cons_succ]
        refine wpAnyH_done (by kernel_rfl) ?_ _
        refine NoPanic.normal ?_
        clear hHeld
        have hfn : hasN na (s.rs.take (i + 1)) = true := by
          unfold hasN
          rw [_root_.List.take_add_one, HR.out, _root_.List.any_append]
          simp
        go_wp2_with fail
        go_round
        case rel => exact ⟨i + 1, _, by omega, by rw [hfn], by go_num, rfl, K6', K8', HO4, HB'⟩
        case measure => simp [intOf]; omega
      · have hne := str_ne hna
        have hof : ((Ru.mk na fr ut mo kk wd d sec bs save le)).of n x = (Ru.mk na fr ut mo kk wd d sec bs save le) := if_neg hna
        have HO2 : Hid (OwnS (W.heap.size + 1 + 1) (.slice (some ⟨g, 0, none⟩) s.rs.length d1) (.slice a2 (shZ n x s.zs).length d2) (.slice a3 s.ls.length d3) (.slice a4 s.ns.length d4) ⟨mix (fun r : Ru => r.of n x) s.rs (i + 1), shZ n x s.zs, s.ls, s.ns⟩ wr) := by rw [rst_same HR.out hof]; exact HO
        have hfn : hasN n (s.rs.take (i + 1)) = hasN n (s.rs.take i) := by
          unfold hasN
          rw [_root_.List.take_add_one, HR.out, _root_.List.any_append]
          simp [hna]
        clear q4
        go_wp2_with fail
        go_round
        case rel => exact ⟨i + 1, _, by omega, by rw [hfn], by go_num, rfl, K6, K8, HO2, HB⟩
        case measure => simp [intOf]; omega
    · obtain rfl : s.rs.length = i := by omega
      rw [_root_.List.take_length]
      have HO3 := HO.out
      rw [mix_n] at HO3
      have HO5 := Lib.hid HO3
      clear HO HO3
      obtain ⟨f0, f1, f2, f3⟩ := frz4 K6.out
      obtain ⟨y0, y1, y2, y3⟩ := row4 K8.out
      obtain ⟨z0, z1, z2, z3⟩ := row4 K6.out
      cases hN : hasN n s.rs
      · go_wp2_with fail
        refine bodyPost_ret (results_cell_row_tmp rfl _ _ _ _ _ _ _ rfl (set4 K6.out) Try.underlying27 rfl (by kernel_rfl)) rfl ?_
        exact ⟨_, _, _, _, by rw [hN]; rfl, Lib.hid (by rw [hN]; exact rd_noS _), bel_setCells (b := W.heap.size + 1) (o := 0) (l := [.slice none 0 0, .slice none 0 0, .slice none 0 0, .slice none 0 0]) HB.out (by omega)⟩
      · go_wp2_with fail
        refine bodyPost_ret (results_cell_row_tmp rfl _ _ _ _ _ _ _ rfl (set4 K6.out) Try.underlying27 rfl (by kernel_rfl)) rfl ?_
        refine ⟨_, _, _, _, by rw [hN]; rfl, Lib.hid ?_, bel_setCells (b := W.heap.size + 1) (o := 0) (l := [.slice a1 s.rs.length d1, .slice a2 (shZ n x s.zs).length d2, .slice a3 s.ls.length d3, .slice a4 s.ns.length d4]) HB.out (by omega)⟩
        rw [hN]
        exact (HO5.out.fall (b := W.heap.size + 1) (o := 0) (l := [.slice a1 s.rs.length d1, .slice a2 (shZ n x s.zs).length d2, .slice a3 s.ls.length d3, .slice a4 s.ns.length d4]) (by omega)).rd
end Go.Proofs.Ytdlmlcgmonkdfaa
