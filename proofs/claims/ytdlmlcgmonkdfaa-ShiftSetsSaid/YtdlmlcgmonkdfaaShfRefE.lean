/-
  The reference's Eras.
-/
import Derived.Test.YtdlmlcgmonkdfaaShfRefM
namespace Go.Proofs.Ytdlmlcgmonkdfaa
open Go.RowKit Sh
set_option linter.unusedVariables false
set_option linter.unusedSimpArgs false


set_option maxRecDepth 100000 in
set_option maxHeartbeats 8000000 in
theorem refEras_any (v1 v2 v3 v4 : Value) (s : Sou) (n : ByteArray) (x : Int) (W : World) (h : RdS v1 v2 v3 v4 s W) :
    Calls Try.prog 16 #[.agg #[v1, v2, v3, v4], .string n, .int .i64 x] W fun e w' => ∃ u1 u2 u3 u4, e = .returned (.agg #[u1, u2, u3, u4]) ∧ Hid (OwnS W.heap.size u1 u2 u3 u4 (s.shE n x) w') ∧ Below W.heap.size W w' := by
  obtain ⟨A1, c1, A2, c2, A3, c3, A4, c4, rfl, rfl, rfl, rfl⟩ := h.sl
  have H := Lib.hid h
  have hl2 : s.zs.length ≤ 1000 := by obtain ⟨ps, _, h, _⟩ := h.2.1; exact h.2.1
  clear h
  have hs1 : ∀ (V : World) (o : Obj), (V.alloc o).heap.size = V.heap.size + 1 := fun V o => by show (V.heap.push o).size = _; simp
  have K3 := Lib.hid (block_below (heap_alloc_new W (.cells #[.slice A1 s.rs.length c1, .slice A2 s.zs.length c2, .slice A3 s.ls.length c3, .slice A4 s.ns.length c4] 27)) (bel_alloc _ (.cells #[.slice none 0 0, .slice none 0 0, .slice none 0 0, .slice none 0 0] 27)))
  have K6 := Lib.hid (heap_alloc2_new W (.cells #[.slice A1 s.rs.length c1, .slice A2 s.zs.length c2, .slice A3 s.ls.length c3, .slice A4 s.ns.length c4] 27) (.cells #[.slice none 0 0, .slice none 0 0, .slice none 0 0, .slice none 0 0] 27))
  have HB := Lib.hid (bel_trans (bel_alloc W (.cells #[.slice A1 s.rs.length c1, .slice A2 s.zs.length c2, .slice A3 s.ls.length c3, .slice A4 s.ns.length c4] 27)) (bel_alloc _ (.cells #[.slice none 0 0, .slice none 0 0, .slice none 0 0, .slice none 0 0] 27)))
  have hsz : ((W.alloc (.cells #[.slice A1 s.rs.length c1, .slice A2 s.zs.length c2, .slice A3 s.ls.length c3, .slice A4 s.ns.length c4] 27)).alloc (.cells #[.slice none 0 0, .slice none 0 0, .slice none 0 0, .slice none 0 0] 27)).heap.size = W.heap.size + 1 + 1 := by rw [hs1, hs1]
  clear hs1
  go_enter Try.func16, Try.ntmps16
  obtain ⟨x0, x1, x2, x3⟩ := row4 K3.out
  go_wp2_with fail
  refine (copy_any _ _ _ _ s _ (H.out.below HB.out)).mono ?_
  rintro e w1 ⟨u1, u2, u3, u4, rfl, HU, hb⟩
  rw [hsz] at HU
  obtain ⟨a1, d1, a2, d2, a3, d3, a4, d4, rfl, rfl, rfl, rfl⟩ := HU.out.rd.sl
  clear x0 x1 x2 x3 K3
  replace hb := bel_trans hb (bel_alloc w1 (.cells #[.slice a1 s.rs.length d1, .slice a2 s.zs.length d2, .slice a3 s.ls.length d3, .slice a4 s.ns.length d4] 27))
  have K7 := Lib.hid (heap_alloc_new w1 (.cells #[.slice a1 s.rs.length d1, .slice a2 s.zs.length d2, .slice a3 s.ls.length d3, .slice a4 s.ns.length d4] 27))
  have HO := Lib.hid (HU.out.below (bel_alloc w1 (.cells #[.slice a1 s.rs.length d1, .slice a2 s.zs.length d2, .slice a3 s.ls.length d3, .slice a4 s.ns.length d4] 27)))
  replace K6 := Lib.hid (block_below K6.out hb)
  replace HB := Lib.hid (bel_trans HB.out hb)
  clear hb HU H hsz
  go_wp2_with fail
  generalize w1.alloc (.cells #[.slice a1 s.rs.length d1, .slice a2 s.zs.length d2, .slice a3 s.ls.length d3, .slice a4 s.ns.length d4] 27) = WX at *
  go_loopw [8] (fun t wr => ∃ (i : Nat) (wq : World), i ≤ s.zs.length ∧ t = .int .i64 (i : Int) ∧ wr = wq ∧ Hid (wq.heap[W.heap.size + 1]? = some (.cells #[.slice none 0 0, .slice none 0 0, .slice none 0 0, .slice none 0 0] 27)) ∧ Hid (wq.heap[w1.heap.size]? = some (.cells #[.slice a1 s.rs.length d1, .slice a2 s.zs.length d2, .slice a3 s.ls.length d3, .slice a4 s.ns.length d4] 27)) ∧ Hid (OwnS (W.heap.size + 1 + 1) (.slice a1 s.rs.length d1) (.slice a2 s.zs.length d2) (.slice a3 s.ls.length d3) (.slice a4 s.ns.length d4) ⟨s.rs, mix (zmap n x) s.zs i, s.ls, s.ns⟩ wq) ∧ Hid (Below W.heap.size W wq)) (fun t _ => s.zs.length - (intOf t).toNat)
  case atStart => exact ⟨0, _, by omega, rfl, by trivial, K6, K7, Lib.hid (by rw [mix_0]; exact HO.out), HB⟩
  case round =>
    clear K6 K7 HO HB
    obtain ⟨i, wq, hi, rfl, rfl, K6, K7, HO, HB⟩ := hrel
    have y1 := cellB K7.out (i := 1) rfl
    by_cases hiz : i < s.zs.length
    · obtain ⟨z, hz⟩ : ∃ z, s.zs[i]? = some z := ⟨_, _root_.List.getElem?_eq_getElem hiz⟩
      have HZ := Lib.hid hz
      have hzl : z.es.length ≤ 1000 := by obtain ⟨_, _, _, hp, _⟩ := HO.out.2.1; obtain ⟨p, _, _, h⟩ := hp i z (mix_at (zmap n x) s.zs i z hz); exact h.2.1
      have hi0 : (0 : Int) ≤ (i : Int) := by omega
      have hi1 : (i : Int) < (s.zs.length : Int) := by omega
      clear hz
      go_wp2_with fail
      clear y1
      go_loopw [9] (fun t wr => ∃ (k : Nat) (wq : World), k ≤ z.es.length ∧ t = .int .i64 (k : Int) ∧ wr = wq ∧ Hid (wq.heap[W.heap.size + 1]? = some (.cells #[.slice none 0 0, .slice none 0 0, .slice none 0 0, .slice none 0 0] 27)) ∧ Hid (wq.heap[w1.heap.size]? = some (.cells #[.slice a1 s.rs.length d1, .slice a2 s.zs.length d2, .slice a3 s.ls.length d3, .slice a4 s.ns.length d4] 27)) ∧ Hid (OwnS (W.heap.size + 1 + 1) (.slice a1 s.rs.length d1) (.slice a2 s.zs.length d2) (.slice a3 s.ls.length d3) (.slice a4 s.ns.length d4) ⟨s.rs, zst n x s.zs i k z, s.ls, s.ns⟩ wq) ∧ Hid (Below W.heap.size W wq)) (fun t _ => z.es.length - (intOf t).toNat)
      case atStart => exact ⟨0, _, by omega, rfl, by trivial, K6, K7, Lib.hid (by rw [zst_0 HZ.out]; exact HO.out), HB⟩
      case round =>
        clear K6 K7 HO HB
        obtain ⟨k, wq, hk, rfl, rfl, K6, K7, HO, HB⟩ := hrel
        have y1 := cellB K7.out (i := 1) rfl
        obtain ⟨g2, o2, cap, a, p, q1, m1, m2, E1⟩ := HO.out.2.1.rd.at_ (zst_at k hiz)
        have q1' : a2 = some ⟨g2, o2, none⟩ ∧ d2 = cap := by simp only [Value.slice.injEq] at q1; exact ⟨q1.1, q1.2.2⟩
        obtain ⟨rfl, rfl⟩ := q1'
        have hml : (mix (fun r : Er => r.sh n x) z.es k).length = z.es.length := mix_len _ _ _
        have m2' : wr.cell? ⟨g2, o2 + i * 2 + 1, none⟩ = some (.slice a z.es.length p) := by rw [m2]; show some (Value.slice a (mix (fun r : Er => r.sh n x) z.es k).length p) = _; rw [hml]
        have hi0 : (0 : Int) ≤ (i : Int) := by omega
        have hi1 : (i : Int) < (s.zs.length : Int) := by omega
        clear q1 m1 m2 E1
        by_cases hlt : k < z.es.length
        · obtain ⟨e, he⟩ : ∃ e, z.es[k]? = some e := ⟨_, _root_.List.getElem?_eq_getElem hlt⟩
          have HE := Lib.hid he
          have HME := Lib.hid (mix_at (fun r : Er => r.sh n x) z.es k e he)
          obtain ⟨g2', cap2, ge, ce, cur, cu2, q1, q2, q3, q4, q5, q6, q7, q8, q9⟩ := HO.out.era (zst_at k hiz) HME.out
          have hq : o2 = 0 ∧ g2 = g2' := by simp only [Value.slice.injEq, Option.some.injEq, Addr.mk.injEq] at q1; exact ⟨q1.1.2.1, q1.1.1⟩
          obtain ⟨rfl, rfl⟩ := hq
          rw [Nat.zero_add] at m2'
          rw [m2'] at q4
          have hq2 : a = some ⟨ge, 0, none⟩ ∧ ce = p := by simp only [Option.some.injEq, Value.slice.injEq] at q4; exact ⟨q4.1, q4.2.2.symm⟩
          obtain ⟨rfl, rfl⟩ := hq2
          obtain ⟨off, kd, es, st, fm, is, yr, mo, kk, wd, dd, sec, bs⟩ := e
          obtain ⟨x0, x1, x2, x3, x4, x5, x6, x7, x8, x9, x10, x11, x12⟩ := Er.cells (o := k * 13) q7
          have hk0 : (0 : Int) ≤ (k : Int) := by omega
          have hk1 : (k : Int) < (z.es.length : Int) := by omega
          have z1 := m2'
          have HZ1' := Lib.hid m2'
          have hBe : wr.heap.size ≠ ge := fun e => (by have := bk2 q5; omega)
          clear he q1 q2 q3 q4 q5 q6 q7 q8 q9 m2'
          have KB := Lib.hid (heap_alloc_new wr (.cells #[.int .i64 off, .int .i64 kd, .int .i64 es, .string st, .string fm, .bool is, .int .i64 yr, .int .i64 mo, .int .i64 kk, .int .i64 wd, .int .i64 dd, .int .i64 sec, .int .i64 bs] 52))
          have hal := bel_alloc wr (.cells #[.int .i64 off, .int .i64 kd, .int .i64 es, .string st, .string fm, .bool is, .int .i64 yr, .int .i64 mo, .int .i64 kk, .int .i64 wd, .int .i64 dd, .int .i64 sec, .int .i64 bs] 52)
          have HZ1 := Lib.hid (cell_below hal HZ1'.out)
          replace K6 := Lib.hid (block_below K6.out hal)
          replace K7 := Lib.hid (block_below K7.out hal)
          replace HO := Lib.hid (HO.out.below hal)
          replace HB := Lib.hid (bel_trans HB.out hal)
          clear HZ1' hal hml
          by_cases hkd : kd = 2 ∧ st = n
          · obtain ⟨rfl, rfl⟩ := hkd
            go_upto_region 10 with fail
            generalize hB : wr.heap.size = B at *
            generalize hV : wr.alloc (.cells #[.int .i64 off, .int .i64 2, .int .i64 es, .string st, .string fm, .bool is, .int .i64 yr, .int .i64 mo, .int .i64 kk, .int .i64 wd, .int .i64 dd, .int .i64 sec, .int .i64 bs] 52) = V at *
            clear hV
            clear x0 x1 x2 x3 x4 x5 x6 x7 x8 x9 x10 x11 x12 y1 z1
            have hVd := Below.drew (Below.refl V.heap.size V)
            replace KB := Lib.hid (block_below KB.out hVd)
            replace K6 := Lib.hid (block_below K6.out hVd)
            replace K7 := Lib.hid (block_below K7.out hVd)
            replace HO := Lib.hid (HO.out.below hVd)
            replace HB := Lib.hid (bel_trans HB.out hVd)
            clear hVd
            refine wp_region_noPanic ?_
            refine wp_region_held_drew (S := (fun w' => w'.cell? ⟨w1.heap.size, 1, none⟩ = some (.slice (some ⟨g2, 0, none⟩) s.zs.length d2) ∧ w'.cell? ⟨g2, i * 2 + 1, none⟩ = some (.slice (some ⟨ge, 0, none⟩) z.es.length ce) ∧ w'.cell? ⟨B, 0, none⟩ = some (.int .i64 off) ∧ w'.cell? ⟨B, 1, none⟩ = some (.int .i64 2) ∧ w'.cell? ⟨B, 2, none⟩ = some (.int .i64 es) ∧ w'.cell? ⟨B, 3, none⟩ = some (.string st) ∧ w'.cell? ⟨B, 4, none⟩ = some (.string fm) ∧ w'.cell? ⟨B, 5, none⟩ = some (.bool is) ∧ w'.cell? ⟨B, 6, none⟩ = some (.int .i64 yr) ∧ w'.cell? ⟨B, 7, none⟩ = some (.int .i64 mo) ∧ w'.cell? ⟨B, 8, none⟩ = some (.int .i64 kk) ∧ w'.cell? ⟨B, 9, none⟩ = some (.int .i64 wd) ∧ w'.cell? ⟨B, 10, none⟩ = some (.int .i64 dd) ∧ w'.cell? ⟨B, 11, none⟩ = some (.int .i64 sec) ∧ w'.cell? ⟨B, 12, none⟩ = some (.int .i64 bs))) (by kernel_rfl) (by exact ⟨cellB K7.out (i := 1) rfl, HZ1.out, cellB KB.out (i := 0) rfl, cellB KB.out (i := 1) rfl, cellB KB.out (i := 2) rfl, cellB KB.out (i := 3) rfl, cellB KB.out (i := 4) rfl, cellB KB.out (i := 5) rfl, cellB KB.out (i := 6) rfl, cellB KB.out (i := 7) rfl, cellB KB.out (i := 8) rfl, cellB KB.out (i := 9) rfl, cellB KB.out (i := 10) rfl, cellB KB.out (i := 11) rfl, cellB KB.out (i := 12) rfl⟩) (fun hHeld => ?_)
            refine wpAnyH_take (i := 0) (v := ?_) rfl (by kernel_rfl) (by kernel_rfl) (by kernel_rfl) (fun _ _ _ h => h) (Or.inl ⟨by rfl, ?_⟩) (by assumption) ?_
            rotate_left 1
            · (intro w hSw; (try dsimp only at hSw); first | (go_simp; done) | (go_simp; with_reducible rfl))
            try simp only [Act.put, List.getElem_toArray, List.getElem_cons_succ, List.getElem_cons_zero, List.setIfInBounds_toArray, List.set_cons_zero, List.set_cons_succ]
            refine wpAnyH_take (i := 1) (v := ?_) rfl (by kernel_rfl) (by kernel_rfl) (by kernel_rfl) (fun _ _ _ h => h) (Or.inl ⟨by rfl, ?_⟩) (by assumption) ?_
            rotate_left 1
            · (intro w hSw; (try dsimp only at hSw); first | (go_simp; done) | (go_simp; with_reducible rfl))
            try simp only [Act.put, List.getElem_toArray, List.getElem_cons_succ, List.getElem_cons_zero, List.setIfInBounds_toArray, List.set_cons_zero, List.set_cons_succ]
            refine wpAnyH_take (i := 2) (v := ?_) rfl (by kernel_rfl) (by kernel_rfl) (by kernel_rfl) (fun _ _ _ h => h) (Or.inl ⟨by rfl, ?_⟩) (by assumption) ?_
            rotate_left 1
            · (intro w hSw; (try dsimp only at hSw); first | (go_simp; done) | (go_simp; with_reducible rfl))
            try simp only [Act.put, List.getElem_toArray, List.getElem_cons_succ, List.getElem_cons_zero, List.setIfInBounds_toArray, List.set_cons_zero, List.set_cons_succ]
            refine wpAnyH_take (i := 3) (v := ?_) rfl (by kernel_rfl) (by kernel_rfl) (by kernel_rfl) (fun _ _ _ h => h) (Or.inl ⟨by rfl, ?_⟩) (by assumption) ?_
            rotate_left 1
            · (intro w hSw; (try dsimp only at hSw); first | (go_simp; done) | (go_simp; with_reducible rfl))
            try simp only [Act.put, List.getElem_toArray, List.getElem_cons_succ, List.getElem_cons_zero, List.setIfInBounds_toArray, List.set_cons_zero, List.set_cons_succ]
            refine wpAnyH_take (i := 4) (v := ?_) rfl (by kernel_rfl) (by kernel_rfl) (by kernel_rfl) (fun _ _ _ h => h) (Or.inl ⟨by rfl, ?_⟩) (by assumption) ?_
            rotate_left 1
            · (intro w hSw; (try dsimp only at hSw); first | (go_simp; done) | (go_simp; with_reducible rfl))
            try simp only [Act.put, List.getElem_toArray, List.getElem_cons_succ, List.getElem_cons_zero, List.setIfInBounds_toArray, List.set_cons_zero, List.set_cons_succ]
            refine wpAnyH_take (i := 5) (v := ?_) rfl (by kernel_rfl) (by kernel_rfl) (by kernel_rfl) (fun _ _ _ h => h) (Or.inl ⟨by rfl, ?_⟩) (by assumption) ?_
            rotate_left 1
            · (intro w hSw; (try dsimp only at hSw); first | (go_simp; done) | (go_simp; with_reducible rfl))
            try simp only [Act.put, List.getElem_toArray, List.getElem_cons_succ, List.getElem_cons_zero, List.setIfInBounds_toArray, List.set_cons_zero, List.set_cons_succ]
            refine wpAnyH_take (i := 6) (v := ?_) rfl (by kernel_rfl) (by kernel_rfl) (by kernel_rfl) (fun _ _ _ h => h) (Or.inl ⟨by rfl, ?_⟩) (by assumption) ?_
            rotate_left 1
            · (intro w hSw; (try dsimp only at hSw); first | (go_simp; done) | (go_simp; with_reducible rfl))
            try simp only [Act.put, List.getElem_toArray, List.getElem_cons_succ, List.getElem_cons_zero, List.setIfInBounds_toArray, List.set_cons_zero, List.set_cons_succ]
            refine wpAnyH_take (i := 7) (v := ?_) rfl (by kernel_rfl) (by kernel_rfl) (by kernel_rfl) (fun _ _ _ h => h) (Or.inl ⟨by rfl, ?_⟩) (by assumption) ?_
            rotate_left 1
            · (intro w hSw; (try dsimp only at hSw); first | (go_simp; done) | (go_simp; with_reducible rfl))
            try simp only [Act.put, List.getElem_toArray, List.getElem_cons_succ, List.getElem_cons_zero, List.setIfInBounds_toArray, List.set_cons_zero, List.set_cons_succ]
            refine wpAnyH_take (i := 8) (v := ?_) rfl (by kernel_rfl) (by kernel_rfl) (by kernel_rfl) (fun _ _ _ h => h) (Or.inl ⟨by rfl, ?_⟩) (by assumption) ?_
            rotate_left 1
            · (intro w hSw; (try dsimp only at hSw); first | (go_simp; done) | (go_simp; with_reducible rfl))
            try simp only [Act.put, List.getElem_toArray, List.getElem_cons_succ, List.getElem_cons_zero, List.setIfInBounds_toArray, List.set_cons_zero, List.set_cons_succ]
            refine wpAnyH_ready (rs := [9]) (by kernel_rfl) (by simp) ?_
            refine AllReadyH.cons rfl (fun K hK => ?_) AllReadyH.nil
            go_simp
            refine (refera_any ⟨off, 2, es, st, fm, is, yr, mo, kk, wd, dd, sec, bs⟩ x _).mono ?_
            rintro e w3 ⟨rfl, hb3⟩
            replace KB := Lib.hid (block_below KB.out hb3)
            replace K6 := Lib.hid (block_below K6.out hb3)
            replace K7 := Lib.hid (block_below K7.out hb3)
            replace HO := Lib.hid (HO.out.below hb3)
            replace HB := Lib.hid (bel_trans HB.out hb3)
            replace HZ1 := Lib.hid (cell_below hb3 HZ1.out)
            clear hb3 hHeld
            go_wp2_with fail
            refine hK.out _ _ (by exact ⟨cellB K7.out (i := 1) rfl, HZ1.out, cellB KB.out (i := 0) rfl, cellB KB.out (i := 1) rfl, cellB KB.out (i := 2) rfl, cellB KB.out (i := 3) rfl, cellB KB.out (i := 4) rfl, cellB KB.out (i := 5) rfl, cellB KB.out (i := 6) rfl, cellB KB.out (i := 7) rfl, cellB KB.out (i := 8) rfl, cellB KB.out (i := 9) rfl, cellB KB.out (i := 10) rfl, cellB KB.out (i := 11) rfl, cellB KB.out (i := 12) rfl⟩) (fun hHeld => ?_)
            clear hK K
            try simp only [Act.put, List.getElem_toArray, List.getElem_cons_succ, List.getElem_cons_zero, List.setIfInBounds_toArray, List.set_cons_zero, List.set_cons_succ]
            refine wpAnyH_take (i := 10) (v := ?_) rfl (by kernel_rfl) (by kernel_rfl) (by kernel_rfl) (fun _ _ _ h => h) (Or.inl ⟨by rfl, ?_⟩) (by assumption) ?_
            rotate_left 1
            · (intro w hSw; (try dsimp only at hSw); first | (go_simp; done) | (go_simp; with_reducible rfl))
            try simp only [Act.put, List.getElem_toArray, List.getElem_cons_succ, List.getElem_cons_zero, List.setIfInBounds_toArray, List.set_cons_zero, List.set_cons_succ]
            obtain ⟨g2', cap2', ge', ce', cur, cu2, q1, q2, q3, q4, q5, q6, q7, q8, q9⟩ := HO.out.era (zst_at k hiz) HME.out
            have hg2 : g2 = g2' := by simp only [Value.slice.injEq, Option.some.injEq, Addr.mk.injEq] at q1; exact q1.1.1
            subst hg2
            rw [HZ1.out] at q4
            have hge : ge = ge' := by simp only [Option.some.injEq, Value.slice.injEq, Addr.mk.injEq] at q4; exact q4.1.1
            subst hge
            refine wpAnyH_ready (rs := [11]) (by kernel_rfl) (by simp) ?_
            refine AllReadyH.cons rfl (fun K hK => ?_) AllReadyH.nil
            rw [if_pos (by rfl)]
            refine wp_store_mid _ _ _ rfl ge (k * 13) (Er.go (Er.mk off 2 es st fm is yr mo kk wd dd sec bs) x).arr rfl rfl q8 (by kernel_rfl) (by simp [Value.oneCell', Er.arr]) ?_
            have hsh : (Er.mk off 2 es st fm is yr mo kk wd dd sec bs).sh st x = Er.go (Er.mk off 2 es st fm is yr mo kk wd dd sec bs) x := if_pos ⟨rfl, rfl⟩
            have hO2 := q9 (Er.go (Er.mk off 2 es st fm is yr mo kk wd dd sec bs) x)
            rw [← hsh] at hO2
            have HO4 : Hid (OwnS (W.heap.size + 1 + 1) (.slice a1 s.rs.length d1) (.slice (some ⟨g2, 0, none⟩) s.zs.length d2) (.slice a3 s.ls.length d3) (.slice a4 s.ns.length d4) ⟨s.rs, zst st x s.zs i (k + 1) z, s.ls, s.ns⟩ (w3.setCells ge (k * 13) (Er.go (Er.mk off 2 es st fm is yr mo kk wd dd sec bs) x).arr.toList)) := by
              have h := hO2
              rw [hsh] at h
              have e := zst_set (n := st) (x := x) (zs := s.zs) (i := i) (k := k) (z := z) HE.out
              rw [hsh] at e
              rw [← e]
              exact h
            have hlt7 := bk2 K7.out
            have ht7 : w1.heap.size ≠ ge := fun e => by have h := K7.out; rw [e, q5] at h; simp at h
            have ht6 : W.heap.size + 1 ≠ ge := by omega
            have K7' := Lib.hid (block_setCells (o := k * 13) (l := (Er.go (Er.mk off 2 es st fm is yr mo kk wd dd sec bs) x).arr.toList) K7.out ht7)
            have K6' := Lib.hid (block_setCells (o := k * 13) (l := (Er.go (Er.mk off 2 es st fm is yr mo kk wd dd sec bs) x).arr.toList) K6.out ht6)
            have HB' := Lib.hid (bel_setCells (b := ge) (o := k * 13) (l := (Er.go (Er.mk off 2 es st fm is yr mo kk wd dd sec bs) x).arr.toList) HB.out (by omega))
            have hSp : (w3.setCells ge (k * 13) (Er.go (Er.mk off 2 es st fm is yr mo kk wd dd sec bs) x).arr.toList).cell? ⟨w1.heap.size, 1, none⟩ = some (.slice (some ⟨g2, 0, none⟩) s.zs.length d2) ∧ (w3.setCells ge (k * 13) (Er.go (Er.mk off 2 es st fm is yr mo kk wd dd sec bs) x).arr.toList).cell? ⟨g2, i * 2 + 1, none⟩ = some (.slice (some ⟨ge, 0, none⟩) z.es.length ce) ∧ (w3.setCells ge (k * 13) (Er.go (Er.mk off 2 es st fm is yr mo kk wd dd sec bs) x).arr.toList).cell? ⟨B, 0, none⟩ = some (.int .i64 off) ∧ (w3.setCells ge (k * 13) (Er.go (Er.mk off 2 es st fm is yr mo kk wd dd sec bs) x).arr.toList).cell? ⟨B, 1, none⟩ = some (.int .i64 2) ∧ (w3.setCells ge (k * 13) (Er.go (Er.mk off 2 es st fm is yr mo kk wd dd sec bs) x).arr.toList).cell? ⟨B, 2, none⟩ = some (.int .i64 es) ∧ (w3.setCells ge (k * 13) (Er.go (Er.mk off 2 es st fm is yr mo kk wd dd sec bs) x).arr.toList).cell? ⟨B, 3, none⟩ = some (.string st) ∧ (w3.setCells ge (k * 13) (Er.go (Er.mk off 2 es st fm is yr mo kk wd dd sec bs) x).arr.toList).cell? ⟨B, 4, none⟩ = some (.string fm) ∧ (w3.setCells ge (k * 13) (Er.go (Er.mk off 2 es st fm is yr mo kk wd dd sec bs) x).arr.toList).cell? ⟨B, 5, none⟩ = some (.bool is) ∧ (w3.setCells ge (k * 13) (Er.go (Er.mk off 2 es st fm is yr mo kk wd dd sec bs) x).arr.toList).cell? ⟨B, 6, none⟩ = some (.int .i64 yr) ∧ (w3.setCells ge (k * 13) (Er.go (Er.mk off 2 es st fm is yr mo kk wd dd sec bs) x).arr.toList).cell? ⟨B, 7, none⟩ = some (.int .i64 mo) ∧ (w3.setCells ge (k * 13) (Er.go (Er.mk off 2 es st fm is yr mo kk wd dd sec bs) x).arr.toList).cell? ⟨B, 8, none⟩ = some (.int .i64 kk) ∧ (w3.setCells ge (k * 13) (Er.go (Er.mk off 2 es st fm is yr mo kk wd dd sec bs) x).arr.toList).cell? ⟨B, 9, none⟩ = some (.int .i64 wd) ∧ (w3.setCells ge (k * 13) (Er.go (Er.mk off 2 es st fm is yr mo kk wd dd sec bs) x).arr.toList).cell? ⟨B, 10, none⟩ = some (.int .i64 dd) ∧ (w3.setCells ge (k * 13) (Er.go (Er.mk off 2 es st fm is yr mo kk wd dd sec bs) x).arr.toList).cell? ⟨B, 11, none⟩ = some (.int .i64 sec) ∧ (w3.setCells ge (k * 13) (Er.go (Er.mk off 2 es st fm is yr mo kk wd dd sec bs) x).arr.toList).cell? ⟨B, 12, none⟩ = some (.int .i64 bs) := ⟨cell_setCells hHeld.1 ht7, cell_setCells HZ1.out (fun e => by have h := q6; rw [e, q5] at h; simp at h), cell_setCells (cellB KB.out (i := 0) rfl) hBe, cell_setCells (cellB KB.out (i := 1) rfl) hBe, cell_setCells (cellB KB.out (i := 2) rfl) hBe, cell_setCells (cellB KB.out (i := 3) rfl) hBe, cell_setCells (cellB KB.out (i := 4) rfl) hBe, cell_setCells (cellB KB.out (i := 5) rfl) hBe, cell_setCells (cellB KB.out (i := 6) rfl) hBe, cell_setCells (cellB KB.out (i := 7) rfl) hBe, cell_setCells (cellB KB.out (i := 8) rfl) hBe, cell_setCells (cellB KB.out (i := 9) rfl) hBe, cell_setCells (cellB KB.out (i := 10) rfl) hBe, cell_setCells (cellB KB.out (i := 11) rfl) hBe, cell_setCells (cellB KB.out (i := 12) rfl) hBe⟩
            generalize w3.setCells ge (k * 13) (Er.go (Er.mk off 2 es st fm is yr mo kk wd dd sec bs) x).arr.toList = W4 at *
            refine hK.out _ _ (by exact hSp) (fun hHeld => ?_)
            clear hK K hSp
            try simp only [Act.put, List.getElem_toArray, List.getElem_cons_succ, List.getElem_cons_zero, List.setIfInBounds_toArray, List.set_cons_zero, List.set_cons_succ]
            refine wpAnyH_done (by kernel_rfl) ?_ _
            refine NoPanic.normal ?_
            clear hHeld
            go_wp2_with fail
            go_round
            case rel => exact ⟨k + 1, _, by omega, by go_num, rfl, K6', K7', HO4, HB'⟩
            case measure => simp [intOf]; omega
          · have hsh : (Er.mk off kd es st fm is yr mo kk wd dd sec bs).sh n x = (Er.mk off kd es st fm is yr mo kk wd dd sec bs) := if_neg hkd
            have HO2 : Hid (OwnS (W.heap.size + 1 + 1) (.slice a1 s.rs.length d1) (.slice (some ⟨g2, 0, none⟩) s.zs.length d2) (.slice a3 s.ls.length d3) (.slice a4 s.ns.length d4) ⟨s.rs, zst n x s.zs i (k + 1) z, s.ls, s.ns⟩ (wr.alloc (.cells #[.int .i64 off, .int .i64 kd, .int .i64 es, .string st, .string fm, .bool is, .int .i64 yr, .int .i64 mo, .int .i64 kk, .int .i64 wd, .int .i64 dd, .int .i64 sec, .int .i64 bs] 52))) := by
              rw [zst_same HE.out hsh]; exact HO.out
            by_cases hk2 : kd = 2
            · subst hk2
              have hne := str_ne (fun e => hkd ⟨rfl, e⟩)
              go_wp2_with fail
              go_round
              case rel => exact ⟨k + 1, _, by omega, by go_num, rfl, K6, K7, HO2, HB⟩
              case measure => simp [intOf]; omega
            · have hk1 : decide (kd = 2) = false := decide_eq_false hk2
              have hk3 : (kd == 2) = false := by simpa using hk2
              go_wp2_with fail
              go_round
              case rel => exact ⟨k + 1, _, by omega, by go_num, rfl, K6, K7, HO2, HB⟩
              case measure => simp [intOf]; omega
        · obtain rfl : z.es.length = k := by omega
          go_wp2_with fail
          go_round
          case rel => exact ⟨i + 1, _, by omega, by go_num, rfl, K6, K7, Lib.hid (by rw [← zst_n HZ.out]; exact HO.out), HB⟩
          case measure => simp [intOf]; omega
    · obtain rfl : s.zs.length = i := by omega
      obtain ⟨f0, f1, f2, f3⟩ := frz4 K6.out
      obtain ⟨y0, y1, y2, y3⟩ := row4 K7.out
      obtain ⟨z0, z1, z2, z3⟩ := row4 K6.out
      go_wp2_with fail
      refine bodyPost_ret (results_cell_row rfl _ _ _ _ _ _ _ rfl (set4 K6.out) Try.underlying27 rfl (by kernel_rfl)) rfl ?_
      refine ⟨_, _, _, _, rfl, Lib.hid ?_, bel_setCells (b := W.heap.size + 1) (o := 0) (l := [.slice a1 s.rs.length d1, .slice a2 s.zs.length d2, .slice a3 s.ls.length d3, .slice a4 s.ns.length d4]) HB.out (by omega)⟩
      have h := (HO.out.fall (b := W.heap.size + 1) (o := 0) (l := [.slice a1 s.rs.length d1, .slice a2 s.zs.length d2, .slice a3 s.ls.length d3, .slice a4 s.ns.length d4]) (by omega)).mono (by omega : W.heap.size ≤ _)
      rw [mix_n] at h
      exact h
end Go.Proofs.Ytdlmlcgmonkdfaa
