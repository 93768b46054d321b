/-
  The reference's SameRules, SameEras and Same: true at sources that read alike.
-/
import Derived.Test.YtdlmlcgmonkdfaaShfEq
import Derived.StillTailTactics
import Derived.BigQuiet
import Derived.Deep.QuietTactic
import Derived.Deep.RegionHeld3
namespace Go.Proofs.Ytdlmlcgmonkdfaa
open Go.RowKit Sh
set_option linter.unusedVariables false
set_option linter.unusedSimpArgs false

set_option maxRecDepth 100000 in
set_option maxHeartbeats 4000000 in
theorem sameR_any (u v : Value) (l : _root_.List Ru) (W : World) (hu : Rd 11 u l.length (flatR l) W) (hv : Rd 11 v l.length (flatR l) W) : Calls Try.prog 17 #[u, v] W fun e w' => e = .returned (.bool true) ∧ Below W.heap.size W w' := by
  obtain ⟨A, c1, rfl⟩ := hu.sl
  obtain ⟨B, c2, rfl⟩ := hv.sl
  have HU := Lib.hid hu
  have HV := Lib.hid hv
  have hl := hu.2.1
  clear hu hv
  obtain ⟨n, hN⟩ : ∃ n, n = l.length := ⟨_, rfl⟩
  rw [← hN] at hl ⊢
  have HN := Lib.hid hN
  clear hN
  have hne := neRuS
  go_enter Try.func17, Try.ntmps17
  go_wp2_with fail
  go_loopw [5] (fun s wr => ∃ (k : Nat) (wq : World), k ≤ n ∧ s = .int .i64 (k : Int) ∧ wr = wq ∧ Hid (Below W.heap.size W wq)) (fun s _ => n - (intOf s).toNat)
  case atStart => exact ⟨0, _, by omega, rfl, rfl, Lib.hid (Below.refl _ _)⟩
  case round =>
    obtain ⟨k, wq, hk, rfl, rfl, HB⟩ := hrel
    by_cases hlt : k < n
    · obtain ⟨e, he⟩ : ∃ e, l[k]? = some e := by rw [_root_.List.getElem?_eq_getElem (by rw [← HN.out]; exact hlt)]; exact ⟨_, rfl⟩
      obtain ⟨g1, o1, k1, q1, hr1⟩ := (HU.out.below HB.out).atR he
      obtain ⟨g2, o2, k2, q2, hr2⟩ := (HV.out.below HB.out).atR he
      simp only [Value.slice.injEq] at q1 q2
      obtain ⟨rfl, _, rfl⟩ := q1
      obtain ⟨rfl, _, rfl⟩ := q2
      obtain ⟨na, fr, ut, mo, kk, w, d, sec, base, save, le⟩ := e
      obtain ⟨a0, a1, a2, a3, a4, a5, a6, a7, a8, a9, a10⟩ := Ru.cells hr1
      obtain ⟨b0, b1, b2, b3, b4, b5, b6, b7, b8, b9, b10⟩ := Ru.cells hr2
      have hk0 : (0 : Int) ≤ (k : Int) := by omega
      have hk1 : (k : Int) < (n : Int) := by omega
      clear he hr1 hr2
      go_wp2_with fail
      go_quiet (fail)
      have HB2 := Lib.hid (bel_drew HB.out nq)
      clear a0 a1 a2 a3 a4 a5 a6 a7 a8 a9 a10 b0 b1 b2 b3 b4 b5 b6 b7 b8 b9 b10
      go_wp2_with fail
      go_round
      case rel => exact ⟨k + 1, _, by omega, by go_num, rfl, HB2⟩
      case measure => simp [intOf]; omega
    · obtain rfl : k = n := by omega
      go_wp2_with fail
      go_ret
      exact ⟨rfl, HB.out⟩

set_option maxRecDepth 100000 in
set_option maxHeartbeats 4000000 in
theorem sameE_any (u v : Value) (l : _root_.List Er) (W : World) (hu : Rd 13 u l.length (flatE l) W) (hv : Rd 13 v l.length (flatE l) W) : Calls Try.prog 20 #[u, v] W fun e w' => e = .returned (.bool true) ∧ Below W.heap.size W w' := by
  obtain ⟨A, c1, rfl⟩ := hu.sl
  obtain ⟨B, c2, rfl⟩ := hv.sl
  have HU := Lib.hid hu
  have HV := Lib.hid hv
  have hl := hu.2.1
  clear hu hv
  obtain ⟨n, hN⟩ : ∃ n, n = l.length := ⟨_, rfl⟩
  rw [← hN] at hl ⊢
  have HN := Lib.hid hN
  clear hN
  have hne := neErS
  go_enter Try.func20, Try.ntmps20
  go_wp2_with fail
  go_loopw [5] (fun s wr => ∃ (k : Nat) (wq : World), k ≤ n ∧ s = .int .i64 (k : Int) ∧ wr = wq ∧ Hid (Below W.heap.size W wq)) (fun s _ => n - (intOf s).toNat)
  case atStart => exact ⟨0, _, by omega, rfl, rfl, Lib.hid (Below.refl _ _)⟩
  case round =>
    obtain ⟨k, wq, hk, rfl, rfl, HB⟩ := hrel
    by_cases hlt : k < n
    · obtain ⟨e, he⟩ : ∃ e, l[k]? = some e := by rw [_root_.List.getElem?_eq_getElem (by rw [← HN.out]; exact hlt)]; exact ⟨_, rfl⟩
      obtain ⟨g1, o1, k1, q1, hr1⟩ := (HU.out.below HB.out).atE he
      obtain ⟨g2, o2, k2, q2, hr2⟩ := (HV.out.below HB.out).atE he
      simp only [Value.slice.injEq] at q1 q2
      obtain ⟨rfl, _, rfl⟩ := q1
      obtain ⟨rfl, _, rfl⟩ := q2
      obtain ⟨off, kind, save, set, fm, is, yr, mo, kk, wd, d, sec, base⟩ := e
      obtain ⟨a0, a1, a2, a3, a4, a5, a6, a7, a8, a9, a10, a11, a12⟩ := Er.cells hr1
      obtain ⟨b0, b1, b2, b3, b4, b5, b6, b7, b8, b9, b10, b11, b12⟩ := Er.cells hr2
      have hk0 : (0 : Int) ≤ (k : Int) := by omega
      have hk1 : (k : Int) < (n : Int) := by omega
      clear he hr1 hr2
      go_wp2_with fail
      go_quiet (fail)
      have HB2 := Lib.hid (bel_drew HB.out nq)
      clear a0 a1 a2 a3 a4 a5 a6 a7 a8 a9 a10 a11 a12 b0 b1 b2 b3 b4 b5 b6 b7 b8 b9 b10 b11 b12
      go_wp2_with fail
      go_round
      case rel => exact ⟨k + 1, _, by omega, by go_num, rfl, HB2⟩
      case measure => simp [intOf]; omega
    · obtain rfl : k = n := by omega
      go_wp2_with fail
      go_ret
      exact ⟨rfl, HB.out⟩

set_option maxRecDepth 100000 in
set_option maxHeartbeats 8000000 in
theorem same_any (u1 u2 u3 u4 v1 v2 v3 v4 : Value) (s : Sou) (W : World) (hu : RdS u1 u2 u3 u4 s W) (hv : RdS v1 v2 v3 v4 s W) : Calls Try.prog 14 #[.agg #[u1, u2, u3, u4], .agg #[v1, v2, v3, v4]] W fun e w' => e = .returned (.bool true) ∧ Below W.heap.size W w' := by
  obtain ⟨A1, c1, A2, c2, A3, c3, A4, c4, rfl, rfl, rfl, rfl⟩ := hu.sl
  obtain ⟨B1, d1, B2, d2, B3, d3, B4, d4, rfl, rfl, rfl, rfl⟩ := hv.sl
  have HU := Lib.hid hu
  have HV := Lib.hid hv
  have hl2 : s.zs.length ≤ 1000 := by obtain ⟨ps, _, h, _⟩ := hu.2.1; exact h.2.1
  have hl3 := hu.2.2.1.2.1
  have hl4 := hu.2.2.2.2.1
  clear hu hv
  have hne := neLiS
  have hk0 : Hid (((W.alloc (.cells #[.slice A1 s.rs.length c1, .slice A2 s.zs.length c2, .slice A3 s.ls.length c3, .slice A4 s.ns.length c4] 27)).alloc (.cells #[.slice B1 s.rs.length d1, .slice B2 s.zs.length d2, .slice B3 s.ls.length d3, .slice B4 s.ns.length d4] 27)).heap[W.heap.size]? = some (.cells #[.slice A1 s.rs.length c1, .slice A2 s.zs.length c2, .slice A3 s.ls.length c3, .slice A4 s.ns.length c4] 27)) := Lib.hid (block_below (heap_alloc_new W _) (bel_alloc _ _))
  have hr0 : Hid (((W.alloc (.cells #[.slice A1 s.rs.length c1, .slice A2 s.zs.length c2, .slice A3 s.ls.length c3, .slice A4 s.ns.length c4] 27)).alloc (.cells #[.slice B1 s.rs.length d1, .slice B2 s.zs.length d2, .slice B3 s.ls.length d3, .slice B4 s.ns.length d4] 27)).heap[W.heap.size + 1]? = some (.cells #[.slice B1 s.rs.length d1, .slice B2 s.zs.length d2, .slice B3 s.ls.length d3, .slice B4 s.ns.length d4] 27)) := Lib.hid (heap_alloc2_new W _ _)
  have hB0 : Hid (Below W.heap.size W ((W.alloc (.cells #[.slice A1 s.rs.length c1, .slice A2 s.zs.length c2, .slice A3 s.ls.length c3, .slice A4 s.ns.length c4] 27)).alloc (.cells #[.slice B1 s.rs.length d1, .slice B2 s.zs.length d2, .slice B3 s.ls.length d3, .slice B4 s.ns.length d4] 27))) := bel_trans (bel_alloc _ _) (bel_alloc _ _)
  go_enter Try.func14, Try.ntmps14
  go_wp2_with fail
  refine (sameR_any (.slice A1 s.rs.length c1) (.slice B1 s.rs.length d1) s.rs _ (HU.out.1.below hB0.out) (HV.out.1.below hB0.out)).mono ?_
  rintro e w1 ⟨rfl, hb⟩
  have hk := Lib.hid (block_below hk0.out hb)
  have hr := Lib.hid (block_below hr0.out hb)
  have hB := Lib.hid (bel_trans hB0.out hb)
  have HU1 := Lib.hid (HU.out.below hB.out)
  have HV1 := Lib.hid (HV.out.below hB.out)
  clear hb hk0 hr0 hB0 HU HV
  obtain ⟨x0, x1, x2, x3⟩ := row4 hk.out
  obtain ⟨y0, y1, y2, y3⟩ := row4 hr.out
  go_wp2_with fail
  clear x0 x1 x2 x3 y0 y1 y2 y3
  go_loopw [5] (fun s5 wr => ∃ (k : Nat) (wq : World), k ≤ s.zs.length ∧ s5 = .int .i64 (k : Int) ∧ wr = wq ∧ Hid (Below w1.heap.size w1 wq)) (fun s5 _ => s.zs.length - (intOf s5).toNat)
  case atStart => exact ⟨0, _, by omega, rfl, rfl, Lib.hid (Below.refl _ _)⟩
  case round =>
    obtain ⟨k, wq, hk1, rfl, rfl, HB⟩ := hrel
    obtain ⟨x0, x1, x2, x3⟩ := row4 (block_below hk.out HB.out)
    obtain ⟨y0, y1, y2, y3⟩ := row4 (block_below hr.out HB.out)
    by_cases hlt : k < s.zs.length
    · obtain ⟨z, hz⟩ : ∃ z, s.zs[k]? = some z := ⟨_, _root_.List.getElem?_eq_getElem hlt⟩
      obtain ⟨g1, o1, k1, a1, p1, q1, m1, n1, E1⟩ := (HU1.out.2.1.below HB.out).at_ hz
      obtain ⟨g2, o2, k2, a2, p2, q2, m2, n2, E2⟩ := (HV1.out.2.1.below HB.out).at_ hz
      simp only [Value.slice.injEq] at q1 q2
      obtain ⟨rfl, _, rfl⟩ := q1
      obtain ⟨rfl, _, rfl⟩ := q2
      have HE1 := Lib.hid E1
      have HE2 := Lib.hid E2
      have hi0 : (0 : Int) ≤ (k : Int) := by omega
      have hi1 : (k : Int) < (s.zs.length : Int) := by omega
      clear hz E1 E2
      go_wp2_with fail
      refine wp_region_noPanic ?_
      refine wp_region_held_drew (S := (fun w' => w'.cell? ⟨W.heap.size, 1, none⟩ = some (.slice (some ⟨g1, o1, none⟩) s.zs.length c2) ∧ w'.cell? ⟨W.heap.size + 1, 1, none⟩ = some (.slice (some ⟨g2, o2, none⟩) s.zs.length d2) ∧ w'.cell? ⟨g1, o1 + k * 2, none⟩ = some (.string z.na) ∧ w'.cell? ⟨g1, o1 + k * 2 + 1, none⟩ = some (.slice a1 z.es.length p1) ∧ w'.cell? ⟨g2, o2 + k * 2, none⟩ = some (.string z.na) ∧ w'.cell? ⟨g2, o2 + k * 2 + 1, none⟩ = some (.slice a2 z.es.length p2))) (by kernel_rfl) (by exact ⟨x1, y1, m1, n1, m2, n2⟩) (fun hHeld => ?_)
      refine wpAnyH_take (i := 0) (v := ?_) rfl (by kernel_rfl) (by kernel_rfl) (by kernel_rfl) (fun _ _ _ h => h) (Or.inl ⟨by rfl, ?_⟩) (by assumption) ?_
      rotate_left 1
      · (intro w hSw; (try dsimp only at hSw); first | (go_simp; done) | (go_simp; with_reducible rfl))
      try simp only [Act.put, List.getElem_toArray, List.getElem_cons_succ, List.getElem_cons_zero, List.setIfInBounds_toArray, List.set_cons_zero, List.set_cons_succ]
      refine wpAnyH_take (i := 1) (v := ?_) rfl (by kernel_rfl) (by kernel_rfl) (by kernel_rfl) (fun _ _ _ h => h) (Or.inl ⟨by rfl, ?_⟩) (by assumption) ?_
      rotate_left 1
      · (intro w hSw; (try dsimp only at hSw); first | (go_simp; done) | (go_simp; with_reducible rfl))
      try simp only [Act.put, List.getElem_toArray, List.getElem_cons_succ, List.getElem_cons_zero, List.setIfInBounds_toArray, List.set_cons_zero, List.set_cons_succ]
      refine wpAnyH_take (i := 2) (v := ?_) rfl (by kernel_rfl) (by kernel_rfl) (by kernel_rfl) (fun _ _ _ h => h) (Or.inl ⟨by rfl, ?_⟩) (by assumption) ?_
      rotate_left 1
      · (intro w hSw; (try dsimp only at hSw); first | (go_simp; done) | (go_simp; with_reducible rfl))
      try simp only [Act.put, List.getElem_toArray, List.getElem_cons_succ, List.getElem_cons_zero, List.setIfInBounds_toArray, List.set_cons_zero, List.set_cons_succ]
      refine wpAnyH_take (i := 3) (v := ?_) rfl (by kernel_rfl) (by kernel_rfl) (by kernel_rfl) (fun _ _ _ h => h) (Or.inl ⟨by rfl, ?_⟩) (by assumption) ?_
      rotate_left 1
      · (intro w hSw; (try dsimp only at hSw); first | (go_simp; done) | (go_simp; with_reducible rfl))
      try simp only [Act.put, List.getElem_toArray, List.getElem_cons_succ, List.getElem_cons_zero, List.setIfInBounds_toArray, List.set_cons_zero, List.set_cons_succ]
      refine wpAnyH_take (i := 4) (v := ?_) rfl (by kernel_rfl) (by kernel_rfl) (by kernel_rfl) (fun _ _ _ h => h) (Or.inl ⟨by rfl, ?_⟩) (by assumption) ?_
      rotate_left 1
      · (intro w hSw; (try dsimp only at hSw); first | (go_simp; done) | (go_simp; with_reducible rfl))
      try simp only [Act.put, List.getElem_toArray, List.getElem_cons_succ, List.getElem_cons_zero, List.setIfInBounds_toArray, List.set_cons_zero, List.set_cons_succ]
      refine wpAnyH_take (i := 5) (v := ?_) rfl (by kernel_rfl) (by kernel_rfl) (by kernel_rfl) (fun _ _ _ h => h) (Or.inl ⟨by rfl, ?_⟩) (by assumption) ?_
      rotate_left 1
      · (intro w hSw; (try dsimp only at hSw); first | (go_simp; done) | (go_simp; with_reducible rfl))
      try simp only [Act.put, List.getElem_toArray, List.getElem_cons_succ, List.getElem_cons_zero, List.setIfInBounds_toArray, List.set_cons_zero, List.set_cons_succ]
      refine wpAnyH_take (i := 6) (v := ?_) rfl (by kernel_rfl) (by kernel_rfl) (by kernel_rfl) (fun _ _ _ h => h) (Or.inl ⟨by rfl, ?_⟩) (by assumption) ?_
      rotate_left 1
      · (intro w hSw; (try dsimp only at hSw); first | (go_simp; done) | (go_simp; with_reducible rfl))
      try simp only [Act.put, List.getElem_toArray, List.getElem_cons_succ, List.getElem_cons_zero, List.setIfInBounds_toArray, List.set_cons_zero, List.set_cons_succ]
      refine wpAnyH_take (i := 7) (v := ?_) rfl (by kernel_rfl) (by kernel_rfl) (by kernel_rfl) (fun _ _ _ h => h) (Or.inl ⟨by rfl, ?_⟩) (by assumption) ?_
      rotate_left 1
      · (intro w hSw; (try dsimp only at hSw); first | (go_simp; done) | (go_simp; with_reducible rfl))
      try simp only [Act.put, List.getElem_toArray, List.getElem_cons_succ, List.getElem_cons_zero, List.setIfInBounds_toArray, List.set_cons_zero, List.set_cons_succ]
      refine wpAnyH_take (i := 8) (v := ?_) rfl (by kernel_rfl) (by kernel_rfl) (by kernel_rfl) (fun _ _ _ h => h) (Or.inl ⟨by rfl, ?_⟩) (by assumption) ?_
      rotate_left 1
      · (intro w hSw; (try dsimp only at hSw); first | (go_simp; done) | (go_simp; with_reducible rfl))
      try simp only [Act.put, List.getElem_toArray, List.getElem_cons_succ, List.getElem_cons_zero, List.setIfInBounds_toArray, List.set_cons_zero, List.set_cons_succ]
      refine wpAnyH_take (i := 9) (v := ?_) rfl (by kernel_rfl) (by kernel_rfl) (by kernel_rfl) (fun _ _ _ h => h) (Or.inl ⟨by rfl, ?_⟩) (by assumption) ?_
      rotate_left 1
      · (intro w hSw; (try dsimp only at hSw); first | (go_simp; done) | (go_simp; with_reducible rfl))
      try simp only [Act.put, List.getElem_toArray, List.getElem_cons_succ, List.getElem_cons_zero, List.setIfInBounds_toArray, List.set_cons_zero, List.set_cons_succ]
      refine wpAnyH_take (i := 10) (v := ?_) rfl (by kernel_rfl) (by kernel_rfl) (by kernel_rfl) (fun _ _ _ h => h) (Or.inl ⟨by rfl, ?_⟩) (by assumption) ?_
      rotate_left 1
      · (intro w hSw; (try dsimp only at hSw); first | (go_simp; done) | (go_simp; with_reducible rfl))
      try simp only [Act.put, List.getElem_toArray, List.getElem_cons_succ, List.getElem_cons_zero, List.setIfInBounds_toArray, List.set_cons_zero, List.set_cons_succ]
      refine wpAnyH_take (i := 11) (v := ?_) rfl (by kernel_rfl) (by kernel_rfl) (by kernel_rfl) (fun _ _ _ h => h) (Or.inl ⟨by rfl, ?_⟩) (by assumption) ?_
      rotate_left 1
      · (intro w hSw; (try dsimp only at hSw); first | (go_simp; done) | (go_simp; with_reducible rfl))
      try simp only [Act.put, List.getElem_toArray, List.getElem_cons_succ, List.getElem_cons_zero, List.setIfInBounds_toArray, List.set_cons_zero, List.set_cons_succ]
      refine wpAnyH_take (i := 12) (v := ?_) rfl (by kernel_rfl) (by kernel_rfl) (by kernel_rfl) (fun _ _ _ h => h) (Or.inl ⟨by rfl, ?_⟩) (by assumption) ?_
      rotate_left 1
      · (intro w hSw; (try dsimp only at hSw); first | (go_simp; done) | (go_simp; with_reducible rfl))
      try simp only [Act.put, List.getElem_toArray, List.getElem_cons_succ, List.getElem_cons_zero, List.setIfInBounds_toArray, List.set_cons_zero, List.set_cons_succ]
      refine wpAnyH_take (i := 13) (v := ?_) rfl (by kernel_rfl) (by kernel_rfl) (by kernel_rfl) (fun _ _ _ h => h) (Or.inl ⟨by rfl, ?_⟩) (by assumption) ?_
      rotate_left 1
      · (intro w hSw; (try dsimp only at hSw); first | (go_simp; done) | (go_simp; with_reducible rfl))
      try simp only [Act.put, List.getElem_toArray, List.getElem_cons_succ, List.getElem_cons_zero, List.setIfInBounds_toArray, List.set_cons_zero, List.set_cons_succ]
      refine wpAnyH_take (i := 14) (v := ?_) rfl (by kernel_rfl) (by kernel_rfl) (by kernel_rfl) (fun _ _ _ h => h) (Or.inl ⟨by rfl, ?_⟩) (by assumption) ?_
      rotate_left 1
      · (intro w hSw; (try dsimp only at hSw); first | (go_simp; done) | (go_simp; with_reducible rfl))
      try simp only [Act.put, List.getElem_toArray, List.getElem_cons_succ, List.getElem_cons_zero, List.setIfInBounds_toArray, List.set_cons_zero, List.set_cons_succ]
      refine wpAnyH_take (i := 15) (v := ?_) rfl (by kernel_rfl) (by kernel_rfl) (by kernel_rfl) (fun _ _ _ h => h) (Or.inl ⟨by rfl, ?_⟩) (by assumption) ?_
      rotate_left 1
      · (intro w hSw; (try dsimp only at hSw); first | (go_simp; done) | (go_simp; with_reducible rfl))
      try simp only [Act.put, List.getElem_toArray, List.getElem_cons_succ, List.getElem_cons_zero, List.setIfInBounds_toArray, List.set_cons_zero, List.set_cons_succ]
      refine wpAnyH_take (i := 16) (v := ?_) rfl (by kernel_rfl) (by kernel_rfl) (by kernel_rfl) (fun _ _ _ h => h) (Or.inl ⟨by rfl, ?_⟩) (by assumption) ?_
      rotate_left 1
      · (intro w hSw; (try dsimp only at hSw); first | (go_simp; done) | (go_simp; with_reducible rfl))
      try simp only [Act.put, List.getElem_toArray, List.getElem_cons_succ, List.getElem_cons_zero, List.setIfInBounds_toArray, List.set_cons_zero, List.set_cons_succ]
      refine wpAnyH_take (i := 17) (v := ?_) rfl (by kernel_rfl) (by kernel_rfl) (by kernel_rfl) (fun _ _ _ h => h) (Or.inl ⟨by rfl, ?_⟩) (by assumption) ?_
      rotate_left 1
      · (intro w hSw; (try dsimp only at hSw); first | (go_simp; done) | (go_simp; with_reducible rfl))
      try simp only [Act.put, List.getElem_toArray, List.getElem_cons_succ, List.getElem_cons_zero, List.setIfInBounds_toArray, List.set_cons_zero, List.set_cons_succ]
      refine wpAnyH_take (i := 18) (v := ?_) rfl (by kernel_rfl) (by kernel_rfl) (by kernel_rfl) (fun _ _ _ h => h) (Or.inl ⟨by rfl, ?_⟩) (by assumption) ?_
      rotate_left 1
      · (intro w hSw; (try dsimp only at hSw); first | (go_simp; done) | (go_simp; with_reducible rfl))
      try simp only [Act.put, List.getElem_toArray, List.getElem_cons_succ, List.getElem_cons_zero, List.setIfInBounds_toArray, List.set_cons_zero, List.set_cons_succ]
      refine wpAnyH_take (i := 19) (v := ?_) rfl (by kernel_rfl) (by kernel_rfl) (by kernel_rfl) (fun _ _ _ h => h) (Or.inl ⟨by rfl, ?_⟩) (by assumption) ?_
      rotate_left 1
      · (intro w hSw; (try dsimp only at hSw); first | (go_simp; done) | (go_simp; with_reducible rfl))
      try simp only [Act.put, List.getElem_toArray, List.getElem_cons_succ, List.getElem_cons_zero, List.setIfInBounds_toArray, List.set_cons_zero, List.set_cons_succ]
      refine wpAnyH_take (i := 20) (v := ?_) rfl (by kernel_rfl) (by kernel_rfl) (by kernel_rfl) (fun _ _ _ h => h) (Or.inl ⟨by rfl, ?_⟩) (by assumption) ?_
      rotate_left 1
      · (intro w hSw; (try dsimp only at hSw); first | (go_simp; done) | (go_simp; with_reducible rfl))
      try simp only [Act.put, List.getElem_toArray, List.getElem_cons_succ, List.getElem_cons_zero, List.setIfInBounds_toArray, List.set_cons_zero, List.set_cons_succ]
      refine wpAnyH_take (i := 21) (v := ?_) rfl (by kernel_rfl) (by kernel_rfl) (by kernel_rfl) (fun _ _ _ h => h) (Or.inl ⟨by rfl, ?_⟩) (by assumption) ?_
      rotate_left 1
      · (intro w hSw; (try dsimp only at hSw); first | (go_simp; done) | (go_simp; with_reducible rfl))
      try simp only [Act.put, List.getElem_toArray, List.getElem_cons_succ, List.getElem_cons_zero, List.setIfInBounds_toArray, List.set_cons_zero, List.set_cons_succ]
      refine wpAnyH_take (i := 22) (v := ?_) rfl (by kernel_rfl) (by kernel_rfl) (by kernel_rfl) (fun _ _ _ h => h) (Or.inl ⟨by rfl, ?_⟩) (by assumption) ?_
      rotate_left 1
      · (intro w hSw; (try dsimp only at hSw); first | (go_simp; done) | (go_simp; with_reducible rfl))
      try simp only [Act.put, List.getElem_toArray, List.getElem_cons_succ, List.getElem_cons_zero, List.setIfInBounds_toArray, List.set_cons_zero, List.set_cons_succ]
      refine wpAnyH_take (i := 23) (v := ?_) rfl (by kernel_rfl) (by kernel_rfl) (by kernel_rfl) (fun _ _ _ h => h) (Or.inl ⟨by rfl, ?_⟩) (by assumption) ?_
      rotate_left 1
      · (intro w hSw; (try dsimp only at hSw); first | (go_simp; done) | (go_simp; with_reducible rfl))
      try simp only [Act.put, List.getElem_toArray, List.getElem_cons_succ, List.getElem_cons_zero, List.setIfInBounds_toArray, List.set_cons_zero, List.set_cons_succ]
      refine wpAnyH_take (i := 24) (v := ?_) rfl (by kernel_rfl) (by kernel_rfl) (by kernel_rfl) (fun _ _ _ h => h) (Or.inl ⟨by rfl, ?_⟩) (by assumption) ?_
      rotate_left 1
      · (intro w hSw; (try dsimp only at hSw); first | (go_simp; done) | (go_simp; with_reducible rfl))
      try simp only [Act.put, List.getElem_toArray, List.getElem_cons_succ, List.getElem_cons_zero, List.setIfInBounds_toArray, List.set_cons_zero, List.set_cons_succ]
      refine wpAnyH_take (i := 25) (v := ?_) rfl (by kernel_rfl) (by kernel_rfl) (by kernel_rfl) (fun _ _ _ h => h) (Or.inl ⟨by rfl, ?_⟩) (by assumption) ?_
      rotate_left 1
      · (intro w hSw; (try dsimp only at hSw); first | (go_simp; done) | (go_simp; with_reducible rfl))
      try simp only [Act.put, List.getElem_toArray, List.getElem_cons_succ, List.getElem_cons_zero, List.setIfInBounds_toArray, List.set_cons_zero, List.set_cons_succ]
      refine wpAnyH_ready (rs := [26]) (by kernel_rfl) (by simp) ?_
      refine AllReadyH.cons rfl (fun K hK => ?_) AllReadyH.nil
      go_simp
      have hbd : Below wr.heap.size wr wr.drew := Below.drew (Below.refl _ _)
      refine (sameE_any (.slice a1 z.es.length p1) (.slice a2 z.es.length p2) z.es _ (HE1.out.below hbd) (HE2.out.below hbd)).mono ?_
      rintro e w3 ⟨rfl, hb3⟩
      have hb4 := bel_trans hbd hb3
      have HB3 := Lib.hid (bel_trans HB.out hb4)
      go_wp2_with fail
      refine hK.out _ _ (by exact ⟨cell_below hb4 x1, cell_below hb4 y1, cell_below hb4 m1, cell_below hb4 n1, cell_below hb4 m2, cell_below hb4 n2⟩) (fun hHeld => ?_)
      clear hK K hbd hb3 hb4
      try simp only [Act.put, List.getElem_toArray, List.getElem_cons_succ, List.getElem_cons_zero, List.setIfInBounds_toArray, List.set_cons_zero, List.set_cons_succ]
      refine wpAnyH_take (i := 27) (v := ?_) rfl (by kernel_rfl) (by kernel_rfl) (by kernel_rfl) (fun _ _ _ h => h) (Or.inl ⟨by rfl, ?_⟩) (by assumption) ?_
      rotate_left 1
      · (intro w hSw; (try dsimp only at hSw); first | (go_simp; done) | (go_simp; with_reducible rfl))
      try simp only [Act.put, List.getElem_toArray, List.getElem_cons_succ, List.getElem_cons_zero, List.setIfInBounds_toArray, List.set_cons_zero, List.set_cons_succ]
      refine wpAnyH_take (i := 28) (v := ?_) rfl (by kernel_rfl) (by kernel_rfl) (by kernel_rfl) (fun _ _ _ h => h) (Or.inl ⟨by rfl, ?_⟩) (by assumption) ?_
      rotate_left 1
      · (intro w hSw; (try dsimp only at hSw); first | (go_simp; done) | (go_simp; with_reducible rfl))
      try simp only [Act.put, List.getElem_toArray, List.getElem_cons_succ, List.getElem_cons_zero, List.setIfInBounds_toArray, List.set_cons_zero, List.set_cons_succ]
      refine wpAnyH_done (by kernel_rfl) ?_ _
      refine NoPanic.normal ?_
      clear x0 x1 x2 x3 y0 y1 y2 y3 m1 m2 n1 n2
      go_wp2_with fail
      go_round
      case rel => exact ⟨k + 1, _, by omega, by go_num, rfl, HB3⟩
      case measure => simp [intOf]; omega
    · have hke : k = s.zs.length := by omega
      subst hke
      go_wp2_with fail
      clear x0 x1 x2 x3 y0 y1 y2 y3
      go_loopw [6] (fun s5 wr => ∃ (k : Nat) (wq : World), k ≤ s.ls.length ∧ s5 = .int .i64 (k : Int) ∧ wr = wq ∧ Hid (Below w1.heap.size w1 wq)) (fun s5 _ => s.ls.length - (intOf s5).toNat)
      case atStart => exact ⟨0, _, by omega, rfl, rfl, HB⟩
      case round =>
        obtain ⟨k, wq, hk1, rfl, rfl, HB⟩ := hrel
        obtain ⟨x0, x1, x2, x3⟩ := row4 (block_below hk.out HB.out)
        obtain ⟨y0, y1, y2, y3⟩ := row4 (block_below hr.out HB.out)
        by_cases hlt : k < s.ls.length
        · obtain ⟨z, hz⟩ : ∃ z, s.ls[k]? = some z := ⟨_, _root_.List.getElem?_eq_getElem hlt⟩
          obtain ⟨g1, o1, k1, q1, m1, n1⟩ := (HU1.out.2.2.1.below HB.out).atL hz
          obtain ⟨g2, o2, k2, q2, m2, n2⟩ := (HV1.out.2.2.1.below HB.out).atL hz
          simp only [Value.slice.injEq] at q1 q2
          obtain ⟨rfl, _, rfl⟩ := q1
          obtain ⟨rfl, _, rfl⟩ := q2
          have hi0 : (0 : Int) ≤ (k : Int) := by omega
          have hi1 : (k : Int) < (s.ls.length : Int) := by omega
          clear hz
          go_wp2_with fail
          go_quiet (fail)
          have HB2 := Lib.hid (bel_drew HB.out nq)
          clear x0 x1 x2 x3 y0 y1 y2 y3 m1 m2 n1 n2
          go_wp2_with fail
          go_round
          case rel => exact ⟨k + 1, _, by omega, by go_num, rfl, HB2⟩
          case measure => simp [intOf]; omega
        · have hke : k = s.ls.length := by omega
          subst hke
          go_wp2_with fail
          clear x0 x1 x2 x3 y0 y1 y2 y3
          go_loopw [7] (fun s5 wr => ∃ (k : Nat) (wq : World), k ≤ s.ns.length ∧ s5 = .int .i64 (k : Int) ∧ wr = wq ∧ Hid (Below w1.heap.size w1 wq)) (fun s5 _ => s.ns.length - (intOf s5).toNat)
          case atStart => exact ⟨0, _, by omega, rfl, rfl, HB⟩
          case round =>
            obtain ⟨k, wq, hk1, rfl, rfl, HB⟩ := hrel
            obtain ⟨x0, x1, x2, x3⟩ := row4 (block_below hk.out HB.out)
            obtain ⟨y0, y1, y2, y3⟩ := row4 (block_below hr.out HB.out)
            by_cases hlt : k < s.ns.length
            · obtain ⟨z, hz⟩ : ∃ z, s.ns[k]? = some z := ⟨_, _root_.List.getElem?_eq_getElem hlt⟩
              obtain ⟨g1, o1, k1, q1, m1⟩ := (HU1.out.2.2.2.below HB.out).atN hz
              obtain ⟨g2, o2, k2, q2, m2⟩ := (HV1.out.2.2.2.below HB.out).atN hz
              simp only [Value.slice.injEq] at q1 q2
              obtain ⟨rfl, _, rfl⟩ := q1
              obtain ⟨rfl, _, rfl⟩ := q2
              have hi0 : (0 : Int) ≤ (k : Int) := by omega
              have hi1 : (k : Int) < (s.ns.length : Int) := by omega
              clear hz
              go_wp2_with fail
              go_quiet (fail)
              have HB2 := Lib.hid (bel_drew HB.out nq)
              clear x0 x1 x2 x3 y0 y1 y2 y3 m1 m2
              go_wp2_with fail
              go_round
              case rel => exact ⟨k + 1, _, by omega, by go_num, rfl, HB2⟩
              case measure => simp [intOf]; omega
            · have hke : k = s.ns.length := by omega
              subst hke
              go_wp2_with fail
              go_ret
              exact ⟨rfl, bel_trans hB.out HB.out⟩
end Go.Proofs.Ytdlmlcgmonkdfaa
