/-
  The walk of the law ShiftSums.
-/
import Derived.Test.YtdlmlcgmonkdfaaShfSumL
namespace Go.Proofs.Ytdlmlcgmonkdfaa
open Go.RowKit Sh
set_option linter.unusedVariables false
set_option linter.unusedSimpArgs false


set_option maxRecDepth 100000 in
set_option maxHeartbeats 8000000 in
theorem shiftSums_core (A1 A2 A3 A4 : Option Addr) (n1 n2 n3 n4 c1 c2 c3 c4 : Nat) (ms : _root_.List Nat) (W : World) (hbd : n1 ≤ maxLen ∧ n2 ≤ maxLen ∧ n3 ≤ maxLen ∧ n4 ≤ maxLen) (hml : ms.length = n2) (hbm : ∀ k ∈ ms, k ≤ maxLen) (hraw : RawZ A2 ms W) (hs : n1 ≤ 40 → n2 ≤ 10 → n3 ≤ 40 → n4 ≤ 40 → (∀ k ∈ ms, k ≤ 20) → ∃ s : Sou, s.rs.length = n1 ∧ s.zs.length = n2 ∧ s.ls.length = n3 ∧ s.ns.length = n4 ∧ s.fits ∧ RdS (.slice A1 n1 c1) (.slice A2 n2 c2) (.slice A3 n3 c3) (.slice A4 n4 c4) s W) (n : ByteArray) (x : Int) (hx : I64 x) : Calls Try.prog 5 #[.agg #[.slice A1 n1 c1, .slice A2 n2 c2, .slice A3 n3 c3, .slice A4 n4 c4], .string n, .int .i64 x] W fun e w' => e = .returned (.bool true) ∧ Below W.heap.size W w' := by
  go_enter Try.func5, Try.ntmps5
  have K0 := Lib.hid (heap_alloc_new W (.cells #[.slice A1 n1 c1, .slice A2 n2 c2, .slice A3 n3 c3, .slice A4 n4 c4] 27))
  have HB := Lib.hid (bel_alloc W (.cells #[.slice A1 n1 c1, .slice A2 n2 c2, .slice A3 n3 c3, .slice A4 n4 c4] 27))
  go_wp2_with fail
  refine (few_any A1 A2 A3 A4 n1 n2 n3 n4 c1 c2 c3 c4 ms _ hbd hml hbm (hraw.below HB.out)).mono ?_
  rintro e w0 ⟨b, rfl, HF, hb⟩
  cases b
  · go_wp2_with fail
    refine (works28_any _).mono ?_
    rintro e w9 ⟨rfl, hb9⟩
    go_wp2_with fail
    go_ret
    exact ⟨rfl, bel_trans (bel_trans HB.out hb) hb9⟩
  obtain ⟨l1, l2, l3, l4, l5⟩ := HF.out rfl
  obtain ⟨s, e1, e2, e3, e4, hfit, hS⟩ := hs l1 l2 l3 l4 l5
  clear hs HF
  subst e1 e2 e3 e4
  have HS := Lib.hid (hS.below (bel_trans HB.out hb))
  have HFIT := Lib.hid hfit
  replace HB := Lib.hid (bel_trans HB.out hb)
  replace K0 := Lib.hid (block_below K0.out hb)
  clear hS hfit hb hraw hml hbm hbd l5
  obtain ⟨q, hN⟩ : ∃ q, hasN n s.rs = q := ⟨_, rfl⟩
  cases q
  · have HN := Lib.hid hN
    clear hN
    obtain ⟨K0x0, K0x1, K0x2, K0x3⟩ := row4 K0.out
    go_wp2_with fail
    refine (setN_any _ _ _ _ s n x _ HS.out HN.out).mono ?_
    rintro e w1 ⟨rfl, hb⟩
    clear K0x0 K0x1 K0x2 K0x3
    replace hb := bel_trans hb (bel_alloc w1 (.cells #[.slice none 0 0, .slice none 0 0, .slice none 0 0, .slice none 0 0] 27))
    replace HB := Lib.hid (bel_trans HB.out hb)
    replace K0 := Lib.hid (block_below K0.out hb)
    replace HS := Lib.hid (HS.out.below hb)
    clear hb
    go_wp2_with fail
    refine (works28_any _).mono ?_
    rintro e w9 ⟨rfl, hb9⟩
    go_wp2_with fail
    go_ret
    exact ⟨rfl, bel_trans HB.out hb9⟩
  · have HN := Lib.hid hN
    clear hN
    obtain ⟨K0x0, K0x1, K0x2, K0x3⟩ := row4 K0.out
    go_wp2_with fail
    refine (setY_any _ _ _ _ s n x _ HS.out HN.out).mono ?_
    rintro e w1 ⟨u1, u2, u3, u4, rfl, HU, hb⟩
    obtain ⟨a11, d11, a12, d12, a13, d13, a14, d14, rfl, rfl, rfl, rfl⟩ := HU.out.rd.sl
    clear K0x0 K0x1 K0x2 K0x3
    replace hb := bel_trans hb (bel_alloc w1 (.cells #[.slice a11 (s.shS n x).rs.length d11, .slice a12 (s.shS n x).zs.length d12, .slice a13 (s.shS n x).ls.length d13, .slice a14 (s.shS n x).ns.length d14] 27))
    have K1 := Lib.hid (heap_alloc_new w1 (.cells #[.slice a11 (s.shS n x).rs.length d11, .slice a12 (s.shS n x).zs.length d12, .slice a13 (s.shS n x).ls.length d13, .slice a14 (s.shS n x).ns.length d14] 27))
    have O1 := Lib.hid (HU.out.below (bel_alloc w1 (.cells #[.slice a11 (s.shS n x).rs.length d11, .slice a12 (s.shS n x).zs.length d12, .slice a13 (s.shS n x).ls.length d13, .slice a14 (s.shS n x).ns.length d14] 27)))
    clear HU
    replace HB := Lib.hid (bel_trans HB.out hb)
    replace K0 := Lib.hid (block_below K0.out hb)
    replace HS := Lib.hid (HS.out.below hb)
    clear hb
    clear HN
    have hl2 : s.zs.length ≤ 1000 := by omega
    have hq1 : (s.shS n x).rs.length = s.rs.length := by unfold Sou.shS; exact _root_.List.length_map _
    have hq2 : (s.shS n x).zs.length = s.zs.length := by unfold Sou.shS shZ; exact _root_.List.length_map _
    have hq3 : (s.shS n x).ls.length = s.ls.length := rfl
    have hq4 : (s.shS n x).ns.length = s.ns.length := rfl
    rw [hq1, hq2, hq3, hq4] at K0 K1 O1 HS HB ⊢
    have hneR := neRuS
    have hneE := neErS
    have hneL := neLiS
    have hneC := neCl
    clear hq1 hq2 hq3 hq4
    obtain ⟨K0x0, K0x1, K0x2, K0x3⟩ := row4 K0.out
    obtain ⟨K1x0, K1x1, K1x2, K1x3⟩ := row4 K1.out
    go_wp2_with fail
    clear K0x0 K0x1 K0x2 K0x3 K1x0 K1x1 K1x2 K1x3
    generalize hWX : w1.alloc (.cells #[.slice a11 s.rs.length d11, .slice a12 s.zs.length d12, .slice a13 s.ls.length d13, .slice a14 s.ns.length d14] 27) = WX at *
    clear hWX
    refine sums_loop1 (by kernel_rfl) s n x hx A1 a11 c1 d11 w1.heap.size _ l1 (Lib.hid HS.out.1) (Lib.hid O1.out.rd.1) (Lib.hid (cellB K1.out (i := 0) rfl)) _ _ _ _ _ _ _ _ _ _ _ _ _ _ _ _ _ _ _ _ _ _ _ _ _ _ _ _ _ _ _ _ _ _ _ _ _ _ _ _ _ _ _ _ _ _ _ _ _ _ _ _ _ _ _ _ _ _ _ _ _ _ _ _ _ _ _ _ _ _ _ _ _ _ _ _ _ _ _ _ _ _ _ _ _ _ _ _ _ _ _ _ _ _ _ _ _ _ _ _ _ _ _ _ _ _ _ _ _ _ _ _ _ _ _ _ _ _ _ _ _ _ _ _ _ _ _ _ _ _ _ _ _ _ _ _ _ _ _ _ _ _ _ _ _ _ _ _ _ _ _ _ _ _ _ _ _ _ _ _ _ _ _ _ _ _ _ _ _ _ _ _ _ _ _ _ _ _ _ _ _ _ _ _ _ _ _ _ _ _ _ _ _ _ _ _ _ _ _ _ _ _ _ _ _ _ _ _ _ _ _ _ _ _ _ _ _ _ _ _ _ _ _ _ _ _ _ _ _ _ _ _ _ _ _ _ _ _ _ _ _ _ _ _ _ _ _ _ _ _ _ _ _ _ _ _ _ _ _ _ _ _ _ _ _ _ _ _ _ _ _ _ _ _ _ _ _ _ _ _ _ _ _ _ _ _ _ _ _ _ _ _ _ _ _ _ _ _ (Lib.hid ?_)
    intro v6 v9 v10 v11 v78 v79 v80 v81 v82 v83 v84 v85 v86 v87 v88 v89 v90 v91 v92 v93 v94 v95 v96 v97 v98 v99 v100 v101 v102 v103 v104 v105 v106 v107 v108 v109 v110 v111 v112 v113 v114 v115 v116 v117 v118 v119 v120 v121 v122 v123 v124 v125 v126 v127 v128 v129 v130 v131 v132 v133 v134 v135 v136 v137 v138 v139 v140 v141 v142 v143 v144 v145 wr HQ
    replace HB := Lib.hid (bel_trans HB.out HQ.out)
    replace K0 := Lib.hid (block_below K0.out HQ.out)
    replace K1 := Lib.hid (block_below K1.out HQ.out)
    replace HS := Lib.hid (HS.out.below HQ.out)
    replace O1 := Lib.hid (O1.out.below HQ.out)
    obtain ⟨K0x0, K0x1, K0x2, K0x3⟩ := row4 K0.out
    go_wp2_with fail
    generalize hren : wr = WA at *
    clear hren
    clear K0x0 K0x1 K0x2 K0x3
    go_loopw [149] (fun t wr => ∃ (i : Nat) (wq : World), i ≤ s.zs.length ∧ t = .int .i64 (i : Int) ∧ wr = wq ∧ Hid (Below WA.heap.size WA wq)) (fun t _ => s.zs.length - (intOf t).toNat)
    case atStart => exact ⟨0, _, by omega, rfl, by trivial, Lib.hid (Below.refl _ _)⟩
    case round =>
      obtain ⟨i, wq, hi, rfl, rfl, HQ2⟩ := hrel
      replace HB := Lib.hid (bel_trans HB.out HQ2.out)
      replace K0 := Lib.hid (block_below K0.out HQ2.out)
      replace K1 := Lib.hid (block_below K1.out HQ2.out)
      replace HS := Lib.hid (HS.out.below HQ2.out)
      replace O1 := Lib.hid (O1.out.below HQ2.out)
      by_cases hlt2 : i < s.zs.length
      · obtain ⟨z, hz⟩ : ∃ z, s.zs[i]? = some z := ⟨_, _root_.List.getElem?_eq_getElem hlt2⟩
        have hzq : (s.shS n x).zs[i]? = some ⟨z.na, z.es.map fun r => r.sh n x⟩ := by unfold Sou.shS shZ; rw [_root_.List.getElem?_map, hz]; rfl
        obtain ⟨g3, o3, p3, a3, c3', q3, m3, n3', E3⟩ := HS.out.2.1.at_ hz
        obtain ⟨g4, o4, p4, a4, c4', q4, m4, n4', E4⟩ := O1.out.rd.2.1.at_ hzq
        have q4' : a12 = some ⟨g4, o4, none⟩ ∧ d12 = p4 := by simp only [Value.slice.injEq] at q4; exact ⟨q4.1, q4.2.2⟩
        simp only [Value.slice.injEq] at q3
        obtain ⟨rfl, _, rfl⟩ := q3
        obtain ⟨rfl, rfl⟩ := q4'
        have hel : (z.es.map fun r => r.sh n x).length = z.es.length := _root_.List.length_map _
        have HE3 := Lib.hid E3
        have hl3z : z.es.length ≤ 1000 := E3.2.1
        have HE4 : Hid (Rd 13 (.slice a4 (z.es.map fun r => r.sh n x).length c4') (z.es.map fun r => r.sh n x).length (flatE (z.es.map fun r => r.sh n x)) wr) := Lib.hid E4
        have m4' : wr.cell? ⟨g4, o4 + i * 2, none⟩ = some (.string z.na) := m4
        have n4'' : wr.cell? ⟨g4, o4 + i * 2 + 1, none⟩ = some (.slice a4 z.es.length c4') := by rw [n4']; show some (Value.slice a4 (z.es.map fun r => r.sh n x).length c4') = _; rw [hel]
        have hi0 : (0 : Int) ≤ (i : Int) := by omega
        have hi1 : (i : Int) < (s.zs.length : Int) := by omega
        have KZ := heap_alloc_new wr (.cells #[.string z.na, .slice a3 z.es.length c3'] 48)
        have hal := bel_alloc wr (.cells #[.string z.na, .slice a3 z.es.length c3'] 48)
        have H0 : Hid ((wr.alloc (.cells #[.string z.na, .slice a3 z.es.length c3'] 48)).cell? ⟨w1.heap.size, 1, none⟩ = some (.slice (some ⟨g4, o4, none⟩) s.zs.length d12) ∧ (wr.alloc (.cells #[.string z.na, .slice a3 z.es.length c3'] 48)).cell? ⟨g4, o4 + i * 2, none⟩ = some (.string z.na) ∧ (wr.alloc (.cells #[.string z.na, .slice a3 z.es.length c3'] 48)).cell? ⟨g4, o4 + i * 2 + 1, none⟩ = some (.slice a4 z.es.length c4') ∧ (wr.alloc (.cells #[.string z.na, .slice a3 z.es.length c3'] 48)).cell? ⟨wr.heap.size, 0, none⟩ = some (.string z.na) ∧ (wr.alloc (.cells #[.string z.na, .slice a3 z.es.length c3'] 48)).cell? ⟨wr.heap.size, 1, none⟩ = some (.slice a3 z.es.length c3')) := Lib.hid ⟨cell_below hal (cellB K1.out (i := 1) rfl), cell_below hal m4', cell_below hal n4'', cellB KZ (i := 0) rfl, cellB KZ (i := 1) rfl⟩
        have HZ4 := Lib.hid n4''
        clear hz hzq q4 E3 E4 m4 n4' m4' n4'' hel
        go_wp2_with fail
        clear m3 n3'
        refine wp_region_noPanic ?_
        refine wp_region_held_drew (S := (fun w' => w'.cell? ⟨w1.heap.size, 1, none⟩ = some (.slice (some ⟨g4, o4, none⟩) s.zs.length d12) ∧ w'.cell? ⟨g4, o4 + i * 2, none⟩ = some (.string z.na) ∧ w'.cell? ⟨g4, o4 + i * 2 + 1, none⟩ = some (.slice a4 z.es.length c4') ∧ w'.cell? ⟨wr.heap.size, 0, none⟩ = some (.string z.na) ∧ w'.cell? ⟨wr.heap.size, 1, none⟩ = some (.slice a3 z.es.length c3'))) (by kernel_rfl) (by exact H0.out) (fun hHeld => ?_)
        refine wpAnyH_take (i := 0) (v := ?_) rfl (by kernel_rfl) (by kernel_rfl) (by kernel_rfl) (fun _ _ _ h => h) (Or.inl ⟨by rfl, ?_⟩) (by assumption) ?_
        rotate_left 1
        · (intro w hSw; (try dsimp only at hSw); first | (go_simp; done) | (go_simp; with_reducible rfl))
        try simp only [Act.put, List.getElem_toArray, List.getElem_cons_succ, List.getElem_cons_zero, List.setIfInBounds_toArray, List.set_cons_zero, List.set_cons_succ]
        refine wpAnyH_take (i := 1) (v := ?_) rfl (by kernel_rfl) (by kernel_rfl) (by kernel_rfl) (fun _ _ _ h => h) (Or.inl ⟨by rfl, ?_⟩) (by assumption) ?_
        rotate_left 1
        · (intro w hSw; (try dsimp only at hSw); first | (go_simp; done) | (go_simp; with_reducible rfl))
        try simp only [Act.put, List.getElem_toArray, List.getElem_cons_succ, List.getElem_cons_zero, List.setIfInBounds_toArray, List.set_cons_zero, List.set_cons_succ]
        refine wpAnyH_take (i := 2) (v := ?_) rfl (by kernel_rfl) (by kernel_rfl) (by kernel_rfl) (fun _ _ _ h => h) (Or.inl ⟨by rfl, ?_⟩) (by assumption) ?_
        rotate_left 1
        · (intro w hSw; (try dsimp only at hSw); first | (go_simp; done) | (go_simp; with_reducible rfl))
        try simp only [Act.put, List.getElem_toArray, List.getElem_cons_succ, List.getElem_cons_zero, List.setIfInBounds_toArray, List.set_cons_zero, List.set_cons_succ]
        refine wpAnyH_take (i := 3) (v := ?_) rfl (by kernel_rfl) (by kernel_rfl) (by kernel_rfl) (fun _ _ _ h => h) (Or.inl ⟨by rfl, ?_⟩) (by assumption) ?_
        rotate_left 1
        · (intro w hSw; (try dsimp only at hSw); first | (go_simp; done) | (go_simp; with_reducible rfl))
        try simp only [Act.put, List.getElem_toArray, List.getElem_cons_succ, List.getElem_cons_zero, List.setIfInBounds_toArray, List.set_cons_zero, List.set_cons_succ]
        refine wpAnyH_take (i := 4) (v := ?_) rfl (by kernel_rfl) (by kernel_rfl) (by kernel_rfl) (fun _ _ _ h => h) (Or.inl ⟨by rfl, ?_⟩) (by assumption) ?_
        rotate_left 1
        · (intro w hSw; (try dsimp only at hSw); first | (go_simp; done) | (go_simp; with_reducible rfl))
        try simp only [Act.put, List.getElem_toArray, List.getElem_cons_succ, List.getElem_cons_zero, List.setIfInBounds_toArray, List.set_cons_zero, List.set_cons_succ]
        refine wpAnyH_take (i := 5) (v := ?_) rfl (by kernel_rfl) (by kernel_rfl) (by kernel_rfl) (fun _ _ _ h => h) (Or.inl ⟨by rfl, ?_⟩) (by assumption) ?_
        rotate_left 1
        · (intro w hSw; (try dsimp only at hSw); first | (go_simp; done) | (go_simp; with_reducible rfl))
        try simp only [Act.put, List.getElem_toArray, List.getElem_cons_succ, List.getElem_cons_zero, List.setIfInBounds_toArray, List.set_cons_zero, List.set_cons_succ]
        refine wpAnyH_take (i := 6) (v := ?_) rfl (by kernel_rfl) (by kernel_rfl) (by kernel_rfl) (fun _ _ _ h => h) (Or.inl ⟨by rfl, ?_⟩) (by assumption) ?_
        rotate_left 1
        · (intro w hSw; (try dsimp only at hSw); first | (go_simp; done) | (go_simp; with_reducible rfl))
        try simp only [Act.put, List.getElem_toArray, List.getElem_cons_succ, List.getElem_cons_zero, List.setIfInBounds_toArray, List.set_cons_zero, List.set_cons_succ]
        refine wpAnyH_take (i := 7) (v := ?_) rfl (by kernel_rfl) (by kernel_rfl) (by kernel_rfl) (fun _ _ _ h => h) (Or.inl ⟨by rfl, ?_⟩) (by assumption) ?_
        rotate_left 1
        · (intro w hSw; (try dsimp only at hSw); first | (go_simp; done) | (go_simp; with_reducible rfl))
        try simp only [Act.put, List.getElem_toArray, List.getElem_cons_succ, List.getElem_cons_zero, List.setIfInBounds_toArray, List.set_cons_zero, List.set_cons_succ]
        refine wpAnyH_take (i := 8) (v := ?_) rfl (by kernel_rfl) (by kernel_rfl) (by kernel_rfl) (fun _ _ _ h => h) (Or.inl ⟨by rfl, ?_⟩) (by assumption) ?_
        rotate_left 1
        · (intro w hSw; (try dsimp only at hSw); first | (go_simp; done) | (go_simp; with_reducible rfl))
        try simp only [Act.put, List.getElem_toArray, List.getElem_cons_succ, List.getElem_cons_zero, List.setIfInBounds_toArray, List.set_cons_zero, List.set_cons_succ]
        refine wpAnyH_take (i := 9) (v := ?_) rfl (by kernel_rfl) (by kernel_rfl) (by kernel_rfl) (fun _ _ _ h => h) (Or.inl ⟨by rfl, ?_⟩) (by assumption) ?_
        rotate_left 1
        · (intro w hSw; (try dsimp only at hSw); first | (go_simp; done) | (go_simp; with_reducible rfl))
        try simp only [Act.put, List.getElem_toArray, List.getElem_cons_succ, List.getElem_cons_zero, List.setIfInBounds_toArray, List.set_cons_zero, List.set_cons_succ]
        refine wpAnyH_take (i := 10) (v := ?_) rfl (by kernel_rfl) (by kernel_rfl) (by kernel_rfl) (fun _ _ _ h => h) (Or.inl ⟨by rfl, ?_⟩) (by assumption) ?_
        rotate_left 1
        · (intro w hSw; (try dsimp only at hSw); first | (go_simp; done) | (go_simp; with_reducible rfl))
        try simp only [Act.put, List.getElem_toArray, List.getElem_cons_succ, List.getElem_cons_zero, List.setIfInBounds_toArray, List.set_cons_zero, List.set_cons_succ]
        refine wpAnyH_take (i := 11) (v := ?_) rfl (by kernel_rfl) (by kernel_rfl) (by kernel_rfl) (fun _ _ _ h => h) (Or.inl ⟨by rfl, ?_⟩) (by assumption) ?_
        rotate_left 1
        · (intro w hSw; (try dsimp only at hSw); first | (go_simp; done) | (go_simp; with_reducible rfl))
        try simp only [Act.put, List.getElem_toArray, List.getElem_cons_succ, List.getElem_cons_zero, List.setIfInBounds_toArray, List.set_cons_zero, List.set_cons_succ]
        refine wpAnyH_take (i := 12) (v := ?_) rfl (by kernel_rfl) (by kernel_rfl) (by kernel_rfl) (fun _ _ _ h => h) (Or.inl ⟨by rfl, ?_⟩) (by assumption) ?_
        rotate_left 1
        · (intro w hSw; (try dsimp only at hSw); first | (go_simp; done) | (go_simp; with_reducible rfl))
        try simp only [Act.put, List.getElem_toArray, List.getElem_cons_succ, List.getElem_cons_zero, List.setIfInBounds_toArray, List.set_cons_zero, List.set_cons_succ]
        refine wpAnyH_take (i := 13) (v := ?_) rfl (by kernel_rfl) (by kernel_rfl) (by kernel_rfl) (fun _ _ _ h => h) (Or.inl ⟨by rfl, ?_⟩) (by assumption) ?_
        rotate_left 1
        · (intro w hSw; (try dsimp only at hSw); first | (go_simp; done) | (go_simp; with_reducible rfl))
        try simp only [Act.put, List.getElem_toArray, List.getElem_cons_succ, List.getElem_cons_zero, List.setIfInBounds_toArray, List.set_cons_zero, List.set_cons_succ]
        refine wpAnyH_take (i := 14) (v := ?_) rfl (by kernel_rfl) (by kernel_rfl) (by kernel_rfl) (fun _ _ _ h => h) (Or.inl ⟨by rfl, ?_⟩) (by assumption) ?_
        rotate_left 1
        · (intro w hSw; (try dsimp only at hSw); first | (go_simp; done) | (go_simp; with_reducible rfl))
        try simp only [Act.put, List.getElem_toArray, List.getElem_cons_succ, List.getElem_cons_zero, List.setIfInBounds_toArray, List.set_cons_zero, List.set_cons_succ]
        refine wpAnyH_take (i := 15) (v := ?_) rfl (by kernel_rfl) (by kernel_rfl) (by kernel_rfl) (fun _ _ _ h => h) (Or.inl ⟨by rfl, ?_⟩) (by assumption) ?_
        rotate_left 1
        · (intro w hSw; (try dsimp only at hSw); first | (go_simp; done) | (go_simp; with_reducible rfl))
        try simp only [Act.put, List.getElem_toArray, List.getElem_cons_succ, List.getElem_cons_zero, List.setIfInBounds_toArray, List.set_cons_zero, List.set_cons_succ]
        refine wpAnyH_take (i := 16) (v := ?_) rfl (by kernel_rfl) (by kernel_rfl) (by kernel_rfl) (fun _ _ _ h => h) (Or.inl ⟨by rfl, ?_⟩) (by assumption) ?_
        rotate_left 1
        · (intro w hSw; (try dsimp only at hSw); first | (go_simp; done) | (go_simp; with_reducible rfl))
        try simp only [Act.put, List.getElem_toArray, List.getElem_cons_succ, List.getElem_cons_zero, List.setIfInBounds_toArray, List.set_cons_zero, List.set_cons_succ]
        refine wpAnyH_take (i := 17) (v := ?_) rfl (by kernel_rfl) (by kernel_rfl) (by kernel_rfl) (fun _ _ _ h => h) (Or.inl ⟨by rfl, ?_⟩) (by assumption) ?_
        rotate_left 1
        · (intro w hSw; (try dsimp only at hSw); first | (go_simp; done) | (go_simp; with_reducible rfl))
        try simp only [Act.put, List.getElem_toArray, List.getElem_cons_succ, List.getElem_cons_zero, List.setIfInBounds_toArray, List.set_cons_zero, List.set_cons_succ]
        refine wpAnyH_take (i := 18) (v := ?_) rfl (by kernel_rfl) (by kernel_rfl) (by kernel_rfl) (fun _ _ _ h => h) (Or.inl ⟨by rfl, ?_⟩) (by assumption) ?_
        rotate_left 1
        · (intro w hSw; (try dsimp only at hSw); first | (go_simp; done) | (go_simp; with_reducible rfl))
        try simp only [Act.put, List.getElem_toArray, List.getElem_cons_succ, List.getElem_cons_zero, List.setIfInBounds_toArray, List.set_cons_zero, List.set_cons_succ]
        refine wpAnyH_take (i := 19) (v := ?_) rfl (by kernel_rfl) (by kernel_rfl) (by kernel_rfl) (fun _ _ _ h => h) (Or.inl ⟨by rfl, ?_⟩) (by assumption) ?_
        rotate_left 1
        · (intro w hSw; (try dsimp only at hSw); first | (go_simp; done) | (go_simp; with_reducible rfl))
        try simp only [Act.put, List.getElem_toArray, List.getElem_cons_succ, List.getElem_cons_zero, List.setIfInBounds_toArray, List.set_cons_zero, List.set_cons_succ]
        refine wpAnyH_take (i := 20) (v := ?_) rfl (by kernel_rfl) (by kernel_rfl) (by kernel_rfl) (fun _ _ _ h => h) (Or.inl ⟨by rfl, ?_⟩) (by assumption) ?_
        rotate_left 1
        · (intro w hSw; (try dsimp only at hSw); first | (go_simp; done) | (go_simp; with_reducible rfl))
        try simp only [Act.put, List.getElem_toArray, List.getElem_cons_succ, List.getElem_cons_zero, List.setIfInBounds_toArray, List.set_cons_zero, List.set_cons_succ]
        refine wpAnyH_take (i := 21) (v := ?_) rfl (by kernel_rfl) (by kernel_rfl) (by kernel_rfl) (fun _ _ _ h => h) (Or.inl ⟨by rfl, ?_⟩) (by assumption) ?_
        rotate_left 1
        · (intro w hSw; (try dsimp only at hSw); first | (go_simp; done) | (go_simp; with_reducible rfl))
        try simp only [Act.put, List.getElem_toArray, List.getElem_cons_succ, List.getElem_cons_zero, List.setIfInBounds_toArray, List.set_cons_zero, List.set_cons_succ]
        refine wpAnyH_done (by kernel_rfl) ?_ _
        refine NoPanic.normal ?_
        clear hHeld
        generalize hZW : wr = ZW at *
        clear hZW
        have hald := Below.drew hal
        replace HB := Lib.hid (bel_trans HB.out hald)
        replace K0 := Lib.hid (block_below K0.out hald)
        replace K1 := Lib.hid (block_below K1.out hald)
        replace HS := Lib.hid (HS.out.below hald)
        replace O1 := Lib.hid (O1.out.below hald)
        have K13 := Lib.hid (block_below KZ (Below.drew (Below.refl _ _)))
        replace HE3 := Lib.hid (HE3.out.below hald)
        replace HE4 := Lib.hid (HE4.out.below hald)
        replace HZ4 := Lib.hid (cell_below hald HZ4.out)
        replace HQ2 := Lib.hid (bel_trans HQ2.out hald)
        clear KZ hald hal H0
        generalize (ZW.alloc (.cells #[.string z.na, .slice a3 z.es.length c3'] 48)).drew = wr at *
        have K13x0 := cellB K13.out (i := 0) rfl
        have K13x1 := cellB K13.out (i := 1) rfl
        go_wp2_with fail
        generalize hren : wr = WB at *
        clear hren
        clear K13x0 K13x1
        go_loopw [179] (fun t wr => ∃ (k3 : Nat) (wq : World), k3 ≤ z.es.length ∧ t = .int .i64 (k3 : Int) ∧ wr = wq ∧ Hid (Below WB.heap.size WB wq)) (fun t _ => z.es.length - (intOf t).toNat)
        case atStart => exact ⟨0, _, by omega, rfl, by trivial, Lib.hid (Below.refl _ _)⟩
        case round =>
          obtain ⟨k3, wq, hk3, rfl, rfl, HQ3⟩ := hrel
          replace HB := Lib.hid (bel_trans HB.out HQ3.out)
          replace K0 := Lib.hid (block_below K0.out HQ3.out)
          replace K1 := Lib.hid (block_below K1.out HQ3.out)
          replace HS := Lib.hid (HS.out.below HQ3.out)
          replace O1 := Lib.hid (O1.out.below HQ3.out)
          replace K13 := Lib.hid (block_below K13.out HQ3.out)
          by_cases hlt3 : k3 < z.es.length
          · obtain ⟨e, he⟩ : ∃ e, z.es[k3]? = some e := ⟨_, _root_.List.getElem?_eq_getElem hlt3⟩
            have heq : (z.es.map fun r => r.sh n x)[k3]? = some (e.sh n x) := by rw [_root_.List.getElem?_map, he]; rfl
            obtain ⟨g5, o5, p5, q5, hc5⟩ := (HE3.out.below HQ3.out).atE he
            obtain ⟨g6, o6, p6, q6, hc4⟩ := (HE4.out.below HQ3.out).atE heq
            have q6' : a4 = some ⟨g6, o6, none⟩ ∧ c4' = p6 := by simp only [Value.slice.injEq] at q6; exact ⟨q6.1, q6.2.2⟩
            simp only [Value.slice.injEq] at q5
            obtain ⟨rfl, _, rfl⟩ := q5
            obtain ⟨rfl, rfl⟩ := q6'
            obtain ⟨off, kd, es, st, fm, is, yr, mo, kk, wd, dd, sec, bs⟩ := e
            obtain ⟨a0, a1, a2, a3, a4, a5, a6, a7, a8, a9, a10, a11, a12⟩ := Er.cells hc5
            have hi0 : (0 : Int) ≤ (k3 : Int) := by omega
            have hi1 : (k3 : Int) < (z.es.length : Int) := by omega
            have hi2 : (0 : Int) ≤ (i : Int) := by omega
            have hi3 : (i : Int) < (s.zs.length : Int) := by omega
            have lx1 := cellB K1.out (i := 1) rfl
            have hz4 := cell_below HQ3.out HZ4.out
            clear he heq q6 hc5
            by_cases hkd : kd = 2
            · subst hkd
              by_cases hst : st = n
              · subst hst
                obtain ⟨of2, hof2⟩ : ∃ of2, wrap64 (off - x) = of2 := ⟨_, rfl⟩
                obtain ⟨sc, hsc⟩ : ∃ sc, sc = (if is = true ∧ bs = 1 then wrap64 (sec - x) else sec) := ⟨_, rfl⟩
                have hesh : (Er.mk off 2 es st fm is yr mo kk wd dd sec bs).sh st x = ⟨of2, 2, es, st, fm, is, yr, mo, kk, wd, dd, sc, bs⟩ := by
                  rw [hsc, ← hof2]
                  unfold Er.sh less
                  rw [if_pos ⟨rfl, rfl⟩]
                  cases is
                  · simp
                  · by_cases hb : bs = 1 <;> simp [hb]
                have HOF2 := Lib.hid hof2
                have HSC := Lib.hid hsc
                clear hof2 hsc
                rw [hesh] at hc4
                obtain ⟨b0, b1, b2, b3, b4, b5, b6, b7, b8, b9, b10, b11, b12⟩ := Er.cells hc4
                clear hc4 hesh
                have d0 : ∀ ob, (wr.alloc ob).cell? _ = some _ := fun ob => cell_below (bel_alloc wr ob) b0
                have d1 : ∀ ob, (wr.alloc ob).cell? _ = some _ := fun ob => cell_below (bel_alloc wr ob) b1
                have d2 : ∀ ob, (wr.alloc ob).cell? _ = some _ := fun ob => cell_below (bel_alloc wr ob) b2
                have d3 : ∀ ob, (wr.alloc ob).cell? _ = some _ := fun ob => cell_below (bel_alloc wr ob) b3
                have d4 : ∀ ob, (wr.alloc ob).cell? _ = some _ := fun ob => cell_below (bel_alloc wr ob) b4
                have d5 : ∀ ob, (wr.alloc ob).cell? _ = some _ := fun ob => cell_below (bel_alloc wr ob) b5
                have d6 : ∀ ob, (wr.alloc ob).cell? _ = some _ := fun ob => cell_below (bel_alloc wr ob) b6
                have d7 : ∀ ob, (wr.alloc ob).cell? _ = some _ := fun ob => cell_below (bel_alloc wr ob) b7
                have d8 : ∀ ob, (wr.alloc ob).cell? _ = some _ := fun ob => cell_below (bel_alloc wr ob) b8
                have d9 : ∀ ob, (wr.alloc ob).cell? _ = some _ := fun ob => cell_below (bel_alloc wr ob) b9
                have d10 : ∀ ob, (wr.alloc ob).cell? _ = some _ := fun ob => cell_below (bel_alloc wr ob) b10
                have d11 : ∀ ob, (wr.alloc ob).cell? _ = some _ := fun ob => cell_below (bel_alloc wr ob) b11
                have d12 : ∀ ob, (wr.alloc ob).cell? _ = some _ := fun ob => cell_below (bel_alloc wr ob) b12
                have ly1 : ∀ ob, (wr.alloc ob).cell? ⟨w1.heap.size, 1, none⟩ = some _ := fun ob => cell_below (bel_alloc wr ob) lx1
                have lz1 : ∀ ob, (wr.alloc ob).cell? ⟨g4, o4 + i * 2 + 1, none⟩ = some _ := fun ob => cell_below (bel_alloc wr ob) hz4
                have K15 := Lib.hid (block_below (heap_alloc_new wr (.cells #[.int .i64 off, .int .i64 2, .int .i64 es, .string st, .string fm, .bool is, .int .i64 yr, .int .i64 mo, .int .i64 kk, .int .i64 wd, .int .i64 dd, .int .i64 sec, .int .i64 bs] 52)) (bel_alloc _ (.cells #[.int .i64 of2, .int .i64 2, .int .i64 es, .string st, .string fm, .bool is, .int .i64 yr, .int .i64 mo, .int .i64 kk, .int .i64 wd, .int .i64 dd, .int .i64 sc, .int .i64 bs] 52)))
                have K16 := Lib.hid (heap_alloc2_new wr (.cells #[.int .i64 off, .int .i64 2, .int .i64 es, .string st, .string fm, .bool is, .int .i64 yr, .int .i64 mo, .int .i64 kk, .int .i64 wd, .int .i64 dd, .int .i64 sec, .int .i64 bs] 52) (.cells #[.int .i64 of2, .int .i64 2, .int .i64 es, .string st, .string fm, .bool is, .int .i64 yr, .int .i64 mo, .int .i64 kk, .int .i64 wd, .int .i64 dd, .int .i64 sc, .int .i64 bs] 52))
                have hal2 := bel_trans (bel_alloc wr (.cells #[.int .i64 off, .int .i64 2, .int .i64 es, .string st, .string fm, .bool is, .int .i64 yr, .int .i64 mo, .int .i64 kk, .int .i64 wd, .int .i64 dd, .int .i64 sec, .int .i64 bs] 52)) (bel_alloc _ (.cells #[.int .i64 of2, .int .i64 2, .int .i64 es, .string st, .string fm, .bool is, .int .i64 yr, .int .i64 mo, .int .i64 kk, .int .i64 wd, .int .i64 dd, .int .i64 sc, .int .i64 bs] 52))
                go_upto_region 33 with fail
                generalize hWC : wr = WC at *
                clear hWC
                have HLE := Lib.hid HQ3.out.size
                replace HB := Lib.hid (bel_trans HB.out hal2)
                replace K0 := Lib.hid (block_below K0.out hal2)
                replace K1 := Lib.hid (block_below K1.out hal2)
                replace HS := Lib.hid (HS.out.below hal2)
                replace O1 := Lib.hid (O1.out.below hal2)
                replace K13 := Lib.hid (block_below K13.out hal2)
                replace HQ3 := Lib.hid (bel_trans HQ3.out hal2)
                clear hal2 a0 a1 a2 a3 a4 a5 a6 a7 a8 a9 a10 a11 a12 b0 b1 b2 b3 b4 b5 b6 b7 b8 b9 b10 b11 b12 d0 d1 d2 d3 d4 d5 d6 d7 d8 d9 d10 d11 d12 ly1 lz1 lx1 hz4
                obtain ⟨K0x0, K0x1, K0x2, K0x3⟩ := row4 K0.out
                go_wp2_with fail
                refine sums_loop4 (by kernel_rfl) s st x off of2 A1 a11 c1 d11 w1.heap.size WC.heap.size (WC.heap.size + 1) _ l1 HOF2 (Lib.hid HS.out.1) (Lib.hid O1.out.rd.1) (Lib.hid (cellB K1.out (i := 0) rfl)) (Lib.hid (cellB K15.out (i := 0) rfl)) (Lib.hid (cellB K16.out (i := 0) rfl)) _ _ _ _ _ _ _ _ _ _ _ _ _ _ _ _ _ _ _ _ _ _ _ _ _ _ _ _ _ _ _ _ _ _ _ _ _ _ _ _ _ _ _ _ _ _ _ _ _ _ _ _ _ _ _ _ _ _ _ _ _ _ _ _ _ _ _ _ _ _ _ _ _ _ _ _ _ _ _ _ _ _ _ _ _ _ _ _ _ _ _ _ _ _ _ _ _ _ _ _ _ _ _ _ _ _ _ _ _ _ _ _ _ _ _ _ _ _ _ _ _ _ _ _ _ _ _ _ _ _ _ _ _ _ _ _ _ _ _ _ _ _ _ _ _ _ _ _ _ _ _ _ _ _ _ _ _ _ _ _ _ _ _ _ _ _ _ _ _ _ _ _ _ _ _ _ _ _ _ _ _ _ _ _ _ _ _ _ _ _ _ _ _ _ _ _ _ _ _ _ _ _ _ _ _ _ _ _ _ _ _ _ _ _ _ _ _ _ _ _ _ _ _ _ _ _ _ _ _ _ _ _ _ _ _ _ _ _ _ _ _ _ _ _ _ _ _ _ _ _ _ _ _ _ _ _ _ _ _ _ _ _ _ _ _ _ _ _ _ _ _ _ _ _ _ _ _ _ _ _ _ _ _ _ _ _ _ _ _ _ _ _ _ _ _ _ _ (Lib.hid ?_)
                intro v6 v17 v18 v208 v209 v210 v211 v212 v213 v214 v215 v216 v217 v218 v219 v220 v221 v222 v223 v224 v225 v226 v227 v228 v229 v230 v231 v232 v233 v234 wr HQ
                clear K0x0 K0x1 K0x2 K0x3
                replace HB := Lib.hid (bel_trans HB.out HQ.out)
                replace K0 := Lib.hid (block_below K0.out HQ.out)
                replace K1 := Lib.hid (block_below K1.out HQ.out)
                replace HS := Lib.hid (HS.out.below HQ.out)
                replace O1 := Lib.hid (O1.out.below HQ.out)
                replace K13 := Lib.hid (block_below K13.out HQ.out)
                replace K15 := Lib.hid (block_below K15.out HQ.out)
                replace K16 := Lib.hid (block_below K16.out HQ.out)
                replace HQ3 := Lib.hid (bel_trans HQ3.out HQ.out)
                go_upto_region 39 with fail
                go_cut [257] (fun t w' => t = .bool false ∧ w' = wr)
                case first =>
                  cases is
                  · obtain rfl : sc = sec := HSC.out.trans (if_neg (by simp))
                    have a0 := cellB K15.out (i := 0) rfl
                    have a1 := cellB K15.out (i := 1) rfl
                    have a2 := cellB K15.out (i := 2) rfl
                    have a3 := cellB K15.out (i := 3) rfl
                    have a4 := cellB K15.out (i := 4) rfl
                    have a5 := cellB K15.out (i := 5) rfl
                    have a6 := cellB K15.out (i := 6) rfl
                    have a7 := cellB K15.out (i := 7) rfl
                    have a8 := cellB K15.out (i := 8) rfl
                    have a9 := cellB K15.out (i := 9) rfl
                    have a10 := cellB K15.out (i := 10) rfl
                    have a11 := cellB K15.out (i := 11) rfl
                    have a12 := cellB K15.out (i := 12) rfl
                    have b0 := cellB K16.out (i := 0) rfl
                    have b1 := cellB K16.out (i := 1) rfl
                    have b2 := cellB K16.out (i := 2) rfl
                    have b3 := cellB K16.out (i := 3) rfl
                    have b4 := cellB K16.out (i := 4) rfl
                    have b5 := cellB K16.out (i := 5) rfl
                    have b6 := cellB K16.out (i := 6) rfl
                    have b7 := cellB K16.out (i := 7) rfl
                    have b8 := cellB K16.out (i := 8) rfl
                    have b9 := cellB K16.out (i := 9) rfl
                    have b10 := cellB K16.out (i := 10) rfl
                    have b11 := cellB K16.out (i := 11) rfl
                    have b12 := cellB K16.out (i := 12) rfl
                    go_wp2_with fail
                    go_meet
                    case rel => exact ⟨by trivial, by trivial⟩
                  · by_cases hbs : bs = 1
                    · subst hbs
                      obtain rfl : sc = wrap64 (sec - x) := HSC.out.trans (if_pos ⟨rfl, rfl⟩)
                      have a0 := cellB K15.out (i := 0) rfl
                      have a1 := cellB K15.out (i := 1) rfl
                      have a2 := cellB K15.out (i := 2) rfl
                      have a3 := cellB K15.out (i := 3) rfl
                      have a4 := cellB K15.out (i := 4) rfl
                      have a5 := cellB K15.out (i := 5) rfl
                      have a6 := cellB K15.out (i := 6) rfl
                      have a7 := cellB K15.out (i := 7) rfl
                      have a8 := cellB K15.out (i := 8) rfl
                      have a9 := cellB K15.out (i := 9) rfl
                      have a10 := cellB K15.out (i := 10) rfl
                      have a11 := cellB K15.out (i := 11) rfl
                      have a12 := cellB K15.out (i := 12) rfl
                      have b0 := cellB K16.out (i := 0) rfl
                      have b1 := cellB K16.out (i := 1) rfl
                      have b2 := cellB K16.out (i := 2) rfl
                      have b3 := cellB K16.out (i := 3) rfl
                      have b4 := cellB K16.out (i := 4) rfl
                      have b5 := cellB K16.out (i := 5) rfl
                      have b6 := cellB K16.out (i := 6) rfl
                      have b7 := cellB K16.out (i := 7) rfl
                      have b8 := cellB K16.out (i := 8) rfl
                      have b9 := cellB K16.out (i := 9) rfl
                      have b10 := cellB K16.out (i := 10) rfl
                      have b11 := cellB K16.out (i := 11) rfl
                      have b12 := cellB K16.out (i := 12) rfl
                      go_wp2_with fail
                      go_meet
                      case rel => exact ⟨by trivial, by trivial⟩
                    · obtain rfl : sc = sec := HSC.out.trans (if_neg (by simp [hbs]))
                      have hb1 : decide (bs = 1) = false := decide_eq_false hbs
                      have hb2 : (bs == 1) = false := by simpa using hbs
                      have a0 := cellB K15.out (i := 0) rfl
                      have a1 := cellB K15.out (i := 1) rfl
                      have a2 := cellB K15.out (i := 2) rfl
                      have a3 := cellB K15.out (i := 3) rfl
                      have a4 := cellB K15.out (i := 4) rfl
                      have a5 := cellB K15.out (i := 5) rfl
                      have a6 := cellB K15.out (i := 6) rfl
                      have a7 := cellB K15.out (i := 7) rfl
                      have a8 := cellB K15.out (i := 8) rfl
                      have a9 := cellB K15.out (i := 9) rfl
                      have a10 := cellB K15.out (i := 10) rfl
                      have a11 := cellB K15.out (i := 11) rfl
                      have a12 := cellB K15.out (i := 12) rfl
                      have b0 := cellB K16.out (i := 0) rfl
                      have b1 := cellB K16.out (i := 1) rfl
                      have b2 := cellB K16.out (i := 2) rfl
                      have b3 := cellB K16.out (i := 3) rfl
                      have b4 := cellB K16.out (i := 4) rfl
                      have b5 := cellB K16.out (i := 5) rfl
                      have b6 := cellB K16.out (i := 6) rfl
                      have b7 := cellB K16.out (i := 7) rfl
                      have b8 := cellB K16.out (i := 8) rfl
                      have b9 := cellB K16.out (i := 9) rfl
                      have b10 := cellB K16.out (i := 10) rfl
                      have b11 := cellB K16.out (i := 11) rfl
                      have b12 := cellB K16.out (i := 12) rfl
                      go_wp2_with fail
                      go_meet
                      case rel => exact ⟨by trivial, by trivial⟩
                case rest =>
                  obtain ⟨rfl, hcw⟩ := hcut
                  have hcw2 := hcw.symm
                  subst hcw2
                  clear hcw
                  have a0 := cellB K15.out (i := 0) rfl
                  have a1 := cellB K15.out (i := 1) rfl
                  have a2 := cellB K15.out (i := 2) rfl
                  have a3 := cellB K15.out (i := 3) rfl
                  have a4 := cellB K15.out (i := 4) rfl
                  have a5 := cellB K15.out (i := 5) rfl
                  have a6 := cellB K15.out (i := 6) rfl
                  have a7 := cellB K15.out (i := 7) rfl
                  have a8 := cellB K15.out (i := 8) rfl
                  have a9 := cellB K15.out (i := 9) rfl
                  have a10 := cellB K15.out (i := 10) rfl
                  have a11 := cellB K15.out (i := 11) rfl
                  have a12 := cellB K15.out (i := 12) rfl
                  have b0 := cellB K16.out (i := 0) rfl
                  have b1 := cellB K16.out (i := 1) rfl
                  have b2 := cellB K16.out (i := 2) rfl
                  have b3 := cellB K16.out (i := 3) rfl
                  have b4 := cellB K16.out (i := 4) rfl
                  have b5 := cellB K16.out (i := 5) rfl
                  have b6 := cellB K16.out (i := 6) rfl
                  have b7 := cellB K16.out (i := 7) rfl
                  have b8 := cellB K16.out (i := 8) rfl
                  have b9 := cellB K16.out (i := 9) rfl
                  have b10 := cellB K16.out (i := 10) rfl
                  have b11 := cellB K16.out (i := 11) rfl
                  have b12 := cellB K16.out (i := 12) rfl
                  go_upto_region 41 with fail
                  clear a0 a1 a2 a3 a4 a5 a6 a7 a8 a9 a10 a11 a12 b0 b1 b2 b3 b4 b5 b6 b7 b8 b9 b10 b11 b12
                  replace K15 := Lib.hid (block_below K15.out (Below.drew (Below.refl _ wr)))
                  replace K16 := Lib.hid (block_below K16.out (Below.drew (Below.refl _ wr)))
                  replace HQ3 := Lib.hid (bel_trans HQ3.out (Below.drew (Below.refl _ wr)))
                  refine wp_region_noPanic ?_
                  refine wp_region_held_drew (S := (fun w' => w'.cell? ⟨WC.heap.size, 0, none⟩ = some (.int .i64 off) ∧ w'.cell? ⟨WC.heap.size, 11, none⟩ = some (.int .i64 sec) ∧ w'.cell? ⟨WC.heap.size, 12, none⟩ = some (.int .i64 bs))) (by kernel_rfl) (by exact ⟨cellB K15.out (i := 0) rfl, cellB K15.out (i := 11) rfl, cellB K15.out (i := 12) rfl⟩) (fun hHeld => ?_)
                  refine wpAnyH_take (i := 0) (v := ?_) rfl (by kernel_rfl) (by kernel_rfl) (by kernel_rfl) (fun _ _ _ h => h) (Or.inl ⟨by rfl, ?_⟩) (by assumption) ?_
                  rotate_left 1
                  · (intro w hSw; (try dsimp only at hSw); first | (go_simp; done) | (go_simp; with_reducible rfl))
                  try simp only [Act.put, List.getElem_toArray, List.getElem_cons_succ, List.getElem_cons_zero, List.setIfInBounds_toArray, List.set_cons_zero, List.set_cons_succ]
                  refine wpAnyH_take (i := 1) (v := ?_) rfl (by kernel_rfl) (by kernel_rfl) (by kernel_rfl) (fun _ _ _ h => h) (Or.inl ⟨by rfl, ?_⟩) (by assumption) ?_
                  rotate_left 1
                  · (intro w hSw; (try dsimp only at hSw); first | (go_simp; done) | (go_simp; with_reducible rfl))
                  try simp only [Act.put, List.getElem_toArray, List.getElem_cons_succ, List.getElem_cons_zero, List.setIfInBounds_toArray, List.set_cons_zero, List.set_cons_succ]
                  refine wpAnyH_take (i := 2) (v := ?_) rfl (by kernel_rfl) (by kernel_rfl) (by kernel_rfl) (fun _ _ _ h => h) (Or.inl ⟨by rfl, ?_⟩) (by assumption) ?_
                  rotate_left 1
                  · (intro w hSw; (try dsimp only at hSw); first | (go_simp; done) | (go_simp; with_reducible rfl))
                  try simp only [Act.put, List.getElem_toArray, List.getElem_cons_succ, List.getElem_cons_zero, List.setIfInBounds_toArray, List.set_cons_zero, List.set_cons_succ]
                  refine wpAnyH_take (i := 3) (v := ?_) rfl (by kernel_rfl) (by kernel_rfl) (by kernel_rfl) (fun _ _ _ h => h) (Or.inl ⟨by rfl, ?_⟩) (by assumption) ?_
                  rotate_left 1
                  · (intro w hSw; (try dsimp only at hSw); first | (go_simp; done) | (go_simp; with_reducible rfl))
                  try simp only [Act.put, List.getElem_toArray, List.getElem_cons_succ, List.getElem_cons_zero, List.setIfInBounds_toArray, List.set_cons_zero, List.set_cons_succ]
                  refine wpAnyH_take (i := 4) (v := ?_) rfl (by kernel_rfl) (by kernel_rfl) (by kernel_rfl) (fun _ _ _ h => h) (Or.inl ⟨by rfl, ?_⟩) (by assumption) ?_
                  rotate_left 1
                  · (intro w hSw; (try dsimp only at hSw); first | (go_simp; done) | (go_simp; with_reducible rfl))
                  try simp only [Act.put, List.getElem_toArray, List.getElem_cons_succ, List.getElem_cons_zero, List.setIfInBounds_toArray, List.set_cons_zero, List.set_cons_succ]
                  refine wpAnyH_take (i := 5) (v := ?_) rfl (by kernel_rfl) (by kernel_rfl) (by kernel_rfl) (fun _ _ _ h => h) (Or.inl ⟨by rfl, ?_⟩) (by assumption) ?_
                  rotate_left 1
                  · (intro w hSw; (try dsimp only at hSw); first | (go_simp; done) | (go_simp; with_reducible rfl))
                  try simp only [Act.put, List.getElem_toArray, List.getElem_cons_succ, List.getElem_cons_zero, List.setIfInBounds_toArray, List.set_cons_zero, List.set_cons_succ]
                  refine wpAnyH_ready (rs := [6]) (by kernel_rfl) (by simp) ?_
                  refine AllReadyH.cons rfl (fun K hK => ?_) AllReadyH.nil
                  have y0 := cellB K16.out (i := 0) rfl
                  have f0 := frzB K16.out 0
                  go_simp
                  clear y0 f0
                  replace K15 := Lib.hid (blk_setCell (c := WC.heap.size + 1) (o := 0) (v := .int .i64 off) K15.out (by omega))
                  replace K16 := Lib.hid (setc (o := 0) (v := .int .i64 off) K16.out)
                  replace HQ3 := Lib.hid (bel_setCell (b := WC.heap.size + 1) (o := 0) (v := .int .i64 off) HQ3.out (by have := HLE.out; omega))
                  rw [show (wr.setCell ⟨WC.heap.size + 1, 0, none⟩ (.int .i64 off)).drew = wr.drew.setCell ⟨WC.heap.size + 1, 0, none⟩ (.int .i64 off) from rfl]
                  generalize wr.drew.setCell _ _ = V2 at *
                  refine hK.out _ _ (by exact ⟨cellB K15.out (i := 0) rfl, cellB K15.out (i := 11) rfl, cellB K15.out (i := 12) rfl⟩) (fun hHeld => ?_)
                  clear hK K
                  try simp only [Act.put, List.getElem_toArray, List.getElem_cons_succ, List.getElem_cons_zero, List.setIfInBounds_toArray, List.set_cons_zero, List.set_cons_succ]
                  refine wpAnyH_take (i := 7) (v := ?_) rfl (by kernel_rfl) (by kernel_rfl) (by kernel_rfl) (fun _ _ _ h => h) (Or.inl ⟨by rfl, ?_⟩) (by assumption) ?_
                  rotate_left 1
                  · (intro w hSw; (try dsimp only at hSw); first | (go_simp; done) | (go_simp; with_reducible rfl))
                  try simp only [Act.put, List.getElem_toArray, List.getElem_cons_succ, List.getElem_cons_zero, List.setIfInBounds_toArray, List.set_cons_zero, List.set_cons_succ]
                  refine wpAnyH_take (i := 8) (v := ?_) rfl (by kernel_rfl) (by kernel_rfl) (by kernel_rfl) (fun _ _ _ h => h) (Or.inl ⟨by rfl, ?_⟩) (by assumption) ?_
                  rotate_left 1
                  · (intro w hSw; (try dsimp only at hSw); first | (go_simp; done) | (go_simp; with_reducible rfl))
                  try simp only [Act.put, List.getElem_toArray, List.getElem_cons_succ, List.getElem_cons_zero, List.setIfInBounds_toArray, List.set_cons_zero, List.set_cons_succ]
                  refine wpAnyH_ready (rs := [9]) (by kernel_rfl) (by simp) ?_
                  refine AllReadyH.cons rfl (fun K hK => ?_) AllReadyH.nil
                  have y7 := cellB K16.out (i := 11) rfl
                  have f7 := frzB K16.out 11
                  have y8 := cellB K16.out (i := 12) rfl
                  have f8 := frzB K16.out 12
                  go_simp
                  clear y7 f7 y8 f8
                  replace K15 := Lib.hid (blk_setCell (c := WC.heap.size + 1) (o := 12) (v := .int .i64 bs) (blk_setCell (c := WC.heap.size + 1) (o := 11) (v := .int .i64 sec) K15.out (by omega)) (by omega))
                  have KC := Lib.hid (setc (o := 12) (v := .int .i64 bs) (setc (o := 11) (v := .int .i64 sec) K16.out))
                  replace HQ3 := Lib.hid (bel_setCell (b := WC.heap.size + 1) (o := 12) (v := .int .i64 bs) (bel_setCell (b := WC.heap.size + 1) (o := 11) (v := .int .i64 sec) HQ3.out (by have := HLE.out; omega)) (by have := HLE.out; omega))
                  clear K16
                  generalize (V2.setCell ⟨WC.heap.size + 1, 11, none⟩ (.int .i64 sec)).setCell ⟨WC.heap.size + 1, 12, none⟩ (.int .i64 bs) = V3 at *
                  have K16 : Hid (V3.heap[WC.heap.size + 1]? = some (.cells #[.int .i64 off, .int .i64 2, .int .i64 es, .string st, .string fm, .bool is, .int .i64 yr, .int .i64 mo, .int .i64 kk, .int .i64 wd, .int .i64 dd, .int .i64 sec, .int .i64 bs] 52)) := KC
                  clear KC
                  refine hK.out _ _ (by exact ⟨cellB K15.out (i := 0) rfl, cellB K15.out (i := 11) rfl, cellB K15.out (i := 12) rfl⟩) (fun hHeld => ?_)
                  clear hK K
                  try simp only [Act.put, List.getElem_toArray, List.getElem_cons_succ, List.getElem_cons_zero, List.setIfInBounds_toArray, List.set_cons_zero, List.set_cons_succ]
                  refine wpAnyH_done (by kernel_rfl) ?_ _
                  refine NoPanic.normal ?_
                  clear hHeld
                  have a0 := cellB K15.out (i := 0) rfl
                  have a1 := cellB K15.out (i := 1) rfl
                  have a2 := cellB K15.out (i := 2) rfl
                  have a3 := cellB K15.out (i := 3) rfl
                  have a4 := cellB K15.out (i := 4) rfl
                  have a5 := cellB K15.out (i := 5) rfl
                  have a6 := cellB K15.out (i := 6) rfl
                  have a7 := cellB K15.out (i := 7) rfl
                  have a8 := cellB K15.out (i := 8) rfl
                  have a9 := cellB K15.out (i := 9) rfl
                  have a10 := cellB K15.out (i := 10) rfl
                  have a11 := cellB K15.out (i := 11) rfl
                  have a12 := cellB K15.out (i := 12) rfl
                  have b0 := cellB K16.out (i := 0) rfl
                  have b1 := cellB K16.out (i := 1) rfl
                  have b2 := cellB K16.out (i := 2) rfl
                  have b3 := cellB K16.out (i := 3) rfl
                  have b4 := cellB K16.out (i := 4) rfl
                  have b5 := cellB K16.out (i := 5) rfl
                  have b6 := cellB K16.out (i := 6) rfl
                  have b7 := cellB K16.out (i := 7) rfl
                  have b8 := cellB K16.out (i := 8) rfl
                  have b9 := cellB K16.out (i := 9) rfl
                  have b10 := cellB K16.out (i := 10) rfl
                  have b11 := cellB K16.out (i := 11) rfl
                  have b12 := cellB K16.out (i := 12) rfl
                  go_wp2_with fail
                  go_round
                  case rel => exact ⟨k3 + 1, _, by omega, by go_num, rfl, HQ3⟩
                  case measure => simp [intOf]; omega
              · have hne := str_ne hst
                have hesh : (Er.mk off 2 es st fm is yr mo kk wd dd sec bs).sh n x = ⟨off, 2, es, st, fm, is, yr, mo, kk, wd, dd, sec, bs⟩ := if_neg (fun h => hst h.2)
                rw [hesh] at hc4
                obtain ⟨b0, b1, b2, b3, b4, b5, b6, b7, b8, b9, b10, b11, b12⟩ := Er.cells hc4
                clear hc4 hesh
                have d0 : ∀ ob, (wr.alloc ob).cell? _ = some _ := fun ob => cell_below (bel_alloc wr ob) b0
                have d1 : ∀ ob, (wr.alloc ob).cell? _ = some _ := fun ob => cell_below (bel_alloc wr ob) b1
                have d2 : ∀ ob, (wr.alloc ob).cell? _ = some _ := fun ob => cell_below (bel_alloc wr ob) b2
                have d3 : ∀ ob, (wr.alloc ob).cell? _ = some _ := fun ob => cell_below (bel_alloc wr ob) b3
                have d4 : ∀ ob, (wr.alloc ob).cell? _ = some _ := fun ob => cell_below (bel_alloc wr ob) b4
                have d5 : ∀ ob, (wr.alloc ob).cell? _ = some _ := fun ob => cell_below (bel_alloc wr ob) b5
                have d6 : ∀ ob, (wr.alloc ob).cell? _ = some _ := fun ob => cell_below (bel_alloc wr ob) b6
                have d7 : ∀ ob, (wr.alloc ob).cell? _ = some _ := fun ob => cell_below (bel_alloc wr ob) b7
                have d8 : ∀ ob, (wr.alloc ob).cell? _ = some _ := fun ob => cell_below (bel_alloc wr ob) b8
                have d9 : ∀ ob, (wr.alloc ob).cell? _ = some _ := fun ob => cell_below (bel_alloc wr ob) b9
                have d10 : ∀ ob, (wr.alloc ob).cell? _ = some _ := fun ob => cell_below (bel_alloc wr ob) b10
                have d11 : ∀ ob, (wr.alloc ob).cell? _ = some _ := fun ob => cell_below (bel_alloc wr ob) b11
                have d12 : ∀ ob, (wr.alloc ob).cell? _ = some _ := fun ob => cell_below (bel_alloc wr ob) b12
                have ly1 : ∀ ob, (wr.alloc ob).cell? ⟨w1.heap.size, 1, none⟩ = some _ := fun ob => cell_below (bel_alloc wr ob) lx1
                have lz1 : ∀ ob, (wr.alloc ob).cell? ⟨g4, o4 + i * 2 + 1, none⟩ = some _ := fun ob => cell_below (bel_alloc wr ob) hz4
                go_wp2_with fail
                go_round
                case rel => exact ⟨k3 + 1, _, by omega, by go_num, rfl, Lib.hid (bel_trans HQ3.out (bel_trans (bel_alloc _ _) (bel_alloc _ _)))⟩
                case measure => simp [intOf]; omega
            · have hk1 : decide (kd = 2) = false := decide_eq_false hkd
              have hk2 : (kd == 2) = false := by simpa using hkd
              have hk4 : (kd != 2) = true := by simpa using hkd
              have hesh : (Er.mk off kd es st fm is yr mo kk wd dd sec bs).sh n x = ⟨off, kd, es, st, fm, is, yr, mo, kk, wd, dd, sec, bs⟩ := if_neg (fun h => hkd h.1)
              rw [hesh] at hc4
              obtain ⟨b0, b1, b2, b3, b4, b5, b6, b7, b8, b9, b10, b11, b12⟩ := Er.cells hc4
              clear hc4 hesh
              have d0 : ∀ ob, (wr.alloc ob).cell? _ = some _ := fun ob => cell_below (bel_alloc wr ob) b0
              have d1 : ∀ ob, (wr.alloc ob).cell? _ = some _ := fun ob => cell_below (bel_alloc wr ob) b1
              have d2 : ∀ ob, (wr.alloc ob).cell? _ = some _ := fun ob => cell_below (bel_alloc wr ob) b2
              have d3 : ∀ ob, (wr.alloc ob).cell? _ = some _ := fun ob => cell_below (bel_alloc wr ob) b3
              have d4 : ∀ ob, (wr.alloc ob).cell? _ = some _ := fun ob => cell_below (bel_alloc wr ob) b4
              have d5 : ∀ ob, (wr.alloc ob).cell? _ = some _ := fun ob => cell_below (bel_alloc wr ob) b5
              have d6 : ∀ ob, (wr.alloc ob).cell? _ = some _ := fun ob => cell_below (bel_alloc wr ob) b6
              have d7 : ∀ ob, (wr.alloc ob).cell? _ = some _ := fun ob => cell_below (bel_alloc wr ob) b7
              have d8 : ∀ ob, (wr.alloc ob).cell? _ = some _ := fun ob => cell_below (bel_alloc wr ob) b8
              have d9 : ∀ ob, (wr.alloc ob).cell? _ = some _ := fun ob => cell_below (bel_alloc wr ob) b9
              have d10 : ∀ ob, (wr.alloc ob).cell? _ = some _ := fun ob => cell_below (bel_alloc wr ob) b10
              have d11 : ∀ ob, (wr.alloc ob).cell? _ = some _ := fun ob => cell_below (bel_alloc wr ob) b11
              have d12 : ∀ ob, (wr.alloc ob).cell? _ = some _ := fun ob => cell_below (bel_alloc wr ob) b12
              have ly1 : ∀ ob, (wr.alloc ob).cell? ⟨w1.heap.size, 1, none⟩ = some _ := fun ob => cell_below (bel_alloc wr ob) lx1
              have lz1 : ∀ ob, (wr.alloc ob).cell? ⟨g4, o4 + i * 2 + 1, none⟩ = some _ := fun ob => cell_below (bel_alloc wr ob) hz4
              go_wp2_with fail
              go_round
              case rel => exact ⟨k3 + 1, _, by omega, by go_num, rfl, Lib.hid (bel_trans HQ3.out (bel_trans (bel_alloc _ _) (bel_alloc _ _)))⟩
              case measure => simp [intOf]; omega
          · obtain rfl : k3 = z.es.length := by omega
            go_wp2_with fail
            go_round
            case rel => exact ⟨i + 1, _, by omega, by go_num, rfl, Lib.hid (bel_trans HQ2.out HQ3.out)⟩
            case measure => simp [intOf]; omega
      · obtain rfl : i = s.zs.length := by omega
        obtain ⟨K0x0, K0x1, K0x2, K0x3⟩ := row4 K0.out
        go_wp2_with fail
        refine sums_loop5 (by kernel_rfl) s A3 a13 c3 d13 w1.heap.size _ (by omega) (Lib.hid HS.out.2.2.1) (Lib.hid O1.out.rd.2.2.1) (Lib.hid (cellB K1.out (i := 2) rfl)) _ _ _ _ _ _ _ _ _ _ _ _ _ _ _ _ _ _ _ _ _ _ _ _ _ _ _ _ _ _ _ _ _ _ _ _ _ _ _ _ _ _ _ _ _ _ _ _ _ _ _ _ _ _ _ _ _ _ _ _ _ _ _ _ _ _ _ _ _ _ _ _ _ _ _ _ _ _ _ _ _ _ _ _ _ _ _ _ _ _ _ _ _ _ _ _ _ _ _ _ _ _ _ _ _ _ _ _ _ _ _ _ _ _ _ _ _ _ _ _ _ _ _ _ _ _ _ _ _ _ _ _ _ _ _ _ _ _ _ _ _ _ _ _ _ _ _ _ _ _ _ _ _ _ _ _ _ _ _ _ _ _ _ _ _ _ _ _ _ _ _ _ _ _ _ _ _ _ _ _ _ _ _ _ _ _ _ _ _ _ _ _ _ _ _ _ _ _ _ _ _ _ _ _ _ _ _ _ _ _ _ _ _ _ _ _ _ _ _ _ _ _ _ _ _ _ _ _ _ _ _ _ _ _ _ _ _ _ _ _ _ _ _ _ _ _ _ _ _ _ _ _ _ _ _ _ _ _ _ _ _ _ _ _ _ _ _ _ _ _ _ _ _ _ _ _ _ _ _ _ _ _ _ _ _ _ _ _ _ _ _ _ _ _ _ _ _ _ _ _ (Lib.hid ?_)
        intro v6 v19 v20 v274 v275 v276 v277 v278 v279 v280 v281 v282 v283 v284 v285 v286 wr HQ
        clear K0x0 K0x1 K0x2 K0x3
        replace HB := Lib.hid (bel_trans HB.out HQ.out)
        replace K0 := Lib.hid (block_below K0.out HQ.out)
        replace K1 := Lib.hid (block_below K1.out HQ.out)
        replace HS := Lib.hid (HS.out.below HQ.out)
        replace O1 := Lib.hid (O1.out.below HQ.out)
        obtain ⟨K0x0, K0x1, K0x2, K0x3⟩ := row4 K0.out
        go_wp2_with fail
        generalize hren : wr = WF at *
        clear hren
        clear K0x0 K0x1 K0x2 K0x3
        go_loopw [290] (fun t wr => ∃ (k : Nat), k ≤ s.ns.length ∧ t = .int .i64 (k : Int) ∧ wr = WF) (fun t _ => s.ns.length - (intOf t).toNat)
        case atStart => exact ⟨0, by omega, rfl, by trivial⟩
        case round =>
          obtain ⟨k, hk, rfl, rfl⟩ := hrel
          by_cases hlt : k < s.ns.length
          · obtain ⟨r, hr⟩ : ∃ r, s.ns[k]? = some r := ⟨_, _root_.List.getElem?_eq_getElem hlt⟩
            obtain ⟨g1, o1, p1, q1, h1⟩ := HS.out.2.2.2.atN hr
            obtain ⟨g2, o2, p2, q2, h2⟩ := Rd.atN (rs := s.ns) O1.out.rd.2.2.2 hr
            simp only [Value.slice.injEq] at q1 q2
            obtain ⟨rfl, _, rfl⟩ := q1
            obtain ⟨rfl, _, rfl⟩ := q2
            obtain ⟨l0, l1, l2, l3⟩ := row4 K1.out
            have hi0 : (0 : Int) ≤ (k : Int) := by omega
            have hi1 : (k : Int) < (s.ns.length : Int) := by omega
            go_wp2_with fail
            go_round
            case rel => exact ⟨k + 1, by omega, by go_num, by trivial⟩
            case measure => simp [intOf]; omega
          · obtain rfl : k = s.ns.length := by omega
            go_wp2_with fail
            refine (works28_any _).mono ?_
            rintro e w9 ⟨rfl, hb9⟩
            go_wp2_with fail
            go_ret
            exact ⟨rfl, bel_trans HB.out hb9⟩

theorem shiftSums_walk (W : World) (v : Value) {H : Type} {enc : TypeId × Value → H} {base : Nat} {d : DataW H} {p : List MemPlace} (hv : Value.okWide Try.prog W .any base 27 v)
    (h : DataW.Trod enc Try.prog W 0 (fun _ => true) true 27 v d p) (n : ByteArray) (wn : n.size ≤ maxLen) (x : Int) (wx : (Lit.int .i64 x).wf = true) :
    Calls Try.prog 5 #[v, .string n, .int .i64 x] W fun e w' => e = .returned (.bool true) ∧ Below W.heap.size W w' := by
  obtain ⟨A1, A2, A3, A4, n1, n2, n3, n4, c1, c2, c3, c4, ms, rfl, hbd, hml, hbm, hraw, hs⟩ := source_of hv h
  exact shiftSums_core A1 A2 A3 A4 n1 n2 n3 n4 c1 c2 c3 c4 ms W hbd hml hbm hraw hs n x (fit_of wx)
end Go.Proofs.Ytdlmlcgmonkdfaa
