/-
  The walk of the law ShiftApart.
-/
import Derived.Test.YtdlmlcgmonkdfaaShfApI
namespace Go.Proofs.Ytdlmlcgmonkdfaa
open Go.RowKit Sh
set_option linter.unusedVariables false
set_option linter.unusedSimpArgs false


set_option maxRecDepth 100000 in
set_option maxHeartbeats 8000000 in
theorem shiftApart_core (A1 A2 A3 A4 : Option Addr) (n1 n2 n3 n4 c1 c2 c3 c4 : Nat) (ms : _root_.List Nat) (W : World) (hbd : n1 ≤ maxLen ∧ n2 ≤ maxLen ∧ n3 ≤ maxLen ∧ n4 ≤ maxLen) (hml : ms.length = n2) (hbm : ∀ k ∈ ms, k ≤ maxLen) (hraw : RawZ A2 ms W) (hs : n1 ≤ 40 → n2 ≤ 10 → n3 ≤ 40 → n4 ≤ 40 → (∀ k ∈ ms, k ≤ 20) → ∃ s : Sou, s.rs.length = n1 ∧ s.zs.length = n2 ∧ s.ls.length = n3 ∧ s.ns.length = n4 ∧ s.fits ∧ RdS (.slice A1 n1 c1) (.slice A2 n2 c2) (.slice A3 n3 c3) (.slice A4 n4 c4) s W) (hshort : ∀ s : Sou, RdS (.slice A1 n1 c1) (.slice A2 n2 c2) (.slice A3 n3 c3) (.slice A4 n4 c4) s W → s.short) (n : ByteArray) (x : Int) : Calls Try.prog 7 #[.agg #[.slice A1 n1 c1, .slice A2 n2 c2, .slice A3 n3 c3, .slice A4 n4 c4], .string n, .int .i64 x] W fun e w' => e = .returned (.bool true) ∧ Below W.heap.size W w' := by
  go_enter Try.func7, Try.ntmps7
  have K0 := Lib.hid (heap_alloc_new W (.cells #[.slice A1 n1 c1, .slice A2 n2 c2, .slice A3 n3 c3, .slice A4 n4 c4] 27))
  have HB := Lib.hid (bel_alloc W (.cells #[.slice A1 n1 c1, .slice A2 n2 c2, .slice A3 n3 c3, .slice A4 n4 c4] 27))
  go_wp2_with fail
  refine (few_any A1 A2 A3 A4 n1 n2 n3 n4 c1 c2 c3 c4 ms _ hbd hml hbm (hraw.below HB.out)).mono ?_
  rintro e w0 ⟨b, rfl, HF, hb⟩
  cases b
  · go_wp2_with fail
    refine (works28_any _).mono ?_
    rintro e w9 ⟨rfl, hb9⟩
    go_wp2_with fail
    go_ret
    exact ⟨rfl, bel_trans (bel_trans HB.out hb) hb9⟩
  obtain ⟨l1, l2, l3, l4, l5⟩ := HF.out rfl
  obtain ⟨s, e1, e2, e3, e4, hfit, hS⟩ := hs l1 l2 l3 l4 l5
  have HSH := Lib.hid (hshort s hS)
  clear hs HF hshort
  subst e1 e2 e3 e4
  have HS := Lib.hid (hS.below (bel_trans HB.out hb))
  have HFIT := Lib.hid hfit
  replace HB := Lib.hid (bel_trans HB.out hb)
  replace K0 := Lib.hid (block_below K0.out hb)
  clear hS hfit hb hraw hml hbm hbd l5
  obtain ⟨K0x0, K0x1, K0x2, K0x3⟩ := row4 K0.out
  go_wp2_with fail
  refine (copy_any _ _ _ _ s _ HS.out).mono ?_
  rintro e w1 ⟨u1, u2, u3, u4, rfl, HU, hb⟩
  obtain ⟨a11, d11, a12, d12, a13, d13, a14, d14, rfl, rfl, rfl, rfl⟩ := HU.out.rd.sl
  clear K0x0 K0x1 K0x2 K0x3
  replace hb := bel_trans hb (bel_alloc w1 (.cells #[.slice a11 s.rs.length d11, .slice a12 s.zs.length d12, .slice a13 s.ls.length d13, .slice a14 s.ns.length d14] 27))
  have K1 := Lib.hid (heap_alloc_new w1 (.cells #[.slice a11 s.rs.length d11, .slice a12 s.zs.length d12, .slice a13 s.ls.length d13, .slice a14 s.ns.length d14] 27))
  have O1 := Lib.hid (HU.out.below (bel_alloc w1 (.cells #[.slice a11 s.rs.length d11, .slice a12 s.zs.length d12, .slice a13 s.ls.length d13, .slice a14 s.ns.length d14] 27)))
  clear HU
  replace HB := Lib.hid (bel_trans HB.out hb)
  replace K0 := Lib.hid (block_below K0.out hb)
  replace HS := Lib.hid (HS.out.below hb)
  clear hb
  obtain ⟨K0x0, K0x1, K0x2, K0x3⟩ := row4 K0.out
  obtain ⟨K1x0, K1x1, K1x2, K1x3⟩ := row4 K1.out
  go_wp2_with fail
  clear K0x0 K0x1 K0x2 K0x3 K1x0 K1x1 K1x2 K1x3
  have hz1 : w1.heap.size + 1 = (w1.alloc (.cells #[.slice a11 s.rs.length d11, .slice a12 s.zs.length d12, .slice a13 s.ls.length d13, .slice a14 s.ns.length d14] 27)).heap.size := by show _ = (w1.heap.push _).size; simp
  generalize hWn : w1.alloc (.cells #[.slice a11 s.rs.length d11, .slice a12 s.zs.length d12, .slice a13 s.ls.length d13, .slice a14 s.ns.length d14] 27) = W0 at *
  clear hWn
  have HS0 := HS
  have O10 := O1
  have K00 := K0
  have K10 := K1
  have HB0 := HB
  refine (setA_any _ _ _ _ s n x _ HS.out HSH.out).mono ?_
  rintro e w2 ⟨t1, t2, t3, t4, m1, m2, m3, m4, ut, q, rfl, HT, hb⟩
  obtain ⟨ta1, tc1, e1⟩ := HT.out.r.sl
  subst e1
  obtain ⟨ta2, tc2, e2⟩ := HT.out.z.sl
  subst e2
  obtain ⟨ta3, tc3, e3⟩ := HT.out.l.sl
  subst e3
  obtain ⟨ta4, tc4, e4⟩ := HT.out.n.sl
  subst e4
  replace hb := bel_trans hb (bel_alloc w2 (.cells #[.slice ta1 m1 tc1, .slice ta2 m2 tc2, .slice ta3 m3 tc3, .slice ta4 m4 tc4] 27))
  have K2 := Lib.hid (heap_alloc_new w2 (.cells #[.slice ta1 m1 tc1, .slice ta2 m2 tc2, .slice ta3 m3 tc3, .slice ta4 m4 tc4] 27))
  replace HT := Lib.hid (HT.out.below (bel_alloc w2 (.cells #[.slice ta1 m1 tc1, .slice ta2 m2 tc2, .slice ta3 m3 tc3, .slice ta4 m4 tc4] 27)))
  replace HB := Lib.hid (bel_trans HB.out hb)
  replace K0 := Lib.hid (block_below K0.out hb)
  replace K1 := Lib.hid (block_below K1.out hb)
  replace HS := Lib.hid (HS.out.below hb)
  replace O1 := Lib.hid (O1.out.below hb)
  have hle2 := hb.size
  have HBL := Lib.hid hb
  clear hb
  obtain ⟨K0x0, K0x1, K0x2, K0x3⟩ := row4 K0.out
  obtain ⟨K1x0, K1x1, K1x2, K1x3⟩ := row4 K1.out
  obtain ⟨K2x0, K2x1, K2x2, K2x3⟩ := row4 K2.out
  go_wp2_with fail
  clear K0x0 K0x1 K0x2 K0x3 K1x0 K1x1 K1x2 K1x3 K2x0 K2x1 K2x2 K2x3
  have hz2 : w2.heap.size + 1 = (w2.alloc (.cells #[.slice ta1 m1 tc1, .slice ta2 m2 tc2, .slice ta3 m3 tc3, .slice ta4 m4 tc4] 27)).heap.size := by show _ = (w2.heap.push _).size; simp
  generalize hWn : w2.alloc (.cells #[.slice ta1 m1 tc1, .slice ta2 m2 tc2, .slice ta3 m3 tc3, .slice ta4 m4 tc4] 27) = W1 at *
  clear hWn
  refine (erasA_any _ _ _ _ s n x _ HS.out HSH.out).mono ?_
  rintro e w3 ⟨v1, v2, v3, v4, p1, p2, p3, p4, uu, rfl, HV, hb⟩
  obtain ⟨va1, vc1, e1⟩ := HV.out.r.sl
  subst e1
  obtain ⟨va2, vc2, e2⟩ := HV.out.z.sl
  subst e2
  obtain ⟨va3, vc3, e3⟩ := HV.out.l.sl
  subst e3
  obtain ⟨va4, vc4, e4⟩ := HV.out.n.sl
  subst e4
  replace hb := bel_trans hb (bel_alloc w3 (.cells #[.slice va1 p1 vc1, .slice va2 p2 vc2, .slice va3 p3 vc3, .slice va4 p4 vc4] 27))
  have K3 := Lib.hid (heap_alloc_new w3 (.cells #[.slice va1 p1 vc1, .slice va2 p2 vc2, .slice va3 p3 vc3, .slice va4 p4 vc4] 27))
  replace HV := Lib.hid (HV.out.below (bel_alloc w3 (.cells #[.slice va1 p1 vc1, .slice va2 p2 vc2, .slice va3 p3 vc3, .slice va4 p4 vc4] 27)))
  replace HB := Lib.hid (bel_trans HB.out hb)
  replace K0 := Lib.hid (block_below K0.out hb)
  replace K1 := Lib.hid (block_below K1.out hb)
  replace K2 := Lib.hid (block_below K2.out hb)
  replace HS := Lib.hid (HS.out.below hb)
  replace O1 := Lib.hid (O1.out.below hb)
  replace HT := Lib.hid (HT.out.below hb)
  have hle3 := hb.size
  replace HBL := Lib.hid (bel_trans HBL.out hb)
  clear hb
  obtain ⟨K0x0, K0x1, K0x2, K0x3⟩ := row4 K0.out
  obtain ⟨K1x0, K1x1, K1x2, K1x3⟩ := row4 K1.out
  obtain ⟨K2x0, K2x1, K2x2, K2x3⟩ := row4 K2.out
  obtain ⟨K3x0, K3x1, K3x2, K3x3⟩ := row4 K3.out
  go_wp2_with fail
  clear K0x0 K0x1 K0x2 K0x3 K1x0 K1x1 K1x2 K1x3 K2x0 K2x1 K2x2 K2x3 K3x0 K3x1 K3x2 K3x3
  have hz3 : w3.heap.size + 1 = (w3.alloc (.cells #[.slice va1 p1 vc1, .slice va2 p2 vc2, .slice va3 p3 vc3, .slice va4 p4 vc4] 27)).heap.size := by show _ = (w3.heap.push _).size; simp
  generalize hWn : w3.alloc (.cells #[.slice va1 p1 vc1, .slice va2 p2 vc2, .slice va3 p3 vc3, .slice va4 p4 vc4] 27) = W2 at *
  clear hWn
  refine (rulesA_any _ s.rs x _ HS.out.1).mono ?_
  rintro e w4 ⟨l1, r1, rfl, HL, hb⟩
  obtain ⟨la, lc, e1⟩ := HL.out.r.sl
  subst e1
  replace HB := Lib.hid (bel_trans HB.out hb)
  replace K0 := Lib.hid (block_below K0.out hb)
  replace K1 := Lib.hid (block_below K1.out hb)
  replace K2 := Lib.hid (block_below K2.out hb)
  replace K3 := Lib.hid (block_below K3.out hb)
  replace HS := Lib.hid (HS.out.below hb)
  replace O1 := Lib.hid (O1.out.below hb)
  replace HT := Lib.hid (HT.out.below hb)
  replace HV := Lib.hid (HV.out.below hb)
  have hle4 := hb.size
  replace HBL := Lib.hid (bel_trans HBL.out hb)
  clear hb
  obtain ⟨K0x0, K0x1, K0x2, K0x3⟩ := row4 K0.out
  obtain ⟨K1x0, K1x1, K1x2, K1x3⟩ := row4 K1.out
  obtain ⟨K2x0, K2x1, K2x2, K2x3⟩ := row4 K2.out
  obtain ⟨K3x0, K3x1, K3x2, K3x3⟩ := row4 K3.out
  go_wp2_with fail
  clear K0x0 K0x1 K0x2 K0x3 K1x0 K1x1 K1x2 K1x3 K2x0 K2x1 K2x2 K2x3 K3x0 K3x1 K3x2 K3x3
  obtain ⟨f, hf⟩ := Out.first (w2 := w2) (w3 := w3) (W1 := W1) (W2 := W2) (by omega) (by omega) (by omega) (by omega) (by omega) HBL.out HT.out HV.out HL.out
  clear HT HV HL
  replace HS := Lib.hid (HS.out.below (bel_alloc w4 (.cells #[.slice ta1 m1 tc1, .slice ta2 m2 tc2, .slice ta3 m3 tc3, .slice ta4 m4 tc4, .slice va1 p1 vc1, .slice va2 p2 vc2, .slice va3 p3 vc3, .slice va4 p4 vc4, .slice la r1 lc, .slice none 0 0, .slice none 0 0, .slice none 0 0] 27)))
  replace O1 := Lib.hid (O1.out.below (bel_alloc w4 (.cells #[.slice ta1 m1 tc1, .slice ta2 m2 tc2, .slice ta3 m3 tc3, .slice ta4 m4 tc4, .slice va1 p1 vc1, .slice va2 p2 vc2, .slice va3 p3 vc3, .slice va4 p4 vc4, .slice la r1 lc, .slice none 0 0, .slice none 0 0, .slice none 0 0] 27)))
  replace K0 := Lib.hid (block_below K0.out (bel_alloc w4 (.cells #[.slice ta1 m1 tc1, .slice ta2 m2 tc2, .slice ta3 m3 tc3, .slice ta4 m4 tc4, .slice va1 p1 vc1, .slice va2 p2 vc2, .slice va3 p3 vc3, .slice va4 p4 vc4, .slice la r1 lc, .slice none 0 0, .slice none 0 0, .slice none 0 0] 27)))
  replace K1 := Lib.hid (block_below K1.out (bel_alloc w4 (.cells #[.slice ta1 m1 tc1, .slice ta2 m2 tc2, .slice ta3 m3 tc3, .slice ta4 m4 tc4, .slice va1 p1 vc1, .slice va2 p2 vc2, .slice va3 p3 vc3, .slice va4 p4 vc4, .slice la r1 lc, .slice none 0 0, .slice none 0 0, .slice none 0 0] 27)))
  have HF := Lib.hid hf
  clear hf
  generalize hb44 : w4.heap.size = b44 at *
  generalize harr : (#[.slice ta1 m1 tc1, .slice ta2 m2 tc2, .slice ta3 m3 tc3, .slice ta4 m4 tc4, .slice va1 p1 vc1, .slice va2 p2 vc2, .slice va3 p3 vc3, .slice va4 p4 vc4, .slice la r1 lc, .slice none 0 0, .slice none 0 0, .slice none 0 0] : Array Value) = arr at *
  generalize hWX : w4.alloc (.cells arr 27) = WX at *
  clear hWX harr K2 K3
  go_loopw [46] (fun t wr => ∃ (k : Nat) (wq : World), k ≤ 3 ∧ t = .int .i64 (k : Int) ∧ wr = wq ∧ Hid (Out f arr 27 b44 W0 k wq)) (fun t _ => 3 - (intOf t).toNat)
  case atStart => exact ⟨0, _, by omega, rfl, by trivial, HF⟩
  case round =>
    obtain ⟨k, wq, hk, rfl, rfl, HO⟩ := hrel
    by_cases hlt : k < 3
    · obtain ⟨x1, x2, x3, x4, n1, n2, n3, n4, us, e1, e2, e3, e4, hsr⟩ := HO.out.l k (Nat.le_refl _) hlt
      obtain ⟨a1, c1, q1⟩ := hsr.r.sl
      subst q1
      obtain ⟨a2, c2, q2⟩ := hsr.z.sl
      subst q2
      obtain ⟨a3, c3, q3⟩ := hsr.l.sl
      subst q3
      obtain ⟨a4, c4, q4⟩ := hsr.n.sl
      subst q4
      have z1 := cellB HO.out.k44 e1
      have z2 := cellB HO.out.k44 e2
      have z3 := cellB HO.out.k44 e3
      have z4 := cellB HO.out.k44 e4
      have HI := Lib.hid (HO.out.inv hsr)
      have b1 : n1 ≤ 1000 := hsr.r.1
      have b2 : n2 ≤ 1000 := hsr.z.1
      have b3 : n3 ≤ 1000 := hsr.l.1
      have b4 : n4 ≤ 1000 := hsr.n.1
      have hi0 : (0 : Int) ≤ (k : Int) := by omega
      have hi1 : (k : Int) < 3 := by omega
      clear e1 e2 e3 e4 hsr HO
      go_upto_region 10 with fail
      clear z1 z2 z3 z4
      generalize hb13 : wr.heap.size = b13 at *
      generalize wr.alloc (.cells #[.slice a1 n1 c1, .slice a2 n2 c2, .slice a3 n3 c3, .slice a4 n4 c4] 27) = wr at *
      have y0 := cellB HI.out.k13 (i := 0) rfl
      have y1 := cellB HI.out.k13 (i := 1) rfl
      have y2 := cellB HI.out.k13 (i := 2) rfl
      have y3 := cellB HI.out.k13 (i := 3) rfl
      go_wp2_with fail
      generalize hren : wr = X2 at *
      clear hren
      clear y0 y1 y2 y3
      go_loopw [53] (fun t wr => ∃ (i : Nat) (wq : World), i ≤ n1 ∧ t = .int .i64 (i : Int) ∧ wr = wq ∧ Hid (Sh.Inv f arr 27 b44 b13 W0 k (.slice a1 n1 c1) (.slice a2 n2 c2) (.slice a3 n3 c3) (.slice a4 n4 c4) n1 n2 n3 n4 us 0 0 0 wq)) (fun t _ => n1 - (intOf t).toNat)
      case atStart => exact ⟨0, _, by omega, rfl, by trivial, HI⟩
      case round =>
        clear HI
        obtain ⟨i, wq, hi, rfl, rfl, HI⟩ := hrel
        by_cases hlt : i < n1
        · have hi0 : (0 : Int) ≤ (i : Int) := by omega
          have hi1 : (i : Int) < (n1 : Int) := by omega
          obtain ⟨g, cap, cur, u, q, lo, hi, hg, hc, hfz, hp⟩ := HI.out.s.r.cell (o := i * 11 + 9) (by omega)
          obtain ⟨sv, rfl⟩ := hp (by omega)
          simp only [Value.slice.injEq] at q
          obtain ⟨rfl, _, rfl⟩ := q
          have y0 := cellB HI.out.k13 (i := 0) rfl
          have y1 := cellB HI.out.k13 (i := 1) rfl
          have y2 := cellB HI.out.k13 (i := 2) rfl
          have y3 := cellB HI.out.k13 (i := 3) rfl
          have HN := Lib.hid (HI.out.store lo hi (HI.out.s.rule (o := i * 11 + 9) hg (wrap64 (sv + 1))))
          clear lo hi hg HI
          go_wp2_with fail
          go_round
          case rel => exact ⟨i + 1, _, by omega, by go_num, rfl, HN⟩
          case measure => simp [intOf]; omega
        · obtain rfl : n1 = i := by omega
          have y0 := cellB HI.out.k13 (i := 0) rfl
          have y1 := cellB HI.out.k13 (i := 1) rfl
          have y2 := cellB HI.out.k13 (i := 2) rfl
          have y3 := cellB HI.out.k13 (i := 3) rfl
          go_wp2_with fail
          generalize hren : wr = X3 at *
          clear hren
          clear y0 y1 y2 y3
          go_loopw [69] (fun t wr => ∃ (i : Nat) (wq : World), i ≤ n2 ∧ t = .int .i64 (i : Int) ∧ wr = wq ∧ Hid (Sh.Inv f arr 27 b44 b13 W0 k (.slice a1 n1 c1) (.slice a2 n2 c2) (.slice a3 n3 c3) (.slice a4 n4 c4) n1 n2 n3 n4 us i 0 0 wq)) (fun t _ => n2 - (intOf t).toNat)
          case atStart => exact ⟨0, _, by omega, rfl, by trivial, HI⟩
          case round =>
            clear HI
            obtain ⟨i, wq, hi, rfl, rfl, HI⟩ := hrel
            by_cases hlt : i < n2
            · have hi0 : (0 : Int) ≤ (i : Int) := by omega
              have hi1 : (i : Int) < (n2 : Int) := by omega
              obtain ⟨g, cap, cur, u, q, lo, hi', hg, hc, hfz, hp⟩ := HI.out.s.z.cell (o := i * 2) (by omega)
              obtain ⟨st, rfl, hst⟩ := hp.1 (by omega)
              have hst2 := hst (by omega)
              unfold RR at hst2
              simp only [Value.slice.injEq] at q
              obtain ⟨rfl, _, rfl⟩ := q
              have y0 := cellB HI.out.k13 (i := 0) rfl
              have y1 := cellB HI.out.k13 (i := 1) rfl
              have y2 := cellB HI.out.k13 (i := 2) rfl
              have y3 := cellB HI.out.k13 (i := 3) rfl
              have hsa : ∀ w : World, (Op.stringOp .add st ⟨#[120]⟩).run Try.prog w = .ok (.string (st ++ ⟨#[120]⟩)) w := fun w => run_string_add_sum w st ⟨#[120]⟩ (by show st.size + 1 ≤ _; omega)
              have HN := Lib.hid (HI.out.store (o := i * 2) lo hi' (HI.out.s.zone hg (st ++ ⟨#[120]⟩)))
              clear lo hi' hg hp hst
              go_upto_region 19 with fail
              clear hsa y0 y1 y2 y3 hc hfz HI
              generalize wr.setCell _ _ = WV at *
              obtain ⟨g2, cap2, cur2, u2, q, lo2, hi2, hg2, hc2, hfz2, hp2⟩ := HN.out.s.z.cell (o := i * 2 + 1) (by omega)
              have hu2 := hp2.2 (by omega)
              rw [show (i * 2 + 1) / 2 = i by omega] at hu2
              have HUI0 := Lib.hid hu2
              obtain ⟨me, hme⟩ := HN.out.s.e i u2 hu2
              obtain ⟨ae, ce, e2⟩ := hme.sl
              subst e2
              have HUI : Hid (us[i]? = some (.slice ae me ce)) := HUI0
              have hme1 : me ≤ 1000 := hme.1
              clear hu2 HUI0 hme lo2 hi2 hg2 hp2 hfz2
              have q2 : g2 = g := by simp only [Value.slice.injEq, Option.some.injEq, Addr.mk.injEq] at q; exact q.1.1.symm
              subst q2
              clear q
              have HI := HN
              clear HN
              have y0 := cellB HI.out.k13 (i := 0) rfl
              have y1 := cellB HI.out.k13 (i := 1) rfl
              have y2 := cellB HI.out.k13 (i := 2) rfl
              have y3 := cellB HI.out.k13 (i := 3) rfl
              go_wp2_with fail
              generalize hren : WV = WY at *
              clear hren
              clear y0 y1 y2 y3 hc2
              go_loopw [88] (fun t wr => ∃ (k2 : Nat) (wq : World), k2 ≤ me ∧ t = .int .i64 (k2 : Int) ∧ wr = wq ∧ Hid (Sh.Inv f arr 27 b44 b13 W0 k (.slice a1 n1 c1) (.slice (some ⟨g2, 0, none⟩) n2 c2) (.slice a3 n3 c3) (.slice a4 n4 c4) n1 n2 n3 n4 us (i + 1) 0 0 wq)) (fun t _ => me - (intOf t).toNat)
              case atStart => exact ⟨0, _, by omega, rfl, by trivial, HI⟩
              case round =>
                clear HI
                obtain ⟨k2, wq, hk2, rfl, rfl, HI2⟩ := hrel
                by_cases hltk : k2 < me
                · have hk0 : (0 : Int) ≤ (k2 : Int) := by omega
                  have hk1 : (k2 : Int) < (me : Int) := by omega
                  obtain ⟨g3, cap3, cur2, u2, q, lo2, hi2, hg2, hc2, hfz2, hp2⟩ := HI2.out.s.z.cell (o := i * 2 + 1) (by omega)
                  have hu2 := hp2.2 (by omega)
                  rw [show (i * 2 + 1) / 2 = i by omega, HUI.out] at hu2
                  obtain rfl := (Option.some.inj hu2).symm
                  simp only [Value.slice.injEq, Option.some.injEq, Addr.mk.injEq] at q
                  obtain ⟨⟨rfl, _⟩, _, rfl⟩ := q
                  obtain ⟨g, cap, cur, u, q, lo, hi', hg, hc, hfz, hp⟩ := (show Row _ _ _ 13 (.slice ae me ce) me PE wr by obtain ⟨m', hm'⟩ := HI2.out.s.e i _ HUI.out; obtain ⟨a', c', e'⟩ := hm'.sl; simp only [Value.slice.injEq] at e'; obtain ⟨_, rfl, _⟩ := e'; exact hm').cell (o := k2 * 13) (by omega)
                  obtain ⟨off, rfl⟩ := hp (by omega)
                  simp only [Value.slice.injEq] at q
                  obtain ⟨rfl, _, rfl⟩ := q
                  have y0 := cellB HI2.out.k13 (i := 0) rfl
                  have y1 := cellB HI2.out.k13 (i := 1) rfl
                  have HN := Lib.hid (HI2.out.store lo hi' (HI2.out.s.era (o := k2 * 13) hg (wrap64 (off + 1))))
                  clear lo hi' hg lo2 hi2 hg2 HI2 hp2
                  go_wp2_with fail
                  go_round
                  case rel => exact ⟨k2 + 1, _, by omega, by go_num, rfl, HN⟩
                  case measure => simp [intOf]; omega
                · obtain rfl : k2 = me := by omega
                  go_wp2_with fail
                  go_round
                  case rel => exact ⟨i + 1, _, by omega, by go_num, rfl, HI2⟩
                  case measure => simp [intOf]; omega
            · obtain rfl : n2 = i := by omega
              have y0 := cellB HI.out.k13 (i := 0) rfl
              have y1 := cellB HI.out.k13 (i := 1) rfl
              have y2 := cellB HI.out.k13 (i := 2) rfl
              have y3 := cellB HI.out.k13 (i := 3) rfl
              go_wp2_with fail
              generalize hren : wr = X5 at *
              clear hren
              clear y0 y1 y2 y3
              go_loopw [109] (fun t wr => ∃ (i : Nat) (wq : World), i ≤ n3 ∧ t = .int .i64 (i : Int) ∧ wr = wq ∧ Hid (Sh.Inv f arr 27 b44 b13 W0 k (.slice a1 n1 c1) (.slice a2 n2 c2) (.slice a3 n3 c3) (.slice a4 n4 c4) n1 n2 n3 n4 us n2 i 0 wq)) (fun t _ => n3 - (intOf t).toNat)
              case atStart => exact ⟨0, _, by omega, rfl, by trivial, HI⟩
              case round =>
                clear HI
                obtain ⟨i, wq, hi, rfl, rfl, HI⟩ := hrel
                by_cases hlt : i < n3
                · have hi0 : (0 : Int) ≤ (i : Int) := by omega
                  have hi1 : (i : Int) < (n3 : Int) := by omega
                  obtain ⟨g, cap, cur, u, q, lo, hi', hg, hc, hfz, hp⟩ := HI.out.s.l.cell (o := i * 2 + 1) (by omega)
                  obtain ⟨st, rfl, hst⟩ := hp (by omega)
                  have hst2 := hst (by omega)
                  unfold RR at hst2
                  simp only [Value.slice.injEq] at q
                  obtain ⟨rfl, _, rfl⟩ := q
                  have y0 := cellB HI.out.k13 (i := 0) rfl
                  have y1 := cellB HI.out.k13 (i := 1) rfl
                  have y2 := cellB HI.out.k13 (i := 2) rfl
                  have y3 := cellB HI.out.k13 (i := 3) rfl
                  have hsa : ∀ w : World, (Op.stringOp .add st ⟨#[120]⟩).run Try.prog w = .ok (.string (st ++ ⟨#[120]⟩)) w := fun w => run_string_add_sum w st ⟨#[120]⟩ (by show st.size + 1 ≤ _; omega)
                  have HN := Lib.hid (HI.out.store (o := i * 2 + 1) lo hi' (HI.out.s.link hg (st ++ ⟨#[120]⟩)))
                  clear lo hi' hg hp hst HI
                  go_wp2_with fail
                  go_round
                  case rel => exact ⟨i + 1, _, by omega, by go_num, rfl, HN⟩
                  case measure => simp [intOf]; omega
                · obtain rfl : n3 = i := by omega
                  have y0 := cellB HI.out.k13 (i := 0) rfl
                  have y1 := cellB HI.out.k13 (i := 1) rfl
                  have y2 := cellB HI.out.k13 (i := 2) rfl
                  have y3 := cellB HI.out.k13 (i := 3) rfl
                  go_wp2_with fail
                  generalize hren : wr = X6 at *
                  clear hren
                  clear y0 y1 y2 y3
                  go_loopw [125] (fun t wr => ∃ (i : Nat) (wq : World), i ≤ n4 ∧ t = .int .i64 (i : Int) ∧ wr = wq ∧ Hid (Sh.Inv f arr 27 b44 b13 W0 k (.slice a1 n1 c1) (.slice a2 n2 c2) (.slice a3 n3 c3) (.slice a4 n4 c4) n1 n2 n3 n4 us n2 n3 i wq)) (fun t _ => n4 - (intOf t).toNat)
                  case atStart => exact ⟨0, _, by omega, rfl, by trivial, HI⟩
                  case round =>
                    clear HI
                    obtain ⟨i, wq, hi, rfl, rfl, HI⟩ := hrel
                    by_cases hlt : i < n4
                    · have hi0 : (0 : Int) ≤ (i : Int) := by omega
                      have hi1 : (i : Int) < (n4 : Int) := by omega
                      obtain ⟨g, cap, cur, u, q, lo, hi', hg, hc, hfz, hp⟩ := HI.out.s.n.cell (o := i) (by omega)
                      obtain ⟨st, rfl, hst⟩ := hp
                      have hst2 := hst (by omega)
                      unfold RR at hst2
                      simp only [Value.slice.injEq] at q
                      obtain ⟨rfl, _, rfl⟩ := q
                      have y0 := cellB HI.out.k13 (i := 0) rfl
                      have y1 := cellB HI.out.k13 (i := 1) rfl
                      have y2 := cellB HI.out.k13 (i := 2) rfl
                      have y3 := cellB HI.out.k13 (i := 3) rfl
                      have hsa : ∀ w : World, (Op.stringOp .add st ⟨#[120]⟩).run Try.prog w = .ok (.string (st ++ ⟨#[120]⟩)) w := fun w => run_string_add_sum w st ⟨#[120]⟩ (by show st.size + 1 ≤ _; omega)
                      have HN := Lib.hid (HI.out.store (o := i) lo hi' (HI.out.s.shift hg (st ++ ⟨#[120]⟩)))
                      clear lo hi' hg hst HI
                      go_wp2_with fail
                      go_round
                      case rel => exact ⟨i + 1, _, by omega, by go_num, rfl, HN⟩
                      case measure => simp [intOf]; omega
                    · obtain rfl : n4 = i := by omega
                      have HO := Lib.hid HI.out.out_
                      go_wp2_with fail
                      go_round
                      case rel => exact ⟨k + 1, _, by omega, by go_num, rfl, HO⟩
                      case measure => simp [intOf]; omega
    · obtain rfl : k = 3 := by omega
      have hbw := HO.out.b
      obtain ⟨y0, y1, y2, y3⟩ := row4 (block_below K00.out hbw)
      obtain ⟨z0, z1, z2, z3⟩ := row4 (block_below K10.out hbw)
      go_wp2_with fail
      refine (same_any _ _ _ _ _ _ _ _ s _ (HS0.out.below hbw) (O10.out.rd.below hbw)).mono ?_
      rintro e w8 ⟨rfl, hb⟩
      go_wp2_with fail
      refine (works28_any _).mono ?_
      rintro e w9 ⟨rfl, hb9⟩
      go_wp2_with fail
      go_ret
      exact ⟨rfl, bel_trans (bel_trans (bel_trans HB0.out hbw) hb) hb9⟩

theorem shiftApart_walk (W : World) (v : Value) {H : Type} {enc : TypeId × Value → H} {base : Nat} {d : DataW H} {p : List MemPlace} (hv : Value.okWide Try.prog W .any base 27 v)
    (h : DataW.Trod enc Try.prog W 0 (fun _ => true) true 27 v d p) (hz : ∀ x ∈ DataW.weights Try.prog 27 d, x ≤ reachBytes) (n : ByteArray) (wn : n.size ≤ maxLen) (zn : n.data.toList.length ≤ reachBytes) (x : Int) (wx : (Lit.int .i64 x).wf = true) :
    Calls Try.prog 7 #[v, .string n, .int .i64 x] W fun e w' => e = .returned (.bool true) ∧ Below W.heap.size W w' := by
  obtain ⟨A1, A2, A3, A4, n1, n2, n3, n4, c1, c2, c3, c4, ms, rfl, hbd, hml, hbm, hraw, hs⟩ := source_of hv h
  exact shiftApart_core A1 A2 A3 A4 n1 n2 n3 n4 c1 c2 c3 c4 ms W hbd hml hbm hraw hs (fun s hS => short_of h hz s hS) n x
end Go.Proofs.Ytdlmlcgmonkdfaa
