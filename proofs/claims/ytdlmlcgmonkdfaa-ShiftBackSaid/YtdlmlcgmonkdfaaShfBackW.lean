/-
  The walk of the law ShiftBack.
-/
import Derived.Test.YtdlmlcgmonkdfaaShfLawM
namespace Go.Proofs.Ytdlmlcgmonkdfaa
open Go.RowKit Sh
set_option linter.unusedVariables false
set_option linter.unusedSimpArgs false


set_option maxRecDepth 100000 in
set_option maxHeartbeats 8000000 in
theorem shiftBack_core (A1 A2 A3 A4 : Option Addr) (n1 n2 n3 n4 c1 c2 c3 c4 : Nat) (ms : _root_.List Nat) (W : World) (hbd : n1 ≤ maxLen ∧ n2 ≤ maxLen ∧ n3 ≤ maxLen ∧ n4 ≤ maxLen) (hml : ms.length = n2) (hbm : ∀ k ∈ ms, k ≤ maxLen) (hraw : RawZ A2 ms W) (hs : n1 ≤ 40 → n2 ≤ 10 → n3 ≤ 40 → n4 ≤ 40 → (∀ k ∈ ms, k ≤ 20) → ∃ s : Sou, s.rs.length = n1 ∧ s.zs.length = n2 ∧ s.ls.length = n3 ∧ s.ns.length = n4 ∧ s.fits ∧ RdS (.slice A1 n1 c1) (.slice A2 n2 c2) (.slice A3 n3 c3) (.slice A4 n4 c4) s W) (n : ByteArray) (x y : Int) : Calls Try.prog 4 #[.agg #[.slice A1 n1 c1, .slice A2 n2 c2, .slice A3 n3 c3, .slice A4 n4 c4], .string n, .int .i64 x, .int .i64 y] W fun e w' => e = .returned (.bool true) ∧ Below W.heap.size W w' := by
  go_enter Try.func4, Try.ntmps4
  have K0 := Lib.hid (heap_alloc_new W (.cells #[.slice A1 n1 c1, .slice A2 n2 c2, .slice A3 n3 c3, .slice A4 n4 c4] 27))
  have HB := Lib.hid (bel_alloc W (.cells #[.slice A1 n1 c1, .slice A2 n2 c2, .slice A3 n3 c3, .slice A4 n4 c4] 27))
  go_wp2_with fail
  refine (few_any A1 A2 A3 A4 n1 n2 n3 n4 c1 c2 c3 c4 ms _ hbd hml hbm (hraw.below HB.out)).mono ?_
  rintro e w0 ⟨b, rfl, HF, hb⟩
  cases b
  · go_wp2_with fail
    refine (works28_any _).mono ?_
    rintro e w9 ⟨rfl, hb9⟩
    go_wp2_with fail
    go_ret
    exact ⟨rfl, bel_trans (bel_trans HB.out hb) hb9⟩
  obtain ⟨l1, l2, l3, l4, l5⟩ := HF.out rfl
  obtain ⟨s, e1, e2, e3, e4, hfit, hS⟩ := hs l1 l2 l3 l4 l5
  clear hs HF
  subst e1 e2 e3 e4
  have HS := Lib.hid (hS.below (bel_trans HB.out hb))
  have HFIT := Lib.hid hfit
  replace HB := Lib.hid (bel_trans HB.out hb)
  replace K0 := Lib.hid (block_below K0.out hb)
  clear hS hfit hb hraw hml hbm hbd l5
  obtain ⟨q, hN⟩ : ∃ q, hasN n s.rs = q := ⟨_, rfl⟩
  cases q
  · have HN := Lib.hid hN
    clear hN
    obtain ⟨K0x0, K0x1, K0x2, K0x3⟩ := row4 K0.out
    go_wp2_with fail
    refine (setN_any _ _ _ _ s n x _ HS.out HN.out).mono ?_
    rintro e w1 ⟨rfl, hb⟩
    clear K0x0 K0x1 K0x2 K0x3
    replace hb := bel_trans hb (bel_alloc w1 (.cells #[.slice none 0 0, .slice none 0 0, .slice none 0 0, .slice none 0 0] 27))
    have K1 := Lib.hid (heap_alloc_new w1 (.cells #[.slice none 0 0, .slice none 0 0, .slice none 0 0, .slice none 0 0] 27))
    replace HB := Lib.hid (bel_trans HB.out hb)
    replace K0 := Lib.hid (block_below K0.out hb)
    replace HS := Lib.hid (HS.out.below hb)
    clear hb
    obtain ⟨K0x0, K0x1, K0x2, K0x3⟩ := row4 K0.out
    obtain ⟨K1x0, K1x1, K1x2, K1x3⟩ := row4 K1.out
    go_wp2_with fail
    generalize hWX : w1.alloc (.cells #[.slice none 0 0, .slice none 0 0, .slice none 0 0, .slice none 0 0] 27) = WX at *
    clear hWX
    go_loopw [11] (fun t wr => ∃ (k : Nat), k ≤ s.rs.length ∧ t = .int .i64 (k : Int) ∧ wr = WX) (fun t _ => s.rs.length - (intOf t).toNat)
    case atStart => exact ⟨0, by omega, rfl, by trivial⟩
    case round =>
      obtain ⟨k, hk, rfl, rfl⟩ := hrel
      by_cases hlt : k < s.rs.length
      · obtain ⟨r, hr⟩ : ∃ r, s.rs[k]? = some r := ⟨_, _root_.List.getElem?_eq_getElem hlt⟩
        obtain ⟨g, off, cap, q, hc⟩ := HS.out.1.atR hr
        simp only [Value.slice.injEq] at q
        obtain ⟨rfl, _, rfl⟩ := q
        have e0 := hc 0 _ rfl
        rw [Nat.add_zero] at e0
        have hne := str_ne (hasN_false HN.out hr)
        have hi0 : (0 : Int) ≤ (k : Int) := by omega
        have hi1 : (k : Int) < (s.rs.length : Int) := by omega
        clear hr hc
        go_wp2_with fail
        go_round
        case rel => exact ⟨k + 1, by omega, by go_num, by trivial⟩
        case measure => simp [intOf]; omega
      · obtain rfl : k = s.rs.length := by omega
        go_wp2_with fail
        refine (same_any _ _ _ _ _ _ _ _ noS _ (rd_noS _) (rd_noS _)).mono ?_
        rintro e w8 ⟨rfl, hb⟩
        go_wp2_with fail
        refine (works28_any _).mono ?_
        rintro e w9 ⟨rfl, hb9⟩
        go_wp2_with fail
        go_ret
        exact ⟨rfl, bel_trans (bel_trans HB.out hb) hb9⟩
  · have HN := Lib.hid hN
    clear hN
    obtain ⟨K0x0, K0x1, K0x2, K0x3⟩ := row4 K0.out
    go_wp2_with fail
    refine (setY_any _ _ _ _ s n x _ HS.out HN.out).mono ?_
    rintro e w1 ⟨u1, u2, u3, u4, rfl, HU, hb⟩
    obtain ⟨a11, d11, a12, d12, a13, d13, a14, d14, rfl, rfl, rfl, rfl⟩ := HU.out.rd.sl
    clear K0x0 K0x1 K0x2 K0x3
    replace hb := bel_trans hb (bel_alloc w1 (.cells #[.slice a11 (s.shS n x).rs.length d11, .slice a12 (s.shS n x).zs.length d12, .slice a13 (s.shS n x).ls.length d13, .slice a14 (s.shS n x).ns.length d14] 27))
    have K1 := Lib.hid (heap_alloc_new w1 (.cells #[.slice a11 (s.shS n x).rs.length d11, .slice a12 (s.shS n x).zs.length d12, .slice a13 (s.shS n x).ls.length d13, .slice a14 (s.shS n x).ns.length d14] 27))
    have O1 := Lib.hid (HU.out.below (bel_alloc w1 (.cells #[.slice a11 (s.shS n x).rs.length d11, .slice a12 (s.shS n x).zs.length d12, .slice a13 (s.shS n x).ls.length d13, .slice a14 (s.shS n x).ns.length d14] 27)))
    clear HU
    replace HB := Lib.hid (bel_trans HB.out hb)
    replace K0 := Lib.hid (block_below K0.out hb)
    replace HS := Lib.hid (HS.out.below hb)
    clear hb
    have HN1 := Lib.hid (show hasN n (s.shS n x).rs = true by rw [hasN_shS]; exact HN.out)
    obtain ⟨K0x0, K0x1, K0x2, K0x3⟩ := row4 K0.out
    obtain ⟨K1x0, K1x1, K1x2, K1x3⟩ := row4 K1.out
    go_wp2_with fail
    refine (setY_any _ _ _ _ (s.shS n x) n (wrap64 (-x)) _ O1.out.rd HN1.out).mono ?_
    rintro e w2 ⟨u1, u2, u3, u4, rfl, HU, hb⟩
    rw [Sou.shS_back n x HFIT.out] at HU
    obtain ⟨a21, d21, a22, d22, a23, d23, a24, d24, rfl, rfl, rfl, rfl⟩ := HU.out.rd.sl
    clear K0x0 K0x1 K0x2 K0x3 K1x0 K1x1 K1x2 K1x3
    replace hb := bel_trans hb (bel_alloc w2 (.cells #[.slice a21 s.rs.length d21, .slice a22 s.zs.length d22, .slice a23 s.ls.length d23, .slice a24 s.ns.length d24] 27))
    have K2 := Lib.hid (heap_alloc_new w2 (.cells #[.slice a21 s.rs.length d21, .slice a22 s.zs.length d22, .slice a23 s.ls.length d23, .slice a24 s.ns.length d24] 27))
    have O2 := Lib.hid (HU.out.below (bel_alloc w2 (.cells #[.slice a21 s.rs.length d21, .slice a22 s.zs.length d22, .slice a23 s.ls.length d23, .slice a24 s.ns.length d24] 27)))
    clear HU
    replace HB := Lib.hid (bel_trans HB.out hb)
    replace K0 := Lib.hid (block_below K0.out hb)
    replace K1 := Lib.hid (block_below K1.out hb)
    replace HS := Lib.hid (HS.out.below hb)
    replace O1 := Lib.hid (O1.out.below hb)
    clear hb
    obtain ⟨K0x0, K0x1, K0x2, K0x3⟩ := row4 K0.out
    obtain ⟨K1x0, K1x1, K1x2, K1x3⟩ := row4 K1.out
    obtain ⟨K2x0, K2x1, K2x2, K2x3⟩ := row4 K2.out
    go_wp2_with fail
    refine (setY_any _ _ _ _ (s.shS n x) n y _ O1.out.rd HN1.out).mono ?_
    rintro e w3 ⟨u1, u2, u3, u4, rfl, HU, hb⟩
    rw [Sou.shS_shS] at HU
    obtain ⟨a31, d31, a32, d32, a33, d33, a34, d34, rfl, rfl, rfl, rfl⟩ := HU.out.rd.sl
    clear K0x0 K0x1 K0x2 K0x3 K1x0 K1x1 K1x2 K1x3 K2x0 K2x1 K2x2 K2x3
    replace hb := bel_trans hb (bel_alloc w3 (.cells #[.slice a31 (s.shS n (wrap64 (x + y))).rs.length d31, .slice a32 (s.shS n (wrap64 (x + y))).zs.length d32, .slice a33 (s.shS n (wrap64 (x + y))).ls.length d33, .slice a34 (s.shS n (wrap64 (x + y))).ns.length d34] 27))
    have K3 := Lib.hid (heap_alloc_new w3 (.cells #[.slice a31 (s.shS n (wrap64 (x + y))).rs.length d31, .slice a32 (s.shS n (wrap64 (x + y))).zs.length d32, .slice a33 (s.shS n (wrap64 (x + y))).ls.length d33, .slice a34 (s.shS n (wrap64 (x + y))).ns.length d34] 27))
    have O3 := Lib.hid (HU.out.below (bel_alloc w3 (.cells #[.slice a31 (s.shS n (wrap64 (x + y))).rs.length d31, .slice a32 (s.shS n (wrap64 (x + y))).zs.length d32, .slice a33 (s.shS n (wrap64 (x + y))).ls.length d33, .slice a34 (s.shS n (wrap64 (x + y))).ns.length d34] 27)))
    clear HU
    replace HB := Lib.hid (bel_trans HB.out hb)
    replace K0 := Lib.hid (block_below K0.out hb)
    replace K1 := Lib.hid (block_below K1.out hb)
    replace K2 := Lib.hid (block_below K2.out hb)
    replace HS := Lib.hid (HS.out.below hb)
    replace O1 := Lib.hid (O1.out.below hb)
    replace O2 := Lib.hid (O2.out.below hb)
    clear hb
    obtain ⟨K0x0, K0x1, K0x2, K0x3⟩ := row4 K0.out
    obtain ⟨K1x0, K1x1, K1x2, K1x3⟩ := row4 K1.out
    obtain ⟨K2x0, K2x1, K2x2, K2x3⟩ := row4 K2.out
    obtain ⟨K3x0, K3x1, K3x2, K3x3⟩ := row4 K3.out
    go_wp2_with fail
    refine (setY_any _ _ _ _ s n (wrap64 (x + y)) _ HS.out HN.out).mono ?_
    rintro e w4 ⟨u1, u2, u3, u4, rfl, HU, hb⟩
    obtain ⟨a41, d41, a42, d42, a43, d43, a44, d44, rfl, rfl, rfl, rfl⟩ := HU.out.rd.sl
    clear K0x0 K0x1 K0x2 K0x3 K1x0 K1x1 K1x2 K1x3 K2x0 K2x1 K2x2 K2x3 K3x0 K3x1 K3x2 K3x3
    replace hb := bel_trans hb (bel_alloc w4 (.cells #[.slice a41 (s.shS n (wrap64 (x + y))).rs.length d41, .slice a42 (s.shS n (wrap64 (x + y))).zs.length d42, .slice a43 (s.shS n (wrap64 (x + y))).ls.length d43, .slice a44 (s.shS n (wrap64 (x + y))).ns.length d44] 27))
    have K4 := Lib.hid (heap_alloc_new w4 (.cells #[.slice a41 (s.shS n (wrap64 (x + y))).rs.length d41, .slice a42 (s.shS n (wrap64 (x + y))).zs.length d42, .slice a43 (s.shS n (wrap64 (x + y))).ls.length d43, .slice a44 (s.shS n (wrap64 (x + y))).ns.length d44] 27))
    have O4 := Lib.hid (HU.out.below (bel_alloc w4 (.cells #[.slice a41 (s.shS n (wrap64 (x + y))).rs.length d41, .slice a42 (s.shS n (wrap64 (x + y))).zs.length d42, .slice a43 (s.shS n (wrap64 (x + y))).ls.length d43, .slice a44 (s.shS n (wrap64 (x + y))).ns.length d44] 27)))
    clear HU
    replace HB := Lib.hid (bel_trans HB.out hb)
    replace K0 := Lib.hid (block_below K0.out hb)
    replace K1 := Lib.hid (block_below K1.out hb)
    replace K2 := Lib.hid (block_below K2.out hb)
    replace K3 := Lib.hid (block_below K3.out hb)
    replace HS := Lib.hid (HS.out.below hb)
    replace O1 := Lib.hid (O1.out.below hb)
    replace O2 := Lib.hid (O2.out.below hb)
    replace O3 := Lib.hid (O3.out.below hb)
    clear hb
    obtain ⟨K0x0, K0x1, K0x2, K0x3⟩ := row4 K0.out
    obtain ⟨K1x0, K1x1, K1x2, K1x3⟩ := row4 K1.out
    obtain ⟨K2x0, K2x1, K2x2, K2x3⟩ := row4 K2.out
    obtain ⟨K3x0, K3x1, K3x2, K3x3⟩ := row4 K3.out
    obtain ⟨K4x0, K4x1, K4x2, K4x3⟩ := row4 K4.out
    go_wp2_with fail
    refine (setY_any _ _ _ _ s n 0 _ HS.out HN.out).mono ?_
    rintro e w5 ⟨u1, u2, u3, u4, rfl, HU, hb⟩
    rw [Sou.shS_0 n HFIT.out] at HU
    obtain ⟨a51, d51, a52, d52, a53, d53, a54, d54, rfl, rfl, rfl, rfl⟩ := HU.out.rd.sl
    clear K0x0 K0x1 K0x2 K0x3 K1x0 K1x1 K1x2 K1x3 K2x0 K2x1 K2x2 K2x3 K3x0 K3x1 K3x2 K3x3 K4x0 K4x1 K4x2 K4x3
    replace hb := bel_trans hb (bel_alloc w5 (.cells #[.slice a51 s.rs.length d51, .slice a52 s.zs.length d52, .slice a53 s.ls.length d53, .slice a54 s.ns.length d54] 27))
    have K5 := Lib.hid (heap_alloc_new w5 (.cells #[.slice a51 s.rs.length d51, .slice a52 s.zs.length d52, .slice a53 s.ls.length d53, .slice a54 s.ns.length d54] 27))
    have O5 := Lib.hid (HU.out.below (bel_alloc w5 (.cells #[.slice a51 s.rs.length d51, .slice a52 s.zs.length d52, .slice a53 s.ls.length d53, .slice a54 s.ns.length d54] 27)))
    clear HU
    replace HB := Lib.hid (bel_trans HB.out hb)
    replace K0 := Lib.hid (block_below K0.out hb)
    replace K1 := Lib.hid (block_below K1.out hb)
    replace K2 := Lib.hid (block_below K2.out hb)
    replace K3 := Lib.hid (block_below K3.out hb)
    replace K4 := Lib.hid (block_below K4.out hb)
    replace HS := Lib.hid (HS.out.below hb)
    replace O1 := Lib.hid (O1.out.below hb)
    replace O2 := Lib.hid (O2.out.below hb)
    replace O3 := Lib.hid (O3.out.below hb)
    replace O4 := Lib.hid (O4.out.below hb)
    clear hb
    clear HN HN1 HFIT
    obtain ⟨K0x0, K0x1, K0x2, K0x3⟩ := row4 K0.out
    obtain ⟨K1x0, K1x1, K1x2, K1x3⟩ := row4 K1.out
    obtain ⟨K2x0, K2x1, K2x2, K2x3⟩ := row4 K2.out
    obtain ⟨K3x0, K3x1, K3x2, K3x3⟩ := row4 K3.out
    obtain ⟨K4x0, K4x1, K4x2, K4x3⟩ := row4 K4.out
    obtain ⟨K5x0, K5x1, K5x2, K5x3⟩ := row4 K5.out
    go_wp2_with fail
    refine (same_any _ _ _ _ _ _ _ _ s _ O2.out.rd HS.out).mono ?_
    rintro e w6 ⟨rfl, hb⟩
    clear K0x0 K0x1 K0x2 K0x3 K1x0 K1x1 K1x2 K1x3 K2x0 K2x1 K2x2 K2x3 K3x0 K3x1 K3x2 K3x3 K4x0 K4x1 K4x2 K4x3 K5x0 K5x1 K5x2 K5x3
    replace HB := Lib.hid (bel_trans HB.out hb)
    replace K0 := Lib.hid (block_below K0.out hb)
    replace K1 := Lib.hid (block_below K1.out hb)
    replace K2 := Lib.hid (block_below K2.out hb)
    replace K3 := Lib.hid (block_below K3.out hb)
    replace K4 := Lib.hid (block_below K4.out hb)
    replace K5 := Lib.hid (block_below K5.out hb)
    replace HS := Lib.hid (HS.out.below hb)
    replace O1 := Lib.hid (O1.out.below hb)
    replace O2 := Lib.hid (O2.out.below hb)
    replace O3 := Lib.hid (O3.out.below hb)
    replace O4 := Lib.hid (O4.out.below hb)
    replace O5 := Lib.hid (O5.out.below hb)
    clear hb
    obtain ⟨K0x0, K0x1, K0x2, K0x3⟩ := row4 K0.out
    obtain ⟨K1x0, K1x1, K1x2, K1x3⟩ := row4 K1.out
    obtain ⟨K2x0, K2x1, K2x2, K2x3⟩ := row4 K2.out
    obtain ⟨K3x0, K3x1, K3x2, K3x3⟩ := row4 K3.out
    obtain ⟨K4x0, K4x1, K4x2, K4x3⟩ := row4 K4.out
    obtain ⟨K5x0, K5x1, K5x2, K5x3⟩ := row4 K5.out
    go_wp2_with fail
    refine (same_any _ _ _ _ _ _ _ _ (s.shS n (wrap64 (x + y))) _ O3.out.rd O4.out.rd).mono ?_
    rintro e w7 ⟨rfl, hb⟩
    clear K0x0 K0x1 K0x2 K0x3 K1x0 K1x1 K1x2 K1x3 K2x0 K2x1 K2x2 K2x3 K3x0 K3x1 K3x2 K3x3 K4x0 K4x1 K4x2 K4x3 K5x0 K5x1 K5x2 K5x3
    replace HB := Lib.hid (bel_trans HB.out hb)
    replace K0 := Lib.hid (block_below K0.out hb)
    replace K1 := Lib.hid (block_below K1.out hb)
    replace K2 := Lib.hid (block_below K2.out hb)
    replace K3 := Lib.hid (block_below K3.out hb)
    replace K4 := Lib.hid (block_below K4.out hb)
    replace K5 := Lib.hid (block_below K5.out hb)
    replace HS := Lib.hid (HS.out.below hb)
    replace O1 := Lib.hid (O1.out.below hb)
    replace O2 := Lib.hid (O2.out.below hb)
    replace O3 := Lib.hid (O3.out.below hb)
    replace O4 := Lib.hid (O4.out.below hb)
    replace O5 := Lib.hid (O5.out.below hb)
    clear hb
    obtain ⟨K0x0, K0x1, K0x2, K0x3⟩ := row4 K0.out
    obtain ⟨K1x0, K1x1, K1x2, K1x3⟩ := row4 K1.out
    obtain ⟨K2x0, K2x1, K2x2, K2x3⟩ := row4 K2.out
    obtain ⟨K3x0, K3x1, K3x2, K3x3⟩ := row4 K3.out
    obtain ⟨K4x0, K4x1, K4x2, K4x3⟩ := row4 K4.out
    obtain ⟨K5x0, K5x1, K5x2, K5x3⟩ := row4 K5.out
    go_wp2_with fail
    refine (same_any _ _ _ _ _ _ _ _ s _ O5.out.rd HS.out).mono ?_
    rintro e w8 ⟨rfl, hb⟩
    clear K0x0 K0x1 K0x2 K0x3 K1x0 K1x1 K1x2 K1x3 K2x0 K2x1 K2x2 K2x3 K3x0 K3x1 K3x2 K3x3 K4x0 K4x1 K4x2 K4x3 K5x0 K5x1 K5x2 K5x3
    replace HB := Lib.hid (bel_trans HB.out hb)
    replace K0 := Lib.hid (block_below K0.out hb)
    replace K1 := Lib.hid (block_below K1.out hb)
    replace K2 := Lib.hid (block_below K2.out hb)
    replace K3 := Lib.hid (block_below K3.out hb)
    replace K4 := Lib.hid (block_below K4.out hb)
    replace K5 := Lib.hid (block_below K5.out hb)
    replace HS := Lib.hid (HS.out.below hb)
    replace O1 := Lib.hid (O1.out.below hb)
    replace O2 := Lib.hid (O2.out.below hb)
    replace O3 := Lib.hid (O3.out.below hb)
    replace O4 := Lib.hid (O4.out.below hb)
    replace O5 := Lib.hid (O5.out.below hb)
    clear hb
    obtain ⟨K0x0, K0x1, K0x2, K0x3⟩ := row4 K0.out
    obtain ⟨K1x0, K1x1, K1x2, K1x3⟩ := row4 K1.out
    obtain ⟨K2x0, K2x1, K2x2, K2x3⟩ := row4 K2.out
    obtain ⟨K3x0, K3x1, K3x2, K3x3⟩ := row4 K3.out
    obtain ⟨K4x0, K4x1, K4x2, K4x3⟩ := row4 K4.out
    obtain ⟨K5x0, K5x1, K5x2, K5x3⟩ := row4 K5.out
    go_wp2_with fail
    refine (works28_any _).mono ?_
    rintro e w9 ⟨rfl, hb9⟩
    go_wp2_with fail
    go_ret
    exact ⟨rfl, bel_trans HB.out hb9⟩

theorem shiftBack_walk (W : World) (v : Value) {H : Type} {enc : TypeId × Value → H} {base : Nat} {d : DataW H} {p : List MemPlace} (hv : Value.okWide Try.prog W .any base 27 v)
    (h : DataW.Trod enc Try.prog W 0 (fun _ => true) true 27 v d p) (n : ByteArray) (wn : n.size ≤ maxLen) (x : Int) (wx : (Lit.int .i64 x).wf = true) (y : Int) (wy : (Lit.int .i64 y).wf = true) :
    Calls Try.prog 4 #[v, .string n, .int .i64 x, .int .i64 y] W fun e w' => e = .returned (.bool true) ∧ Below W.heap.size W w' := by
  obtain ⟨A1, A2, A3, A4, n1, n2, n3, n4, c1, c2, c3, c4, ms, rfl, hbd, hml, hbm, hraw, hs⟩ := source_of hv h
  exact shiftBack_core A1 A2 A3 A4 n1 n2 n3 n4 c1 c2 c3 c4 ms W hbd hml hbm hraw hs n x y
end Go.Proofs.Ytdlmlcgmonkdfaa
