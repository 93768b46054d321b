/-
  The walk of the law ShiftOrders.
-/
import Derived.Test.YtdlmlcgmonkdfaaShfLawM
import Derived.Laws.Concat
namespace Go.Proofs.Ytdlmlcgmonkdfaa
open Go.RowKit Sh
set_option linter.unusedVariables false
set_option linter.unusedSimpArgs false

namespace Sh
/-- the eras of the first zone -/
def fstZ : _root_.List Zn → _root_.List Er
  | [] => []
  | z :: _ => z.es
end Sh

set_option maxRecDepth 100000 in
set_option maxHeartbeats 2000000 in
theorem first_any (v1 v2 v3 v4 : Value) (s : Sou) (W : World) (h : RdS v1 v2 v3 v4 s W) :
    Calls Try.prog 21 #[.agg #[v1, v2, v3, v4]] W fun e w' => ∃ u, e = .returned u ∧ Hid (Rd 13 u (fstZ s.zs).length (flatE (fstZ s.zs)) w') ∧ Below W.heap.size W w' := by
  obtain ⟨A1, c1, A2, c2, A3, c3, A4, c4, rfl, rfl, rfl, rfl⟩ := h.sl
  have H := Lib.hid h
  have hl : s.zs.length ≤ 1000 := by obtain ⟨ps, _, h, _⟩ := h.2.1; exact h.2.1
  clear h
  obtain ⟨n, hN⟩ : ∃ n, n = s.zs.length := ⟨_, rfl⟩
  have HN := Lib.hid hN
  rw [← hN] at hl ⊢
  clear hN
  go_enter Try.func21, Try.ntmps21
  have HB := Lib.hid (bel_alloc W (.cells #[.slice A1 s.rs.length c1, .slice A2 n c2, .slice A3 s.ls.length c3, .slice A4 s.ns.length c4] 27))
  by_cases h0 : n = 0
  · subst h0
    have hz : s.zs = [] := _root_.List.length_eq_zero_iff.1 HN.out.symm
    go_wp2_with fail
    go_ret
    refine ⟨_, rfl, Lib.hid ?_, HB.out⟩
    rw [hz]
    exact rd_zero rfl
  · have hpos : (0 : Int) < (n : Int) := by omega
    obtain ⟨z, hz⟩ : ∃ z, s.zs[0]? = some z := ⟨_, _root_.List.getElem?_eq_getElem (by rw [← HN.out]; omega)⟩
    have HZ := Lib.hid hz
    obtain ⟨g, o, cap, a, p, q, m1, m2, E1⟩ := (H.out.2.1.below HB.out).at_ hz
    simp only [Value.slice.injEq] at q
    obtain ⟨rfl, _, rfl⟩ := q
    have HE := Lib.hid E1
    clear hz E1 m1
    simp only [Nat.zero_mul, Nat.add_zero] at m2
    go_wp2_with fail
    go_ret
    refine ⟨_, rfl, Lib.hid ?_, HB.out⟩
    have e : fstZ s.zs = z.es := by
      have h := HZ.out
      revert h
      cases s.zs with
      | nil => intro h; simp at h
      | cons y ys => intro h; simp at h; subst h; rfl
    rw [e]
    exact HE.out


set_option maxRecDepth 100000 in
set_option maxHeartbeats 8000000 in
theorem shiftOrders_core (A1 A2 A3 A4 : Option Addr) (n1 n2 n3 n4 c1 c2 c3 c4 : Nat) (ms : _root_.List Nat) (W : World) (hbd : n1 ≤ maxLen ∧ n2 ≤ maxLen ∧ n3 ≤ maxLen ∧ n4 ≤ maxLen) (hml : ms.length = n2) (hbm : ∀ k ∈ ms, k ≤ maxLen) (hraw : RawZ A2 ms W) (hs : n1 ≤ 40 → n2 ≤ 10 → n3 ≤ 40 → n4 ≤ 40 → (∀ k ∈ ms, k ≤ 20) → ∃ s : Sou, s.rs.length = n1 ∧ s.zs.length = n2 ∧ s.ls.length = n3 ∧ s.ns.length = n4 ∧ s.fits ∧ RdS (.slice A1 n1 c1) (.slice A2 n2 c2) (.slice A3 n3 c3) (.slice A4 n4 c4) s W) (n m0 : ByteArray) (zm : m0.size ≤ 140737488351232) (x y : Int) : Calls Try.prog 6 #[.agg #[.slice A1 n1 c1, .slice A2 n2 c2, .slice A3 n3 c3, .slice A4 n4 c4], .string n, .string m0, .int .i64 x, .int .i64 y] W fun e w' => e = .returned (.bool true) ∧ Below W.heap.size W w' := by
  go_enter Try.func6, Try.ntmps6
  have K0 := Lib.hid (heap_alloc_new W (.cells #[.slice A1 n1 c1, .slice A2 n2 c2, .slice A3 n3 c3, .slice A4 n4 c4] 27))
  have HB := Lib.hid (bel_alloc W (.cells #[.slice A1 n1 c1, .slice A2 n2 c2, .slice A3 n3 c3, .slice A4 n4 c4] 27))
  go_wp2_with fail
  refine (few_any A1 A2 A3 A4 n1 n2 n3 n4 c1 c2 c3 c4 ms _ hbd hml hbm (hraw.below HB.out)).mono ?_
  rintro e w0 ⟨b, rfl, HF, hb⟩
  cases b
  · go_wp2_with fail
    refine (works28_any _).mono ?_
    rintro e w9 ⟨rfl, hb9⟩
    go_wp2_with fail
    go_ret
    exact ⟨rfl, bel_trans (bel_trans HB.out hb) hb9⟩
  obtain ⟨l1, l2, l3, l4, l5⟩ := HF.out rfl
  obtain ⟨s, e1, e2, e3, e4, hfit, hS⟩ := hs l1 l2 l3 l4 l5
  clear hs HF
  subst e1 e2 e3 e4
  have HS := Lib.hid (hS.below (bel_trans HB.out hb))
  have HFIT := Lib.hid hfit
  replace HB := Lib.hid (bel_trans HB.out hb)
  replace K0 := Lib.hid (block_below K0.out hb)
  clear hS hfit hb hraw hml hbm hbd l5
  generalize hwq : w0 = wq at *
  clear hwq
  go_upto_if 27 with fail
  go_cut [2] (fun t w' => ∃ m : ByteArray, t = .string m ∧ Hid (n ≠ m) ∧ w' = wq)
  case first =>
    by_cases hnm : n = m0
    · subst hnm
      rw [show (n.toList == n.toList) = true from beq_self_eq_true _]
      have hsa : ∀ w : World, (Op.stringOp .add n ⟨#[120]⟩).run Try.prog w = .ok (.string (n ++ ⟨#[120]⟩)) w := fun w => run_string_add_sum w n ⟨#[120]⟩ (by show n.size + 1 ≤ _; omega)
      go_wp2_with fail
      go_meet
      case rel => exact ⟨_, rfl, Lib.hid (fun e => by have h := congrArg ByteArray.size e; rw [ByteArray.size_append] at h; have h1 : (ByteArray.mk #[120]).size = 1 := rfl; omega), rfl⟩
    · rw [str_ne hnm]
      go_wp2_with fail
      go_meet
      case rel => exact ⟨_, rfl, Lib.hid hnm, rfl⟩
  case rest =>
    obtain ⟨m, rfl, HNM, rfl⟩ := hcut
    obtain ⟨K0x0, K0x1, K0x2, K0x3⟩ := row4 K0.out
    go_wp2_with fail
    refine (erasS_any _ _ _ _ s n x _ HS.out).mono ?_
    rintro e w1 ⟨u1, u2, u3, u4, rfl, HU, hb⟩
    obtain ⟨a11, d11, a12, d12, a13, d13, a14, d14, rfl, rfl, rfl, rfl⟩ := HU.out.rd.sl
    clear K0x0 K0x1 K0x2 K0x3
    have O1 := HU
    clear HU
    replace HB := Lib.hid (bel_trans HB.out hb)
    replace K0 := Lib.hid (block_below K0.out hb)
    replace HS := Lib.hid (HS.out.below hb)
    clear hb
    obtain ⟨K0x0, K0x1, K0x2, K0x3⟩ := row4 K0.out
    go_wp2_with fail
    refine (erasS_any _ _ _ _ (s.shE n x) m y _ O1.out.rd).mono ?_
    rintro e w2 ⟨u1, u2, u3, u4, rfl, HU, hb⟩
    obtain ⟨a21, d21, a22, d22, a23, d23, a24, d24, rfl, rfl, rfl, rfl⟩ := HU.out.rd.sl
    clear K0x0 K0x1 K0x2 K0x3
    replace hb := bel_trans hb (bel_alloc w2 (.cells #[.slice a21 ((s.shE n x).shE m y).rs.length d21, .slice a22 ((s.shE n x).shE m y).zs.length d22, .slice a23 ((s.shE n x).shE m y).ls.length d23, .slice a24 ((s.shE n x).shE m y).ns.length d24] 27))
    have K2 := Lib.hid (heap_alloc_new w2 (.cells #[.slice a21 ((s.shE n x).shE m y).rs.length d21, .slice a22 ((s.shE n x).shE m y).zs.length d22, .slice a23 ((s.shE n x).shE m y).ls.length d23, .slice a24 ((s.shE n x).shE m y).ns.length d24] 27))
    have O2 := Lib.hid (HU.out.below (bel_alloc w2 (.cells #[.slice a21 ((s.shE n x).shE m y).rs.length d21, .slice a22 ((s.shE n x).shE m y).zs.length d22, .slice a23 ((s.shE n x).shE m y).ls.length d23, .slice a24 ((s.shE n x).shE m y).ns.length d24] 27)))
    clear HU
    replace HB := Lib.hid (bel_trans HB.out hb)
    replace K0 := Lib.hid (block_below K0.out hb)
    replace HS := Lib.hid (HS.out.below hb)
    replace O1 := Lib.hid (O1.out.below hb)
    clear hb
    clear O1
    obtain ⟨K0x0, K0x1, K0x2, K0x3⟩ := row4 K0.out
    obtain ⟨K2x0, K2x1, K2x2, K2x3⟩ := row4 K2.out
    go_wp2_with fail
    refine (erasS_any _ _ _ _ s m y _ HS.out).mono ?_
    rintro e w3 ⟨u1, u2, u3, u4, rfl, HU, hb⟩
    obtain ⟨a31, d31, a32, d32, a33, d33, a34, d34, rfl, rfl, rfl, rfl⟩ := HU.out.rd.sl
    clear K0x0 K0x1 K0x2 K0x3 K2x0 K2x1 K2x2 K2x3
    have O3 := HU
    clear HU
    replace HB := Lib.hid (bel_trans HB.out hb)
    replace K0 := Lib.hid (block_below K0.out hb)
    replace K2 := Lib.hid (block_below K2.out hb)
    replace HS := Lib.hid (HS.out.below hb)
    replace O2 := Lib.hid (O2.out.below hb)
    clear hb
    obtain ⟨K0x0, K0x1, K0x2, K0x3⟩ := row4 K0.out
    obtain ⟨K2x0, K2x1, K2x2, K2x3⟩ := row4 K2.out
    go_wp2_with fail
    refine (erasS_any _ _ _ _ (s.shE m y) n x _ O3.out.rd).mono ?_
    rintro e w4 ⟨u1, u2, u3, u4, rfl, HU, hb⟩
    rw [← Sou.shE_other s x y HNM.out] at HU
    obtain ⟨a41, d41, a42, d42, a43, d43, a44, d44, rfl, rfl, rfl, rfl⟩ := HU.out.rd.sl
    clear K0x0 K0x1 K0x2 K0x3 K2x0 K2x1 K2x2 K2x3
    replace hb := bel_trans hb (bel_alloc w4 (.cells #[.slice a41 ((s.shE n x).shE m y).rs.length d41, .slice a42 ((s.shE n x).shE m y).zs.length d42, .slice a43 ((s.shE n x).shE m y).ls.length d43, .slice a44 ((s.shE n x).shE m y).ns.length d44] 27))
    have K4 := Lib.hid (heap_alloc_new w4 (.cells #[.slice a41 ((s.shE n x).shE m y).rs.length d41, .slice a42 ((s.shE n x).shE m y).zs.length d42, .slice a43 ((s.shE n x).shE m y).ls.length d43, .slice a44 ((s.shE n x).shE m y).ns.length d44] 27))
    have O4 := Lib.hid (HU.out.below (bel_alloc w4 (.cells #[.slice a41 ((s.shE n x).shE m y).rs.length d41, .slice a42 ((s.shE n x).shE m y).zs.length d42, .slice a43 ((s.shE n x).shE m y).ls.length d43, .slice a44 ((s.shE n x).shE m y).ns.length d44] 27)))
    clear HU
    replace HB := Lib.hid (bel_trans HB.out hb)
    replace K0 := Lib.hid (block_below K0.out hb)
    replace K2 := Lib.hid (block_below K2.out hb)
    replace HS := Lib.hid (HS.out.below hb)
    replace O2 := Lib.hid (O2.out.below hb)
    replace O3 := Lib.hid (O3.out.below hb)
    clear hb
    clear O3
    obtain ⟨K0x0, K0x1, K0x2, K0x3⟩ := row4 K0.out
    obtain ⟨K2x0, K2x1, K2x2, K2x3⟩ := row4 K2.out
    obtain ⟨K4x0, K4x1, K4x2, K4x3⟩ := row4 K4.out
    go_wp2_with fail
    refine (same_any _ _ _ _ _ _ _ _ ((s.shE n x).shE m y) _ O2.out.rd O4.out.rd).mono ?_
    rintro e w5 ⟨rfl, hb⟩
    clear K0x0 K0x1 K0x2 K0x3 K2x0 K2x1 K2x2 K2x3 K4x0 K4x1 K4x2 K4x3
    replace HB := Lib.hid (bel_trans HB.out hb)
    replace K0 := Lib.hid (block_below K0.out hb)
    replace K2 := Lib.hid (block_below K2.out hb)
    replace K4 := Lib.hid (block_below K4.out hb)
    replace HS := Lib.hid (HS.out.below hb)
    replace O2 := Lib.hid (O2.out.below hb)
    replace O4 := Lib.hid (O4.out.below hb)
    clear hb
    obtain ⟨K0x0, K0x1, K0x2, K0x3⟩ := row4 K0.out
    obtain ⟨K2x0, K2x1, K2x2, K2x3⟩ := row4 K2.out
    obtain ⟨K4x0, K4x1, K4x2, K4x3⟩ := row4 K4.out
    go_wp2_with fail
    refine (sameR_any _ _ s.rs _ O2.out.rd.1 HS.out.1).mono ?_
    rintro e w6 ⟨rfl, hb⟩
    clear K0x0 K0x1 K0x2 K0x3 K2x0 K2x1 K2x2 K2x3 K4x0 K4x1 K4x2 K4x3
    replace HB := Lib.hid (bel_trans HB.out hb)
    replace K0 := Lib.hid (block_below K0.out hb)
    replace K2 := Lib.hid (block_below K2.out hb)
    replace K4 := Lib.hid (block_below K4.out hb)
    replace HS := Lib.hid (HS.out.below hb)
    replace O2 := Lib.hid (O2.out.below hb)
    replace O4 := Lib.hid (O4.out.below hb)
    clear hb
    obtain ⟨K0x0, K0x1, K0x2, K0x3⟩ := row4 K0.out
    obtain ⟨K2x0, K2x1, K2x2, K2x3⟩ := row4 K2.out
    obtain ⟨K4x0, K4x1, K4x2, K4x3⟩ := row4 K4.out
    clear O4 K4
    clear K0x0 K0x1 K0x2 K0x3 K2x0 K2x1 K2x2 K2x3 K4x0 K4x1 K4x2 K4x3
    obtain ⟨q1, hN⟩ : ∃ q, hasN n s.rs = q := ⟨_, rfl⟩
    obtain ⟨q2, hM⟩ : ∃ q, hasN m s.rs = q := ⟨_, rfl⟩
    have HN := Lib.hid hN
    have HM := Lib.hid hM
    clear hN hM
    cases q1
    · obtain ⟨K0x0, K0x1, K0x2, K0x3⟩ := row4 K0.out
      obtain ⟨K2x0, K2x1, K2x2, K2x3⟩ := row4 K2.out
      go_wp2_with fail
      refine (setN_any _ _ _ _ s n x _ HS.out HN.out).mono ?_
      rintro e w7 ⟨rfl, hb⟩
      clear K0x0 K0x1 K0x2 K0x3 K2x0 K2x1 K2x2 K2x3
      replace hb := bel_trans hb (bel_alloc w7 (.cells #[.slice none 0 0, .slice none 0 0, .slice none 0 0, .slice none 0 0] 27))
      replace HB := Lib.hid (bel_trans HB.out hb)
      replace K0 := Lib.hid (block_below K0.out hb)
      replace K2 := Lib.hid (block_below K2.out hb)
      replace HS := Lib.hid (HS.out.below hb)
      replace O2 := Lib.hid (O2.out.below hb)
      clear hb
      cases q2
      · obtain ⟨K0x0, K0x1, K0x2, K0x3⟩ := row4 K0.out
        obtain ⟨K2x0, K2x1, K2x2, K2x3⟩ := row4 K2.out
        go_wp2_with fail
        refine (setN_any _ _ _ _ s m y _ HS.out HM.out).mono ?_
        rintro e w7 ⟨rfl, hb⟩
        clear K0x0 K0x1 K0x2 K0x3 K2x0 K2x1 K2x2 K2x3
        replace hb := bel_trans hb (bel_alloc w7 (.cells #[.slice none 0 0, .slice none 0 0, .slice none 0 0, .slice none 0 0] 27))
        replace HB := Lib.hid (bel_trans HB.out hb)
        replace K0 := Lib.hid (block_below K0.out hb)
        replace K2 := Lib.hid (block_below K2.out hb)
        replace HS := Lib.hid (HS.out.below hb)
        replace O2 := Lib.hid (O2.out.below hb)
        clear hb
        go_wp2_with fail
        refine (works28_any _).mono ?_
        rintro e w9 ⟨rfl, hb9⟩
        go_wp2_with fail
        go_ret
        exact ⟨rfl, bel_trans HB.out hb9⟩
      · obtain ⟨K0x0, K0x1, K0x2, K0x3⟩ := row4 K0.out
        obtain ⟨K2x0, K2x1, K2x2, K2x3⟩ := row4 K2.out
        go_wp2_with fail
        refine (setY_any _ _ _ _ s m y _ HS.out HM.out).mono ?_
        rintro e w8 ⟨u1, u2, u3, u4, rfl, HU, hb⟩
        obtain ⟨a81, d81, a82, d82, a83, d83, a84, d84, rfl, rfl, rfl, rfl⟩ := HU.out.rd.sl
        clear K0x0 K0x1 K0x2 K0x3 K2x0 K2x1 K2x2 K2x3
        replace hb := bel_trans hb (bel_alloc w8 (.cells #[.slice a81 (s.shS m y).rs.length d81, .slice a82 (s.shS m y).zs.length d82, .slice a83 (s.shS m y).ls.length d83, .slice a84 (s.shS m y).ns.length d84] 27))
        have K8 := Lib.hid (heap_alloc_new w8 (.cells #[.slice a81 (s.shS m y).rs.length d81, .slice a82 (s.shS m y).zs.length d82, .slice a83 (s.shS m y).ls.length d83, .slice a84 (s.shS m y).ns.length d84] 27))
        have O8 := Lib.hid (HU.out.below (bel_alloc w8 (.cells #[.slice a81 (s.shS m y).rs.length d81, .slice a82 (s.shS m y).zs.length d82, .slice a83 (s.shS m y).ls.length d83, .slice a84 (s.shS m y).ns.length d84] 27)))
        clear HU
        replace HB := Lib.hid (bel_trans HB.out hb)
        replace K0 := Lib.hid (block_below K0.out hb)
        replace K2 := Lib.hid (block_below K2.out hb)
        replace HS := Lib.hid (HS.out.below hb)
        replace O2 := Lib.hid (O2.out.below hb)
        clear hb
        go_wp2_with fail
        refine (works28_any _).mono ?_
        rintro e w9 ⟨rfl, hb9⟩
        go_wp2_with fail
        go_ret
        exact ⟨rfl, bel_trans HB.out hb9⟩
    · obtain ⟨K0x0, K0x1, K0x2, K0x3⟩ := row4 K0.out
      obtain ⟨K2x0, K2x1, K2x2, K2x3⟩ := row4 K2.out
      go_wp2_with fail
      refine (setY_any _ _ _ _ s n x _ HS.out HN.out).mono ?_
      rintro e w7 ⟨u1, u2, u3, u4, rfl, HU, hb⟩
      obtain ⟨a71, d71, a72, d72, a73, d73, a74, d74, rfl, rfl, rfl, rfl⟩ := HU.out.rd.sl
      clear K0x0 K0x1 K0x2 K0x3 K2x0 K2x1 K2x2 K2x3
      replace hb := bel_trans hb (bel_alloc w7 (.cells #[.slice a71 (s.shS n x).rs.length d71, .slice a72 (s.shS n x).zs.length d72, .slice a73 (s.shS n x).ls.length d73, .slice a74 (s.shS n x).ns.length d74] 27))
      have K7 := Lib.hid (heap_alloc_new w7 (.cells #[.slice a71 (s.shS n x).rs.length d71, .slice a72 (s.shS n x).zs.length d72, .slice a73 (s.shS n x).ls.length d73, .slice a74 (s.shS n x).ns.length d74] 27))
      have O7 := Lib.hid (HU.out.below (bel_alloc w7 (.cells #[.slice a71 (s.shS n x).rs.length d71, .slice a72 (s.shS n x).zs.length d72, .slice a73 (s.shS n x).ls.length d73, .slice a74 (s.shS n x).ns.length d74] 27)))
      clear HU
      replace HB := Lib.hid (bel_trans HB.out hb)
      replace K0 := Lib.hid (block_below K0.out hb)
      replace K2 := Lib.hid (block_below K2.out hb)
      replace HS := Lib.hid (HS.out.below hb)
      replace O2 := Lib.hid (O2.out.below hb)
      clear hb
      cases q2
      · obtain ⟨K0x0, K0x1, K0x2, K0x3⟩ := row4 K0.out
        obtain ⟨K2x0, K2x1, K2x2, K2x3⟩ := row4 K2.out
        obtain ⟨K7x0, K7x1, K7x2, K7x3⟩ := row4 K7.out
        go_wp2_with fail
        refine (setN_any _ _ _ _ s m y _ HS.out HM.out).mono ?_
        rintro e w8 ⟨rfl, hb⟩
        clear K0x0 K0x1 K0x2 K0x3 K2x0 K2x1 K2x2 K2x3 K7x0 K7x1 K7x2 K7x3
        replace hb := bel_trans hb (bel_alloc w8 (.cells #[.slice none 0 0, .slice none 0 0, .slice none 0 0, .slice none 0 0] 27))
        replace HB := Lib.hid (bel_trans HB.out hb)
        replace K0 := Lib.hid (block_below K0.out hb)
        replace K2 := Lib.hid (block_below K2.out hb)
        replace K7 := Lib.hid (block_below K7.out hb)
        replace HS := Lib.hid (HS.out.below hb)
        replace O2 := Lib.hid (O2.out.below hb)
        replace O7 := Lib.hid (O7.out.below hb)
        clear hb
        go_wp2_with fail
        refine (works28_any _).mono ?_
        rintro e w9 ⟨rfl, hb9⟩
        go_wp2_with fail
        go_ret
        exact ⟨rfl, bel_trans HB.out hb9⟩
      · obtain ⟨K0x0, K0x1, K0x2, K0x3⟩ := row4 K0.out
        obtain ⟨K2x0, K2x1, K2x2, K2x3⟩ := row4 K2.out
        obtain ⟨K7x0, K7x1, K7x2, K7x3⟩ := row4 K7.out
        go_wp2_with fail
        refine (setY_any _ _ _ _ s m y _ HS.out HM.out).mono ?_
        rintro e w8 ⟨u1, u2, u3, u4, rfl, HU, hb⟩
        obtain ⟨a81, d81, a82, d82, a83, d83, a84, d84, rfl, rfl, rfl, rfl⟩ := HU.out.rd.sl
        clear K0x0 K0x1 K0x2 K0x3 K2x0 K2x1 K2x2 K2x3 K7x0 K7x1 K7x2 K7x3
        replace hb := bel_trans hb (bel_alloc w8 (.cells #[.slice a81 (s.shS m y).rs.length d81, .slice a82 (s.shS m y).zs.length d82, .slice a83 (s.shS m y).ls.length d83, .slice a84 (s.shS m y).ns.length d84] 27))
        have K8 := Lib.hid (heap_alloc_new w8 (.cells #[.slice a81 (s.shS m y).rs.length d81, .slice a82 (s.shS m y).zs.length d82, .slice a83 (s.shS m y).ls.length d83, .slice a84 (s.shS m y).ns.length d84] 27))
        have O8 := Lib.hid (HU.out.below (bel_alloc w8 (.cells #[.slice a81 (s.shS m y).rs.length d81, .slice a82 (s.shS m y).zs.length d82, .slice a83 (s.shS m y).ls.length d83, .slice a84 (s.shS m y).ns.length d84] 27)))
        clear HU
        replace HB := Lib.hid (bel_trans HB.out hb)
        replace K0 := Lib.hid (block_below K0.out hb)
        replace K2 := Lib.hid (block_below K2.out hb)
        replace K7 := Lib.hid (block_below K7.out hb)
        replace HS := Lib.hid (HS.out.below hb)
        replace O2 := Lib.hid (O2.out.below hb)
        replace O7 := Lib.hid (O7.out.below hb)
        clear hb
        have HM7 := Lib.hid (show hasN m (s.shS n x).rs = true by rw [hasN_shS]; exact HM.out)
        have HN8 := Lib.hid (show hasN n (s.shS m y).rs = true by rw [hasN_shS]; exact HN.out)
        obtain ⟨K0x0, K0x1, K0x2, K0x3⟩ := row4 K0.out
        obtain ⟨K2x0, K2x1, K2x2, K2x3⟩ := row4 K2.out
        obtain ⟨K7x0, K7x1, K7x2, K7x3⟩ := row4 K7.out
        obtain ⟨K8x0, K8x1, K8x2, K8x3⟩ := row4 K8.out
        go_wp2_with fail
        refine (setY_any _ _ _ _ (s.shS n x) m y _ O7.out.rd HM7.out).mono ?_
        rintro e w9 ⟨u1, u2, u3, u4, rfl, HU, hb⟩
        obtain ⟨a91, d91, a92, d92, a93, d93, a94, d94, rfl, rfl, rfl, rfl⟩ := HU.out.rd.sl
        clear K0x0 K0x1 K0x2 K0x3 K2x0 K2x1 K2x2 K2x3 K7x0 K7x1 K7x2 K7x3 K8x0 K8x1 K8x2 K8x3
        replace hb := bel_trans hb (bel_alloc w9 (.cells #[.slice a91 ((s.shS n x).shS m y).rs.length d91, .slice a92 ((s.shS n x).shS m y).zs.length d92, .slice a93 ((s.shS n x).shS m y).ls.length d93, .slice a94 ((s.shS n x).shS m y).ns.length d94] 27))
        have K9 := Lib.hid (heap_alloc_new w9 (.cells #[.slice a91 ((s.shS n x).shS m y).rs.length d91, .slice a92 ((s.shS n x).shS m y).zs.length d92, .slice a93 ((s.shS n x).shS m y).ls.length d93, .slice a94 ((s.shS n x).shS m y).ns.length d94] 27))
        have O9 := Lib.hid (HU.out.below (bel_alloc w9 (.cells #[.slice a91 ((s.shS n x).shS m y).rs.length d91, .slice a92 ((s.shS n x).shS m y).zs.length d92, .slice a93 ((s.shS n x).shS m y).ls.length d93, .slice a94 ((s.shS n x).shS m y).ns.length d94] 27)))
        clear HU
        replace HB := Lib.hid (bel_trans HB.out hb)
        replace K0 := Lib.hid (block_below K0.out hb)
        replace K2 := Lib.hid (block_below K2.out hb)
        replace K7 := Lib.hid (block_below K7.out hb)
        replace K8 := Lib.hid (block_below K8.out hb)
        replace HS := Lib.hid (HS.out.below hb)
        replace O2 := Lib.hid (O2.out.below hb)
        replace O7 := Lib.hid (O7.out.below hb)
        replace O8 := Lib.hid (O8.out.below hb)
        clear hb
        clear K7
        obtain ⟨K0x0, K0x1, K0x2, K0x3⟩ := row4 K0.out
        obtain ⟨K2x0, K2x1, K2x2, K2x3⟩ := row4 K2.out
        obtain ⟨K8x0, K8x1, K8x2, K8x3⟩ := row4 K8.out
        obtain ⟨K9x0, K9x1, K9x2, K9x3⟩ := row4 K9.out
        go_wp2_with fail
        refine (setY_any _ _ _ _ (s.shS m y) n x _ O8.out.rd HN8.out).mono ?_
        rintro e w10 ⟨u1, u2, u3, u4, rfl, HU, hb⟩
        rw [← Sou.shS_other s x y HNM.out] at HU
        obtain ⟨a101, d101, a102, d102, a103, d103, a104, d104, rfl, rfl, rfl, rfl⟩ := HU.out.rd.sl
        clear K0x0 K0x1 K0x2 K0x3 K2x0 K2x1 K2x2 K2x3 K8x0 K8x1 K8x2 K8x3 K9x0 K9x1 K9x2 K9x3
        replace hb := bel_trans hb (bel_alloc w10 (.cells #[.slice a101 ((s.shS n x).shS m y).rs.length d101, .slice a102 ((s.shS n x).shS m y).zs.length d102, .slice a103 ((s.shS n x).shS m y).ls.length d103, .slice a104 ((s.shS n x).shS m y).ns.length d104] 27))
        have K10 := Lib.hid (heap_alloc_new w10 (.cells #[.slice a101 ((s.shS n x).shS m y).rs.length d101, .slice a102 ((s.shS n x).shS m y).zs.length d102, .slice a103 ((s.shS n x).shS m y).ls.length d103, .slice a104 ((s.shS n x).shS m y).ns.length d104] 27))
        have O10 := Lib.hid (HU.out.below (bel_alloc w10 (.cells #[.slice a101 ((s.shS n x).shS m y).rs.length d101, .slice a102 ((s.shS n x).shS m y).zs.length d102, .slice a103 ((s.shS n x).shS m y).ls.length d103, .slice a104 ((s.shS n x).shS m y).ns.length d104] 27)))
        clear HU
        replace HB := Lib.hid (bel_trans HB.out hb)
        replace K0 := Lib.hid (block_below K0.out hb)
        replace K2 := Lib.hid (block_below K2.out hb)
        replace K8 := Lib.hid (block_below K8.out hb)
        replace K9 := Lib.hid (block_below K9.out hb)
        replace HS := Lib.hid (HS.out.below hb)
        replace O2 := Lib.hid (O2.out.below hb)
        replace O7 := Lib.hid (O7.out.below hb)
        replace O8 := Lib.hid (O8.out.below hb)
        replace O9 := Lib.hid (O9.out.below hb)
        clear hb
        clear HN HM HM7 HN8 HNM HFIT O7 O8
        have hbd : Below (w10.alloc (.cells #[.slice a101 ((s.shS n x).shS m y).rs.length d101, .slice a102 ((s.shS n x).shS m y).zs.length d102, .slice a103 ((s.shS n x).shS m y).ls.length d103, .slice a104 ((s.shS n x).shS m y).ns.length d104] 27)).heap.size (w10.alloc (.cells #[.slice a101 ((s.shS n x).shS m y).rs.length d101, .slice a102 ((s.shS n x).shS m y).zs.length d102, .slice a103 ((s.shS n x).shS m y).ls.length d103, .slice a104 ((s.shS n x).shS m y).ns.length d104] 27)) (w10.alloc (.cells #[.slice a101 ((s.shS n x).shS m y).rs.length d101, .slice a102 ((s.shS n x).shS m y).zs.length d102, .slice a103 ((s.shS n x).shS m y).ls.length d103, .slice a104 ((s.shS n x).shS m y).ns.length d104] 27)).drew := Below.drew (Below.refl _ _)
        have HB := Lib.hid (bel_trans HB.out hbd)
        have HS := Lib.hid (HS.out.below hbd)
        have O2 := Lib.hid (O2.out.below hbd)
        have O9 := Lib.hid (O9.out.below hbd)
        have O10 := Lib.hid (O10.out.below hbd)
        have K2 := Lib.hid (block_below K2.out hbd)
        have K9 := Lib.hid (block_below K9.out hbd)
        have K10 := Lib.hid (block_below K10.out hbd)
        clear hbd
        go_wp2_with fail
        try simp only [List.append_eq, List.cons_append, List.nil_append]
        refine wp_region_noPanic ?_
        refine wp_region_held_drew (S := (fun w' => w'.cell? ⟨w2.heap.size, 0, none⟩ = some (.slice a21 ((s.shE n x).shE m y).rs.length d21) ∧ w'.cell? ⟨w2.heap.size, 1, none⟩ = some (.slice a22 ((s.shE n x).shE m y).zs.length d22) ∧ w'.cell? ⟨w2.heap.size, 2, none⟩ = some (.slice a23 ((s.shE n x).shE m y).ls.length d23) ∧ w'.cell? ⟨w2.heap.size, 3, none⟩ = some (.slice a24 ((s.shE n x).shE m y).ns.length d24) ∧ w'.cell? ⟨w9.heap.size, 0, none⟩ = some (.slice a91 ((s.shS n x).shS m y).rs.length d91) ∧ w'.cell? ⟨w9.heap.size, 1, none⟩ = some (.slice a92 ((s.shS n x).shS m y).zs.length d92) ∧ w'.cell? ⟨w9.heap.size, 2, none⟩ = some (.slice a93 ((s.shS n x).shS m y).ls.length d93) ∧ w'.cell? ⟨w9.heap.size, 3, none⟩ = some (.slice a94 ((s.shS n x).shS m y).ns.length d94) ∧ w'.cell? ⟨w10.heap.size, 0, none⟩ = some (.slice a101 ((s.shS n x).shS m y).rs.length d101) ∧ w'.cell? ⟨w10.heap.size, 1, none⟩ = some (.slice a102 ((s.shS n x).shS m y).zs.length d102) ∧ w'.cell? ⟨w10.heap.size, 2, none⟩ = some (.slice a103 ((s.shS n x).shS m y).ls.length d103) ∧ w'.cell? ⟨w10.heap.size, 3, none⟩ = some (.slice a104 ((s.shS n x).shS m y).ns.length d104))) (by kernel_rfl) (by exact ⟨cellB (block_below K2.out (Below.refl _ _)) (i := 0) rfl, cellB (block_below K2.out (Below.refl _ _)) (i := 1) rfl, cellB (block_below K2.out (Below.refl _ _)) (i := 2) rfl, cellB (block_below K2.out (Below.refl _ _)) (i := 3) rfl, cellB (block_below K9.out (Below.refl _ _)) (i := 0) rfl, cellB (block_below K9.out (Below.refl _ _)) (i := 1) rfl, cellB (block_below K9.out (Below.refl _ _)) (i := 2) rfl, cellB (block_below K9.out (Below.refl _ _)) (i := 3) rfl, cellB (block_below K10.out (Below.refl _ _)) (i := 0) rfl, cellB (block_below K10.out (Below.refl _ _)) (i := 1) rfl, cellB (block_below K10.out (Below.refl _ _)) (i := 2) rfl, cellB (block_below K10.out (Below.refl _ _)) (i := 3) rfl⟩) (fun hHeld => ?_)
        refine wpAnyH_take (i := 0) (v := ?_) rfl (by kernel_rfl) (by kernel_rfl) (by kernel_rfl) (fun _ _ _ h => h) (Or.inl ⟨by rfl, ?_⟩) (by assumption) ?_
        rotate_left 1
        · (intro w hSw; (try dsimp only at hSw); first | (go_simp; done) | (go_simp; with_reducible rfl))
        try simp only [Act.put, List.getElem_toArray, List.getElem_cons_succ, List.getElem_cons_zero, List.setIfInBounds_toArray, List.set_cons_zero, List.set_cons_succ]
        refine wpAnyH_take (i := 1) (v := ?_) rfl (by kernel_rfl) (by kernel_rfl) (by kernel_rfl) (fun _ _ _ h => h) (Or.inl ⟨by rfl, ?_⟩) (by assumption) ?_
        rotate_left 1
        · (intro w hSw; (try dsimp only at hSw); first | (go_simp; done) | (go_simp; with_reducible rfl))
        try simp only [Act.put, List.getElem_toArray, List.getElem_cons_succ, List.getElem_cons_zero, List.setIfInBounds_toArray, List.set_cons_zero, List.set_cons_succ]
        refine wpAnyH_take (i := 2) (v := ?_) rfl (by kernel_rfl) (by kernel_rfl) (by kernel_rfl) (fun _ _ _ h => h) (Or.inl ⟨by rfl, ?_⟩) (by assumption) ?_
        rotate_left 1
        · (intro w hSw; (try dsimp only at hSw); first | (go_simp; done) | (go_simp; with_reducible rfl))
        try simp only [Act.put, List.getElem_toArray, List.getElem_cons_succ, List.getElem_cons_zero, List.setIfInBounds_toArray, List.set_cons_zero, List.set_cons_succ]
        refine wpAnyH_take (i := 3) (v := ?_) rfl (by kernel_rfl) (by kernel_rfl) (by kernel_rfl) (fun _ _ _ h => h) (Or.inl ⟨by rfl, ?_⟩) (by assumption) ?_
        rotate_left 1
        · (intro w hSw; (try dsimp only at hSw); first | (go_simp; done) | (go_simp; with_reducible rfl))
        try simp only [Act.put, List.getElem_toArray, List.getElem_cons_succ, List.getElem_cons_zero, List.setIfInBounds_toArray, List.set_cons_zero, List.set_cons_succ]
        refine wpAnyH_take (i := 4) (v := ?_) rfl (by kernel_rfl) (by kernel_rfl) (by kernel_rfl) (fun _ _ _ h => h) (Or.inl ⟨by rfl, ?_⟩) (by assumption) ?_
        rotate_left 1
        · (intro w hSw; (try dsimp only at hSw); first | (go_simp; done) | (go_simp; with_reducible rfl))
        try simp only [Act.put, List.getElem_toArray, List.getElem_cons_succ, List.getElem_cons_zero, List.setIfInBounds_toArray, List.set_cons_zero, List.set_cons_succ]
        refine wpAnyH_take (i := 5) (v := ?_) rfl (by kernel_rfl) (by kernel_rfl) (by kernel_rfl) (fun _ _ _ h => h) (Or.inl ⟨by rfl, ?_⟩) (by assumption) ?_
        rotate_left 1
        · (intro w hSw; (try dsimp only at hSw); first | (go_simp; done) | (go_simp; with_reducible rfl))
        try simp only [Act.put, List.getElem_toArray, List.getElem_cons_succ, List.getElem_cons_zero, List.setIfInBounds_toArray, List.set_cons_zero, List.set_cons_succ]
        refine wpAnyH_take (i := 6) (v := ?_) rfl (by kernel_rfl) (by kernel_rfl) (by kernel_rfl) (fun _ _ _ h => h) (Or.inl ⟨by rfl, ?_⟩) (by assumption) ?_
        rotate_left 1
        · (intro w hSw; (try dsimp only at hSw); first | (go_simp; done) | (go_simp; with_reducible rfl))
        try simp only [Act.put, List.getElem_toArray, List.getElem_cons_succ, List.getElem_cons_zero, List.setIfInBounds_toArray, List.set_cons_zero, List.set_cons_succ]
        refine wpAnyH_take (i := 7) (v := ?_) rfl (by kernel_rfl) (by kernel_rfl) (by kernel_rfl) (fun _ _ _ h => h) (Or.inl ⟨by rfl, ?_⟩) (by assumption) ?_
        rotate_left 1
        · (intro w hSw; (try dsimp only at hSw); first | (go_simp; done) | (go_simp; with_reducible rfl))
        try simp only [Act.put, List.getElem_toArray, List.getElem_cons_succ, List.getElem_cons_zero, List.setIfInBounds_toArray, List.set_cons_zero, List.set_cons_succ]
        refine wpAnyH_take (i := 8) (v := ?_) rfl (by kernel_rfl) (by kernel_rfl) (by kernel_rfl) (fun _ _ _ h => h) (Or.inl ⟨by rfl, ?_⟩) (by assumption) ?_
        rotate_left 1
        · (intro w hSw; (try dsimp only at hSw); first | (go_simp; done) | (go_simp; with_reducible rfl))
        try simp only [Act.put, List.getElem_toArray, List.getElem_cons_succ, List.getElem_cons_zero, List.setIfInBounds_toArray, List.set_cons_zero, List.set_cons_succ]
        refine wpAnyH_ready (rs := [9]) (by kernel_rfl) (by simp) ?_
        refine AllReadyH.cons rfl (fun K hK => ?_) AllReadyH.nil
        go_simp
        refine (same_any _ _ _ _ _ _ _ _ ((s.shS n x).shS m y) _ O9.out.rd O10.out.rd).mono ?_
        rintro e w11 ⟨rfl, hb11⟩
        go_wp2_with fail
        refine hK.out _ _ ?_ (fun hHeld => ?_)
        · exact ⟨cellB (block_below K2.out hb11) (i := 0) rfl, cellB (block_below K2.out hb11) (i := 1) rfl, cellB (block_below K2.out hb11) (i := 2) rfl, cellB (block_below K2.out hb11) (i := 3) rfl, cellB (block_below K9.out hb11) (i := 0) rfl, cellB (block_below K9.out hb11) (i := 1) rfl, cellB (block_below K9.out hb11) (i := 2) rfl, cellB (block_below K9.out hb11) (i := 3) rfl, cellB (block_below K10.out hb11) (i := 0) rfl, cellB (block_below K10.out hb11) (i := 1) rfl, cellB (block_below K10.out hb11) (i := 2) rfl, cellB (block_below K10.out hb11) (i := 3) rfl⟩
        clear hK K
        try simp only [Act.put, List.getElem_toArray, List.getElem_cons_succ, List.getElem_cons_zero, List.setIfInBounds_toArray, List.set_cons_zero, List.set_cons_succ]
        have HB := Lib.hid (bel_trans HB.out hb11)
        have HS := Lib.hid (HS.out.below hb11)
        have O2 := Lib.hid (O2.out.below hb11)
        have O9 := Lib.hid (O9.out.below hb11)
        have O10 := Lib.hid (O10.out.below hb11)
        have K2 := Lib.hid (block_below K2.out hb11)
        have K9 := Lib.hid (block_below K9.out hb11)
        have K10 := Lib.hid (block_below K10.out hb11)
        refine wpAnyH_take (i := 10) (v := ?_) rfl (by kernel_rfl) (by kernel_rfl) (by kernel_rfl) (fun _ _ _ h => h) (Or.inl ⟨by rfl, ?_⟩) (by assumption) ?_
        rotate_left 1
        · (intro w hSw; (try dsimp only at hSw); first | (go_simp; done) | (go_simp; with_reducible rfl))
        try simp only [Act.put, List.getElem_toArray, List.getElem_cons_succ, List.getElem_cons_zero, List.setIfInBounds_toArray, List.set_cons_zero, List.set_cons_succ]
        refine wpAnyH_take (i := 11) (v := ?_) rfl (by kernel_rfl) (by kernel_rfl) (by kernel_rfl) (fun _ _ _ h => h) (Or.inl ⟨by rfl, ?_⟩) (by assumption) ?_
        rotate_left 1
        · (intro w hSw; (try dsimp only at hSw); first | (go_simp; done) | (go_simp; with_reducible rfl))
        try simp only [Act.put, List.getElem_toArray, List.getElem_cons_succ, List.getElem_cons_zero, List.setIfInBounds_toArray, List.set_cons_zero, List.set_cons_succ]
        refine wpAnyH_take (i := 12) (v := ?_) rfl (by kernel_rfl) (by kernel_rfl) (by kernel_rfl) (fun _ _ _ h => h) (Or.inl ⟨by rfl, ?_⟩) (by assumption) ?_
        rotate_left 1
        · (intro w hSw; (try dsimp only at hSw); first | (go_simp; done) | (go_simp; with_reducible rfl))
        try simp only [Act.put, List.getElem_toArray, List.getElem_cons_succ, List.getElem_cons_zero, List.setIfInBounds_toArray, List.set_cons_zero, List.set_cons_succ]
        refine wpAnyH_take (i := 14) (v := ?_) rfl (by kernel_rfl) (by kernel_rfl) (by kernel_rfl) (fun _ _ _ h => h) (Or.inl ⟨by rfl, ?_⟩) (by assumption) ?_
        rotate_left 1
        · (intro w hSw; (try dsimp only at hSw); first | (go_simp; done) | (go_simp; with_reducible rfl))
        try simp only [Act.put, List.getElem_toArray, List.getElem_cons_succ, List.getElem_cons_zero, List.setIfInBounds_toArray, List.set_cons_zero, List.set_cons_succ]
        refine wpAnyH_ready (rs := [13]) (by kernel_rfl) (by simp) ?_
        refine AllReadyH.cons rfl (fun K hK => ?_) AllReadyH.nil
        go_simp
        refine (first_any _ _ _ _ ((s.shS n x).shS m y) _ O9.out.rd).mono ?_
        rintro e w12 ⟨uf, rfl, HF1, hb12⟩
        go_wp2_with fail
        refine hK.out _ _ ?_ (fun hHeld => ?_)
        · exact ⟨cellB (block_below K2.out hb12) (i := 0) rfl, cellB (block_below K2.out hb12) (i := 1) rfl, cellB (block_below K2.out hb12) (i := 2) rfl, cellB (block_below K2.out hb12) (i := 3) rfl, cellB (block_below K9.out hb12) (i := 0) rfl, cellB (block_below K9.out hb12) (i := 1) rfl, cellB (block_below K9.out hb12) (i := 2) rfl, cellB (block_below K9.out hb12) (i := 3) rfl, cellB (block_below K10.out hb12) (i := 0) rfl, cellB (block_below K10.out hb12) (i := 1) rfl, cellB (block_below K10.out hb12) (i := 2) rfl, cellB (block_below K10.out hb12) (i := 3) rfl⟩
        clear hK K
        try simp only [Act.put, List.getElem_toArray, List.getElem_cons_succ, List.getElem_cons_zero, List.setIfInBounds_toArray, List.set_cons_zero, List.set_cons_succ]
        have HB := Lib.hid (bel_trans HB.out hb12)
        have HS := Lib.hid (HS.out.below hb12)
        have O2 := Lib.hid (O2.out.below hb12)
        have O9 := Lib.hid (O9.out.below hb12)
        have O10 := Lib.hid (O10.out.below hb12)
        have K2 := Lib.hid (block_below K2.out hb12)
        have K9 := Lib.hid (block_below K9.out hb12)
        have K10 := Lib.hid (block_below K10.out hb12)
        refine wpAnyH_ready (rs := [15]) (by kernel_rfl) (by simp) ?_
        refine AllReadyH.cons rfl (fun K hK => ?_) AllReadyH.nil
        go_simp
        refine (first_any _ _ _ _ ((s.shE n x).shE m y) _ O2.out.rd).mono ?_
        rintro e w13 ⟨ug, rfl, HF2, hb13⟩
        go_wp2_with fail
        refine hK.out _ _ ?_ (fun hHeld => ?_)
        · exact ⟨cellB (block_below K2.out hb13) (i := 0) rfl, cellB (block_below K2.out hb13) (i := 1) rfl, cellB (block_below K2.out hb13) (i := 2) rfl, cellB (block_below K2.out hb13) (i := 3) rfl, cellB (block_below K9.out hb13) (i := 0) rfl, cellB (block_below K9.out hb13) (i := 1) rfl, cellB (block_below K9.out hb13) (i := 2) rfl, cellB (block_below K9.out hb13) (i := 3) rfl, cellB (block_below K10.out hb13) (i := 0) rfl, cellB (block_below K10.out hb13) (i := 1) rfl, cellB (block_below K10.out hb13) (i := 2) rfl, cellB (block_below K10.out hb13) (i := 3) rfl⟩
        clear hK K
        try simp only [Act.put, List.getElem_toArray, List.getElem_cons_succ, List.getElem_cons_zero, List.setIfInBounds_toArray, List.set_cons_zero, List.set_cons_succ]
        have HB := Lib.hid (bel_trans HB.out hb13)
        have HS := Lib.hid (HS.out.below hb13)
        have O2 := Lib.hid (O2.out.below hb13)
        have O9 := Lib.hid (O9.out.below hb13)
        have O10 := Lib.hid (O10.out.below hb13)
        have HF1 := Lib.hid (HF1.out.below hb13)
        have K2 := Lib.hid (block_below K2.out hb13)
        have K9 := Lib.hid (block_below K9.out hb13)
        have K10 := Lib.hid (block_below K10.out hb13)
        refine wpAnyH_ready (rs := [16]) (by kernel_rfl) (by simp) ?_
        refine AllReadyH.cons rfl (fun K hK => ?_) AllReadyH.nil
        go_simp
        refine (sameE_any uf ug (fstZ ((s.shE n x).shE m y).zs) _ HF1.out HF2.out).mono ?_
        rintro e w14 ⟨rfl, hb14⟩
        go_wp2_with fail
        refine hK.out _ _ ?_ (fun hHeld => ?_)
        · exact ⟨cellB (block_below K2.out hb14) (i := 0) rfl, cellB (block_below K2.out hb14) (i := 1) rfl, cellB (block_below K2.out hb14) (i := 2) rfl, cellB (block_below K2.out hb14) (i := 3) rfl, cellB (block_below K9.out hb14) (i := 0) rfl, cellB (block_below K9.out hb14) (i := 1) rfl, cellB (block_below K9.out hb14) (i := 2) rfl, cellB (block_below K9.out hb14) (i := 3) rfl, cellB (block_below K10.out hb14) (i := 0) rfl, cellB (block_below K10.out hb14) (i := 1) rfl, cellB (block_below K10.out hb14) (i := 2) rfl, cellB (block_below K10.out hb14) (i := 3) rfl⟩
        clear hK K
        try simp only [Act.put, List.getElem_toArray, List.getElem_cons_succ, List.getElem_cons_zero, List.setIfInBounds_toArray, List.set_cons_zero, List.set_cons_succ]
        have HB := Lib.hid (bel_trans HB.out hb14)
        have HS := Lib.hid (HS.out.below hb14)
        have O2 := Lib.hid (O2.out.below hb14)
        have O9 := Lib.hid (O9.out.below hb14)
        have O10 := Lib.hid (O10.out.below hb14)
        have HF1 := Lib.hid (HF1.out.below hb14)
        have HF2 := Lib.hid (HF2.out.below hb14)
        have K2 := Lib.hid (block_below K2.out hb14)
        have K9 := Lib.hid (block_below K9.out hb14)
        have K10 := Lib.hid (block_below K10.out hb14)
        refine wpAnyH_take (i := 17) (v := ?_) rfl (by kernel_rfl) (by kernel_rfl) (by kernel_rfl) (fun _ _ _ h => h) (Or.inl ⟨by rfl, ?_⟩) (by assumption) ?_
        rotate_left 1
        · (intro w hSw; (try dsimp only at hSw); first | (go_simp; done) | (go_simp; with_reducible rfl))
        try simp only [Act.put, List.getElem_toArray, List.getElem_cons_succ, List.getElem_cons_zero, List.setIfInBounds_toArray, List.set_cons_zero, List.set_cons_succ]
        refine wpAnyH_take (i := 18) (v := ?_) rfl (by kernel_rfl) (by kernel_rfl) (by kernel_rfl) (fun _ _ _ h => h) (Or.inl ⟨by rfl, ?_⟩) (by assumption) ?_
        rotate_left 1
        · (intro w hSw; (try dsimp only at hSw); first | (go_simp; done) | (go_simp; with_reducible rfl))
        try simp only [Act.put, List.getElem_toArray, List.getElem_cons_succ, List.getElem_cons_zero, List.setIfInBounds_toArray, List.set_cons_zero, List.set_cons_succ]
        refine wpAnyH_ready (rs := [19]) (by kernel_rfl) (by simp) ?_
        refine AllReadyH.cons rfl (fun K hK => ?_) AllReadyH.nil
        go_simp
        refine (works28_any _).mono ?_
        rintro e w15 ⟨rfl, hb15⟩
        go_wp2_with fail
        refine hK.out _ _ ?_ (fun hHeld => ?_)
        · exact ⟨cellB (block_below K2.out hb15) (i := 0) rfl, cellB (block_below K2.out hb15) (i := 1) rfl, cellB (block_below K2.out hb15) (i := 2) rfl, cellB (block_below K2.out hb15) (i := 3) rfl, cellB (block_below K9.out hb15) (i := 0) rfl, cellB (block_below K9.out hb15) (i := 1) rfl, cellB (block_below K9.out hb15) (i := 2) rfl, cellB (block_below K9.out hb15) (i := 3) rfl, cellB (block_below K10.out hb15) (i := 0) rfl, cellB (block_below K10.out hb15) (i := 1) rfl, cellB (block_below K10.out hb15) (i := 2) rfl, cellB (block_below K10.out hb15) (i := 3) rfl⟩
        clear hK K
        try simp only [Act.put, List.getElem_toArray, List.getElem_cons_succ, List.getElem_cons_zero, List.setIfInBounds_toArray, List.set_cons_zero, List.set_cons_succ]
        have HB := Lib.hid (bel_trans HB.out hb15)
        have HS := Lib.hid (HS.out.below hb15)
        have O2 := Lib.hid (O2.out.below hb15)
        have O9 := Lib.hid (O9.out.below hb15)
        have O10 := Lib.hid (O10.out.below hb15)
        have HF1 := Lib.hid (HF1.out.below hb15)
        have HF2 := Lib.hid (HF2.out.below hb15)
        have K2 := Lib.hid (block_below K2.out hb15)
        have K9 := Lib.hid (block_below K9.out hb15)
        have K10 := Lib.hid (block_below K10.out hb15)
        refine wpAnyH_take (i := 20) (v := ?_) rfl (by kernel_rfl) (by kernel_rfl) (by kernel_rfl) (fun _ _ _ h => h) (Or.inl ⟨by rfl, ?_⟩) (by assumption) ?_
        rotate_left 1
        · (intro w hSw; (try dsimp only at hSw); first | (go_simp; done) | (go_simp; with_reducible rfl))
        try simp only [Act.put, List.getElem_toArray, List.getElem_cons_succ, List.getElem_cons_zero, List.setIfInBounds_toArray, List.set_cons_zero, List.set_cons_succ]
        refine wpAnyH_take (i := 21) (v := ?_) rfl (by kernel_rfl) (by kernel_rfl) (by kernel_rfl) (fun _ _ _ h => h) (Or.inl ⟨by rfl, ?_⟩) (by assumption) ?_
        rotate_left 1
        · (intro w hSw; (try dsimp only at hSw); first | (go_simp; done) | (go_simp; with_reducible rfl))
        try simp only [Act.put, List.getElem_toArray, List.getElem_cons_succ, List.getElem_cons_zero, List.setIfInBounds_toArray, List.set_cons_zero, List.set_cons_succ]
        refine wpAnyH_done (by kernel_rfl) ?_ _
        refine NoPanic.normal ?_
        go_wp2_with fail
        go_ret
        exact ⟨rfl, HB.out⟩

theorem shiftOrders_walk (W : World) (v : Value) {H : Type} {enc : TypeId × Value → H} {base : Nat} {d : DataW H} {p : List MemPlace} (hv : Value.okWide Try.prog W .any base 27 v)
    (h : DataW.Trod enc Try.prog W 0 (fun _ => true) true 27 v d p) (hz : ∀ x ∈ DataW.weights Try.prog 27 d, x ≤ reachBytes) (n : ByteArray) (wn : n.size ≤ maxLen) (zn : n.data.toList.length ≤ reachBytes) (m : ByteArray) (wm : m.size ≤ maxLen) (zm : m.data.toList.length ≤ reachBytes) (x : Int) (wx : (Lit.int .i64 x).wf = true) (y : Int) (wy : (Lit.int .i64 y).wf = true) :
    Calls Try.prog 6 #[v, .string n, .string m, .int .i64 x, .int .i64 y] W fun e w' => e = .returned (.bool true) ∧ Below W.heap.size W w' := by
  obtain ⟨A1, A2, A3, A4, n1, n2, n3, n4, c1, c2, c3, c4, ms, rfl, hbd, hml, hbm, hraw, hs⟩ := source_of hv h
  exact shiftOrders_core A1 A2 A3 A4 n1 n2 n3 n4 c1 c2 c3 c4 ms W hbd hml hbm hraw hs n m (by have h : m.size ≤ reachBytes := by rw [Array.length_toList] at zm; exact zm
                                                                                              unfold reachBytes at h; omega) x y
end Go.Proofs.Ytdlmlcgmonkdfaa
