/-
  The walk of the law CivilOrder.
-/
import Derived.Test.YthppldacadehiaaDoorCivLaw2
namespace Go.Proofs.YthppldacadehiaaDoor
open Go.RowKit Cv
set_option linter.unusedVariables false
set_option linter.unusedSimpArgs false

namespace Cv
/-- the sign of a comparison -/
def sg (x y : Int) : Int := if x < y then -1 else if x = y then 0 else 1
theorem sg_lt {x y : Int} (h : x < y) : sg x y = -1 := by unfold sg; rw [if_pos h]
theorem sg_eq (x : Int) : sg x x = 0 := by unfold sg; rw [if_neg (by omega), if_pos rfl]
theorem sg_gt {x y : Int} (h : y < x) : sg x y = 1 := by unfold sg; rw [if_neg (by omega), if_neg (by omega)]
theorem sg_cases (x y : Int) : (x < y ∧ sg x y = -1) ∨ (x = y ∧ sg x y = 0) ∨ (y < x ∧ sg x y = 1) := by
  rcases Int.lt_trichotomy x y with h | rfl | h
  · exact .inl ⟨h, sg_lt h⟩
  · exact .inr (.inl ⟨rfl, sg_eq x⟩)
  · exact .inr (.inr ⟨h, sg_gt h⟩)
/-- the comparison of the first k of three numbers -/
def ord (y m d z n c k : Int) : Int :=
  if k ≤ 0 then 0 else if k = 1 then sg y z else if k = 2 then (if sg y z = 0 then sg m n else sg y z) else if sg y z = 0 then (if sg m n = 0 then sg d c else sg m n) else sg y z
theorem ord_0 (y m d z n c : Int) : ord y m d z n c 0 = 0 := by simp [ord]
theorem ord_1 (y m d z n c : Int) : ord y m d z n c 1 = sg y z := by simp [ord]
theorem ord_s1 (y m d z n c : Int) : ord y m d z n c 1 = if ord y m d z n c 0 = 0 then sg y z else ord y m d z n c 0 := by simp [ord]
theorem ord_2 (y m d z n c : Int) : ord y m d z n c 2 = if ord y m d z n c 1 = 0 then sg m n else ord y m d z n c 1 := by simp [ord]
theorem ord_3 (y m d z n c : Int) : ord y m d z n c 3 = if ord y m d z n c 2 = 0 then sg d c else ord y m d z n c 2 := by
  simp [ord]; split <;> simp_all
theorem ord_fin {y m d z n c : Int} (h : ok y m d) (k : ok z n c) : ord y m d z n c 3 = sg (num y m d) (num z n c) := by
  rw [ord_3, ord_2, ord_1]
  rcases sg_cases y z with ⟨h1, e1⟩ | ⟨rfl, e1⟩ | ⟨h1, e1⟩
  · rw [sg_lt (num_lt h k (.inl h1)), e1]; rfl
  · rw [e1]
    rcases sg_cases m n with ⟨h2, e2⟩ | ⟨rfl, e2⟩ | ⟨h2, e2⟩
    · rw [sg_lt (num_lt h k (.inr ⟨rfl, .inl h2⟩)), e2]; rfl
    · rw [e2]
      rcases sg_cases d c with ⟨h3, e3⟩ | ⟨rfl, e3⟩ | ⟨h3, e3⟩
      · rw [sg_lt (num_lt h k (.inr ⟨rfl, .inr ⟨rfl, h3⟩⟩)), e3]; rfl
      · rw [sg_eq, sg_eq]; rfl
      · rw [sg_gt (num_lt k h (.inr ⟨rfl, .inr ⟨rfl, h3⟩⟩)), e3]; rfl
    · rw [sg_gt (num_lt k h (.inr ⟨rfl, .inl h2⟩)), e2]; rfl
  · rw [sg_gt (num_lt k h (.inl h1)), e1]; rfl
end Cv

set_option maxRecDepth 100000 in
set_option maxHeartbeats 4000000 in
theorem civilOrder.civilOrder_walk (w : World) (hL : laidMetH Tryd.prog Rows.civilOrderRow.laid w) (a : Int) (wa : (Lit.int .i64 a).wf = true) (b : Int) (wb : (Lit.int .i64 b).wf = true)
    (m : Int) (wm : (Lit.int .u8 m).wf = true) (n : Int) (wn : (Lit.int .u8 n).wf = true) (d : Int) (wd : (Lit.int .u8 d).wf = true) (c : Int) (wc : (Lit.int .u8 c).wf = true) :
    Calls Tryd.prog 8 #[.int .i64 a, .int .i64 b, .int .u8 m, .int .u8 n, .int .u8 d, .int .u8 c] w fun e w' => e = .returned (.bool true) ∧ Below w.heap.size w w' := by
  have HT := Lib.hid (tab_of hL)
  obtain ⟨ha1, ha2⟩ := fit_of wa
  obtain ⟨hb1, hb2⟩ := fit_of wb
  obtain ⟨hm1, hm2⟩ := byte_of wm
  obtain ⟨hn1, hn2⟩ := byte_of wn
  obtain ⟨hd1, hd2⟩ := byte_of wd
  obtain ⟨hc1, hc2⟩ := byte_of wc
  obtain ⟨hy1, hy2⟩ := tm_bd a 2000000001 (by decide)
  obtain ⟨hz1, hz2⟩ := tm_bd b 2000000001 (by decide)
  clear hL wa wb wm wn wd wc
  have hmm : 0 ≤ m % 12 ∧ m % 12 < 12 ∧ 0 ≤ d % 28 ∧ d % 28 < 28 := by omega
  have hnn : 0 ≤ n % 12 ∧ n % 12 < 12 ∧ 0 ≤ c % 28 ∧ c % 28 < 28 := by omega
  obtain ⟨hmm1, hmm2, hdd1, hdd2⟩ := hmm
  obtain ⟨hnn1, hnn2, hcc1, hcc2⟩ := hnn
  have hi0 : inr (a.tmod 2000000001) ∧ ok (a.tmod 2000000001) (1 + m % 12) (1 + d % 28) := ⟨by unfold inr; omega, ok_28 (by omega) (by omega) (by omega) (by omega)⟩
  have hj0 : inr (b.tmod 2000000001) ∧ ok (b.tmod 2000000001) (1 + n % 12) (1 + c % 28) := ⟨by unfold inr; omega, ok_28 (by omega) (by omega) (by omega) (by omega)⟩
  obtain ⟨hib1, hib2⟩ := num_far hi0.1 hi0.2
  obtain ⟨hjb1, hjb2⟩ := num_far hj0.1 hj0.2
  obtain ⟨i, hi⟩ : ∃ i, i = num (a.tmod 2000000001) (1 + m % 12) (1 + d % 28) := ⟨_, rfl⟩
  obtain ⟨j, hj⟩ : ∃ j, j = num (b.tmod 2000000001) (1 + n % 12) (1 + c % 28) := ⟨_, rfl⟩
  rw [← hi] at hib1 hib2
  rw [← hj] at hjb1 hjb2
  have HI := Lib.hid hi0
  have HJ := Lib.hid hj0
  have HNI := Lib.hid hi.symm
  have HNJ := Lib.hid hj.symm
  clear hi0 hj0 hi hj
  go_enter Tryd.func8, Tryd.ntmps8
  go_wp2_with fail
  refine (days_any (a.tmod 2000000001) (1 + m % 12) (1 + d % 28) _ (by repeat first | exact HT.out | apply Tab.alloc | apply Tab.drewN) (by omega) (by omega) (by omega) (by omega)).mono ?_
  intro e w' hq; obtain ⟨rfl, nd, rfl⟩ := DaysR.to_yes (v := i) HI.out HNI.out _ _ hq; clear hq
  go_wp2_with fail
  refine (days_any (b.tmod 2000000001) (1 + n % 12) (1 + c % 28) _ (by repeat first | exact HT.out | apply Tab.alloc | apply Tab.drewN) (by omega) (by omega) (by omega) (by omega)).mono ?_
  intro e w' hq; obtain ⟨rfl, nd, rfl⟩ := DaysR.to_yes (v := j) HJ.out HNJ.out _ _ hq; clear hq
  go_wp2_with fail
  go_loopw [19, 63] (fun s v wr => ∃ (k o : Int) (nn : Nat), 0 ≤ k ∧ k ≤ 3 ∧ (o = -1 ∨ o = 0 ∨ o = 1) ∧ s = .int .i64 o ∧ v = .int .i64 k ∧ wr = ((w.alloc (.cells #[.int .i64 (a.tmod 2000000001), .int .i64 (1 + m % 12), .int .i64 (1 + d % 28)] 35)).alloc (.cells #[.int .i64 (b.tmod 2000000001), .int .i64 (1 + n % 12), .int .i64 (1 + c % 28)] 35)).drewN nn ∧ Hid (ord (a.tmod 2000000001) (1 + m % 12) (1 + d % 28) (b.tmod 2000000001) (1 + n % 12) (1 + c % 28) k = o)) (fun _ v _ => (3 - intOf v).toNat)
  case atStart => exact ⟨0, 0, _, by omega, by omega, by omega, rfl, rfl, rfl, ord_0 _ _ _ _ _ _⟩
  case round =>
    obtain ⟨k, o, nn, hk1, hk2, hoc, rfl, rfl, rfl, ho⟩ := hrel
    have hkc : k = 0 ∨ k = 1 ∨ k = 2 ∨ k = 3 := by omega
    clear hk1 hk2
    rcases hkc with rfl | rfl | rfl | rfl
    · have hs := sg_cases (a.tmod 2000000001) (b.tmod 2000000001)
      rcases hoc with rfl | rfl | rfl
      · have hst : ord (a.tmod 2000000001) (1 + m % 12) (1 + d % 28) (b.tmod 2000000001) (1 + n % 12) (1 + c % 28) 1 = -1 := by rw [ord_s1, ho.out]; rfl
        have HS := Lib.hid hst
        clear hst hs
        go_wp2_with fail
        go_quiet (fail)
        go_wp2_with fail
        go_round
        case rel => exact ⟨1, -1, _, by omega, by omega, by omega, rfl, rfl, rfl, HS.out⟩
        case measure => simp [intOf]
      · rcases hs with ⟨hs, e⟩ | ⟨hs, e⟩ | ⟨hs, e⟩
        · have hst : ord (a.tmod 2000000001) (1 + m % 12) (1 + d % 28) (b.tmod 2000000001) (1 + n % 12) (1 + c % 28) 1 = -1 := by rw [ord_s1, ho.out]; exact e
          have HS := Lib.hid hst
          clear hst e
          have hne : ((a.tmod 2000000001) != (b.tmod 2000000001)) = true := by simp; omega
          go_wp2_with fail
          go_quiet (fail)
          go_wp2_with fail
          go_quiet (fail)
          go_wp2_with fail
          go_round
          case rel => exact ⟨1, -1, _, by omega, by omega, by omega, rfl, rfl, rfl, HS.out⟩
          case measure => simp [intOf]
        · have hst : ord (a.tmod 2000000001) (1 + m % 12) (1 + d % 28) (b.tmod 2000000001) (1 + n % 12) (1 + c % 28) 1 = 0 := by rw [ord_s1, ho.out]; exact e
          have HS := Lib.hid hst
          clear hst e
          have hne : ((a.tmod 2000000001) != (b.tmod 2000000001)) = false := by rw [hs]; simp
          clear hs
          go_wp2_with fail
          go_quiet (fail)
          go_wp2_with fail
          go_round
          case rel => exact ⟨1, 0, _, by omega, by omega, by omega, rfl, rfl, rfl, HS.out⟩
          case measure => simp [intOf]
        · have hst : ord (a.tmod 2000000001) (1 + m % 12) (1 + d % 28) (b.tmod 2000000001) (1 + n % 12) (1 + c % 28) 1 = 1 := by rw [ord_s1, ho.out]; exact e
          have HS := Lib.hid hst
          clear hst e
          have hne : ((a.tmod 2000000001) != (b.tmod 2000000001)) = true := by simp; omega
          go_wp2_with fail
          go_quiet (fail)
          go_wp2_with fail
          go_quiet (fail)
          go_wp2_with fail
          go_round
          case rel => exact ⟨1, 1, _, by omega, by omega, by omega, rfl, rfl, rfl, HS.out⟩
          case measure => simp [intOf]
      · have hst : ord (a.tmod 2000000001) (1 + m % 12) (1 + d % 28) (b.tmod 2000000001) (1 + n % 12) (1 + c % 28) 1 = 1 := by rw [ord_s1, ho.out]; rfl
        have HS := Lib.hid hst
        clear hst hs
        go_wp2_with fail
        go_quiet (fail)
        go_wp2_with fail
        go_round
        case rel => exact ⟨1, 1, _, by omega, by omega, by omega, rfl, rfl, rfl, HS.out⟩
        case measure => simp [intOf]
    · have hs := sg_cases (1 + m % 12) (1 + n % 12)
      rcases hoc with rfl | rfl | rfl
      · have hst : ord (a.tmod 2000000001) (1 + m % 12) (1 + d % 28) (b.tmod 2000000001) (1 + n % 12) (1 + c % 28) 2 = -1 := by rw [ord_2, ho.out]; rfl
        have HS := Lib.hid hst
        clear hst hs
        go_wp2_with fail
        go_quiet (fail)
        go_wp2_with fail
        go_round
        case rel => exact ⟨2, -1, _, by omega, by omega, by omega, rfl, rfl, rfl, HS.out⟩
        case measure => simp [intOf]
      · rcases hs with ⟨hs, e⟩ | ⟨hs, e⟩ | ⟨hs, e⟩
        · have hst : ord (a.tmod 2000000001) (1 + m % 12) (1 + d % 28) (b.tmod 2000000001) (1 + n % 12) (1 + c % 28) 2 = -1 := by rw [ord_2, ho.out]; exact e
          have HS := Lib.hid hst
          clear hst e
          have hne : ((1 + m % 12) != (1 + n % 12)) = true := by simp; omega
          go_wp2_with fail
          go_quiet (fail)
          go_wp2_with fail
          go_quiet (fail)
          go_wp2_with fail
          go_round
          case rel => exact ⟨2, -1, _, by omega, by omega, by omega, rfl, rfl, rfl, HS.out⟩
          case measure => simp [intOf]
        · have hst : ord (a.tmod 2000000001) (1 + m % 12) (1 + d % 28) (b.tmod 2000000001) (1 + n % 12) (1 + c % 28) 2 = 0 := by rw [ord_2, ho.out]; exact e
          have HS := Lib.hid hst
          clear hst e
          have hne : ((1 + m % 12) != (1 + n % 12)) = false := by rw [hs]; simp
          clear hs
          go_wp2_with fail
          go_quiet (fail)
          go_wp2_with fail
          go_round
          case rel => exact ⟨2, 0, _, by omega, by omega, by omega, rfl, rfl, rfl, HS.out⟩
          case measure => simp [intOf]
        · have hst : ord (a.tmod 2000000001) (1 + m % 12) (1 + d % 28) (b.tmod 2000000001) (1 + n % 12) (1 + c % 28) 2 = 1 := by rw [ord_2, ho.out]; exact e
          have HS := Lib.hid hst
          clear hst e
          have hne : ((1 + m % 12) != (1 + n % 12)) = true := by simp; omega
          go_wp2_with fail
          go_quiet (fail)
          go_wp2_with fail
          go_quiet (fail)
          go_wp2_with fail
          go_round
          case rel => exact ⟨2, 1, _, by omega, by omega, by omega, rfl, rfl, rfl, HS.out⟩
          case measure => simp [intOf]
      · have hst : ord (a.tmod 2000000001) (1 + m % 12) (1 + d % 28) (b.tmod 2000000001) (1 + n % 12) (1 + c % 28) 2 = 1 := by rw [ord_2, ho.out]; rfl
        have HS := Lib.hid hst
        clear hst hs
        go_wp2_with fail
        go_quiet (fail)
        go_wp2_with fail
        go_round
        case rel => exact ⟨2, 1, _, by omega, by omega, by omega, rfl, rfl, rfl, HS.out⟩
        case measure => simp [intOf]
    · have hs := sg_cases (1 + d % 28) (1 + c % 28)
      rcases hoc with rfl | rfl | rfl
      · have hst : ord (a.tmod 2000000001) (1 + m % 12) (1 + d % 28) (b.tmod 2000000001) (1 + n % 12) (1 + c % 28) 3 = -1 := by rw [ord_3, ho.out]; rfl
        have HS := Lib.hid hst
        clear hst hs
        go_wp2_with fail
        go_quiet (fail)
        go_wp2_with fail
        go_round
        case rel => exact ⟨3, -1, _, by omega, by omega, by omega, rfl, rfl, rfl, HS.out⟩
        case measure => simp [intOf]
      · rcases hs with ⟨hs, e⟩ | ⟨hs, e⟩ | ⟨hs, e⟩
        · have hst : ord (a.tmod 2000000001) (1 + m % 12) (1 + d % 28) (b.tmod 2000000001) (1 + n % 12) (1 + c % 28) 3 = -1 := by rw [ord_3, ho.out]; exact e
          have HS := Lib.hid hst
          clear hst e
          have hne : ((1 + d % 28) != (1 + c % 28)) = true := by simp; omega
          go_wp2_with fail
          go_quiet (fail)
          go_wp2_with fail
          go_quiet (fail)
          go_wp2_with fail
          go_round
          case rel => exact ⟨3, -1, _, by omega, by omega, by omega, rfl, rfl, rfl, HS.out⟩
          case measure => simp [intOf]
        · have hst : ord (a.tmod 2000000001) (1 + m % 12) (1 + d % 28) (b.tmod 2000000001) (1 + n % 12) (1 + c % 28) 3 = 0 := by rw [ord_3, ho.out]; exact e
          have HS := Lib.hid hst
          clear hst e
          have hne : ((1 + d % 28) != (1 + c % 28)) = false := by rw [hs]; simp
          clear hs
          go_wp2_with fail
          go_quiet (fail)
          go_wp2_with fail
          go_round
          case rel => exact ⟨3, 0, _, by omega, by omega, by omega, rfl, rfl, rfl, HS.out⟩
          case measure => simp [intOf]
        · have hst : ord (a.tmod 2000000001) (1 + m % 12) (1 + d % 28) (b.tmod 2000000001) (1 + n % 12) (1 + c % 28) 3 = 1 := by rw [ord_3, ho.out]; exact e
          have HS := Lib.hid hst
          clear hst e
          have hne : ((1 + d % 28) != (1 + c % 28)) = true := by simp; omega
          go_wp2_with fail
          go_quiet (fail)
          go_wp2_with fail
          go_quiet (fail)
          go_wp2_with fail
          go_round
          case rel => exact ⟨3, 1, _, by omega, by omega, by omega, rfl, rfl, rfl, HS.out⟩
          case measure => simp [intOf]
      · have hst : ord (a.tmod 2000000001) (1 + m % 12) (1 + d % 28) (b.tmod 2000000001) (1 + n % 12) (1 + c % 28) 3 = 1 := by rw [ord_3, ho.out]; rfl
        have HS := Lib.hid hst
        clear hst hs
        go_wp2_with fail
        go_quiet (fail)
        go_wp2_with fail
        go_round
        case rel => exact ⟨3, 1, _, by omega, by omega, by omega, rfl, rfl, rfl, HS.out⟩
        case measure => simp [intOf]
    · have hf : sg i j = o := by rw [← HNI.out, ← HNJ.out, ← ord_fin HI.out.2 HJ.out.2]; exact ho.out
      rcases sg_cases i j with ⟨hs, e⟩ | ⟨hs, e⟩ | ⟨hs, e⟩
      · obtain rfl : o = -1 := by omega
        have hij : (i == j) = false := by simp; omega
        clear hf e hoc
        go_wp2_with fail
        refine (works_any _ (by repeat first | exact HT.out | apply Tab.alloc | apply Tab.drewN)).mono ?_
        rintro e w' ⟨rfl, n3, rfl⟩
        go_wp2_with fail
        go_ret
        exact ⟨rfl, below_drewN (((Below.refl _ _).alloc (by omega) _).alloc (by simp) _) _⟩
      · obtain rfl : o = 0 := by omega
        subst hs
        clear hf e hoc
        go_wp2_with fail
        refine (works_any _ (by repeat first | exact HT.out | apply Tab.alloc | apply Tab.drewN)).mono ?_
        rintro e w' ⟨rfl, n3, rfl⟩
        go_wp2_with fail
        go_ret
        exact ⟨rfl, below_drewN (((Below.refl _ _).alloc (by omega) _).alloc (by simp) _) _⟩
      · obtain rfl : o = 1 := by omega
        have hij : (i == j) = false := by simp; omega
        have hlt : decide (i < j) = false := by simp; omega
        clear hf e hoc
        go_wp2_with fail
        refine (works_any _ (by repeat first | exact HT.out | apply Tab.alloc | apply Tab.drewN)).mono ?_
        rintro e w' ⟨rfl, n3, rfl⟩
        go_wp2_with fail
        go_ret
        exact ⟨rfl, below_drewN (((Below.refl _ _).alloc (by omega) _).alloc (by simp) _) _⟩
end Go.Proofs.YthppldacadehiaaDoor
