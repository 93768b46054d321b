/-
  The walk of the law CivilBack.
-/
import Derived.Test.YthppldacadehiaaDoorCivLaw
namespace Go.Proofs.YthppldacadehiaaDoor
open Go.RowKit Cv
set_option linter.unusedVariables false
set_option linter.unusedSimpArgs false

set_option maxRecDepth 100000 in
set_option maxHeartbeats 4000000 in
theorem civilBack.civilBack_walk (w : World) (hL : laidMetH Tryd.prog Rows.civilBackRow.laid w) (a : Int) (wa : (Lit.int .i64 a).wf = true) (b : Int) (wb : (Lit.int .i64 b).wf = true) (m : Int) (wm : (Lit.int .u8 m).wf = true) (d : Int) (wd : (Lit.int .u8 d).wf = true) :
    Calls Tryd.prog 5 #[.int .i64 a, .int .i64 b, .int .u8 m, .int .u8 d] w fun e w' => e = .returned (.bool true) ∧ Below w.heap.size w w' := by
  have HT := Lib.hid (tab_of hL)
  obtain ⟨ha1, ha2⟩ := fit_of wa
  obtain ⟨hb1, hb2⟩ := fit_of wb
  obtain ⟨hm1, hm2⟩ := byte_of wm
  obtain ⟨hd1, hd2⟩ := byte_of wd
  obtain ⟨ht1, ht2⟩ := tm_bd a 700000000000 (by decide)
  obtain ⟨hy1, hy2⟩ := tm_bd b 2000000001 (by decide)
  clear hL wa wb wm wd
  have HY := Lib.hid (show inr (b.tmod 2000000001) by unfold inr; omega)
  have hlb := len_bd (b.tmod 2000000001) (m % 14)
  obtain ⟨hl1, hl2⟩ := hlb
  have hmm : 0 ≤ m % 14 ∧ m % 14 < 14 ∧ 0 ≤ d % 34 ∧ d % 34 < 34 := by omega
  obtain ⟨hmm1, hmm2, hdd1, hdd2⟩ := hmm
  go_enter Tryd.func5, Tryd.ntmps5
  go_wp2_with fail
  refine (dateI_any (a.tmod 700000000000) _ HT.out (by omega) (by omega)).mono ?_
  rintro e w' ⟨y1, m1, d1, hdt, hi, rfl, n1, rfl⟩
  have hok := hdt.out.1
  obtain ⟨ho1, ho2⟩ := hok
  have hlb := len_bd y1 m1
  have hob := hdt.out.bd
  have hyb := hi.out
  obtain ⟨hyb1, hyb2⟩ := hyb
  obtain ⟨hl11, hl12⟩ := hlb
  have hob2 : 1 ≤ m1 ∧ m1 ≤ 12 := by omega
  obtain ⟨hob1, hob2⟩ := hob2
  clear hob
  go_wp2_with fail
  refine (days_any y1 m1 d1 _ (by exact HT.out) (by omega) (by omega) (by omega) (by omega)).mono ?_
  intro e w' hq; obtain ⟨rfl, nd, rfl⟩ := DaysR.to_yes (v := a.tmod 700000000000) ⟨hi.out, hdt.out.1⟩ hdt.out.2 _ _ hq; clear hq
  go_wp2_with fail
  refine (len_any y1 m1 _ (by omega) (by omega)).mono ?_
  rintro e w' ⟨rfl, rfl⟩
  by_cases h0 : 1 ≤ d % 34
  · by_cases h1 : d % 34 ≤ len (b.tmod 2000000001) (m % 14)
    · have HO := Lib.hid (show inr (b.tmod 2000000001) ∧ ok (b.tmod 2000000001) (m % 14) (d % 34) from ⟨HY.out, h0, h1⟩)
      go_wp2_with fail
      refine (days_any (b.tmod 2000000001) (m % 14) (d % 34) _ (by exact HT.out) (by omega) (by omega) (by omega) (by omega)).mono ?_
      intro e w' hq; obtain ⟨rfl, nd, rfl⟩ := DaysR.to_yes (v := num (b.tmod 2000000001) (m % 14) (d % 34)) HO.out rfl _ _ hq; clear hq
      go_wp2_with fail
      refine (len_any (b.tmod 2000000001) (m % 14) _ (by omega) (by omega)).mono ?_
      rintro e w' ⟨rfl, rfl⟩
      have hnb : -800000000000 ≤ num (b.tmod 2000000001) (m % 14) (d % 34) ∧ num (b.tmod 2000000001) (m % 14) (d % 34) ≤ 800000000000 := by
        have := num_bd HO.out.2
        unfold fst at this; omega
      obtain ⟨hnb1, hnb2⟩ := hnb
      go_wp2_with fail
      refine (dateE_any (num (b.tmod 2000000001) (m % 14) (d % 34)) _ (by exact HT.out) (by omega) (by omega)).mono ?_
      intro e w' hq; obtain ⟨rfl, nd, rfl⟩ := DateE.to_yes ⟨HO.out.2, rfl⟩ HO.out.1 _ _ hq; clear hq
      go_wp2_with fail
      refine (works_any _ (by exact HT.out)).mono ?_
      rintro e w' ⟨rfl, n3, rfl⟩
      go_wp2_with fail
      go_ret
      exact ⟨rfl, below_drewN (Below.refl _ _) _⟩
    · have HO := Lib.hid (show ¬ (inr (b.tmod 2000000001) ∧ ok (b.tmod 2000000001) (m % 14) (d % 34)) from fun h => h1 h.2.2)
      go_wp2_with fail
      refine (days_any (b.tmod 2000000001) (m % 14) (d % 34) _ (by exact HT.out) (by omega) (by omega) (by omega) (by omega)).mono ?_
      intro e w' hq; obtain ⟨rfl, nd, rfl⟩ := DaysR.to_no HO.out _ _ hq; clear hq
      go_wp2_with fail
      refine (len_any (b.tmod 2000000001) (m % 14) _ (by omega) (by omega)).mono ?_
      rintro e w' ⟨rfl, rfl⟩
      go_wp2_with fail
      refine (works_any _ (by exact HT.out)).mono ?_
      rintro e w' ⟨rfl, n3, rfl⟩
      go_wp2_with fail
      go_ret
      exact ⟨rfl, below_drewN (Below.refl _ _) _⟩
  · have HO := Lib.hid (show ¬ (inr (b.tmod 2000000001) ∧ ok (b.tmod 2000000001) (m % 14) (d % 34)) from fun h => h0 h.2.1)
    go_wp2_with fail
    refine (days_any (b.tmod 2000000001) (m % 14) (d % 34) _ (by exact HT.out) (by omega) (by omega) (by omega) (by omega)).mono ?_
    intro e w' hq; obtain ⟨rfl, nd, rfl⟩ := DaysR.to_no HO.out _ _ hq; clear hq
    go_wp2_with fail
    refine (works_any _ (by exact HT.out)).mono ?_
    rintro e w' ⟨rfl, n3, rfl⟩
    go_wp2_with fail
    go_ret
    exact ⟨rfl, below_drewN (Below.refl _ _) _⟩
end Go.Proofs.YthppldacadehiaaDoor
