/-
  The walk of the law CivilSeconds.
-/
import Derived.Test.YthppldacadehiaaDoorCivLaw
namespace Go.Proofs.YthppldacadehiaaDoor
open Go.RowKit Cv
set_option linter.unusedVariables false
set_option linter.unusedSimpArgs false

set_option maxRecDepth 100000 in
set_option maxHeartbeats 4000000 in
theorem civilSeconds.civilSeconds_walk (w : World) (hL : laidMetH Tryd.prog Rows.civilSecondsRow.laid w) (a : Int) (wa : (Lit.int .i64 a).wf = true) :
    Calls Tryd.prog 9 #[.int .i64 a] w fun e w' => e = .returned (.bool true) ∧ Below w.heap.size w w' := by
  have HT := Lib.hid (tab_of hL)
  obtain ⟨ha1, ha2⟩ := fit_of wa
  clear hL wa
  have hbd : -106751991167301 ≤ a / 86400 ∧ a / 86400 ≤ 106751991167300 := by omega
  have HB := Lib.hid hbd
  have hc : (a < 0 ∧ a.tmod 86400 < 0 ∧ a.tdiv 86400 - 1 = a / 86400) ∨ (a < 0 ∧ 0 ≤ a.tmod 86400 ∧ a.tdiv 86400 = a / 86400) ∨ 0 ≤ a := by
    rcases (show a < 0 ∨ 0 ≤ a from by omega) with h | h
    · obtain ⟨e1, e2⟩ := tdm_neg a 86400 h
      rw [e1, e2]; omega
    · exact .inr (.inr h)
  have hq : a < 0 → -106751991167301 ≤ a.tdiv 86400 ∧ a.tdiv 86400 ≤ 0 := fun h => by
    rw [(tdm_neg a 86400 h).1]; omega
  clear hbd
  rcases hc with ⟨h0, h1, h2⟩ | ⟨h0, h1, h2⟩ | h0
  · obtain ⟨hq1, hq2⟩ := hq h0
    clear hq
    have H2 := Lib.hid h2
    clear h2
    go_enter Tryd.func9, Tryd.ntmps9
    go_wp2_with fail
    refine (year_any a _ HT.out ha1 ha2).mono ?_
    rintro e w' ⟨y, m, d, hd, rfl, n1, rfl⟩
    by_cases hin : inr y
    · rw [clamp_in hin]
      have HI := Lib.hid hin
      clear hin
      go_wp2_with fail
      rw [H2.out]
      refine (dateE_any (a / 86400) _ (by first | exact HT.out | exact HT.out.drewN _) (by have := HB.out; omega) (by have := HB.out; omega)).mono ?_
      intro e w' hq; obtain ⟨⟨hi, rfl⟩ | ⟨hi, rfl⟩, n2, rfl⟩ := DateE.with hd.out hq
      · clear hq hi
        go_wp2_with fail
        refine (works_any _ (by exact HT.out)).mono ?_
        rintro e w' ⟨rfl, n3, rfl⟩
        go_wp2_with fail
        go_ret
        exact ⟨rfl, below_drewN (Below.refl _ _) _⟩
      · exact (hi.out HI.out).elim
    · rw [clamp_lo hd.out hin (by omega)]
      have HI := Lib.hid hin
      clear hin
      go_wp2_with fail
      rw [H2.out]
      refine (dateE_any (a / 86400) _ (by first | exact HT.out | exact HT.out.drewN _) (by have := HB.out; omega) (by have := HB.out; omega)).mono ?_
      intro e w' hq; obtain ⟨⟨hi, rfl⟩ | ⟨hi, rfl⟩, n2, rfl⟩ := DateE.with hd.out hq
      · exact (HI.out hi.out).elim
      · clear hq hi
        go_wp2_with fail
        refine (works_any _ (by exact HT.out)).mono ?_
        rintro e w' ⟨rfl, n3, rfl⟩
        go_wp2_with fail
        go_ret
        exact ⟨rfl, below_drewN (Below.refl _ _) _⟩
  · obtain ⟨hq1, hq2⟩ := hq h0
    clear hq
    have H2 := Lib.hid h2
    clear h2
    go_enter Tryd.func9, Tryd.ntmps9
    go_wp2_with fail
    refine (year_any a _ HT.out ha1 ha2).mono ?_
    rintro e w' ⟨y, m, d, hd, rfl, n1, rfl⟩
    by_cases hin : inr y
    · rw [clamp_in hin]
      have HI := Lib.hid hin
      clear hin
      go_wp2_with fail
      rw [H2.out]
      refine (dateE_any (a / 86400) _ (by first | exact HT.out | exact HT.out.drewN _) (by have := HB.out; omega) (by have := HB.out; omega)).mono ?_
      intro e w' hq; obtain ⟨⟨hi, rfl⟩ | ⟨hi, rfl⟩, n2, rfl⟩ := DateE.with hd.out hq
      · clear hq hi
        go_wp2_with fail
        refine (works_any _ (by exact HT.out)).mono ?_
        rintro e w' ⟨rfl, n3, rfl⟩
        go_wp2_with fail
        go_ret
        exact ⟨rfl, below_drewN (Below.refl _ _) _⟩
      · exact (hi.out HI.out).elim
    · rw [clamp_lo hd.out hin (by omega)]
      have HI := Lib.hid hin
      clear hin
      go_wp2_with fail
      rw [H2.out]
      refine (dateE_any (a / 86400) _ (by first | exact HT.out | exact HT.out.drewN _) (by have := HB.out; omega) (by have := HB.out; omega)).mono ?_
      intro e w' hq; obtain ⟨⟨hi, rfl⟩ | ⟨hi, rfl⟩, n2, rfl⟩ := DateE.with hd.out hq
      · exact (HI.out hi.out).elim
      · clear hq hi
        go_wp2_with fail
        refine (works_any _ (by exact HT.out)).mono ?_
        rintro e w' ⟨rfl, n3, rfl⟩
        go_wp2_with fail
        go_ret
        exact ⟨rfl, below_drewN (Below.refl _ _) _⟩
  · clear hq
    go_enter Tryd.func9, Tryd.ntmps9
    go_wp2_with fail
    refine (year_any a _ HT.out ha1 ha2).mono ?_
    rintro e w' ⟨y, m, d, hd, rfl, n1, rfl⟩
    by_cases hin : inr y
    · rw [clamp_in hin]
      have HI := Lib.hid hin
      clear hin
      go_wp2_with fail
      refine (dateE_any (a / 86400) _ (by first | exact HT.out | exact HT.out.drewN _) (by have := HB.out; omega) (by have := HB.out; omega)).mono ?_
      intro e w' hq; obtain ⟨⟨hi, rfl⟩ | ⟨hi, rfl⟩, n2, rfl⟩ := DateE.with hd.out hq
      · clear hq hi
        go_wp2_with fail
        refine (works_any _ (by exact HT.out)).mono ?_
        rintro e w' ⟨rfl, n3, rfl⟩
        go_wp2_with fail
        go_ret
        exact ⟨rfl, below_drewN (Below.refl _ _) _⟩
      · exact (hi.out HI.out).elim
    · rw [clamp_hi hd.out hin (by omega)]
      have HI := Lib.hid hin
      clear hin
      go_wp2_with fail
      refine (dateE_any (a / 86400) _ (by first | exact HT.out | exact HT.out.drewN _) (by have := HB.out; omega) (by have := HB.out; omega)).mono ?_
      intro e w' hq; obtain ⟨⟨hi, rfl⟩ | ⟨hi, rfl⟩, n2, rfl⟩ := DateE.with hd.out hq
      · exact (HI.out hi.out).elim
      · clear hq hi
        go_wp2_with fail
        refine (works_any _ (by exact HT.out)).mono ?_
        rintro e w' ⟨rfl, n3, rfl⟩
        go_wp2_with fail
        go_ret
        exact ⟨rfl, below_drewN (Below.refl _ _) _⟩
end Go.Proofs.YthppldacadehiaaDoor
