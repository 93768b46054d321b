/-
  The walk of the law CivilNext.
-/
import Derived.Test.YthppldacadehiaaDoorCivLaw
namespace Go.Proofs.YthppldacadehiaaDoor
open Go.RowKit Cv
set_option linter.unusedVariables false
set_option linter.unusedSimpArgs false

namespace Cv
theorem IsDate.next {n y m d : Int} (h : IsDate n y m d) :
    (d < len y m ∧ IsDate (n + 1) y m (d + 1)) ∨ (¬ d < len y m ∧ m < 12 ∧ IsDate (n + 1) y (m + 1) 1) ∨ (¬ d < len y m ∧ m = 12 ∧ IsDate (n + 1) (y + 1) 1 1) := by
  have hm := h.1.month
  have h1 := h.1
  have h2 := h.2
  unfold ok at h1
  unfold num at h2
  by_cases hl : d < len y m
  · left
    refine ⟨hl, ⟨by omega, by omega⟩, ?_⟩
    unfold num; omega
  · right
    have hc := cum_succ y m hm.1 hm.2
    by_cases h12 : m < 12
    · left
      have := len_in y (m + 1) (by omega) (by omega)
      refine ⟨hl, h12, ⟨by omega, by omega⟩, ?_⟩
      unfold num; omega
    · right
      obtain rfl : m = 12 := by omega
      have := len_in (y + 1) 1 (by omega) (by omega)
      refine ⟨hl, rfl, ⟨by omega, by omega⟩, ?_⟩
      have h13 := cum_13 y
      have hf := fst_succ y
      have h1 := cum_one (y + 1)
      unfold num
      have e : (12 : Int) + 1 = 13 := rfl
      rw [e] at hc
      omega
end Cv

set_option maxRecDepth 100000 in
set_option maxHeartbeats 4000000 in
theorem civilNext.civilNext_walk (w : World) (hL : laidMetH Tryd.prog Rows.civilNextRow.laid w) (a : Int) (wa : (Lit.int .i64 a).wf = true) :
    Calls Tryd.prog 6 #[.int .i64 a] w fun e w' => e = .returned (.bool true) ∧ Below w.heap.size w w' := by
  have HT := Lib.hid (tab_of hL)
  obtain ⟨ha1, ha2⟩ := fit_of wa
  obtain ⟨ht1, ht2⟩ := tm_bd a 700000000000 (by decide)
  clear hL wa
  obtain ⟨wd, hwd⟩ : ∃ x, x = (a.tmod 700000000000 + 4) % 7 := ⟨_, rfl⟩
  have hwb : 0 ≤ wd ∧ wd ≤ 6 := by omega
  obtain ⟨hw1, hw2⟩ := hwb
  have hwn : (a.tmod 700000000000 + 1 + 4) % 7 = (wd + 1) % 7 := by omega
  have HW := Lib.hid hwd
  have HWN := Lib.hid hwn
  clear hwd hwn
  go_enter Tryd.func6, Tryd.ntmps6
  go_wp2_with fail
  refine (dateI_any (a.tmod 700000000000) _ HT.out (by omega) (by omega)).mono ?_
  rintro e w' ⟨y, m, d, hd, hi, rfl, n1, rfl⟩
  have hb := hd.out.bd
  obtain ⟨hb1, hb2, hm1, hm2, hd1, hd2⟩ := hb
  have hy := hi.out
  obtain ⟨hy1, hy2⟩ := hy
  clear hb1 hb2
  rcases hd.out.next with ⟨hl, hn⟩ | ⟨hl, h12, hn⟩ | ⟨hl, rfl, hn⟩
  · have HN := Lib.hid hn
    clear hn
    go_wp2_with fail
    refine (dateE_any (a.tmod 700000000000 + 1) _ (by exact HT.out) (by omega) (by omega)).mono ?_
    intro e w' hq; obtain ⟨rfl, nd, rfl⟩ := DateE.to_yes HN.out hi.out _ _ hq; clear hq
    go_wp2_with fail
    refine (len_any y m _ (by omega) (by omega)).mono ?_
    rintro e w' ⟨rfl, rfl⟩
    go_wp2_with fail
    go_wp2_with fail
    refine (weekday_any (a.tmod 700000000000) _ (by omega) (by omega)).mono ?_
    intro e w' hq; obtain ⟨rfl, nd, rfl⟩ := wday_to (v := wd) HW.out.symm _ _ hq; clear hq
    go_wp2_with fail
    refine (weekday_any (a.tmod 700000000000 + 1) _ (by omega) (by omega)).mono ?_
    intro e w' hq; obtain ⟨rfl, nd, rfl⟩ := wday_to (v := (wd + 1) % 7) HWN.out _ _ hq; clear hq
    go_wp2_with fail
    refine (works_any _ (by exact HT.out)).mono ?_
    rintro e w' ⟨rfl, n3, rfl⟩
    go_wp2_with fail
    go_ret
    exact ⟨rfl, below_drewN (Below.refl _ _) _⟩
  · have HN := Lib.hid hn
    clear hn
    go_wp2_with fail
    refine (dateE_any (a.tmod 700000000000 + 1) _ (by exact HT.out) (by omega) (by omega)).mono ?_
    intro e w' hq; obtain ⟨rfl, nd, rfl⟩ := DateE.to_yes HN.out hi.out _ _ hq; clear hq
    go_wp2_with fail
    refine (len_any y m _ (by omega) (by omega)).mono ?_
    rintro e w' ⟨rfl, rfl⟩
    go_wp2_with fail
    go_wp2_with fail
    refine (weekday_any (a.tmod 700000000000) _ (by omega) (by omega)).mono ?_
    intro e w' hq; obtain ⟨rfl, nd, rfl⟩ := wday_to (v := wd) HW.out.symm _ _ hq; clear hq
    go_wp2_with fail
    refine (weekday_any (a.tmod 700000000000 + 1) _ (by omega) (by omega)).mono ?_
    intro e w' hq; obtain ⟨rfl, nd, rfl⟩ := wday_to (v := (wd + 1) % 7) HWN.out _ _ hq; clear hq
    go_wp2_with fail
    refine (works_any _ (by exact HT.out)).mono ?_
    rintro e w' ⟨rfl, n3, rfl⟩
    go_wp2_with fail
    go_ret
    exact ⟨rfl, below_drewN (Below.refl _ _) _⟩
  · have HN := Lib.hid hn
    have HI := Lib.hid (hn.inr (by omega) (by omega))
    clear hn
    go_wp2_with fail
    refine (dateE_any (a.tmod 700000000000 + 1) _ (by exact HT.out) (by omega) (by omega)).mono ?_
    intro e w' hq; obtain ⟨rfl, nd, rfl⟩ := DateE.to_yes HN.out HI.out _ _ hq; clear hq
    go_wp2_with fail
    refine (len_any y 12 _ (by omega) (by omega)).mono ?_
    rintro e w' ⟨rfl, rfl⟩
    go_wp2_with fail
    go_wp2_with fail
    refine (weekday_any (a.tmod 700000000000) _ (by omega) (by omega)).mono ?_
    intro e w' hq; obtain ⟨rfl, nd, rfl⟩ := wday_to (v := wd) HW.out.symm _ _ hq; clear hq
    go_wp2_with fail
    refine (weekday_any (a.tmod 700000000000 + 1) _ (by omega) (by omega)).mono ?_
    intro e w' hq; obtain ⟨rfl, nd, rfl⟩ := wday_to (v := (wd + 1) % 7) HWN.out _ _ hq; clear hq
    go_wp2_with fail
    refine (works_any _ (by exact HT.out)).mono ?_
    rintro e w' ⟨rfl, n3, rfl⟩
    go_wp2_with fail
    go_ret
    exact ⟨rfl, below_drewN (Below.refl _ _) _⟩
end Go.Proofs.YthppldacadehiaaDoor
