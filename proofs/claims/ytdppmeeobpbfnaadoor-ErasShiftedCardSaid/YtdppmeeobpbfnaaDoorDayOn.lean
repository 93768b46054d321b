/-
  The contracts of dayform.On and dayform.Always.
-/
import Derived.Test.YtdppmeeobpbfnaaDoorDayWalks
import Derived.StillTailTactics
namespace Go.Proofs.YtdppmeeobpbfnaaDoor
open Go.RowKit Cv
set_option linter.unusedVariables false
set_option linter.unusedSimpArgs false

namespace Cv
/-- the day that a right form means, from the first and the last day of the month -/
def find (f l k w d : Int) : Int := if k = 1 then f + d - 1 else if k = 2 then bef l w else if k = 3 then beh (f + d - 1) w else bef (f + d - 1) w
/-- what On answers -/
def on (y m k w d : Int) : Int × Int :=
  if inr y ∧ ok y m 1 then if good k w d then if d ≤ len y m then (find (num y m 1) (num y m 1 + len y m - 1) k w d, 0) else (0, 4) else (0, 2) else (0, 3)
theorem on_bad {y m k w d : Int} (h : ¬ (inr y ∧ ok y m 1)) : on y m k w d = (0, 3) := by unfold on; rw [if_neg h]
theorem on_form {y m k w d : Int} (h : inr y ∧ ok y m 1) (hg : ¬ good k w d) : on y m k w d = (0, 2) := by unfold on; rw [if_pos h, if_neg hg]
theorem on_none {y m k w d : Int} (h : inr y ∧ ok y m 1) (hg : good k w d) (hl : len y m < d) : on y m k w d = (0, 4) := by unfold on; rw [if_pos h, if_pos hg, if_neg (by omega)]
theorem on_day {y m k w d : Int} (h : inr y ∧ ok y m 1) (hg : good k w d) (hl : d ≤ len y m) : on y m k w d = (find (num y m 1) (num y m 1 + len y m - 1) k w d, 0) := by unfold on; rw [if_pos h, if_pos hg, if_pos hl]
theorem ok_first (y m : Int) : ok y m 1 ↔ 1 ≤ m ∧ m ≤ 12 := by
  constructor
  · exact fun h => h.month
  · exact fun h => ⟨by omega, by have := len_in y m h.1 h.2; omega⟩
theorem num_far {y m d : Int} (hi : inr y) (h : ok y m d) : -800000000000 ≤ num y m d ∧ num y m d ≤ 800000000000 := by
  have := num_bd h
  unfold fst at this; unfold inr at hi; omega
/-- the cells of a form that a function was given -/
def FC (b : Nat) (k w d : Int) (W : World) : Prop := W.cell? ⟨b, 0, none⟩ = some (.int .i64 k) ∧ W.cell? ⟨b, 1, none⟩ = some (.int .i64 w) ∧ W.cell? ⟨b, 2, none⟩ = some (.int .i64 d)
theorem FC.new (W : World) (k w d : Int) (t : TypeId) : FC W.heap.size k w d (W.alloc (.cells #[.int .i64 k, .int .i64 w, .int .i64 d] t)) := by
  have hn : (W.alloc (.cells #[.int .i64 k, .int .i64 w, .int .i64 d] t)).heap[W.heap.size]? = some (.cells #[.int .i64 k, .int .i64 w, .int .i64 d] t) := by
    show (W.heap.push _)[W.heap.size]? = _
    simp
  unfold FC World.cell?
  rw [hn]
  simp
theorem FC.drewN {b : Nat} {k w d : Int} {W : World} (h : FC b k w d W) (n : Nat) : FC b k w d (W.drewN n) := h
theorem FC.below {b : Nat} {k w d : Int} {A B : World} (h : FC b k w d A) (hb : Below A.heap.size A B) : FC b k w d B := by
  have key : ∀ a v, A.cell? a = some v → B.cell? a = some v := fun a v h => by rw [hb.cell (lt_of_cell h)]; exact h
  exact ⟨key _ _ h.1, key _ _ h.2.1, key _ _ h.2.2⟩
def OnR (y m k w d : Int) (W : World) (e : Ending) (W' : World) : Prop :=
  e = .returned (.tuple #[.int .i64 (on y m k w d).1, .int .i64 (on y m k w d).2]) ∧ Below W.heap.size W W'
theorem OnR.of {y m k w d a b : Int} {W W' : World} (h : on y m k w d = (a, b)) (hb : Below W.heap.size W W') : OnR y m k w d W (.returned (.tuple #[.int .i64 a, .int .i64 b])) W' := by
  unfold OnR; rw [h]; exact ⟨rfl, hb⟩
theorem OnR.to {y m k w d a b : Int} {W : World} (h : on y m k w d = (a, b)) : ∀ e W', OnR y m k w d W e W' → e = .returned (.tuple #[.int .i64 a, .int .i64 b]) ∧ Below W.heap.size W W' := by
  rintro e W' ⟨rfl, hb⟩
  rw [h]; exact ⟨rfl, hb⟩
theorem CheckR.to_yes {p : Prop} {W : World} (h : p) : ∀ e W', CheckR p W e W' → e = .returned (.int .i64 0) ∧ Below W.heap.size W W' := by
  rintro e W' ⟨hb, ⟨_, rfl⟩ | ⟨hn, _⟩⟩
  · exact ⟨rfl, hb⟩
  · exact (hn h).elim
theorem CheckR.to_no {p : Prop} {W : World} (h : ¬ p) : ∀ e W', CheckR p W e W' → e = .returned (.int .i64 2) ∧ Below W.heap.size W W' := by
  rintro e W' ⟨hb, ⟨hp, _⟩ | ⟨_, rfl⟩⟩
  · exact (h hp).elim
  · exact ⟨rfl, hb⟩
end Cv

set_option maxRecDepth 100000 in
set_option maxHeartbeats 2000000 in
theorem on_any (y m k w d : Int) (W : World) (hT : Tabs W) (hy1 : -9223372036854775808 ≤ y) (hy2 : y ≤ 9223372036854775807) :
    Calls Tryd.prog 45 #[.int .i64 y, .int .i64 m, form k w d] W (OnR y m k w d W) := by
  have HT := Lib.hid hT
  clear hT
  by_cases h : inr y ∧ ok y m 1
  · have HI := Lib.hid h
    obtain ⟨hi, ho⟩ := h
    obtain ⟨hf1, hf2⟩ := num_far hi ho
    obtain ⟨hl1, hl2⟩ := len_bd y m
    obtain ⟨f, hf⟩ : ∃ f, f = num y m 1 := ⟨_, rfl⟩
    rw [← hf] at hf1 hf2
    have HF := Lib.hid hf.symm
    clear hi ho hf
    by_cases hg : good k w d
    · have HG := Lib.hid hg
      by_cases hl : d ≤ len y m
      · have HO := Lib.hid (on_day HI.out hg hl)
        rw [HF.out] at HO
        have hgc := hg
        clear hg
        rcases hgc with ⟨rfl, rfl, h1, h2⟩ | ⟨rfl, h1, h2, rfl⟩ | ⟨rfl | rfl, h1, h2, h3, h4⟩
        · unfold form
          go_enter Tryd.func45, Tryd.ntmps45
          go_wp2_with fail
          refine (days_any y m 1 _ (by exact (HT.out.alloc _).1) hy1 hy2 (by decide) (by decide)).mono ?_
          intro e w' hq; obtain ⟨rfl, nd, rfl⟩ := DaysR.to_yes (v := f) HI.out HF.out _ _ hq; clear hq
          go_wp2_with fail
          refine (check_any 1 0 d _ (by exact (HT.out.alloc _).2)).mono ?_
          intro e w1 hq; obtain ⟨rfl, hb1⟩ := CheckR.to_yes HG.out _ _ hq; clear hq
          have HT1 : Hid (Tabs w1) := ((HT.out.alloc (.cells #[.int .i64 1, .int .i64 0, .int .i64 d] 52)).drewN nd).below hb1
          have fc : FC W.heap.size 1 0 d w1 := ((FC.new W 1 0 d 52).drewN nd).below hb1
          obtain ⟨f0, f1, f2⟩ := fc
          obtain ⟨c0, c1, c2⟩ := HT1.out.2.1
          go_wp2_with fail
          refine (len_any y m _ hy1 hy2).mono ?_
          rintro e w' ⟨rfl, rfl⟩
          go_wp2_with fail
          go_still_tail 11, (by kernel_rfl)
          go_wp2_with fail
          refine (kinds1_any f (f + len y m - 1) 1 0 d _ (by omega) (by omega) (by omega) (by omega)).mono ?_
          intro e w2 hq; obtain ⟨rfl, hb2⟩ := (fun _ _ h => h) _ _ hq; clear hq
          go_wp2_with fail
          go_ret2
          exact OnR.of HO.out (bel_trans (Below.drew (bel_trans (bel_drew (bel_alloc _ _) _) hb1)) hb2)
        · unfold form
          go_enter Tryd.func45, Tryd.ntmps45
          go_wp2_with fail
          refine (days_any y m 1 _ (by exact (HT.out.alloc _).1) hy1 hy2 (by decide) (by decide)).mono ?_
          intro e w' hq; obtain ⟨rfl, nd, rfl⟩ := DaysR.to_yes (v := f) HI.out HF.out _ _ hq; clear hq
          go_wp2_with fail
          refine (check_any 2 w 0 _ (by exact (HT.out.alloc _).2)).mono ?_
          intro e w1 hq; obtain ⟨rfl, hb1⟩ := CheckR.to_yes HG.out _ _ hq; clear hq
          have HT1 : Hid (Tabs w1) := ((HT.out.alloc (.cells #[.int .i64 2, .int .i64 w, .int .i64 0] 52)).drewN nd).below hb1
          have fc : FC W.heap.size 2 w 0 w1 := ((FC.new W 2 w 0 52).drewN nd).below hb1
          obtain ⟨f0, f1, f2⟩ := fc
          obtain ⟨c0, c1, c2⟩ := HT1.out.2.2.1
          go_wp2_with fail
          refine (len_any y m _ hy1 hy2).mono ?_
          rintro e w' ⟨rfl, rfl⟩
          go_wp2_with fail
          go_still_tail 11, (by kernel_rfl)
          go_wp2_with fail
          refine (kinds2_any f (f + len y m - 1) 2 w 0 _ (by omega) (by omega) h1 h2).mono ?_
          intro e w2 hq; obtain ⟨rfl, hb2⟩ := (fun _ _ h => h) _ _ hq; clear hq
          go_wp2_with fail
          go_ret2
          exact OnR.of HO.out (bel_trans (Below.drew (bel_trans (bel_drew (bel_alloc _ _) _) hb1)) hb2)
        · unfold form
          go_enter Tryd.func45, Tryd.ntmps45
          go_wp2_with fail
          refine (days_any y m 1 _ (by exact (HT.out.alloc _).1) hy1 hy2 (by decide) (by decide)).mono ?_
          intro e w' hq; obtain ⟨rfl, nd, rfl⟩ := DaysR.to_yes (v := f) HI.out HF.out _ _ hq; clear hq
          go_wp2_with fail
          refine (check_any 3 w d _ (by exact (HT.out.alloc _).2)).mono ?_
          intro e w1 hq; obtain ⟨rfl, hb1⟩ := CheckR.to_yes HG.out _ _ hq; clear hq
          have HT1 : Hid (Tabs w1) := ((HT.out.alloc (.cells #[.int .i64 3, .int .i64 w, .int .i64 d] 52)).drewN nd).below hb1
          have fc : FC W.heap.size 3 w d w1 := ((FC.new W 3 w d 52).drewN nd).below hb1
          obtain ⟨f0, f1, f2⟩ := fc
          obtain ⟨c0, c1, c2⟩ := HT1.out.2.2.2.1
          go_wp2_with fail
          refine (len_any y m _ hy1 hy2).mono ?_
          rintro e w' ⟨rfl, rfl⟩
          go_wp2_with fail
          go_still_tail 11, (by kernel_rfl)
          go_wp2_with fail
          refine (kinds3_any f (f + len y m - 1) 3 w d _ (by omega) (by omega) h1 h2 (by omega) h4).mono ?_
          intro e w2 hq; obtain ⟨rfl, hb2⟩ := (fun _ _ h => h) _ _ hq; clear hq
          go_wp2_with fail
          go_ret2
          exact OnR.of HO.out (bel_trans (Below.drew (bel_trans (bel_drew (bel_alloc _ _) _) hb1)) hb2)
        · unfold form
          go_enter Tryd.func45, Tryd.ntmps45
          go_wp2_with fail
          refine (days_any y m 1 _ (by exact (HT.out.alloc _).1) hy1 hy2 (by decide) (by decide)).mono ?_
          intro e w' hq; obtain ⟨rfl, nd, rfl⟩ := DaysR.to_yes (v := f) HI.out HF.out _ _ hq; clear hq
          go_wp2_with fail
          refine (check_any 4 w d _ (by exact (HT.out.alloc _).2)).mono ?_
          intro e w1 hq; obtain ⟨rfl, hb1⟩ := CheckR.to_yes HG.out _ _ hq; clear hq
          have HT1 : Hid (Tabs w1) := ((HT.out.alloc (.cells #[.int .i64 4, .int .i64 w, .int .i64 d] 52)).drewN nd).below hb1
          have fc : FC W.heap.size 4 w d w1 := ((FC.new W 4 w d 52).drewN nd).below hb1
          obtain ⟨f0, f1, f2⟩ := fc
          obtain ⟨c0, c1, c2⟩ := HT1.out.2.2.2.2
          go_wp2_with fail
          refine (len_any y m _ hy1 hy2).mono ?_
          rintro e w' ⟨rfl, rfl⟩
          go_wp2_with fail
          go_still_tail 11, (by kernel_rfl)
          go_wp2_with fail
          refine (kinds4_any f (f + len y m - 1) 4 w d _ (by omega) (by omega) h1 h2 (by omega) h4).mono ?_
          intro e w2 hq; obtain ⟨rfl, hb2⟩ := (fun _ _ h => h) _ _ hq; clear hq
          go_wp2_with fail
          go_ret2
          exact OnR.of HO.out (bel_trans (Below.drew (bel_trans (bel_drew (bel_alloc _ _) _) hb1)) hb2)
      · have HO := Lib.hid (on_none HI.out hg (by omega))
        have hgd : 0 ≤ d ∧ d ≤ 31 := by unfold good at hg; omega
        obtain ⟨hd1, hd2⟩ := hgd
        have hl3 : len y m < d := by omega
        clear hg
        unfold form
        go_enter Tryd.func45, Tryd.ntmps45
        go_wp2_with fail
        refine (days_any y m 1 _ (by exact (HT.out.alloc _).1) hy1 hy2 (by decide) (by decide)).mono ?_
        intro e w' hq; obtain ⟨rfl, nd, rfl⟩ := DaysR.to_yes (v := f) HI.out HF.out _ _ hq; clear hq
        go_wp2_with fail
        refine (check_any k w d _ (by exact (HT.out.alloc _).2)).mono ?_
        intro e w1 hq; obtain ⟨rfl, hb1⟩ := CheckR.to_yes HG.out _ _ hq; clear hq
        have fc : FC W.heap.size k w d w1 := ((FC.new W k w d 52).drewN nd).below hb1
        obtain ⟨f0, f1, f2⟩ := fc
        go_wp2_with fail
        refine (len_any y m _ hy1 hy2).mono ?_
        rintro e w' ⟨rfl, rfl⟩
        go_wp2_with fail
        go_ret2
        exact OnR.of HO.out (bel_trans (bel_drew (bel_alloc _ _) _) hb1)
    · have HG := Lib.hid hg
      have HO := Lib.hid (on_form HI.out hg)
      clear hg
      unfold form
      go_enter Tryd.func45, Tryd.ntmps45
      go_wp2_with fail
      refine (days_any y m 1 _ (by exact (HT.out.alloc _).1) hy1 hy2 (by decide) (by decide)).mono ?_
      intro e w' hq; obtain ⟨rfl, nd, rfl⟩ := DaysR.to_yes (v := f) HI.out HF.out _ _ hq; clear hq
      go_wp2_with fail
      refine (check_any k w d _ (by exact (HT.out.alloc _).2)).mono ?_
      intro e w1 hq; obtain ⟨rfl, hb1⟩ := CheckR.to_no HG.out _ _ hq; clear hq
      go_wp2_with fail
      go_ret2
      exact OnR.of HO.out (bel_trans (bel_drew (bel_alloc _ _) _) hb1)
  · have HN := Lib.hid (on_bad (k := k) (w := w) (d := d) h)
    have HI := Lib.hid h
    clear h
    unfold form
    go_enter Tryd.func45, Tryd.ntmps45
    go_wp2_with fail
    refine (days_any y m 1 _ (by exact (HT.out.alloc _).1) hy1 hy2 (by decide) (by decide)).mono ?_
    intro e w' hq; obtain ⟨rfl, nd, rfl⟩ := DaysR.to_no HI.out _ _ hq; clear hq
    go_wp2_with fail
    go_ret2
    exact OnR.of HN.out (bel_drew (bel_alloc _ _) _)
end Go.Proofs.YtdppmeeobpbfnaaDoor
