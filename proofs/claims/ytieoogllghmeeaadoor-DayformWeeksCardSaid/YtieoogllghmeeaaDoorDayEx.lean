/-
  The examples of chapter 2: package analemmalaw02's function works returns true; and its makers of forms.
-/
import Derived.Test.YtieoogllghmeeaaDoorDayAlw
import Derived.Laws.Rows
namespace Go.Proofs.YtieoogllghmeeaaDoor
open Go.RowKit Cv
set_option linter.unusedVariables false
set_option linter.unusedSimpArgs false

theorem mk_bel {W : World} {o : Obj} {e0 : Ending} : ∀ (e : Ending) (W' : World), (e = e0 ∧ W' = W.alloc o) → e = e0 ∧ Below W.heap.size W W' := by
  rintro e W' ⟨rfl, rfl⟩
  exact ⟨rfl, bel_alloc _ _⟩

set_option maxRecDepth 100000 in
theorem fixed_any (n : Int) (W : World) : Calls Tryd.prog 24 #[.int .i64 n] W fun e W' => e = .returned (.agg #[.int .i64 1, .int .i64 0, .int .i64 n]) ∧ W' = W.alloc (.cells #[.int .i64 1, .int .i64 0, .int .i64 n] 23) := by
  go_enter Tryd.func24, Tryd.ntmps24
  go_wp2_with fail
  refine bodyPost_ret (results_cell_row rfl _ _ _ _ _ _ _ rfl (heap_alloc_new _ _) Tryd.underlying23 rfl (by kernel_rfl)) rfl ?_
  exact ⟨rfl, rfl⟩

set_option maxRecDepth 100000 in
theorem last_any (n : Int) (W : World) : Calls Tryd.prog 22 #[.int .i64 n] W fun e W' => e = .returned (.agg #[.int .i64 2, .int .i64 n, .int .i64 0]) ∧ W' = W.alloc (.cells #[.int .i64 2, .int .i64 n, .int .i64 0] 23) := by
  go_enter Tryd.func22, Tryd.ntmps22
  go_wp2_with fail
  refine bodyPost_ret (results_cell_row rfl _ _ _ _ _ _ _ rfl (heap_alloc_new _ _) Tryd.underlying23 rfl (by kernel_rfl)) rfl ?_
  exact ⟨rfl, rfl⟩

set_option maxRecDepth 100000 in
theorem from_any (w n : Int) (W : World) : Calls Tryd.prog 21 #[.int .i64 w, .int .i64 n] W fun e W' => e = .returned (.agg #[.int .i64 3, .int .i64 w, .int .i64 n]) ∧ W' = W.alloc (.cells #[.int .i64 3, .int .i64 w, .int .i64 n] 23) := by
  go_enter Tryd.func21, Tryd.ntmps21
  go_wp2_with fail
  refine bodyPost_ret (results_cell_row rfl _ _ _ _ _ _ _ rfl (heap_alloc_new _ _) Tryd.underlying23 rfl (by kernel_rfl)) rfl ?_
  exact ⟨rfl, rfl⟩

set_option maxRecDepth 100000 in
theorem to_any (w n : Int) (W : World) : Calls Tryd.prog 23 #[.int .i64 w, .int .i64 n] W fun e W' => e = .returned (.agg #[.int .i64 4, .int .i64 w, .int .i64 n]) ∧ W' = W.alloc (.cells #[.int .i64 4, .int .i64 w, .int .i64 n] 23) := by
  go_enter Tryd.func23, Tryd.ntmps23
  go_wp2_with fail
  refine bodyPost_ret (results_cell_row rfl _ _ _ _ _ _ _ rfl (heap_alloc_new _ _) Tryd.underlying23 rfl (by kernel_rfl)) rfl ?_
  exact ⟨rfl, rfl⟩

namespace Cv
def Means (y m k w d mo da : Int) : Prop := (on y m k w d).2 = 0 ∧ (inr y ∧ ok y mo da) ∧ (on y m k w d).1 = num y mo da
instance (y m k w d mo da : Int) : Decidable (Means y m k w d mo da) := by unfold Means; exact inferInstance
end Cv

set_option maxRecDepth 100000 in
set_option maxHeartbeats 1000000 in
theorem means_any (y m k w d mo da : Int) (W : World) (hT : Tabs W) (hy1 : -9223372036854775808 ≤ y) (hy2 : y ≤ 9223372036854775807) (hd1 : -9223372036854775808 ≤ da) (hd2 : da ≤ 9223372036854775807) :
    Calls Tryd.prog 30 #[.int .i64 y, .int .i64 m, form k w d, .int .i64 mo, .int .i64 da] W (YesB (Means y m k w d mo da) W) := by
  have HT := Lib.hid hT
  clear hT
  obtain ⟨x, c, hx⟩ : ∃ x c, on y m k w d = (x, c) := ⟨_, _, rfl⟩
  have HX := Lib.hid hx
  by_cases hd : inr y ∧ ok y mo da
  · have HD := Lib.hid hd
    have HM := Lib.hid (show Means y m k w d mo da ↔ (c = 0 ∧ x = num y mo da) by unfold Means; rw [hx]; simp only [hd, and_self, true_and])
    obtain ⟨v, hv⟩ : ∃ v, v = num y mo da := ⟨_, rfl⟩
    rw [← hv] at HM
    have HV := Lib.hid hv.symm
    clear hx hd hv
    unfold form
    go_enter Tryd.func30, Tryd.ntmps30
    go_wp2_with fail
    refine (on_any y m k w d _ (by exact HT.out.alloc _) hy1 hy2).mono ?_
    intro e w1 hq; obtain ⟨rfl, hb1⟩ := OnR.to HX.out _ _ hq; clear hq
    have HT1 : Hid (Tabs w1) := (HT.out.alloc (.cells #[.int .i64 k, .int .i64 w, .int .i64 d] 23)).below hb1
    go_wp2_with fail
    refine (days_any y mo da _ (by exact HT1.out.1) hy1 hy2 hd1 hd2).mono ?_
    intro e w' hq; obtain ⟨rfl, nd, rfl⟩ := DaysR.to_yes (v := v) HD.out HV.out _ _ hq; clear hq
    go_wp2
    all_goals
      go_ret
      exact YesB.of (bel_drew (bel_trans (bel_alloc _ _) hb1) _) (by rw [HM.out]; simp_all)
  · have HD := Lib.hid hd
    have HM := Lib.hid (show ¬ Means y m k w d mo da from fun h => hd h.2.1)
    clear hx hd
    unfold form
    go_enter Tryd.func30, Tryd.ntmps30
    go_wp2_with fail
    refine (on_any y m k w d _ (by exact HT.out.alloc _) hy1 hy2).mono ?_
    intro e w1 hq; obtain ⟨rfl, hb1⟩ := OnR.to HX.out _ _ hq; clear hq
    have HT1 : Hid (Tabs w1) := (HT.out.alloc (.cells #[.int .i64 k, .int .i64 w, .int .i64 d] 23)).below hb1
    go_wp2_with fail
    refine (days_any y mo da _ (by exact HT1.out.1) hy1 hy2 hd1 hd2).mono ?_
    intro e w' hq; obtain ⟨rfl, nd, rfl⟩ := DaysR.to_no HD.out _ _ hq; clear hq
    go_wp2
    all_goals
      go_ret
      exact YesB.no (bel_drew (bel_trans (bel_alloc _ _) hb1) _) HM.out

namespace Cv
def Fails (y m k w d c : Int) : Prop := (on y m k w d).1 = 0 ∧ (on y m k w d).2 = c
instance (y m k w d c : Int) : Decidable (Fails y m k w d c) := by unfold Fails; exact inferInstance
end Cv

set_option maxRecDepth 100000 in
set_option maxHeartbeats 1000000 in
theorem fails_any (y m k w d cc : Int) (W : World) (hT : Tabs W) (hy1 : -9223372036854775808 ≤ y) (hy2 : y ≤ 9223372036854775807) :
    Calls Tryd.prog 25 #[.int .i64 y, .int .i64 m, form k w d, .int .i64 cc] W (YesB (Fails y m k w d cc) W) := by
  have HT := Lib.hid hT
  clear hT
  obtain ⟨x, c, hx⟩ : ∃ x c, on y m k w d = (x, c) := ⟨_, _, rfl⟩
  have HX := Lib.hid hx
  have HM := Lib.hid (show Fails y m k w d cc ↔ (x = 0 ∧ c = cc) by unfold Fails; rw [hx])
  clear hx
  unfold form
  go_enter Tryd.func25, Tryd.ntmps25
  go_wp2_with fail
  refine (on_any y m k w d _ (by exact HT.out.alloc _) hy1 hy2).mono ?_
  intro e w1 hq; obtain ⟨rfl, hb1⟩ := OnR.to HX.out _ _ hq; clear hq
  go_wp2
  all_goals
    go_ret
    exact YesB.of (bel_trans (bel_alloc _ _) hb1) (by rw [HM.out]; simp_all)

set_option maxRecDepth 100000 in
set_option maxHeartbeats 8000000 in
theorem works_any (W : World) (hT : Tabs W) : Calls Tryd.prog 13 #[] W fun e W' => e = .returned (.bool true) ∧ Below W.heap.size W W' := by
  have HT := Lib.hid hT; clear hT
  go_enter Tryd.func13, Tryd.ntmps13
  go_wp2_with fail
  refine (last_any 0 _).mono ?_
  intro e w1 hq; obtain ⟨rfl, hb1⟩ := mk_bel _ _ hq; clear hq
  have HT1 : Hid (Tabs w1) := (HT.out).below hb1
  have HB1 : Hid (Below W.heap.size W w1) := hb1
  clear hb1
  go_wp2_with fail
  refine (means_any 2026 3 2 0 0 3 29 _ (HT1.out) (by decide) (by decide) (by decide) (by decide)).mono ?_
  intro e w2 hq; obtain ⟨rfl, hb2⟩ := YesB.to_b (b := true) (by decide) _ _ hq; clear hq
  have HT2 : Hid (Tabs w2) := (HT1.out).below hb2
  have HB2 : Hid (Below W.heap.size W w2) := bel_trans HB1.out hb2
  clear hb2
  go_wp2_with fail
  refine (from_any 0 8 _).mono ?_
  intro e w3 hq; obtain ⟨rfl, hb3⟩ := mk_bel _ _ hq; clear hq
  have HT3 : Hid (Tabs w3) := (HT2.out).below hb3
  have HB3 : Hid (Below W.heap.size W w3) := bel_trans HB2.out hb3
  clear hb3
  go_wp2_with fail
  refine (means_any 2026 3 3 0 8 3 8 _ (HT3.out) (by decide) (by decide) (by decide) (by decide)).mono ?_
  intro e w4 hq; obtain ⟨rfl, hb4⟩ := YesB.to_b (b := true) (by decide) _ _ hq; clear hq
  have HT4 : Hid (Tabs w4) := (HT3.out).below hb4
  have HB4 : Hid (Below W.heap.size W w4) := bel_trans HB3.out hb4
  clear hb4
  go_wp2_with fail
  refine (fixed_any 31 _).mono ?_
  intro e w5 hq; obtain ⟨rfl, hb5⟩ := mk_bel _ _ hq; clear hq
  have HT5 : Hid (Tabs w5) := (HT4.out).below hb5
  have HB5 : Hid (Below W.heap.size W w5) := bel_trans HB4.out hb5
  clear hb5
  go_wp2_with fail
  refine (means_any 2026 3 1 0 31 3 31 _ (HT5.out) (by decide) (by decide) (by decide) (by decide)).mono ?_
  intro e w6 hq; obtain ⟨rfl, hb6⟩ := YesB.to_b (b := true) (by decide) _ _ hq; clear hq
  have HT6 : Hid (Tabs w6) := (HT5.out).below hb6
  have HB6 : Hid (Below W.heap.size W w6) := bel_trans HB5.out hb6
  clear hb6
  go_wp2_with fail
  refine (fixed_any 29 _).mono ?_
  intro e w7 hq; obtain ⟨rfl, hb7⟩ := mk_bel _ _ hq; clear hq
  have HT7 : Hid (Tabs w7) := (HT6.out).below hb7
  have HB7 : Hid (Below W.heap.size W w7) := bel_trans HB6.out hb7
  clear hb7
  go_wp2_with fail
  refine (fails_any 2026 2 1 0 29 4 _ (HT7.out) (by decide) (by decide)).mono ?_
  intro e w8 hq; obtain ⟨rfl, hb8⟩ := YesB.to_b (b := true) (by decide) _ _ hq; clear hq
  have HT8 : Hid (Tabs w8) := (HT7.out).below hb8
  have HB8 : Hid (Below W.heap.size W w8) := bel_trans HB7.out hb8
  clear hb8
  go_wp2_with fail
  refine (to_any 6 1 _).mono ?_
  intro e w9 hq; obtain ⟨rfl, hb9⟩ := mk_bel _ _ hq; clear hq
  have HT9 : Hid (Tabs w9) := (HT8.out).below hb9
  have HB9 : Hid (Below W.heap.size W w9) := bel_trans HB8.out hb9
  clear hb9
  go_wp2_with fail
  refine (means_any 2026 2 4 6 1 1 31 _ (HT9.out) (by decide) (by decide) (by decide) (by decide)).mono ?_
  intro e w10 hq; obtain ⟨rfl, hb10⟩ := YesB.to_b (b := true) (by decide) _ _ hq; clear hq
  have HT10 : Hid (Tabs w10) := (HT9.out).below hb10
  have HB10 : Hid (Below W.heap.size W w10) := bel_trans HB9.out hb10
  clear hb10
  go_wp2_with fail
  refine (from_any 1 28 _).mono ?_
  intro e w11 hq; obtain ⟨rfl, hb11⟩ := mk_bel _ _ hq; clear hq
  have HT11 : Hid (Tabs w11) := (HT10.out).below hb11
  have HB11 : Hid (Below W.heap.size W w11) := bel_trans HB10.out hb11
  clear hb11
  go_wp2_with fail
  refine (means_any 2026 2 3 1 28 3 2 _ (HT11.out) (by decide) (by decide) (by decide) (by decide)).mono ?_
  intro e w12 hq; obtain ⟨rfl, hb12⟩ := YesB.to_b (b := true) (by decide) _ _ hq; clear hq
  have HT12 : Hid (Tabs w12) := (HT11.out).below hb12
  have HB12 : Hid (Below W.heap.size W w12) := bel_trans HB11.out hb12
  clear hb12
  go_wp2_with fail
  refine (fixed_any 29 _).mono ?_
  intro e w13 hq; obtain ⟨rfl, hb13⟩ := mk_bel _ _ hq; clear hq
  have HT13 : Hid (Tabs w13) := (HT12.out).below hb13
  have HB13 : Hid (Below W.heap.size W w13) := bel_trans HB12.out hb13
  clear hb13
  go_wp2_with fail
  refine (means_any 2028 2 1 0 29 2 29 _ (HT13.out) (by decide) (by decide) (by decide) (by decide)).mono ?_
  intro e w14 hq; obtain ⟨rfl, hb14⟩ := YesB.to_b (b := true) (by decide) _ _ hq; clear hq
  have HT14 : Hid (Tabs w14) := (HT13.out).below hb14
  have HB14 : Hid (Below W.heap.size W w14) := bel_trans HB13.out hb14
  clear hb14
  go_wp2_with fail
  refine (from_any 4 29 _).mono ?_
  intro e w15 hq; obtain ⟨rfl, hb15⟩ := mk_bel _ _ hq; clear hq
  have HT15 : Hid (Tabs w15) := (HT14.out).below hb15
  have HB15 : Hid (Below W.heap.size W w15) := bel_trans HB14.out hb15
  clear hb15
  go_wp2_with fail
  refine (means_any 2028 2 3 4 29 3 2 _ (HT15.out) (by decide) (by decide) (by decide) (by decide)).mono ?_
  intro e w16 hq; obtain ⟨rfl, hb16⟩ := YesB.to_b (b := true) (by decide) _ _ hq; clear hq
  have HT16 : Hid (Tabs w16) := (HT15.out).below hb16
  have HB16 : Hid (Below W.heap.size W w16) := bel_trans HB15.out hb16
  clear hb16
  go_wp2_with fail
  refine (fixed_any 1 _).mono ?_
  intro e w17 hq; obtain ⟨rfl, hb17⟩ := mk_bel _ _ hq; clear hq
  have HT17 : Hid (Tabs w17) := (HT16.out).below hb17
  have HB17 : Hid (Below W.heap.size W w17) := bel_trans HB16.out hb17
  clear hb17
  go_wp2_with fail
  refine (fails_any 2026 13 1 0 1 3 _ (HT17.out) (by decide) (by decide)).mono ?_
  intro e w18 hq; obtain ⟨rfl, hb18⟩ := YesB.to_b (b := true) (by decide) _ _ hq; clear hq
  have HT18 : Hid (Tabs w18) := (HT17.out).below hb18
  have HB18 : Hid (Below W.heap.size W w18) := bel_trans HB17.out hb18
  clear hb18
  go_wp2_with fail
  refine (fails_any 2026 1 5 0 1 2 _ (HT18.out) (by decide) (by decide)).mono ?_
  intro e w19 hq; obtain ⟨rfl, hb19⟩ := YesB.to_b (b := true) (by decide) _ _ hq; clear hq
  have HT19 : Hid (Tabs w19) := (HT18.out).below hb19
  have HB19 : Hid (Below W.heap.size W w19) := bel_trans HB18.out hb19
  clear hb19
  go_wp2_with fail
  refine (fixed_any 29 _).mono ?_
  intro e w20 hq; obtain ⟨rfl, hb20⟩ := mk_bel _ _ hq; clear hq
  have HT20 : Hid (Tabs w20) := (HT19.out).below hb20
  have HB20 : Hid (Below W.heap.size W w20) := bel_trans HB19.out hb20
  clear hb20
  go_wp2_with fail
  refine (always_any 2000 1048576 2 1 0 29 _ (HT20.out) (by decide) (by decide)).mono ?_
  intro e w21 hq; obtain ⟨rfl, hb21⟩ := YesB.to_b (b := false) (by decide) _ _ hq; clear hq
  have HT21 : Hid (Tabs w21) := (HT20.out).below hb21
  have HB21 : Hid (Below W.heap.size W w21) := bel_trans HB20.out hb21
  clear hb21
  go_wp2_with fail
  refine (fixed_any 28 _).mono ?_
  intro e w22 hq; obtain ⟨rfl, hb22⟩ := mk_bel _ _ hq; clear hq
  have HT22 : Hid (Tabs w22) := (HT21.out).below hb22
  have HB22 : Hid (Below W.heap.size W w22) := bel_trans HB21.out hb22
  clear hb22
  go_wp2_with fail
  refine (always_any 2000 1048576 2 1 0 28 _ (HT22.out) (by decide) (by decide)).mono ?_
  intro e w23 hq; obtain ⟨rfl, hb23⟩ := YesB.to_b (b := true) (by decide) _ _ hq; clear hq
  have HT23 : Hid (Tabs w23) := (HT22.out).below hb23
  have HB23 : Hid (Below W.heap.size W w23) := bel_trans HB22.out hb23
  clear hb23
  go_wp2_with fail
  refine (last_any 1 _).mono ?_
  intro e w24 hq; obtain ⟨rfl, hb24⟩ := mk_bel _ _ hq; clear hq
  have HT24 : Hid (Tabs w24) := (HT23.out).below hb24
  have HB24 : Hid (Below W.heap.size W w24) := bel_trans HB23.out hb24
  clear hb24
  go_wp2_with fail
  refine (always_any 2000 1048576 2 2 1 0 _ (HT24.out) (by decide) (by decide)).mono ?_
  intro e w25 hq; obtain ⟨rfl, hb25⟩ := YesB.to_b (b := true) (by decide) _ _ hq; clear hq
  have HT25 : Hid (Tabs w25) := (HT24.out).below hb25
  have HB25 : Hid (Below W.heap.size W w25) := bel_trans HB24.out hb25
  clear hb25
  go_wp2_with fail
  refine (from_any 1 30 _).mono ?_
  intro e w26 hq; obtain ⟨rfl, hb26⟩ := mk_bel _ _ hq; clear hq
  have HT26 : Hid (Tabs w26) := (HT25.out).below hb26
  have HB26 : Hid (Below W.heap.size W w26) := bel_trans HB25.out hb26
  clear hb26
  go_wp2_with fail
  refine (always_any 2000 1048576 2 3 1 30 _ (HT26.out) (by decide) (by decide)).mono ?_
  intro e w27 hq; obtain ⟨rfl, hb27⟩ := YesB.to_b (b := false) (by decide) _ _ hq; clear hq
  have HT27 : Hid (Tabs w27) := (HT26.out).below hb27
  have HB27 : Hid (Below W.heap.size W w27) := bel_trans HB26.out hb27
  clear hb27
  go_wp2_with fail
  refine (fixed_any 29 _).mono ?_
  intro e w28 hq; obtain ⟨rfl, hb28⟩ := mk_bel _ _ hq; clear hq
  have HT28 : Hid (Tabs w28) := (HT27.out).below hb28
  have HB28 : Hid (Below W.heap.size W w28) := bel_trans HB27.out hb28
  clear hb28
  go_wp2_with fail
  refine (always_any 2000 2000 2 1 0 29 _ (HT28.out) (by decide) (by decide)).mono ?_
  intro e w29 hq; obtain ⟨rfl, hb29⟩ := YesB.to_b (b := true) (by decide) _ _ hq; clear hq
  have HT29 : Hid (Tabs w29) := (HT28.out).below hb29
  have HB29 : Hid (Below W.heap.size W w29) := bel_trans HB28.out hb29
  clear hb29
  go_wp2_with fail
  refine (fixed_any 29 _).mono ?_
  intro e w30 hq; obtain ⟨rfl, hb30⟩ := mk_bel _ _ hq; clear hq
  have HT30 : Hid (Tabs w30) := (HT29.out).below hb30
  have HB30 : Hid (Below W.heap.size W w30) := bel_trans HB29.out hb30
  clear hb30
  go_wp2_with fail
  refine (always_any 2001 2000 2 1 0 29 _ (HT30.out) (by decide) (by decide)).mono ?_
  intro e w31 hq; obtain ⟨rfl, hb31⟩ := YesB.to_b (b := true) (by decide) _ _ hq; clear hq
  have HT31 : Hid (Tabs w31) := (HT30.out).below hb31
  have HB31 : Hid (Below W.heap.size W w31) := bel_trans HB30.out hb31
  clear hb31
  go_wp2_with fail
  refine (check_any 0 0 0 _ (HT31.out.2)).mono ?_
  intro e w32 hq; obtain ⟨rfl, hb32⟩ := CheckR.to_no (by decide) _ _ hq; clear hq
  go_wp2_with fail
  go_ret
  exact ⟨rfl, bel_trans HB31.out hb32⟩
end Go.Proofs.YtieoogllghmeeaaDoor
