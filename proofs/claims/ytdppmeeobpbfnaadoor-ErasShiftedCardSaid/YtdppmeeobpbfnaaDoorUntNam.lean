/-
  The contracts of until.base, until.save and until.Instant, for an era that names a set.
-/
import Derived.Test.YtdppmeeobpbfnaaDoorUntEx
import Derived.Test.YtdppmeeobpbfnaaDoorStFun
namespace Go.Proofs.YtdppmeeobpbfnaaDoor
open Go.RowKit Cv
set_option linter.unusedVariables false
set_option linter.unusedSimpArgs false

namespace Cv
theorem unt_nb {y m k w d sec base least x c N : Int} (h : untN true y m k w d sec base least = N) (hx : on y m k w d = (x, c)) (x1 : -10000000 ≤ x) (x2 : x ≤ 10000000) (s1 : -100000 ≤ sec) (s2 : sec ≤ 200000) (hb : -10800 ≤ least ∧ least ≤ 0) : -1000000000000 ≤ N ∧ N ≤ 1000000000000 := by
  unfold untN at h
  rw [hx] at h
  unfold untS at h
  dsimp only at h
  split at h
  · split at h <;> omega
  · omega
end Cv
theorem fieldSta (w : World) (a : Int) (s : ByteArray) : (Instr.field 106 (.agg #[.int .i64 a, .string s]) 0).run Tryd.prog w = .ok (.int .i64 a) w := by kernel_rfl

set_option maxRecDepth 100000 in
set_option maxHeartbeats 1000000 in
theorem untBase2 (off save : Int) (st fm : ByteArray) (y m k w d sec base : Int) (v : Value) (rs : _root_.List Ru) (W : World) (h : Rul v rs W) : Calls Tryd.prog 35 #[.agg #[.int .i64 off, .int .i64 2, .int .i64 save, .string st, .string fm, .bool true, .int .i64 y, .int .i64 m, .int .i64 k, .int .i64 w, .int .i64 d, .int .i64 sec, .int .i64 base], v] W fun e w' => e = .returned (.int .i64 (baseL rs)) ∧ Below W.heap.size W w' := by
  have HB0 := Lib.hid (bel_alloc W (.cells #[.int .i64 off, .int .i64 2, .int .i64 save, .string st, .string fm, .bool true, .int .i64 y, .int .i64 m, .int .i64 k, .int .i64 w, .int .i64 d, .int .i64 sec, .int .i64 base] 60))
  have HR := Lib.hid h
  have HE := Lib.hid (show baseL rs = max (leastL rs) (-10800) from rfl)
  clear h
  go_enter Tryd.func35, Tryd.ntmps35
  go_wp2_with fail
  refine (least_any _ rs _ (by exact HR.out.below HB0.out)).mono ?_
  rintro e w1 ⟨rfl, hb⟩
  have HB := Lib.hid (bel_trans HB0.out hb)
  clear hb
  by_cases hm : leastL rs ≤ -10800
  · have hmx : max (leastL rs) (-10800) = -10800 := by omega
    go_wp2_with fail
    all_goals
      go_ret
      exact ⟨ret_i64 (by rw [HE.out]; omega), HB.out⟩
  · have hmx : max (leastL rs) (-10800) = leastL rs := by omega
    go_wp2_with fail
    all_goals
      go_ret
      exact ⟨ret_i64 (by rw [HE.out]; omega), HB.out⟩

set_option maxRecDepth 100000 in
set_option maxHeartbeats 1000000 in
theorem untSave2 (off save : Int) (st fm : ByteArray) (y m k w d sec base n : Int) (v : Value) (rs : _root_.List Ru) (W : World) (hT : Tabs W) (h : Rul v rs W) (ht : Tame rs) (hn1 : -9223372036854775808 ≤ n) (hn2 : n ≤ 9223372036854775807) :
    Calls Tryd.prog 36 #[.agg #[.int .i64 off, .int .i64 2, .int .i64 save, .string st, .string fm, .bool true, .int .i64 y, .int .i64 m, .int .i64 k, .int .i64 w, .int .i64 d, .int .i64 sec, .int .i64 base], v, .int .i64 n] W fun e w' => ∃ o, Hid (BefIs rs n o) ∧ e = .returned (.int .i64 (befS rs o).save) ∧ Below W.heap.size W w' := by
  have HB0 := Lib.hid (bel_alloc W (.cells #[.int .i64 off, .int .i64 2, .int .i64 save, .string st, .string fm, .bool true, .int .i64 y, .int .i64 m, .int .i64 k, .int .i64 w, .int .i64 d, .int .i64 sec, .int .i64 base] 60))
  have HR := Lib.hid h
  have HT := Lib.hid hT
  have HM := Lib.hid ht
  have hfs := fieldSta
  clear h hT ht
  go_enter Tryd.func36, Tryd.ntmps36
  go_wp2_with fail
  refine (stBefore_any _ rs n _ (by exact HT.out.below HB0.out) (by exact HR.out.below HB0.out) HM.out hn1 hn2).mono ?_
  intro e w1 hq; obtain ⟨o, ho, he, hb⟩ := hq
  obtain ⟨s, hs⟩ : ∃ s, s = befS rs o := ⟨_, rfl⟩
  rw [← hs] at he
  obtain ⟨sv, sl⟩ := s
  obtain rfl : e = .returned (.agg #[.int .i64 sv, .string sl]) := he
  have HS := Lib.hid hs
  have HB := Lib.hid (bel_trans HB0.out hb)
  clear hb hs
  go_wp2_with fail
  go_ret
  exact ⟨o, ho, ret_i64 (by rw [← HS.out]), HB.out⟩

set_option maxRecDepth 100000 in
set_option maxHeartbeats 4000000 in
theorem untInst20 (off save : Int) (st fm : ByteArray) (y m k w d sec : Int) (x c : Int) (v : Value) (rs : _root_.List Ru) (W : World) (hT : Tabs W) (hR : Rul v rs W) (ht : Tame rs) (hsv : ∀ o, -604799 ≤ (befS rs o).save ∧ (befS rs o).save ≤ 604799) (hq : untC true y m k w d sec 0 (baseL rs) = 0) (hx : on y m k w d = (x, c)) (o1 : -604799 ≤ off) (o2 : off ≤ 604799) :
    Calls Tryd.prog 22 #[.agg #[.int .i64 off, .int .i64 2, .int .i64 save, .string st, .string fm, .bool true, .int .i64 y, .int .i64 m, .int .i64 k, .int .i64 w, .int .i64 d, .int .i64 sec, .int .i64 0], v] W fun e w' => ∃ o, Hid (BefIs rs (untN true y m k w d sec 0 (baseL rs)) o) ∧ e = .returned (.tuple #[.int .i64 (86400 * x + sec - (befS rs o).save - off), .int .i64 0]) ∧ Below W.heap.size W w' := by
  obtain ⟨-, -, -, y1, y2, -, -, x1, x2, s1, s2⟩ := unt_known hq hx
  have HX := Lib.hid hx
  have HQ := Lib.hid hq
  have hbl := baseL_bd rs
  obtain ⟨lb, hlb⟩ : ∃ lb, lb = baseL rs := ⟨_, rfl⟩
  rw [← hlb] at HQ hbl ⊢
  have HL := Lib.hid hlb
  obtain ⟨N, hN⟩ : ∃ N, untN true y m k w d sec 0 lb = N := ⟨_, rfl⟩
  have HNb := unt_nb hN HX.out x1 x2 s1 s2 hbl
  rw [hN]
  have HN := Lib.hid hN
  have HT := Lib.hid (hT.alloc (.cells #[.int .i64 off, .int .i64 2, .int .i64 save, .string st, .string fm, .bool true, .int .i64 y, .int .i64 m, .int .i64 k, .int .i64 w, .int .i64 d, .int .i64 sec, .int .i64 0] 60))
  have HB0 := Lib.hid (bel_alloc W (.cells #[.int .i64 off, .int .i64 2, .int .i64 save, .string st, .string fm, .bool true, .int .i64 y, .int .i64 m, .int .i64 k, .int .i64 w, .int .i64 d, .int .i64 sec, .int .i64 0] 60))
  have HK0 := Lib.hid (heap_alloc_new W (.cells #[.int .i64 off, .int .i64 2, .int .i64 save, .string st, .string fm, .bool true, .int .i64 y, .int .i64 m, .int .i64 k, .int .i64 w, .int .i64 d, .int .i64 sec, .int .i64 0] 60))
  have HR := Lib.hid (hR.below HB0.out)
  have HM := Lib.hid ht
  have HSV := Lib.hid hsv
  obtain ⟨hb1, hb2⟩ := hbl
  obtain ⟨hN1, hN2⟩ := HNb
  clear hq hx hN hT hR ht hsv hlb
  go_enter Tryd.func22, Tryd.ntmps22
  go_wp2_with fail
  refine (within_any off _ o1 o2).mono ?_
  intro e w' hq; obtain ⟨rfl, rfl⟩ := (fun _ _ h => h) _ _ hq; clear hq
  go_wp2_with fail
  go_region_held3 (fun w' => w'.cell? ⟨W.heap.size, 0, none⟩ = some (.int .i64 off) ∧ w'.cell? ⟨W.heap.size, 1, none⟩ = some (.int .i64 2) ∧ w'.cell? ⟨W.heap.size, 2, none⟩ = some (.int .i64 save) ∧ w'.cell? ⟨W.heap.size, 3, none⟩ = some (.string st) ∧ w'.cell? ⟨W.heap.size, 4, none⟩ = some (.string fm) ∧ w'.cell? ⟨W.heap.size, 5, none⟩ = some (.bool true) ∧ w'.cell? ⟨W.heap.size, 6, none⟩ = some (.int .i64 y) ∧ w'.cell? ⟨W.heap.size, 7, none⟩ = some (.int .i64 m) ∧ w'.cell? ⟨W.heap.size, 8, none⟩ = some (.int .i64 k) ∧ w'.cell? ⟨W.heap.size, 9, none⟩ = some (.int .i64 w) ∧ w'.cell? ⟨W.heap.size, 10, none⟩ = some (.int .i64 d) ∧ w'.cell? ⟨W.heap.size, 11, none⟩ = some (.int .i64 sec) ∧ w'.cell? ⟨W.heap.size, 12, none⟩ = some (.int .i64 0))
    (first | exact cells13 (by exact HK0.out) | exact cells13 (block_below (by exact HK0.out) hb3) | exact cells13 (block_below (block_below (by exact HK0.out) hb3) hb4))
    (first
     | (go_at_call 35; refine (untBase2 off save st fm y m k w d sec 0 v rs _ (by exact HR.out)).mono ?_; rw [← HL.out]; rintro e w3 ⟨rfl, hb3⟩)
     | (go_at_call 34; refine (untNom_any true y m k w d sec 0 lb _ (by exact Tabs.below (by exact HT.out) hb3) (by omega) (by omega)).mono ?_; intro e w4 hq; obtain ⟨rfl, hb4⟩ := NomU.to HN.out HQ.out _ _ hq; clear hq))
  have HB4 := Lib.hid (bel_trans (bel_trans (Below.drew HB0.out) hb3) hb4)
  have HK4 := Lib.hid (block_below (block_below (by exact HK0.out) hb3) hb4)
  have HT4 := Lib.hid (Tabs.below (Tabs.below (by exact HT.out) hb3) hb4)
  have HR4 := Lib.hid (Rul.below (Rul.below (by exact HR.out) hb3) hb4)
  clear hb3 hb4
  have c0 := cellB HK4.out (i := 0) rfl
  have c1 := cellB HK4.out (i := 1) rfl
  have c2 := cellB HK4.out (i := 2) rfl
  have c3 := cellB HK4.out (i := 3) rfl
  have c4 := cellB HK4.out (i := 4) rfl
  have c5 := cellB HK4.out (i := 5) rfl
  have c6 := cellB HK4.out (i := 6) rfl
  have c7 := cellB HK4.out (i := 7) rfl
  have c8 := cellB HK4.out (i := 8) rfl
  have c9 := cellB HK4.out (i := 9) rfl
  have c10 := cellB HK4.out (i := 10) rfl
  have c11 := cellB HK4.out (i := 11) rfl
  have c12 := cellB HK4.out (i := 12) rfl
  go_wp2_with fail
  ((with_reducible refine (untSave2 off save st fm y m k w d sec 0 N v rs _ (by exact HT4.out) (by exact HR4.out) HM.out (by omega) (by omega)).mono ?_); rintro e w5 ⟨o, ho, rfl, hb5⟩)
  obtain ⟨q1, q2⟩ := HSV.out o
  obtain ⟨bs, hbs⟩ : ∃ bs, bs = (befS rs o).save := ⟨_, rfl⟩
  rw [← hbs] at q1 q2 ⊢
  have HBS := Lib.hid hbs
  have HB5 := Lib.hid (bel_trans HB4.out hb5)
  have HK5 := Lib.hid (block_below HK4.out hb5)
  have HT5 := Lib.hid (HT4.out.below hb5)
  clear hb5 hbs c0 c1 c2 c3 c4 c5 c6 c7 c8 c9 c10 c11 c12
  have c0 := cellB HK5.out (i := 0) rfl
  have c1 := cellB HK5.out (i := 1) rfl
  have c2 := cellB HK5.out (i := 2) rfl
  have c3 := cellB HK5.out (i := 3) rfl
  have c4 := cellB HK5.out (i := 4) rfl
  have c5 := cellB HK5.out (i := 5) rfl
  have c6 := cellB HK5.out (i := 6) rfl
  have c7 := cellB HK5.out (i := 7) rfl
  have c8 := cellB HK5.out (i := 8) rfl
  have c9 := cellB HK5.out (i := 9) rfl
  have c10 := cellB HK5.out (i := 10) rfl
  have c11 := cellB HK5.out (i := 11) rfl
  have c12 := cellB HK5.out (i := 12) rfl
  go_wp2_with fail
  refine (within_any bs _ q1 q2).mono ?_
  intro e w' hq; obtain ⟨rfl, rfl⟩ := (fun _ _ h => h) _ _ hq; clear hq
  go_wp2_with fail
  ((with_reducible refine (untSecs_any true y m k w d sec 0 x c _ (by exact HT5.out) y1 y2 HX x1 x2 s1 s2).mono ?_); rintro e w6 ⟨rfl, hb6⟩)
  have HB6 := Lib.hid (bel_trans HB5.out hb6)
  have HK6 := Lib.hid (block_below HK5.out hb6)
  clear hb6 c0 c1 c2 c3 c4 c5 c6 c7 c8 c9 c10 c11 c12
  have c0 := cellB HK6.out (i := 0) rfl
  have c1 := cellB HK6.out (i := 1) rfl
  have c2 := cellB HK6.out (i := 2) rfl
  have c3 := cellB HK6.out (i := 3) rfl
  have c4 := cellB HK6.out (i := 4) rfl
  have c5 := cellB HK6.out (i := 5) rfl
  have c6 := cellB HK6.out (i := 6) rfl
  have c7 := cellB HK6.out (i := 7) rfl
  have c8 := cellB HK6.out (i := 8) rfl
  have c9 := cellB HK6.out (i := 9) rfl
  have c10 := cellB HK6.out (i := 10) rfl
  have c11 := cellB HK6.out (i := 11) rfl
  have c12 := cellB HK6.out (i := 12) rfl
  go_wp2_with fail
  go_ret2
  exact ⟨o, ho, ret2_i64 (by first | (rw [← HBS.out]; done) | (rw [← HBS.out]; omega) | omega) rfl, HB6.out⟩

set_option maxRecDepth 100000 in
set_option maxHeartbeats 4000000 in
theorem untInst21 (off save : Int) (st fm : ByteArray) (y m k w d sec : Int) (x c : Int) (v : Value) (rs : _root_.List Ru) (W : World) (hT : Tabs W) (hR : Rul v rs W) (ht : Tame rs) (hsv : ∀ o, -604799 ≤ (befS rs o).save ∧ (befS rs o).save ≤ 604799) (hq : untC true y m k w d sec 1 (baseL rs) = 0) (hx : on y m k w d = (x, c)) (o1 : -604799 ≤ off) (o2 : off ≤ 604799) :
    Calls Tryd.prog 22 #[.agg #[.int .i64 off, .int .i64 2, .int .i64 save, .string st, .string fm, .bool true, .int .i64 y, .int .i64 m, .int .i64 k, .int .i64 w, .int .i64 d, .int .i64 sec, .int .i64 1], v] W fun e w' => ∃ o, Hid (BefIs rs (untN true y m k w d sec 1 (baseL rs)) o) ∧ e = .returned (.tuple #[.int .i64 (86400 * x + sec - off), .int .i64 0]) ∧ Below W.heap.size W w' := by
  obtain ⟨-, -, -, y1, y2, -, -, x1, x2, s1, s2⟩ := unt_known hq hx
  have HX := Lib.hid hx
  have HQ := Lib.hid hq
  have hbl := baseL_bd rs
  obtain ⟨lb, hlb⟩ : ∃ lb, lb = baseL rs := ⟨_, rfl⟩
  rw [← hlb] at HQ hbl ⊢
  have HL := Lib.hid hlb
  obtain ⟨N, hN⟩ : ∃ N, untN true y m k w d sec 1 lb = N := ⟨_, rfl⟩
  have HNb := unt_nb hN HX.out x1 x2 s1 s2 hbl
  rw [hN]
  have HN := Lib.hid hN
  have HT := Lib.hid (hT.alloc (.cells #[.int .i64 off, .int .i64 2, .int .i64 save, .string st, .string fm, .bool true, .int .i64 y, .int .i64 m, .int .i64 k, .int .i64 w, .int .i64 d, .int .i64 sec, .int .i64 1] 60))
  have HB0 := Lib.hid (bel_alloc W (.cells #[.int .i64 off, .int .i64 2, .int .i64 save, .string st, .string fm, .bool true, .int .i64 y, .int .i64 m, .int .i64 k, .int .i64 w, .int .i64 d, .int .i64 sec, .int .i64 1] 60))
  have HK0 := Lib.hid (heap_alloc_new W (.cells #[.int .i64 off, .int .i64 2, .int .i64 save, .string st, .string fm, .bool true, .int .i64 y, .int .i64 m, .int .i64 k, .int .i64 w, .int .i64 d, .int .i64 sec, .int .i64 1] 60))
  have HR := Lib.hid (hR.below HB0.out)
  have HM := Lib.hid ht
  have HSV := Lib.hid hsv
  obtain ⟨hb1, hb2⟩ := hbl
  obtain ⟨hN1, hN2⟩ := HNb
  clear hq hx hN hT hR ht hsv hlb
  go_enter Tryd.func22, Tryd.ntmps22
  go_wp2_with fail
  refine (within_any off _ o1 o2).mono ?_
  intro e w' hq; obtain ⟨rfl, rfl⟩ := (fun _ _ h => h) _ _ hq; clear hq
  go_wp2_with fail
  go_region_held3 (fun w' => w'.cell? ⟨W.heap.size, 0, none⟩ = some (.int .i64 off) ∧ w'.cell? ⟨W.heap.size, 1, none⟩ = some (.int .i64 2) ∧ w'.cell? ⟨W.heap.size, 2, none⟩ = some (.int .i64 save) ∧ w'.cell? ⟨W.heap.size, 3, none⟩ = some (.string st) ∧ w'.cell? ⟨W.heap.size, 4, none⟩ = some (.string fm) ∧ w'.cell? ⟨W.heap.size, 5, none⟩ = some (.bool true) ∧ w'.cell? ⟨W.heap.size, 6, none⟩ = some (.int .i64 y) ∧ w'.cell? ⟨W.heap.size, 7, none⟩ = some (.int .i64 m) ∧ w'.cell? ⟨W.heap.size, 8, none⟩ = some (.int .i64 k) ∧ w'.cell? ⟨W.heap.size, 9, none⟩ = some (.int .i64 w) ∧ w'.cell? ⟨W.heap.size, 10, none⟩ = some (.int .i64 d) ∧ w'.cell? ⟨W.heap.size, 11, none⟩ = some (.int .i64 sec) ∧ w'.cell? ⟨W.heap.size, 12, none⟩ = some (.int .i64 1))
    (first | exact cells13 (by exact HK0.out) | exact cells13 (block_below (by exact HK0.out) hb3) | exact cells13 (block_below (block_below (by exact HK0.out) hb3) hb4))
    (first
     | (go_at_call 35; refine (untBase2 off save st fm y m k w d sec 1 v rs _ (by exact HR.out)).mono ?_; rw [← HL.out]; rintro e w3 ⟨rfl, hb3⟩)
     | (go_at_call 34; refine (untNom_any true y m k w d sec 1 lb _ (by exact Tabs.below (by exact HT.out) hb3) (by omega) (by omega)).mono ?_; intro e w4 hq; obtain ⟨rfl, hb4⟩ := NomU.to HN.out HQ.out _ _ hq; clear hq))
  have HB4 := Lib.hid (bel_trans (bel_trans (Below.drew HB0.out) hb3) hb4)
  have HK4 := Lib.hid (block_below (block_below (by exact HK0.out) hb3) hb4)
  have HT4 := Lib.hid (Tabs.below (Tabs.below (by exact HT.out) hb3) hb4)
  have HR4 := Lib.hid (Rul.below (Rul.below (by exact HR.out) hb3) hb4)
  clear hb3 hb4
  have c0 := cellB HK4.out (i := 0) rfl
  have c1 := cellB HK4.out (i := 1) rfl
  have c2 := cellB HK4.out (i := 2) rfl
  have c3 := cellB HK4.out (i := 3) rfl
  have c4 := cellB HK4.out (i := 4) rfl
  have c5 := cellB HK4.out (i := 5) rfl
  have c6 := cellB HK4.out (i := 6) rfl
  have c7 := cellB HK4.out (i := 7) rfl
  have c8 := cellB HK4.out (i := 8) rfl
  have c9 := cellB HK4.out (i := 9) rfl
  have c10 := cellB HK4.out (i := 10) rfl
  have c11 := cellB HK4.out (i := 11) rfl
  have c12 := cellB HK4.out (i := 12) rfl
  go_wp2_with fail
  ((with_reducible refine (untSave2 off save st fm y m k w d sec 1 N v rs _ (by exact HT4.out) (by exact HR4.out) HM.out (by omega) (by omega)).mono ?_); rintro e w5 ⟨o, ho, rfl, hb5⟩)
  obtain ⟨q1, q2⟩ := HSV.out o
  obtain ⟨bs, hbs⟩ : ∃ bs, bs = (befS rs o).save := ⟨_, rfl⟩
  rw [← hbs] at q1 q2 ⊢
  have HBS := Lib.hid hbs
  have HB5 := Lib.hid (bel_trans HB4.out hb5)
  have HK5 := Lib.hid (block_below HK4.out hb5)
  have HT5 := Lib.hid (HT4.out.below hb5)
  clear hb5 hbs c0 c1 c2 c3 c4 c5 c6 c7 c8 c9 c10 c11 c12
  have c0 := cellB HK5.out (i := 0) rfl
  have c1 := cellB HK5.out (i := 1) rfl
  have c2 := cellB HK5.out (i := 2) rfl
  have c3 := cellB HK5.out (i := 3) rfl
  have c4 := cellB HK5.out (i := 4) rfl
  have c5 := cellB HK5.out (i := 5) rfl
  have c6 := cellB HK5.out (i := 6) rfl
  have c7 := cellB HK5.out (i := 7) rfl
  have c8 := cellB HK5.out (i := 8) rfl
  have c9 := cellB HK5.out (i := 9) rfl
  have c10 := cellB HK5.out (i := 10) rfl
  have c11 := cellB HK5.out (i := 11) rfl
  have c12 := cellB HK5.out (i := 12) rfl
  go_wp2_with fail
  refine (within_any bs _ q1 q2).mono ?_
  intro e w' hq; obtain ⟨rfl, rfl⟩ := (fun _ _ h => h) _ _ hq; clear hq
  go_wp2_with fail
  ((with_reducible refine (untSecs_any true y m k w d sec 1 x c _ (by exact HT5.out) y1 y2 HX x1 x2 s1 s2).mono ?_); rintro e w6 ⟨rfl, hb6⟩)
  have HB6 := Lib.hid (bel_trans HB5.out hb6)
  have HK6 := Lib.hid (block_below HK5.out hb6)
  clear hb6 c0 c1 c2 c3 c4 c5 c6 c7 c8 c9 c10 c11 c12
  have c0 := cellB HK6.out (i := 0) rfl
  have c1 := cellB HK6.out (i := 1) rfl
  have c2 := cellB HK6.out (i := 2) rfl
  have c3 := cellB HK6.out (i := 3) rfl
  have c4 := cellB HK6.out (i := 4) rfl
  have c5 := cellB HK6.out (i := 5) rfl
  have c6 := cellB HK6.out (i := 6) rfl
  have c7 := cellB HK6.out (i := 7) rfl
  have c8 := cellB HK6.out (i := 8) rfl
  have c9 := cellB HK6.out (i := 9) rfl
  have c10 := cellB HK6.out (i := 10) rfl
  have c11 := cellB HK6.out (i := 11) rfl
  have c12 := cellB HK6.out (i := 12) rfl
  go_wp2_with fail
  go_ret2
  exact ⟨o, ho, ret2_i64 (by first | (rw [← HBS.out]; done) | (rw [← HBS.out]; omega) | omega) rfl, HB6.out⟩

set_option maxRecDepth 100000 in
set_option maxHeartbeats 4000000 in
theorem untInst22 (off save : Int) (st fm : ByteArray) (y m k w d sec : Int) (x c : Int) (v : Value) (rs : _root_.List Ru) (W : World) (hT : Tabs W) (hR : Rul v rs W) (ht : Tame rs) (hsv : ∀ o, -604799 ≤ (befS rs o).save ∧ (befS rs o).save ≤ 604799) (hq : untC true y m k w d sec 2 (baseL rs) = 0) (hx : on y m k w d = (x, c)) (o1 : -604799 ≤ off) (o2 : off ≤ 604799) :
    Calls Tryd.prog 22 #[.agg #[.int .i64 off, .int .i64 2, .int .i64 save, .string st, .string fm, .bool true, .int .i64 y, .int .i64 m, .int .i64 k, .int .i64 w, .int .i64 d, .int .i64 sec, .int .i64 2], v] W fun e w' => ∃ o, Hid (BefIs rs (untN true y m k w d sec 2 (baseL rs)) o) ∧ e = .returned (.tuple #[.int .i64 (86400 * x + sec), .int .i64 0]) ∧ Below W.heap.size W w' := by
  obtain ⟨-, -, -, y1, y2, -, -, x1, x2, s1, s2⟩ := unt_known hq hx
  have HX := Lib.hid hx
  have HQ := Lib.hid hq
  have hbl := baseL_bd rs
  obtain ⟨lb, hlb⟩ : ∃ lb, lb = baseL rs := ⟨_, rfl⟩
  rw [← hlb] at HQ hbl ⊢
  have HL := Lib.hid hlb
  obtain ⟨N, hN⟩ : ∃ N, untN true y m k w d sec 2 lb = N := ⟨_, rfl⟩
  have HNb := unt_nb hN HX.out x1 x2 s1 s2 hbl
  rw [hN]
  have HN := Lib.hid hN
  have HT := Lib.hid (hT.alloc (.cells #[.int .i64 off, .int .i64 2, .int .i64 save, .string st, .string fm, .bool true, .int .i64 y, .int .i64 m, .int .i64 k, .int .i64 w, .int .i64 d, .int .i64 sec, .int .i64 2] 60))
  have HB0 := Lib.hid (bel_alloc W (.cells #[.int .i64 off, .int .i64 2, .int .i64 save, .string st, .string fm, .bool true, .int .i64 y, .int .i64 m, .int .i64 k, .int .i64 w, .int .i64 d, .int .i64 sec, .int .i64 2] 60))
  have HK0 := Lib.hid (heap_alloc_new W (.cells #[.int .i64 off, .int .i64 2, .int .i64 save, .string st, .string fm, .bool true, .int .i64 y, .int .i64 m, .int .i64 k, .int .i64 w, .int .i64 d, .int .i64 sec, .int .i64 2] 60))
  have HR := Lib.hid (hR.below HB0.out)
  have HM := Lib.hid ht
  have HSV := Lib.hid hsv
  obtain ⟨hb1, hb2⟩ := hbl
  obtain ⟨hN1, hN2⟩ := HNb
  clear hq hx hN hT hR ht hsv hlb
  go_enter Tryd.func22, Tryd.ntmps22
  go_wp2_with fail
  refine (within_any off _ o1 o2).mono ?_
  intro e w' hq; obtain ⟨rfl, rfl⟩ := (fun _ _ h => h) _ _ hq; clear hq
  go_wp2_with fail
  go_region_held3 (fun w' => w'.cell? ⟨W.heap.size, 0, none⟩ = some (.int .i64 off) ∧ w'.cell? ⟨W.heap.size, 1, none⟩ = some (.int .i64 2) ∧ w'.cell? ⟨W.heap.size, 2, none⟩ = some (.int .i64 save) ∧ w'.cell? ⟨W.heap.size, 3, none⟩ = some (.string st) ∧ w'.cell? ⟨W.heap.size, 4, none⟩ = some (.string fm) ∧ w'.cell? ⟨W.heap.size, 5, none⟩ = some (.bool true) ∧ w'.cell? ⟨W.heap.size, 6, none⟩ = some (.int .i64 y) ∧ w'.cell? ⟨W.heap.size, 7, none⟩ = some (.int .i64 m) ∧ w'.cell? ⟨W.heap.size, 8, none⟩ = some (.int .i64 k) ∧ w'.cell? ⟨W.heap.size, 9, none⟩ = some (.int .i64 w) ∧ w'.cell? ⟨W.heap.size, 10, none⟩ = some (.int .i64 d) ∧ w'.cell? ⟨W.heap.size, 11, none⟩ = some (.int .i64 sec) ∧ w'.cell? ⟨W.heap.size, 12, none⟩ = some (.int .i64 2))
    (first | exact cells13 (by exact HK0.out) | exact cells13 (block_below (by exact HK0.out) hb3) | exact cells13 (block_below (block_below (by exact HK0.out) hb3) hb4))
    (first
     | (go_at_call 35; refine (untBase2 off save st fm y m k w d sec 2 v rs _ (by exact HR.out)).mono ?_; rw [← HL.out]; rintro e w3 ⟨rfl, hb3⟩)
     | (go_at_call 34; refine (untNom_any true y m k w d sec 2 lb _ (by exact Tabs.below (by exact HT.out) hb3) (by omega) (by omega)).mono ?_; intro e w4 hq; obtain ⟨rfl, hb4⟩ := NomU.to HN.out HQ.out _ _ hq; clear hq))
  have HB4 := Lib.hid (bel_trans (bel_trans (Below.drew HB0.out) hb3) hb4)
  have HK4 := Lib.hid (block_below (block_below (by exact HK0.out) hb3) hb4)
  have HT4 := Lib.hid (Tabs.below (Tabs.below (by exact HT.out) hb3) hb4)
  have HR4 := Lib.hid (Rul.below (Rul.below (by exact HR.out) hb3) hb4)
  clear hb3 hb4
  have c0 := cellB HK4.out (i := 0) rfl
  have c1 := cellB HK4.out (i := 1) rfl
  have c2 := cellB HK4.out (i := 2) rfl
  have c3 := cellB HK4.out (i := 3) rfl
  have c4 := cellB HK4.out (i := 4) rfl
  have c5 := cellB HK4.out (i := 5) rfl
  have c6 := cellB HK4.out (i := 6) rfl
  have c7 := cellB HK4.out (i := 7) rfl
  have c8 := cellB HK4.out (i := 8) rfl
  have c9 := cellB HK4.out (i := 9) rfl
  have c10 := cellB HK4.out (i := 10) rfl
  have c11 := cellB HK4.out (i := 11) rfl
  have c12 := cellB HK4.out (i := 12) rfl
  go_wp2_with fail
  ((with_reducible refine (untSave2 off save st fm y m k w d sec 2 N v rs _ (by exact HT4.out) (by exact HR4.out) HM.out (by omega) (by omega)).mono ?_); rintro e w5 ⟨o, ho, rfl, hb5⟩)
  obtain ⟨q1, q2⟩ := HSV.out o
  obtain ⟨bs, hbs⟩ : ∃ bs, bs = (befS rs o).save := ⟨_, rfl⟩
  rw [← hbs] at q1 q2 ⊢
  have HBS := Lib.hid hbs
  have HB5 := Lib.hid (bel_trans HB4.out hb5)
  have HK5 := Lib.hid (block_below HK4.out hb5)
  have HT5 := Lib.hid (HT4.out.below hb5)
  clear hb5 hbs c0 c1 c2 c3 c4 c5 c6 c7 c8 c9 c10 c11 c12
  have c0 := cellB HK5.out (i := 0) rfl
  have c1 := cellB HK5.out (i := 1) rfl
  have c2 := cellB HK5.out (i := 2) rfl
  have c3 := cellB HK5.out (i := 3) rfl
  have c4 := cellB HK5.out (i := 4) rfl
  have c5 := cellB HK5.out (i := 5) rfl
  have c6 := cellB HK5.out (i := 6) rfl
  have c7 := cellB HK5.out (i := 7) rfl
  have c8 := cellB HK5.out (i := 8) rfl
  have c9 := cellB HK5.out (i := 9) rfl
  have c10 := cellB HK5.out (i := 10) rfl
  have c11 := cellB HK5.out (i := 11) rfl
  have c12 := cellB HK5.out (i := 12) rfl
  go_wp2_with fail
  refine (within_any bs _ q1 q2).mono ?_
  intro e w' hq; obtain ⟨rfl, rfl⟩ := (fun _ _ h => h) _ _ hq; clear hq
  go_wp2_with fail
  ((with_reducible refine (untSecs_any true y m k w d sec 2 x c _ (by exact HT5.out) y1 y2 HX x1 x2 s1 s2).mono ?_); rintro e w6 ⟨rfl, hb6⟩)
  have HB6 := Lib.hid (bel_trans HB5.out hb6)
  have HK6 := Lib.hid (block_below HK5.out hb6)
  clear hb6 c0 c1 c2 c3 c4 c5 c6 c7 c8 c9 c10 c11 c12
  have c0 := cellB HK6.out (i := 0) rfl
  have c1 := cellB HK6.out (i := 1) rfl
  have c2 := cellB HK6.out (i := 2) rfl
  have c3 := cellB HK6.out (i := 3) rfl
  have c4 := cellB HK6.out (i := 4) rfl
  have c5 := cellB HK6.out (i := 5) rfl
  have c6 := cellB HK6.out (i := 6) rfl
  have c7 := cellB HK6.out (i := 7) rfl
  have c8 := cellB HK6.out (i := 8) rfl
  have c9 := cellB HK6.out (i := 9) rfl
  have c10 := cellB HK6.out (i := 10) rfl
  have c11 := cellB HK6.out (i := 11) rfl
  have c12 := cellB HK6.out (i := 12) rfl
  go_wp2_with fail
  go_ret2
  exact ⟨o, ho, ret2_i64 (by first | (rw [← HBS.out]; done) | (rw [← HBS.out]; omega) | omega) rfl, HB6.out⟩

end Go.Proofs.YtdppmeeobpbfnaaDoor
