/-
  The contracts of civil.Days, civil.date, civil.Date, civil.Weekday and civil.Year.
-/
import Derived.Test.YtdppmeeobpbfnaaDoorCivWalks
namespace Go.Proofs.YtdppmeeobpbfnaaDoor
open Go.RowKit Cv
set_option linter.unusedVariables false
set_option linter.unusedSimpArgs false

namespace Cv
/-- what Days returns: the number of a date that there is, in the range; else 0 and the code ErrRange -/
def DaysR (y m d : Int) (w : World) (e : Ending) (w' : World) : Prop :=
  (∃ n, w' = w.drewN n) ∧ (((inr y ∧ ok y m d) ∧ e = .returned (.tuple #[.int .i64 (num y m d), .int .i64 0])) ∨ (¬ (inr y ∧ ok y m d) ∧ e = .returned (.tuple #[.int .i64 0, .int .i64 3])))
theorem DaysR.yes {y m d v : Int} {w : World} (n : Nat) (h : inr y ∧ ok y m d) (hv : v = num y m d) : DaysR y m d w (.returned (.tuple #[.int .i64 v, .int .i64 0])) (w.drewN n) := by
  subst hv; exact ⟨⟨n, rfl⟩, .inl ⟨h, rfl⟩⟩
theorem DaysR.no {y m d : Int} {w : World} (n : Nat) (h : ¬ (inr y ∧ ok y m d)) : DaysR y m d w (.returned (.tuple #[.int .i64 0, .int .i64 3])) (w.drewN n) := ⟨⟨n, rfl⟩, .inr ⟨h, rfl⟩⟩
end Cv

set_option maxRecDepth 100000 in
set_option maxHeartbeats 1000000 in
theorem days_any (y m d : Int) (w : World) (hT : Tab w) (hy1 : -9223372036854775808 ≤ y) (hy2 : y ≤ 9223372036854775807) (hd1 : -9223372036854775808 ≤ d) (hd2 : d ≤ 9223372036854775807) :
    Calls Tryd.prog 16 #[.int .i64 y, .int .i64 m, .int .i64 d] w (DaysR y m d w) := by
  have HT := Lib.hid hT; clear hT
  by_cases hin : inr y
  · by_cases hd : d < 1
    · have hno : ¬ (inr y ∧ ok y m d) := fun h => by have := h.2.1; omega
      have HN := Lib.hid hno; have HI := Lib.hid hin
      clear hno hin
      go_enter Tryd.func16, Tryd.ntmps16
      go_wp2_with fail
      refine (in_any _ _).mono ?_
      intro e w' hq; obtain ⟨rfl, rfl⟩ := Yes.to_yes HI.out _ _ hq; clear hq
      go_wp2_with fail
      go_ret2
      exact DaysR.no 0 HN.out
    · have hd3 : 1 ≤ d := by omega
      have hlb := len_bd y m
      by_cases hl : len y m < d
      · have hno : ¬ (inr y ∧ ok y m d) := fun h => by have := h.2.2; omega
        have HN := Lib.hid hno; have HI := Lib.hid hin
        clear hno hin hlb
        go_enter Tryd.func16, Tryd.ntmps16
        go_wp2_with fail
        refine (in_any _ _).mono ?_
        intro e w' hq; obtain ⟨rfl, rfl⟩ := Yes.to_yes HI.out _ _ hq; clear hq
        go_wp2_with fail
        refine (len_any y m w hy1 hy2).mono ?_
        rintro e w' ⟨rfl, rfl⟩
        go_wp2_with fail
        go_ret2
        exact DaysR.no 0 HN.out
      · have hyes : inr y ∧ ok y m d := ⟨hin, hd3, by omega⟩
        have hm := hyes.2.month
        have hl2 : d ≤ len y m := by omega
        obtain ⟨hi1, hi2⟩ := hin
        obtain ⟨hm1, hm2⟩ := hm
        have hd4 : d ≤ 31 := by omega
        have HY := Lib.hid hyes
        clear hyes
        by_cases h3 : m < 3
        · have hx : fit (y - 1) := by unfold fit; omega
          have HX := Lib.hid hx
          have hnum := march_lo y m d hm1 h3
          clear hx
          have hc : m = 1 ∨ m = 2 := by omega
          rcases hc with rfl | rfl
          · have hc0 : w.cell? ⟨0, 10, none⟩ = some (.int .i64 306) := HT.out 10 (by omega)
            have HM := Lib.hid (show (y - 1) / 400 * 146097 + (y - 1) % 400 * 365 + (y - 1) % 400 / 4 - (y - 1) % 400 / 100 + 306 + d - 1 - 719468 = num y 1 d from hnum)
            clear hnum h3 hm1 hm2
            go_enter Tryd.func16, Tryd.ntmps16
            go_wp2_with fail
            refine (in_any _ _).mono ?_
            intro e w' hq; obtain ⟨rfl, rfl⟩ := Yes.to_yes HY.out.1 _ _ hq; clear hq
            go_wp2_with fail
            refine (len_any y 1 w hy1 hy2).mono ?_
            rintro e w' ⟨rfl, rfl⟩
            go_wp2_with fail
            refine (split_any (y - 1) 400 w HX.out (by decide) (by decide)).mono ?_
            rintro e w' ⟨rfl, nd, rfl⟩
            go_wp2_with fail
            go_ret2
            exact DaysR.yes nd HY.out HM.out
          · have hc0 : w.cell? ⟨0, 11, none⟩ = some (.int .i64 337) := HT.out 11 (by omega)
            have HM := Lib.hid (show (y - 1) / 400 * 146097 + (y - 1) % 400 * 365 + (y - 1) % 400 / 4 - (y - 1) % 400 / 100 + 337 + d - 1 - 719468 = num y 2 d from hnum)
            clear hnum h3 hm1 hm2
            go_enter Tryd.func16, Tryd.ntmps16
            go_wp2_with fail
            refine (in_any _ _).mono ?_
            intro e w' hq; obtain ⟨rfl, rfl⟩ := Yes.to_yes HY.out.1 _ _ hq; clear hq
            go_wp2_with fail
            refine (len_any y 2 w hy1 hy2).mono ?_
            rintro e w' ⟨rfl, rfl⟩
            go_wp2_with fail
            refine (split_any (y - 1) 400 w HX.out (by decide) (by decide)).mono ?_
            rintro e w' ⟨rfl, nd, rfl⟩
            go_wp2_with fail
            go_ret2
            exact DaysR.yes nd HY.out HM.out
        · obtain ⟨k, rfl⟩ : ∃ k : Nat, m = (k : Int) + 3 := ⟨(m - 3).toNat, by omega⟩
          have hk : k < 12 := by omega
          have hc0 := HT.out k hk
          obtain ⟨hb1, hb2⟩ := before_bd k hk
          have hnum := march_hi y (k + 3) d (by omega) hm2
          rw [show ((k : Int) + 3 - 3).toNat = k from by omega] at hnum
          have HM := Lib.hid hnum
          have HX := Lib.hid (show fit y from ⟨hy1, hy2⟩)
          clear hnum
          go_enter Tryd.func16, Tryd.ntmps16
          go_wp2_with fail
          refine (in_any _ _).mono ?_
          intro e w' hq; obtain ⟨rfl, rfl⟩ := Yes.to_yes HY.out.1 _ _ hq; clear hq
          go_wp2_with fail
          refine (len_any y (k + 3) w hy1 hy2).mono ?_
          rintro e w' ⟨rfl, rfl⟩
          go_wp2_with fail
          refine (split_any y 400 w HX.out (by decide) (by decide)).mono ?_
          rintro e w' ⟨rfl, nd, rfl⟩
          go_wp2_with fail
          go_ret2
          exact DaysR.yes nd HY.out HM.out
  · have hno : ¬ (inr y ∧ ok y m d) := fun h => hin h.1
    have HN := Lib.hid hno; have HI := Lib.hid hin
    clear hno hin
    go_enter Tryd.func16, Tryd.ntmps16
    go_wp2_with fail
    refine (in_any _ _).mono ?_
    intro e w' hq; obtain ⟨rfl, rfl⟩ := Yes.to_no HI.out _ _ hq; clear hq
    go_wp2_with fail
    go_ret2
    exact DaysR.no 0 HN.out

namespace Cv
/-- what the program's inner function date returns: the date of a day, whatever its year -/
def DateR (n : Int) (w : World) (e : Ending) (w' : World) : Prop :=
  ∃ y m d : Int, Hid (IsDate n y m d) ∧ e = .returned (.tuple #[.int .i64 y, .int .i64 m, .int .i64 d]) ∧ ∃ k, w' = w.drewN k
end Cv

set_option maxRecDepth 100000 in
set_option maxHeartbeats 1000000 in
theorem date_any (n : Int) (w : World) (hT : Tab w) (hn1 : -9223372036854775808 ≤ n) (hn2 : n ≤ 9223372036854775807) :
    Calls Tryd.prog 70 #[.int .i64 n] w (DateR n w) := by
  have HT := Lib.hid hT; clear hT
  have HN := Lib.hid (show fit n from ⟨hn1, hn2⟩)
  obtain ⟨c, hc⟩ : ∃ c, c = n / 146097 := ⟨_, rfl⟩
  obtain ⟨r, hr⟩ : ∃ r, r = n % 146097 := ⟨_, rfl⟩
  have hcr : c * 146097 + r = n ∧ 0 ≤ r ∧ r < 146097 := by omega
  have hcb : -63132000000000 ≤ c ∧ c ≤ 63132000000000 := by omega
  have hsp : ∀ W, Calls Tryd.prog 27 #[.int .i64 n, .int .i64 146097] W fun e w' => e = .returned (.tuple #[.int .i64 c, .int .i64 r]) ∧ ∃ n, w' = W.drewN n := fun W => by
    rw [hc, hr]; exact split_any n 146097 W HN.out (by decide) (by decide)
  have HS := Lib.hid hsp
  clear hsp hc hr
  obtain ⟨hcr1, hr0, hr1⟩ := hcr
  obtain ⟨hc0, hc1⟩ := hcb
  have HR1 := Lib.hid hcr1
  clear hcr1
  obtain ⟨a, ha⟩ : ∃ a, a = (r + 719468) / 146097 := ⟨_, rfl⟩
  obtain ⟨x, hx⟩ : ∃ x, x = (r + 719468) % 146097 := ⟨_, rfl⟩
  have hsp2 : ∀ W, Calls Tryd.prog 27 #[.int .i64 (r + 719468), .int .i64 146097] W fun e w' => e = .returned (.tuple #[.int .i64 a, .int .i64 x]) ∧ ∃ n, w' = W.drewN n := fun W => by
    rw [ha, hx]; exact split_any (r + 719468) 146097 W (by unfold fit; omega) (by decide) (by decide)
  have HS2 := Lib.hid hsp2
  have hax : (c + a) * 146097 + x - 719468 = n := by have := HR1.out; omega
  have hab : 0 ≤ a ∧ a ≤ 10 ∧ 0 ≤ x ∧ x < 146097 := by omega
  obtain ⟨ha0, ha1, hx0, hx1⟩ := hab
  have HX := Lib.hid hax
  clear hsp2 ha hx hax
  have hcy := cyear_ok x hx0 hx1
  obtain ⟨yr, hyr⟩ : ∃ yr, yr = cyear x := ⟨_, rfl⟩
  rw [← hyr] at hcy
  have HY := Lib.hid (show (x - x / 1460 + x / 36524 - x / 146096) / 365 = yr from hyr.symm)
  clear hyr
  obtain ⟨hy0, hy1, hz0, hz1⟩ := hcy
  obtain ⟨z, hz⟩ : ∃ z, z = x - (yr * 365 + yr / 4 - yr / 100) := ⟨_, rfl⟩
  rw [← hz] at hz0 hz1
  have hz2 : z < 367 := by split at hz1 <;> omega
  have HZ1 := Lib.hid hz1
  have HZ := Lib.hid hz
  clear hz1 hz
  go_enter Tryd.func70, Tryd.ntmps70
  go_wp2_with fail
  refine (HS.out _).mono ?_
  rintro e w' ⟨rfl, n1, rfl⟩
  go_wp2_with fail
  refine (HS2.out _).mono ?_
  rintro e w' ⟨rfl, n2, rfl⟩
  go_upto_region 7 with fail
  rw [HY.out]
  go_upto_region 8 with fail
  rw [← HZ.out]
  go_wp2_with fail
  go_loop [10] (fun m => ∃ k : Nat, k ≤ 11 ∧ m = .int .i64 k ∧ Hid (k < 11 → z < before (k + 1))) (fun m => (intOf m).toNat)
  case atStart => exact ⟨11, by omega, rfl, fun h => absurd h (by omega)⟩
  case round =>
    obtain ⟨k, hk, rfl, hb⟩ := hrel
    have hck := HT.out k (by omega)
    obtain ⟨hb1, hb2⟩ := before_bd k (by omega)
    have hk0 : (0 : Int) ≤ k := by omega
    have hk1 : (k : Int) < 12 := by omega
    by_cases hzk : z < before k
    · have hk2 : 1 ≤ k := by
        rcases Nat.eq_zero_or_pos k with e | e
        · subst e; have : before 0 = 0 := rfl; omega
        · exact e
      obtain ⟨j, rfl⟩ : ∃ j, k = j + 1 := ⟨k - 1, by omega⟩
      have HZK := Lib.hid hzk
      go_wp2_with fail
      go_round
      case rel => exact ⟨j, by omega, by go_num, fun _ => HZK.out⟩
      case measure => simp [intOf]
    · by_cases h10 : 10 ≤ k
      · have hd := date_lo (c + a) yr z x n k HX.out hy0 hy1 HZ.out h10 (by omega) (by omega) hb.out HZ1.out
        have HD := Lib.hid hd
        clear hd
        go_wp2_with fail
        go_quiet (fail)
        go_wp2_with fail
        go_ret3
        exact ⟨_, _, _, HD.out, rfl, _, rfl⟩
      · have hd := date_hi (c + a) yr z x n k HX.out hy0 hy1 HZ.out (by omega) (by omega) (hb.out (by omega))
        have HD := Lib.hid hd
        clear hd
        go_wp2_with fail
        go_quiet (fail)
        go_wp2_with fail
        go_ret3
        exact ⟨_, _, _, HD.out, rfl, _, rfl⟩

namespace Cv
theorem results_tmp4 {fn : Func} {t u v x : Tmp} (h : fn.results = #[.tmp t, .tmp u, .tmp v, .tmp x]) (tmps : Array Value) (P : Program) (w : World) :
    (results fn tmps).run P w = .ok (.tuple #[tmps.getD t undef, tmps.getD u undef, tmps.getD v undef, tmps.getD x undef]) w := by simp [results, h]
/-- what Date returns: the date of a day, if its year is in the range; else zeros and the code ErrRange -/
def DateE (n : Int) (w : World) (e : Ending) (w' : World) : Prop :=
  ∃ y m d : Int, Hid (IsDate n y m d) ∧ ((Hid (inr y) ∧ e = .returned (.tuple #[.int .i64 y, .int .i64 m, .int .i64 d, .int .i64 0])) ∨ (Hid (¬ inr y) ∧ e = .returned (.tuple #[.int .i64 0, .int .i64 0, .int .i64 0, .int .i64 3]))) ∧ ∃ k, w' = w.drewN k
end Cv

set_option maxRecDepth 100000 in
set_option maxHeartbeats 1000000 in
theorem weekday_any (n : Int) (w : World) (hn1 : -9223372036854775808 ≤ n) (hn2 : n ≤ 9223372036854775807) :
    Calls Tryd.prog 101 #[.int .i64 n] w fun e w' => e = .returned (.int .i64 ((n + 4) % 7)) ∧ ∃ k, w' = w.drewN k := by
  by_cases h0 : 0 ≤ n
  · have he : (n % 7 + 4) % 7 = (n + 4) % 7 := by omega
    have HE := Lib.hid he
    clear he
    go_enter Tryd.func101, Tryd.ntmps101
    go_wp2_with fail
    refine (split_any (n % 7 + 4) 7 w (by unfold fit; omega) (by decide) (by decide)).mono ?_
    rintro e w' ⟨rfl, k, rfl⟩
    go_wp2_with fail
    go_ret
    exact ⟨rfl, k, rfl⟩
  · have ht := (tdm_neg n 7 (by omega)).2
    have hb : -7 < n.tmod 7 ∧ n.tmod 7 ≤ 0 := by rw [ht]; omega
    have he : (n.tmod 7 + 4) % 7 = (n + 4) % 7 := by rw [ht]; omega
    obtain ⟨hb1, hb2⟩ := hb
    have HE := Lib.hid he
    have HF := Lib.hid (show fit (n.tmod 7 + 4) by unfold fit; omega)
    clear he ht
    go_enter Tryd.func101, Tryd.ntmps101
    go_wp2_with fail
    refine (split_any (n.tmod 7 + 4) 7 w HF.out (by decide) (by decide)).mono ?_
    rintro e w' ⟨rfl, k, rfl⟩
    go_wp2_with fail
    go_ret
    first | exact ⟨rfl, k, rfl⟩ | (rw [HE.out]; exact ⟨rfl, k, rfl⟩)

namespace Cv
/-- a year, led back into the range -/
def clamp (y : Int) : Int := if y < -2000000000 then -2000000000 else if 2000000000 < y then 2000000000 else y
def YearR (t : Int) (w : World) (e : Ending) (w' : World) : Prop := ∃ y m d : Int, Hid (IsDate (t / 86400) y m d) ∧ e = .returned (.int .i64 (clamp y)) ∧ ∃ k, w' = w.drewN k
end Cv

set_option maxRecDepth 100000 in
set_option maxHeartbeats 1000000 in
theorem year_any (t : Int) (w : World) (hT : Tab w) (hn1 : -9223372036854775808 ≤ t) (hn2 : t ≤ 9223372036854775807) :
    Calls Tryd.prog 60 #[.int .i64 t] w (YearR t w) := by
  have HT := Lib.hid hT; clear hT
  have HF := Lib.hid (show fit t from ⟨hn1, hn2⟩)
  go_enter Tryd.func60, Tryd.ntmps60
  go_wp2_with fail
  refine (split_any t 86400 w HF.out (by decide) (by decide)).mono ?_
  rintro e w' ⟨rfl, k, rfl⟩
  go_wp2_with fail
  refine (date_any (t / 86400) _ (HT.out.drewN k) (by omega) (by omega)).mono ?_
  rintro e w' ⟨y, m, d, hd, rfl, k2, rfl⟩
  have hc : (y < -2000000000 ∧ clamp y = -2000000000) ∨ (2000000000 < y ∧ clamp y = 2000000000) ∨ (-2000000000 ≤ y ∧ y ≤ 2000000000 ∧ clamp y = y) := by unfold clamp; split <;> (try split) <;> omega
  rcases hc with ⟨h1, h3⟩ | ⟨h1, h3⟩ | ⟨h1, h2, h3⟩
  all_goals
    have H3 := Lib.hid h3
    clear h3
    go_wp2_with fail
    go_ret
    exact ⟨y, m, d, hd, by rw [H3.out]; rfl, _, rfl⟩
end Go.Proofs.YtdppmeeobpbfnaaDoor
