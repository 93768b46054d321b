/-
  Plain arithmetic of the proleptic Gregorian calendar: days of dates, dates of days, and that each leads back to the other. No program in sight.
-/
import Derived.PlainAid
namespace Go.Proofs.YtdppmeeobpbfnaaDoor.Cv

/-- one more day in the year, or none -/
def lp (y : Int) : Int := if y % 4 = 0 ∧ (y % 100 ≠ 0 ∨ y % 400 = 0) then 1 else 0
theorem lp_cases (y : Int) : lp y = 0 ∨ lp y = 1 := by unfold lp; split <;> simp
theorem lp_bd (y : Int) : 0 ≤ lp y ∧ lp y ≤ 1 := by rcases lp_cases y with h | h <;> omega

/-- days of a month -/
def len (y m : Int) : Int :=
  if m < 1 ∨ 12 < m then 0 else if m = 2 then 28 + lp y else if m = 4 ∨ m = 6 ∨ m = 9 ∨ m = 11 then 30 else 31
theorem len_bd (y m : Int) : 0 ≤ len y m ∧ len y m ≤ 31 := by
  have := lp_bd y
  unfold len; split
  · omega
  · split
    · omega
    · split <;> omega
theorem len_in (y m : Int) (h1 : 1 ≤ m) (h2 : m ≤ 12) : 28 ≤ len y m := by
  have := lp_bd y
  unfold len; rw [if_neg (by omega)]; split
  · omega
  · split <;> omega
theorem len_out (y m : Int) (h : m < 1 ∨ 12 < m) : len y m = 0 := by unfold len; rw [if_pos h]

/-- January 1 of a year -/
def fst (y : Int) : Int := 365 * (y - 1) + (y - 1) / 4 - (y - 1) / 100 + (y - 1) / 400 - 719162
theorem fst_succ (y : Int) : fst (y + 1) = fst y + 365 + lp y := by
  unfold fst lp; split <;> omega
theorem fst_lt (y z : Int) (h : y < z) : fst y + 365 + lp y ≤ fst z := by
  rw [← fst_succ]; unfold fst; omega
theorem fst_mono (y z : Int) (h : y ≤ z) : fst y ≤ fst z := by
  unfold fst; omega

/-- the days in front of a month -/
def cum (y m : Int) : Int :=
  if m ≤ 1 then 0 else if m = 2 then 31 else lp y +
  (if m = 3 then 59 else if m = 4 then 90 else if m = 5 then 120 else if m = 6 then 151 else if m = 7 then 181 else if m = 8 then 212 else
   if m = 9 then 243 else if m = 10 then 273 else if m = 11 then 304 else if m = 12 then 334 else 365)

theorem month_cases (m : Int) (h1 : 1 ≤ m) (h2 : m ≤ 12) : m = 1 ∨ m = 2 ∨ m = 3 ∨ m = 4 ∨ m = 5 ∨ m = 6 ∨ m = 7 ∨ m = 8 ∨ m = 9 ∨ m = 10 ∨ m = 11 ∨ m = 12 := by omega
theorem cum_succ (y m : Int) (h1 : 1 ≤ m) (h2 : m ≤ 12) : cum y (m + 1) = cum y m + len y m := by
  rcases month_cases m h1 h2 with h | h | h | h | h | h | h | h | h | h | h | h <;> subst h <;> simp [cum, len] <;> omega
theorem cum_one (y : Int) : cum y 1 = 0 := by simp [cum]
theorem cum_13 (y : Int) : cum y 13 = 365 + lp y := by simp [cum]; omega
theorem cum_mono (y m n : Int) (h1 : 1 ≤ m) (h2 : m < n) (h3 : n ≤ 13) : cum y m + len y m ≤ cum y n := by
  have hl := lp_bd y
  rcases month_cases m h1 (by omega) with h | h | h | h | h | h | h | h | h | h | h | h <;> subst h <;>
    (have hn : n = 2 ∨ n = 3 ∨ n = 4 ∨ n = 5 ∨ n = 6 ∨ n = 7 ∨ n = 8 ∨ n = 9 ∨ n = 10 ∨ n = 11 ∨ n = 12 ∨ n = 13 := by omega) <;>
    (rcases hn with h | h | h | h | h | h | h | h | h | h | h | h <;> subst h <;> first | (exfalso; omega) | (simp [cum, len]; try omega))
theorem cum_bd (y m : Int) (h1 : 1 ≤ m) (h2 : m ≤ 12) : 0 ≤ cum y m ∧ cum y m + len y m ≤ 365 + lp y := by
  have h := cum_mono y m 13 h1 (by omega) (by omega)
  rw [cum_13] at h
  have hl := lp_bd y
  refine ⟨?_, h⟩
  rcases month_cases m h1 h2 with h | h | h | h | h | h | h | h | h | h | h | h <;> subst h <;> simp [cum] <;> omega

/-- the number of a date -/
def num (y m d : Int) : Int := fst y + cum y m + d - 1

/-- a date that there is -/
def ok (y m d : Int) : Prop := 1 ≤ d ∧ d ≤ len y m
theorem ok.month {y m d : Int} (h : ok y m d) : 1 ≤ m ∧ m ≤ 12 := by
  by_cases hm : m < 1 ∨ 12 < m
  · have := len_out y m hm; unfold ok at h; omega
  · omega
theorem num_bd {y m d : Int} (h : ok y m d) : fst y ≤ num y m d ∧ num y m d < fst (y + 1) := by
  have hm := h.month
  have hc := cum_bd y m hm.1 hm.2
  rw [fst_succ]; unfold num; unfold ok at h; omega
/-- later dates have greater numbers -/
theorem num_lt {y m d z n c : Int} (h : ok y m d) (k : ok z n c) (hl : y < z ∨ (y = z ∧ (m < n ∨ (m = n ∧ d < c)))) : num y m d < num z n c := by
  have hm := h.month
  have hn := k.month
  rcases hl with hl | ⟨rfl, hl | ⟨rfl, hl⟩⟩
  · have h1 := num_bd h
    have h2 := num_bd k
    have h3 := fst_mono (y + 1) z (by omega)
    omega
  · have h1 := cum_mono y m n hm.1 hl (by omega)
    unfold num; unfold ok at h k; omega
  · unfold num; omega
theorem num_inj {y m d z n c : Int} (h : ok y m d) (k : ok z n c) (e : num y m d = num z n c) : y = z ∧ m = n ∧ d = c := by
  by_cases h1 : y < z ∨ (y = z ∧ (m < n ∨ (m = n ∧ d < c)))
  · have := num_lt h k h1; omega
  · by_cases h2 : z < y ∨ (z = y ∧ (n < m ∨ (n = m ∧ c < d)))
    · have := num_lt k h h2; omega
    · omega

/-! the calendar that begins in March, as the program counts -/
/-- the days in front of a month, the first of which is March -/
def before (i : Nat) : Int := ([0, 31, 61, 92, 122, 153, 184, 214, 245, 275, 306, 337] : List Int).getD i 0
/-- from March on -/
theorem march_hi (y m d : Int) (h1 : 3 ≤ m) (h2 : m ≤ 12) :
    y / 400 * 146097 + y % 400 * 365 + y % 400 / 4 - y % 400 / 100 + before (m - 3).toNat + d - 1 - 719468 = num y m d := by
  unfold num fst
  rcases month_cases m (by omega) h2 with h | h | h | h | h | h | h | h | h | h | h | h <;> subst h <;>
    first | (exfalso; omega) | (simp [before, cum, lp]; split <;> omega)
theorem march_lo (y m d : Int) (h1 : 1 ≤ m) (h2 : m < 3) :
    (y - 1) / 400 * 146097 + (y - 1) % 400 * 365 + (y - 1) % 400 / 4 - (y - 1) % 400 / 100 + before (m + 12 - 3).toNat + d - 1 - 719468 = num y m d := by
  unfold num fst
  have h : m = 1 ∨ m = 2 := by omega
  rcases h with h | h <;> subst h <;> simp [before, cum] <;> omega

/-- the year, of a cycle, of a day of the cycle -/
def cyear (r : Int) : Int := (r - r / 1460 + r / 36524 - r / 146096) / 365
theorem cyear_ok (r : Int) (h0 : 0 ≤ r) (h1 : r < 146097) :
    0 ≤ cyear r ∧ cyear r < 400 ∧ 0 ≤ r - (cyear r * 365 + cyear r / 4 - cyear r / 100) ∧
    r - (cyear r * 365 + cyear r / 4 - cyear r / 100) < 365 + (if (cyear r + 1) % 4 = 0 ∧ ((cyear r + 1) % 100 ≠ 0 ∨ (cyear r + 1) % 400 = 0) then 1 else 0) := by
  unfold cyear
  obtain ⟨t, ht⟩ : ∃ t, t = r / 1460 := ⟨_, rfl⟩
  obtain ⟨q, hq⟩ : ∃ q, q = r / 36524 := ⟨_, rfl⟩
  obtain ⟨p, hp⟩ : ∃ p, p = r / 146096 := ⟨_, rfl⟩
  rw [← ht, ← hq, ← hp]
  obtain ⟨y, hy⟩ : ∃ y, y = (r - t + q - p) / 365 := ⟨_, rfl⟩
  rw [← hy]
  have hqc : (q = 0 ∧ p = 0 ∧ 0 ≤ r ∧ r < 36524) ∨ (q = 1 ∧ p = 0 ∧ 36524 ≤ r ∧ r < 73048) ∨ (q = 2 ∧ p = 0 ∧ 73048 ≤ r ∧ r < 109572) ∨ (q = 3 ∧ p = 0 ∧ 109572 ≤ r ∧ r < 146096) ∨ (q = 4 ∧ p = 1 ∧ r = 146096) := by omega
  have htc : 1460 * t ≤ r ∧ r < 1460 * t + 1460 := by omega
  have hyc : y = 4 * t - 1 ∨ y = 4 * t ∨ y = 4 * t + 1 ∨ y = 4 * t + 2 ∨ y = 4 * t + 3 := by omega
  have hy2 : 365 * y ≤ r - t + q - p ∧ r - t + q - p < 365 * y + 365 := by omega
  clear ht hq hp hy
  rcases hqc with ⟨rfl, rfl, a, b⟩ | ⟨rfl, rfl, a, b⟩ | ⟨rfl, rfl, a, b⟩ | ⟨rfl, rfl, a, b⟩ | ⟨rfl, rfl, a⟩ <;> rcases hyc with rfl | rfl | rfl | rfl | rfl <;>
    (refine ⟨by omega, by omega, by omega, ?_⟩; split <;> omega)

/-- the date of a day, out of what the program reckons -/
theorem before_gap (k : Nat) (hk : k < 11) : before k < before (k + 1) ∧ before (k + 1) - before k ≤ 31 := by
  match k, hk with
  | 0, _ | 1, _ | 2, _ | 3, _ | 4, _ | 5, _ | 6, _ | 7, _ | 8, _ | 9, _ | 10, _ => decide
theorem before_bd (k : Nat) (hk : k < 12) : 0 ≤ before k ∧ before k ≤ 337 := by
  match k, hk with
  | 0, _ | 1, _ | 2, _ | 3, _ | 4, _ | 5, _ | 6, _ | 7, _ | 8, _ | 9, _ | 10, _ | 11, _ => decide
theorem date_hi (C yr z x n : Int) (k : Nat) (hx : C * 146097 + x - 719468 = n) (hy0 : 0 ≤ yr) (hy1 : yr < 400) (hz : z = x - (yr * 365 + yr / 4 - yr / 100)) (hk : k < 10) (h1 : before k ≤ z) (h2 : z < before (k + 1)) :
    ok (C * 400 + yr) (k + 3) (z - before k + 1) ∧ num (C * 400 + yr) (k + 3) (z - before k + 1) = n := by
  constructor
  · unfold ok len
    match k, hk with
    | 0, _ | 1, _ | 2, _ | 3, _ | 4, _ | 5, _ | 6, _ | 7, _ | 8, _ | 9, _ => simp [before] at h1 h2 ⊢; omega
  · have := march_hi (C * 400 + yr) (k + 3) (z - before k + 1) (by omega) (by omega)
    rw [← this]
    have e1 : (C * 400 + yr) / 400 = C := by omega
    have e2 : (C * 400 + yr) % 400 = yr := by omega
    have e3 : ((k : Int) + 3 - 3).toNat = k := by omega
    rw [e1, e2, e3]; omega
theorem date_lo (C yr z x n : Int) (k : Nat) (hx : C * 146097 + x - 719468 = n) (hy0 : 0 ≤ yr) (hy1 : yr < 400) (hz : z = x - (yr * 365 + yr / 4 - yr / 100)) (hk0 : 10 ≤ k) (hk : k < 12) (h1 : before k ≤ z)
    (h2 : k < 11 → z < before (k + 1)) (h3 : z < 365 + (if (yr + 1) % 4 = 0 ∧ ((yr + 1) % 100 ≠ 0 ∨ (yr + 1) % 400 = 0) then 1 else 0)) :
    ok (C * 400 + yr + 1) (k - 9) (z - before k + 1) ∧ num (C * 400 + yr + 1) (k - 9) (z - before k + 1) = n := by
  constructor
  · unfold ok len lp
    have hc : k = 10 ∨ k = 11 := by omega
    rcases hc with rfl | rfl
    · have := h2 (by omega)
      simp [before] at h1 this ⊢; omega
    · simp [before] at h1 ⊢
      by_cases hl : (yr + 1) % 4 = 0 ∧ ((yr + 1) % 100 ≠ 0 ∨ (yr + 1) % 400 = 0)
      · rw [if_pos hl] at h3
        rw [if_pos (by omega)]; omega
      · rw [if_neg hl] at h3
        rw [if_neg (by omega)]; omega
  · have := march_lo (C * 400 + yr + 1) (k - 9) (z - before k + 1) (by omega) (by omega)
    rw [← this]
    have e1 : (C * 400 + yr + 1 - 1) / 400 = C := by omega
    have e2 : (C * 400 + yr + 1 - 1) % 400 = yr := by omega
    have e3 : ((k : Int) - 9 + 12 - 3).toNat = k := by omega
    rw [e1, e2, e3]; omega
/-- the date of a day -/
def IsDate (n y m d : Int) : Prop := ok y m d ∧ num y m d = n
theorem IsDate.uniq {n y m d z k c : Int} (h : IsDate n y m d) (h' : IsDate n z k c) : y = z ∧ m = k ∧ d = c := num_inj h.1 h'.1 (h.2.trans h'.2.symm)
theorem IsDate.bd {n y m d : Int} (h : IsDate n y m d) : fst y ≤ n ∧ n < fst (y + 1) ∧ 1 ≤ m ∧ m ≤ 12 ∧ 1 ≤ d ∧ d ≤ 31 := by
  have h1 := num_bd h.1
  have h2 := h.1.month
  have h3 := len_bd y m
  have h4 := h.1
  have h5 := h.2
  unfold ok at h4
  omega
end Go.Proofs.YtdppmeeobpbfnaaDoor.Cv
