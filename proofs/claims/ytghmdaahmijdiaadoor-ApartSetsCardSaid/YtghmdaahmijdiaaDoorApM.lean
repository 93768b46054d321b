/-
  Chapter 18 in plain words: which events are close to one before them, which numbers are far from all events. No program in sight.
-/
import Derived.Test.YtghmdaahmijdiaaDoorEvRefM
import Derived.Test.YtghmdaahmijdiaaDoorEvIn
namespace Go.Proofs.YtghmdaahmijdiaaDoor.Cv
open Go.RowKit
set_option linter.unusedVariables false
set_option linter.unusedSimpArgs false

/-- an event of the years that are looked at -/
def IsX (rs : _root_.List Ru) (e : Ev) : Prop := IsEv rs e ∧ 1850 ≤ e.year ∧ e.year ≤ 2550
/-- close to one that comes before it -/
def Close (rs : _root_.List Ru) (e : Ev) : Prop := IsX rs e ∧ ∃ d, IsX rs d ∧ d.lt e ∧ e.nom - d.nom < 259200
theorem MinOf.uniq {P : Ev → Prop} {a b : Option Ev} (h : MinOf P a) (k : MinOf P b) : a = b := by
  cases a with
  | none =>
    cases b with
    | none => rfl
    | some y => exact (h y k.1).elim
  | some x =>
    cases b with
    | none => exact (k x h.1).elim
    | some y =>
      rcases Ev.lt_total x y with h3 | h3 | h3
      · exact (k.2 x h.1 h3).elim
      · rw [h3]
      · exact (h.2 y k.1 h3).elim
theorem pw_get {L : _root_.List Ev} (h : L.Pairwise Ev.lt) {p q : Nat} {a b : Ev} (hp : L[p]? = some a) (hq : L[q]? = some b) (hl : p < q) : a.lt b := by
  obtain ⟨hp1, rfl⟩ := _root_.List.getElem?_eq_some_iff.1 hp
  obtain ⟨hq1, rfl⟩ := _root_.List.getElem?_eq_some_iff.1 hq
  exact _root_.List.pairwise_iff_getElem.1 h p q hp1 hq1 hl
theorem lt_nom {a b : Ev} (h : a.lt b) : a.nom ≤ b.nom := by unfold Ev.lt at h; omega
theorem gap_all {L : _root_.List Ev} (h : L.Pairwise Ev.lt) {k : Nat} (hn : ∀ (i : Nat) (a b : Ev), i < k → L[i]? = some a → L[i + 1]? = some b → 259200 ≤ b.nom - a.nom) {p q : Nat} {a b : Ev} (hp : L[p]? = some a) (hq : L[q]? = some b) (hl : p < q) (hqk : q ≤ k) : 259200 ≤ b.nom - a.nom := by
  obtain ⟨j, rfl⟩ : ∃ j, q = j + 1 := ⟨q - 1, by omega⟩
  have hq1 : j + 1 < L.length := (_root_.List.getElem?_eq_some_iff.1 hq).1
  obtain ⟨c, hc⟩ : ∃ c, L[j]? = some c := ⟨_, _root_.List.getElem?_eq_getElem (by omega)⟩
  have h1 := hn j c b (by omega) hc hq
  rcases Nat.lt_or_ge p j with h2 | h2
  · have := lt_nom (pw_get h hp hc h2); omega
  · obtain rfl : p = j := by omega
    rw [hp] at hc
    cases hc
    exact h1
theorem close_at {rs : _root_.List Ru} {L : _root_.List Ev} (h : InIs rs 1850 2550 L) {e : Ev} (hc : Close rs e) : ∃ (p q : Nat) (d : Ev), p < q ∧ L[p]? = some d ∧ L[q]? = some e ∧ e.nom - d.nom < 259200 := by
  obtain ⟨he, d, hd, hl, hn⟩ := hc
  obtain ⟨q, hq⟩ := _root_.List.mem_iff_getElem?.1 ((h.2 e).2 he)
  obtain ⟨p, hp⟩ := _root_.List.mem_iff_getElem?.1 ((h.2 d).2 hd)
  refine ⟨p, q, d, ?_, hp, hq, hn⟩
  rcases Nat.lt_trichotomy p q with h1 | h1 | h1
  · exact h1
  · subst h1
    rw [hp] at hq
    cases hq
    exact (Ev.lt_irrefl _ hl).elim
  · exact (Ev.lt_irrefl _ (Ev.lt_trans hl (pw_get h.1 hq hp h1))).elim
theorem close_none {rs : _root_.List Ru} {L : _root_.List Ev} (h : InIs rs 1850 2550 L) (hn : ∀ (i : Nat) (a b : Ev), L[i]? = some a → L[i + 1]? = some b → 259200 ≤ b.nom - a.nom) : MinOf (Close rs) none := by
  intro e he
  obtain ⟨p, q, d, hpq, hp, hq, hd⟩ := close_at h he
  have := gap_all h.1 (k := q) (fun i a b _ => hn i a b) hp hq hpq (Nat.le_refl _)
  omega
theorem close_some {rs : _root_.List Ru} {L : _root_.List Ev} {k : Nat} {a b : Ev} (h : InIs rs 1850 2550 L) (hn : ∀ (i : Nat) (a b : Ev), i < k → L[i]? = some a → L[i + 1]? = some b → 259200 ≤ b.nom - a.nom)
    (ha : L[k]? = some a) (hb : L[k + 1]? = some b) (hc : b.nom - a.nom < 259200) : MinOf (Close rs) (some b) := by
  refine ⟨⟨(h.2 b).1 (_root_.List.mem_of_getElem? hb), a, (h.2 a).1 (_root_.List.mem_of_getElem? ha), pw_get h.1 ha hb (by omega), hc⟩, fun e he hlt => ?_⟩
  obtain ⟨p, q, d, hpq, hp, hq, hd⟩ := close_at h he
  have hqk : q < k + 1 := by
    rcases Nat.lt_trichotomy q (k + 1) with h1 | h1 | h1
    · exact h1
    · subst h1
      rw [hq] at hb
      cases hb
      exact (Ev.lt_irrefl _ hlt).elim
    · exact (Ev.lt_irrefl _ (Ev.lt_trans hlt (pw_get h.1 hb hq h1))).elim
  have := gap_all h.1 hn hp hq hpq (by omega)
  omega
theorem nom_year {rs : _root_.List Ru} {e : Ev} (h : IsEv rs e) : 86400 * (fst e.year - 14) < e.nom ∧ e.nom < 86400 * (fst (e.year + 1) + 13) ∧ -2000000000 ≤ e.year ∧ e.year ≤ 2000000000 := by
  obtain ⟨r, hr, hh, hn⟩ := h
  have hb := baseL_bd rs
  have := nom_bd hb.1 hb.2 hh
  rw [← hn] at this
  exact ⟨this.1, this.2, hh.year⟩
/-- what is close has a neighbouring year -/
theorem close_year {rs : _root_.List Ru} {e d : Ev} (he : IsEv rs e) (hd : IsEv rs d) (hl : d.lt e) (hc : e.nom - d.nom < 259200) : e.year - 1 ≤ d.year ∧ d.year ≤ e.year + 1 := by
  have h1 := nom_year he
  have h2 := nom_year hd
  have h3 := lt_nom hl
  constructor
  · rcases Int.lt_or_le d.year (e.year - 1) with h | h
    · have := fst_far (d.year + 1) e.year (by omega)
      omega
    · exact h
  · rcases Int.lt_or_le (e.year + 1) d.year with h | h
    · have := fst_far (e.year + 1) d.year (by omega)
      omega
    · exact h

/-- a nominal time, as Far takes it -/
def cl (N : Int) : Int := max (-1152921504606846976) (min N 1152921504606846976)
def FarIs (rs : _root_.List Ru) (N : Int) : Prop := ∀ e, IsEv rs e → ¬ (e.nom < cl N + 259200 ∧ cl N - 259200 < e.nom)
theorem far_none {rs : _root_.List Ru} {N : Int} (h : AftIs rs (cl N - 259200) none) : FarIs rs N := fun e he hh => h e he hh.2
theorem far_some {rs : _root_.List Ru} {N : Int} {x : Ev} (h : AftIs rs (cl N - 259200) (some x)) : FarIs rs N ↔ 259200 ≤ x.nom - cl N := by
  constructor
  · intro hf
    rcases Int.lt_or_le (x.nom - cl N) 259200 with h1 | h1
    · exact (hf x h.1 ⟨by omega, h.2.1⟩).elim
    · exact h1
  · rintro h1 e he ⟨h2, h3⟩
    have h4 := h.2.2 e he h3
    unfold Ev.lt at h4
    omega
theorem far_big {rs : _root_.List Ru} {N : Int} (h : 1152921504606846976 < N ∨ N < -1152921504606846976) : FarIs rs N := by
  rintro e he ⟨h1, h2⟩
  obtain ⟨h3, h4, h5, h6⟩ := nom_year he
  have h7 := fst_far (e.year + 1) 2000000001 (by omega)
  have h8 := fst_far (-2000000000) e.year h5
  have h9 : fst 2000000001 ≤ 800000000000 := by decide
  have h10 : -800000000000 ≤ fst (-2000000000) := by decide
  have h11 : cl N = 1152921504606846976 ∨ cl N = -1152921504606846976 := by unfold cl; omega
  omega
theorem cl_in {N : Int} (h1 : -1152921504606846976 ≤ N) (h2 : N ≤ 1152921504606846976) : cl N = N := by unfold cl; omega
/-- what is near a number has the number's year, or a neighbouring one -/
theorem far_near {rs : _root_.List Ru} {N q : Int} (hy : YearOf N q) (h1 : -1152921504606846976 ≤ N) (h2 : N ≤ 1152921504606846976) :
    FarIs rs N ↔ ∀ e, IsEv rs e → q - 1 ≤ e.year → e.year ≤ q + 1 → ¬ (e.nom < N + 259200 ∧ N - 259200 < e.nom) := by
  unfold FarIs
  rw [cl_in h1 h2]
  constructor
  · exact fun h e he _ _ => h e he
  · rintro h e he ⟨h3, h4⟩
    have h5 := nom_year he
    refine h e he ?_ ?_ ⟨h3, h4⟩
    · rcases Int.lt_or_le e.year (q - 1) with h6 | h6
      · have := hy.lo
        have := hy.above (by omega)
        have := fst_far (e.year + 1) q (by omega)
        omega
      · exact h6
    · rcases Int.lt_or_le (q + 1) e.year with h6 | h6
      · have := hy.hi
        have := hy.below (by omega)
        have := fst_far (q + 1) e.year (by omega)
        omega
      · exact h6

/-! two rules that have events in the same years, near the same day -/
structure Duo (r0 r1 : Ru) (lo hi : Int) (n0 n1 : Int → Int) : Prop where
  h0 : ∀ y, Has r0 y ↔ (lo ≤ y ∧ y ≤ hi)
  h1 : ∀ y, Has r1 y ↔ (lo ≤ y ∧ y ≤ hi)
  e0 : ∀ y, lo ≤ y → y ≤ hi → nomOf (baseL [r0, r1]) r0 y = n0 y
  e1 : ∀ y, lo ≤ y → y ≤ hi → nomOf (baseL [r0, r1]) r1 y = n1 y
  b0 : ∀ y, 86400 * (fst y + 50) ≤ n0 y ∧ n0 y ≤ 86400 * (fst y + 130)
  b1 : ∀ y, 86400 * (fst y + 50) ≤ n1 y ∧ n1 y ≤ 86400 * (fst y + 130)
theorem duo_at {r0 r1 r : Ru} {i : Int} (h : ruleAt [r0, r1] i = some r) : (i = 0 ∧ r = r0) ∨ (i = 1 ∧ r = r1) := by
  unfold ruleAt at h
  split at h
  · rename_i hi
    have hk : i.toNat = 0 ∨ i.toNat = 1 ∨ 2 ≤ i.toNat := by omega
    rcases hk with hk | hk | hk
    · rw [hk] at h; simp at h; exact .inl ⟨by omega, h.symm⟩
    · rw [hk] at h; simp at h; exact .inr ⟨by omega, h.symm⟩
    · rw [_root_.List.getElem?_eq_none (by simpa using hk)] at h; cases h
  · cases h
section
variable {r0 r1 : Ru} {lo hi : Int} {n0 n1 : Int → Int}
theorem Duo.ev (h : Duo r0 r1 lo hi n0 n1) (e : Ev) : IsEv [r0, r1] e ↔ (lo ≤ e.year ∧ e.year ≤ hi ∧ ((e.rule = 0 ∧ e.nom = n0 e.year) ∨ (e.rule = 1 ∧ e.nom = n1 e.year))) := by
  constructor
  · rintro ⟨r, hr, hh, hn⟩
    rcases duo_at hr with ⟨hi, rfl⟩ | ⟨hi, rfl⟩
    · obtain ⟨a, b⟩ := (h.h0 _).1 hh
      exact ⟨a, b, .inl ⟨hi, by rw [hn, h.e0 _ a b]⟩⟩
    · obtain ⟨a, b⟩ := (h.h1 _).1 hh
      exact ⟨a, b, .inr ⟨hi, by rw [hn, h.e1 _ a b]⟩⟩
  · rintro ⟨a, b, ⟨hi, hn⟩ | ⟨hi, hn⟩⟩
    · exact ⟨r0, by rw [hi]; rfl, (h.h0 _).2 ⟨a, b⟩, by rw [hn, h.e0 _ a b]⟩
    · exact ⟨r1, by rw [hi]; rfl, (h.h1 _).2 ⟨a, b⟩, by rw [hn, h.e1 _ a b]⟩
theorem Duo.close (h : Duo r0 r1 lo hi n0 n1) (e : Ev) : Close [r0, r1] e ↔ (lo ≤ e.year ∧ e.year ≤ hi ∧ 1850 ≤ e.year ∧ e.year ≤ 2550 ∧ ((e.rule = 0 ∧ e.nom = n0 e.year ∧ n1 e.year < n0 e.year ∧ n0 e.year - n1 e.year < 259200) ∨ (e.rule = 1 ∧ e.nom = n1 e.year ∧ n0 e.year ≤ n1 e.year ∧ n1 e.year - n0 e.year < 259200))) := by
  constructor
  · rintro ⟨⟨he, hy1, hy2⟩, d, ⟨hd, hz1, hz2⟩, hl, hc⟩
    obtain ⟨a, b, hE⟩ := (h.ev e).1 he
    obtain ⟨a', b', hD⟩ := (h.ev d).1 hd
    have hn := lt_nom hl
    have x0 := h.b0 e.year
    have x1 := h.b1 e.year
    have y0 := h.b0 d.year
    have y1 := h.b1 d.year
    have hyy : d.year = e.year := by
      rcases Int.lt_trichotomy d.year e.year with hlt | heq | hlt
      · exfalso
        have := fst_far d.year e.year (by omega)
        rcases hE with ⟨_, hE⟩ | ⟨_, hE⟩ <;> rcases hD with ⟨_, hD⟩ | ⟨_, hD⟩ <;> omega
      · exact heq
      · exfalso
        have := fst_far e.year d.year (by omega)
        rcases hE with ⟨_, hE⟩ | ⟨_, hE⟩ <;> rcases hD with ⟨_, hD⟩ | ⟨_, hD⟩ <;> omega
    rw [hyy] at hD
    unfold Ev.lt at hl
    refine ⟨a, b, hy1, hy2, ?_⟩
    rcases hE with ⟨i1, hE⟩ | ⟨i1, hE⟩ <;> rcases hD with ⟨i2, hD⟩ | ⟨i2, hD⟩
    · exfalso; omega
    · exact .inl ⟨i1, hE, by omega, by omega⟩
    · exact .inr ⟨i1, hE, by omega, by omega⟩
    · exfalso; omega
  · rintro ⟨a, b, hy1, hy2, ⟨i, hn, hl, hc⟩ | ⟨i, hn, hl, hc⟩⟩
    · refine ⟨⟨(h.ev e).2 ⟨a, b, .inl ⟨i, hn⟩⟩, hy1, hy2⟩, ⟨e.year, 1, n1 e.year⟩, ⟨(h.ev _).2 ⟨a, b, .inr ⟨rfl, rfl⟩⟩, hy1, hy2⟩, ?_, ?_⟩
      · unfold Ev.lt; dsimp only; omega
      · dsimp only; omega
    · refine ⟨⟨(h.ev e).2 ⟨a, b, .inr ⟨i, hn⟩⟩, hy1, hy2⟩, ⟨e.year, 0, n0 e.year⟩, ⟨(h.ev _).2 ⟨a, b, .inl ⟨rfl, rfl⟩⟩, hy1, hy2⟩, ?_, ?_⟩
      · unfold Ev.lt; dsimp only; omega
      · dsimp only; omega
theorem Duo.none_ (h : Duo r0 r1 lo hi n0 n1) (hn : ∀ y, lo ≤ y → y ≤ hi → 1850 ≤ y → y ≤ 2550 → ¬ (n1 y - n0 y < 259200 ∧ n0 y - n1 y < 259200)) : MinOf (Close [r0, r1]) none := by
  intro e he
  obtain ⟨a, b, c, d, hh⟩ := (h.close e).1 he
  exact hn _ a b c d (by rcases hh with hh | hh <;> omega)
/-- the first year in which they are close; the later one of the two -/
theorem Duo.some_ (h : Duo r0 r1 lo hi n0 n1) (y : Int) (a : lo ≤ y) (b : y ≤ hi) (c : 1850 ≤ y) (d : y ≤ 2550) (hc : n1 y - n0 y < 259200 ∧ n0 y - n1 y < 259200)
    (hn : ∀ z, lo ≤ z → z ≤ hi → 1850 ≤ z → z < y → ¬ (n1 z - n0 z < 259200 ∧ n0 z - n1 z < 259200)) : MinOf (Close [r0, r1]) (some (if n1 y < n0 y then ⟨y, 0, n0 y⟩ else ⟨y, 1, n1 y⟩)) := by
  have key : ∀ e : Ev, Close [r0, r1] e → y < e.year ∨ e = (if n1 y < n0 y then ⟨y, 0, n0 y⟩ else ⟨y, 1, n1 y⟩) := by
    intro e he
    obtain ⟨a', b', c', d', hh⟩ := (h.close e).1 he
    rcases Int.lt_trichotomy e.year y with h1 | h1 | h1
    · exact (hn _ a' b' c' h1 (by rcases hh with hh | hh <;> omega)).elim
    · right
      obtain ⟨ey, er, en⟩ := e
      dsimp only at *
      subst h1
      rcases hh with ⟨i, hE, hl, hcc⟩ | ⟨i, hE, hl, hcc⟩
      · rw [if_pos hl, i, hE]
      · rw [if_neg (by omega), i, hE]
    · exact .inl h1
  refine ⟨?_, fun e he hlt => ?_⟩
  · split
    · rename_i hl
      exact (h.close _).2 ⟨a, b, c, d, .inl ⟨rfl, rfl, hl, hc.2⟩⟩
    · rename_i hl
      exact (h.close _).2 ⟨a, b, c, d, .inr ⟨rfl, rfl, by dsimp only; omega, hc.1⟩⟩
  · rcases key e he with h1 | h1
    · obtain ⟨a', b', c', d', hh⟩ := (h.close e).1 he
      have x0 := h.b0 e.year
      have x1 := h.b1 e.year
      have y0 := h.b0 y
      have y1 := h.b1 y
      have hf := fst_far y e.year (by omega)
      have hn := lt_nom hlt
      split at hn <;> dsimp only at hn <;> rcases hh with ⟨_, hh, _⟩ | ⟨_, hh, _⟩ <;> omega
    · rw [h1] at hlt; exact Ev.lt_irrefl _ hlt
end

/-! the rules of the chapter's examples -/
/-- on a day of March, for some years -/
def fx (f t d sec : Int) : Ru := ⟨⟨#[82]⟩, f, t, 3, 1, 0, d, sec, 0, 0, ⟨#[]⟩⟩
/-- on a weekday of March -/
def sn (f t w d : Int) : Ru := ⟨⟨#[82]⟩, f, t, 3, 3, w, d, 0, 0, 0, ⟨#[]⟩⟩
theorem cum3 (y : Int) : cum y 3 = 59 + lp y := by simp [cum]; omega
theorem len3 (y : Int) : len y 3 = 31 := by simp [len]
theorem fx_has {f t d sec : Int} (hf : -2000000000 ≤ f) (ht : t ≤ 2000000000) (hd1 : 1 ≤ d) (hd2 : d ≤ 31) (hs1 : -604799 ≤ sec) (hs2 : sec ≤ 604799) (y : Int) : Has (fx f t d sec) y ↔ (f ≤ y ∧ y ≤ (if t = 1048576 then 2000000000 else t)) := by
  unfold Has firstY lastY clk fx
  dsimp only
  constructor
  · rintro ⟨h1, h2, _⟩
    refine ⟨by omega, ?_⟩
    split at h2 <;> (split <;> omega)
  · rintro ⟨h1, h2⟩
    have hy : y ≤ 2000000000 := by split at h2 <;> omega
    refine ⟨by omega, ?_, by omega, on_mk (by unfold inr; omega) (by decide) (by decide) (by unfold good; omega) (by rw [len3]; omega)⟩
    split <;> (split at h2 <;> omega)
theorem on_at {y m k w d : Int} (h : (on y m k w d).2 = 0) : (on y m k w d).1 = find (num y m 1) (num y m 1 + len y m - 1) k w d := by
  obtain ⟨h1, h2, h3, h4, h5, _⟩ := on_ok h
  rw [on_day ⟨h1, (ok_first y m).2 ⟨h2, h3⟩⟩ h4 h5]
theorem fx_nom {f t d sec bs y : Int} (h : Has (fx f t d sec) y) : nomOf bs (fx f t d sec) y = 86400 * (fst y + lp y + 58 + d) + sec := by
  have h1 := on_at h.2.2.2
  unfold nomOf
  rw [h1]
  unfold find num fx
  dsimp only
  rw [cum3]
  simp
  omega
theorem sn_has {f t w d : Int} (hf : -2000000000 ≤ f) (ht : t ≤ 2000000000) (hw1 : 0 ≤ w) (hw2 : w ≤ 6) (hd1 : 1 ≤ d) (hd2 : d ≤ 31) (y : Int) : Has (sn f t w d) y ↔ (f ≤ y ∧ y ≤ (if t = 1048576 then 2000000000 else t)) := by
  unfold Has firstY lastY clk sn
  dsimp only
  constructor
  · rintro ⟨h1, h2, _⟩
    refine ⟨by omega, ?_⟩
    split at h2 <;> (split <;> omega)
  · rintro ⟨h1, h2⟩
    have hy : y ≤ 2000000000 := by split at h2 <;> omega
    refine ⟨by omega, ?_, by omega, on_mk (by unfold inr; omega) (by decide) (by decide) (by unfold good; omega) (by rw [len3]; omega)⟩
    split <;> (split at h2 <;> omega)
theorem sn_nom {f t w d bs y : Int} (h : Has (sn f t w d) y) : nomOf bs (sn f t w d) y = 86400 * beh (fst y + lp y + 58 + d) w := by
  have h1 := on_at h.2.2.2
  unfold nomOf
  rw [h1]
  unfold find num sn
  dsimp only
  rw [cum3, show fst y + (59 + lp y) + 1 - 1 + d - 1 = fst y + lp y + 58 + d by omega]
  simp
theorem fx_duo {f t a b s u : Int} (hf : -2000000000 ≤ f) (ht : t ≤ 2000000000) (ha : 1 ≤ a ∧ a ≤ 31) (hb : 1 ≤ b ∧ b ≤ 31) (hs : -100000 ≤ s ∧ s ≤ 100000) (hu : -100000 ≤ u ∧ u ≤ 100000) :
    Duo (fx f t a s) (fx f t b u) f (if t = 1048576 then 2000000000 else t) (fun y => 86400 * (fst y + lp y + 58 + a) + s) (fun y => 86400 * (fst y + lp y + 58 + b) + u) where
  h0 y := fx_has hf ht ha.1 ha.2 (by omega) (by omega) y
  h1 y := fx_has hf ht hb.1 hb.2 (by omega) (by omega) y
  e0 y h1 h2 := fx_nom ((fx_has hf ht ha.1 ha.2 (by omega) (by omega) y).2 ⟨h1, h2⟩)
  e1 y h1 h2 := fx_nom ((fx_has hf ht hb.1 hb.2 (by omega) (by omega) y).2 ⟨h1, h2⟩)
  b0 y := by have := lp_bd y; omega
  b1 y := by have := lp_bd y; omega
theorem sn_duo {f t w a b u : Int} (hf : -2000000000 ≤ f) (ht : t ≤ 2000000000) (hw1 : 0 ≤ w) (hw2 : w ≤ 6) (ha : 1 ≤ a ∧ a ≤ 31) (hb : 1 ≤ b ∧ b ≤ 31) (hu : -100000 ≤ u ∧ u ≤ 100000) :
    Duo (sn f t w a) (fx f t b u) f (if t = 1048576 then 2000000000 else t) (fun y => 86400 * beh (fst y + lp y + 58 + a) w) (fun y => 86400 * (fst y + lp y + 58 + b) + u) where
  h0 y := sn_has hf ht hw1 hw2 ha.1 ha.2 y
  h1 y := fx_has hf ht hb.1 hb.2 (by omega) (by omega) y
  e0 y h1 h2 := sn_nom ((sn_has hf ht hw1 hw2 ha.1 ha.2 y).2 ⟨h1, h2⟩)
  e1 y h1 h2 := fx_nom ((fx_has hf ht hb.1 hb.2 (by omega) (by omega) y).2 ⟨h1, h2⟩)
  b0 y := by have := lp_bd y; have := beh_bd2 (fst y + lp y + 58 + a) w hw1 hw2; omega
  b1 y := by have := lp_bd y; omega
/-! the examples -/
theorem ap1 : MinOf (Close [fx 2000 2000 1 0, fx 2000 2000 4 0]) none :=
  (fx_duo (by decide) (by decide) (by decide) (by decide) (by decide) (by decide)).none_ (fun y _ _ _ _ h => by omega)
theorem ap2 : MinOf (Close [fx 2000 2000 1 0, fx 2000 2000 3 0]) (some ⟨2000, 1, 952041600⟩) := by
  have h := (fx_duo (f := 2000) (t := 2000) (a := 1) (b := 3) (s := 0) (u := 0) (by decide) (by decide) (by decide) (by decide) (by decide) (by decide)).some_ 2000 (by decide) (by decide) (by decide) (by decide) (by decide) (fun z h1 h2 h3 h4 => by omega)
  exact h
theorem ap3 : MinOf (Close [fx 2000 2000 1 0, fx 2000 2000 1 0]) (some ⟨2000, 1, 951868800⟩) := by
  have h := (fx_duo (f := 2000) (t := 2000) (a := 1) (b := 1) (s := 0) (u := 0) (by decide) (by decide) (by decide) (by decide) (by decide) (by decide)).some_ 2000 (by decide) (by decide) (by decide) (by decide) (by decide) (fun z h1 h2 h3 h4 => by omega)
  exact h
theorem ap4 : MinOf (Close [sn 1990 1048576 0 8, fx 1990 1048576 12 0]) (some ⟨1990, 1, 637200000⟩) := by
  have h := (sn_duo (f := 1990) (t := 1048576) (w := 0) (a := 8) (b := 12) (u := 0) (by decide) (by decide) (by decide) (by decide) (by decide) (by decide) (by decide)).some_ 1990 (by decide) (by decide) (by decide) (by decide) (by decide) (fun z h1 h2 h3 h4 => by omega)
  exact h
theorem ap_ev (e : Ev) : IsEv [fx 2000 2000 1 0, fx 2000 2000 4 0] e ↔ (e = ⟨2000, 0, 951868800⟩ ∨ e = ⟨2000, 1, 952128000⟩) := by
  have h := (fx_duo (f := 2000) (t := 2000) (a := 1) (b := 4) (s := 0) (u := 0) (by decide) (by decide) (by decide) (by decide) (by decide) (by decide)).ev e
  rw [h]
  obtain ⟨y, r, n⟩ := e
  simp only [Ev.mk.injEq]
  constructor
  · rintro ⟨h1, h2, h3⟩
    have h2 : y ≤ 2000 := h2
    obtain rfl : y = 2000 := by omega
    have e1 : 86400 * (fst 2000 + lp 2000 + 58 + 1) + 0 = 951868800 := by decide
    have e2 : 86400 * (fst 2000 + lp 2000 + 58 + 4) + 0 = 952128000 := by decide
    omega
  · have e1 : 86400 * (fst 2000 + lp 2000 + 58 + 1) + 0 = 951868800 := by decide
    have e2 : 86400 * (fst 2000 + lp 2000 + 58 + 4) + 0 = 952128000 := by decide
    rintro (⟨rfl, rfl, rfl⟩ | ⟨rfl, rfl, rfl⟩)
    · exact ⟨by decide, by decide, .inl ⟨rfl, e1.symm⟩⟩
    · exact ⟨by decide, by decide, .inr ⟨rfl, e2.symm⟩⟩
theorem ap5 : FarIs [fx 2000 2000 1 0, fx 2000 2000 4 0] 952387200 := by
  rintro e he ⟨h1, h2⟩
  have h3 : cl 952387200 = 952387200 := by decide
  rcases (ap_ev e).1 he with rfl | rfl <;> dsimp only at h1 h2 <;> omega
theorem ap6 : ¬ FarIs [fx 2000 2000 1 0, fx 2000 2000 4 0] 952387199 := fun h =>
  h ⟨2000, 1, 952128000⟩ ((ap_ev _).2 (.inr rfl)) (by decide)
theorem ap7 : ¬ FarIs [fx 2000 2000 1 0, fx 2000 2000 4 0] 951868800 := fun h =>
  h ⟨2000, 0, 951868800⟩ ((ap_ev _).2 (.inl rfl)) (by decide)
theorem ap8 : FarIs [] 0 := by
  rintro e ⟨r, hr, _⟩
  unfold ruleAt at hr
  split at hr <;> simp at hr
end Go.Proofs.YtghmdaahmijdiaaDoor.Cv
