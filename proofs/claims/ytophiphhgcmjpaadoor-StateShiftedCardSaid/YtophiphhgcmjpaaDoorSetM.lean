/-
  The sets of Draft.Made in plain words: their events lie far from each other. No program in sight.
-/
import Derived.Test.YtophiphhgcmjpaaDoorDrSet
import Derived.Test.YtophiphhgcmjpaaDoorEvIn
namespace Go.Proofs.YtophiphhgcmjpaaDoor.Cv
open Go.RowKit
set_option linter.unusedVariables false
set_option linter.unusedSimpArgs false

/-- a draft's day lies in its month -/
theorem day_in {y m k w d : Int} (h : (on y m k w d).2 = 0) (hd : DayOk k w d) : fst y + cum y m ≤ (on y m k w d).1 ∧ (on y m k w d).1 ≤ fst y + cum y m + len y m - 1 := by
  obtain ⟨h1, h2, h3, h4, h5, _⟩ := on_ok h
  have hl := len_in y m h2 h3
  rw [on_day ⟨h1, (ok_first y m).2 ⟨h2, h3⟩⟩ h4 h5]
  have hn : num y m 1 = fst y + cum y m := by unfold num; omega
  dsimp only
  unfold find
  rw [hn]
  rcases hd with ⟨rfl, rfl, w1, w2⟩ | ⟨rfl, w1, w2, d1, d2⟩ | ⟨rfl, rfl, d1, d2⟩
  · have := bef_bd (fst y + cum y m + len y m - 1) w w1 w2
    rw [if_neg (by decide), if_pos rfl]
    omega
  · have := beh_bd2 (fst y + cum y m + d - 1) w w1 w2
    rw [if_neg (by decide), if_neg (by decide), if_pos rfl]
    omega
  · rw [if_pos rfl]
    omega
theorem months_bd (y m : Int) : (2 ≤ m ∧ m ≤ 4 → 31 ≤ cum y m ∧ cum y m + len y m ≤ 121) ∧ (m = 6 → 151 ≤ cum y m ∧ cum y m + len y m ≤ 182) ∧ (8 ≤ m ∧ m ≤ 10 → 212 ≤ cum y m ∧ cum y m + len y m ≤ 305) := by
  have hl := lp_bd y
  refine ⟨fun h => ?_, fun h => ?_, fun h => ?_⟩
  · rcases (show m = 2 ∨ m = 3 ∨ m = 4 by omega) with rfl | rfl | rfl <;> (simp [cum, len]; omega)
  · subst h; simp [cum, len]; omega
  · rcases (show m = 8 ∨ m = 9 ∨ m = 10 by omega) with rfl | rfl | rfl <;> (simp [cum, len]; omega)
/-- where in its year an event of a made set lies -/
theorem made_at {sv bs y : Int} {r : Ru} (h : RuP sv r) (hb1 : -10800 ≤ bs) (hb2 : bs ≤ 0) (hy : Has r y) :
    (2 ≤ r.mo ∧ r.mo ≤ 4 ∧ 86400 * (fst y + 30) ≤ nomOf bs r y ∧ nomOf bs r y ≤ 86400 * (fst y + 121)) ∨
    (r.mo = 6 ∧ 86400 * (fst y + 150) ≤ nomOf bs r y ∧ nomOf bs r y ≤ 86400 * (fst y + 182)) ∨
    (8 ≤ r.mo ∧ r.mo ≤ 10 ∧ 86400 * (fst y + 211) ≤ nomOf bs r y ∧ nomOf bs r y ≤ 86400 * (fst y + 305)) := by
  have hd := day_in hy.2.2.2 h.ok.day
  have hm := months_bd y r.mo
  obtain ⟨c1, c2, _⟩ := h.ok.clk
  unfold nomOf
  have hif : -10800 ≤ (if r.base = 1 then bs else 0) ∧ (if r.base = 1 then bs else 0) ≤ 0 := by split <;> omega
  rcases h.mo with hq | ⟨hq, _⟩ | hq
  · have := hm.1 hq; exact .inl ⟨hq.1, hq.2, by omega, by omega⟩
  · have := hm.2.1 hq; exact .inr (.inl ⟨hq, by omega, by omega⟩)
  · have := hm.2.2 hq; exact .inr (.inr ⟨hq.1, hq.2, by omega, by omega⟩)
theorem made_rule {sv : Int} {rs : _root_.List Ru} {i : Int} {r : Ru} (h : MadeP sv rs) (hr : ruleAt rs i = some r) : RuP sv r := by
  obtain ⟨k, _, hk, _⟩ := ruleAt_ex hr
  exact h.each r (_root_.List.mem_of_getElem? hk)
/-- two rules of a made set -/
theorem made_two {sv : Int} {rs : _root_.List Ru} {i j : Int} {r s : Ru} (h : MadeP sv rs) (hr : ruleAt rs i = some r) (hs : ruleAt rs j = some s) (hl : i < j) : OrdR r s := by
  obtain ⟨k, hk0, hk, hkl⟩ := ruleAt_ex hr
  obtain ⟨l, hl0, hl1, hll⟩ := ruleAt_ex hs
  obtain ⟨h1, rfl⟩ := _root_.List.getElem?_eq_some_iff.1 hk
  obtain ⟨h2, rfl⟩ := _root_.List.getElem?_eq_some_iff.1 hl1
  exact _root_.List.pairwise_iff_getElem.1 h.ord k l h1 h2 (by omega)
theorem ru_years {sv y : Int} {r : Ru} (h : RuP sv r) (hy : Has r y) : r.fr ≤ y ∧ (y ≤ r.ut ∨ r.ut = 1048576) := by
  have h1 := hy.1
  have h2 := hy.2.1
  unfold firstY at h1
  unfold lastY at h2
  split at h2 <;> omega
/-- an event's place: its year, and whether it lies in spring, in June or in autumn -/
theorem ev_place {sv : Int} {rs : _root_.List Ru} {e : Ev} (h : MadeP sv rs) (he : IsEv rs e) : ∃ r, ruleAt rs e.rule = some r ∧ RuP sv r ∧ Has r e.year ∧
    ((2 ≤ r.mo ∧ r.mo ≤ 4 ∧ 86400 * (fst e.year + 30) ≤ e.nom ∧ e.nom ≤ 86400 * (fst e.year + 121)) ∨
    (r.mo = 6 ∧ 86400 * (fst e.year + 150) ≤ e.nom ∧ e.nom ≤ 86400 * (fst e.year + 182)) ∨
    (8 ≤ r.mo ∧ r.mo ≤ 10 ∧ 86400 * (fst e.year + 211) ≤ e.nom ∧ e.nom ≤ 86400 * (fst e.year + 305))) := by
  obtain ⟨r, hr, hh, hn⟩ := he
  have hb := baseL_bd rs
  have h1 := made_rule h hr
  have h2 := made_at h1 hb.1 hb.2 hh
  rw [← hn] at h2
  exact ⟨r, hr, h1, hh, h2⟩
/-- the events of a made set lie two months from each other -/
theorem made_gap {sv : Int} {rs : _root_.List Ru} {e d : Ev} (h : MadeP sv rs) (he : IsEv rs e) (hd : IsEv rs d) (hne : e ≠ d) (hle : e.nom ≤ d.nom) : e.nom + 86400 * 60 ≤ d.nom := by
  obtain ⟨r, hr, p1, p2, p3⟩ := ev_place h he
  obtain ⟨s, hs, q1, q2, q3⟩ := ev_place h hd
  rcases Int.lt_trichotomy e.year d.year with hy | hy | hy
  · have := fst_far e.year d.year (by omega)
    omega
  · have hyr := ru_years p1 p2
    have hys := ru_years q1 q2
    rw [hy] at p3 hyr
    rcases Int.lt_trichotomy e.rule d.rule with hl | hl | hl
    · rcases made_two h hr hs hl with h1 | ⟨_, _, h3, h4, h5, h6⟩
      · exfalso; have := q1.ok.fr; have := p1.ok.fr; omega
      · omega
    · exfalso
      obtain ⟨r', hr', _, hn⟩ := he
      obtain ⟨s', hs', _, hn'⟩ := hd
      rw [hl, hs'] at hr'
      cases hr'
      apply hne
      obtain ⟨a, b, c⟩ := e
      obtain ⟨a', b', c'⟩ := d
      dsimp only at *
      subst hy hl
      rw [hn, hn']
    · rcases made_two h hs hr hl with h1 | ⟨_, _, h3, h4, h5, h6⟩
      · exfalso; have := q1.ok.fr; have := p1.ok.fr; omega
      · omega
  · have := fst_far d.year e.year (by omega)
    omega
end Go.Proofs.YtophiphhgcmjpaaDoor.Cv
