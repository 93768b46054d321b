/-
  The sets of Draft.Made in plain words: their events lie far from each other. No program in sight.
  Step by step through the events of a made set, in plain words. No program in sight.
-/
import Derived.Test.YtdppmeeobpbfnaaDoorDrSet
import Derived.Test.YtdppmeeobpbfnaaDoorEvBA
namespace Go.Proofs.YtdppmeeobpbfnaaDoor.Cv
open Go.RowKit
set_option linter.unusedVariables false
set_option linter.unusedSimpArgs false

/-- a draft's day lies in its month -/
theorem day_in {y m k w d : Int} (h : (on y m k w d).2 = 0) (hd : DayOk k w d) : fst y + cum y m ≤ (on y m k w d).1 ∧ (on y m k w d).1 ≤ fst y + cum y m + len y m - 1 := by
  obtain ⟨h1, h2, h3, h4, h5, _⟩ := on_ok h
  have hl := len_in y m h2 h3
  rw [on_day ⟨h1, (ok_first y m).2 ⟨h2, h3⟩⟩ h4 h5]
  have hn : num y m 1 = fst y + cum y m := by unfold num; omega
  dsimp only
  unfold find
  rw [hn]
  rcases hd with ⟨rfl, rfl, w1, w2⟩ | ⟨rfl, w1, w2, d1, d2⟩ | ⟨rfl, rfl, d1, d2⟩
  · have := bef_bd (fst y + cum y m + len y m - 1) w w1 w2
    rw [if_neg (by decide), if_pos rfl]
    omega
  · have := beh_bd2 (fst y + cum y m + d - 1) w w1 w2
    rw [if_neg (by decide), if_neg (by decide), if_pos rfl]
    omega
  · rw [if_pos rfl]
    omega
theorem months_bd (y m : Int) : (2 ≤ m ∧ m ≤ 4 → 31 ≤ cum y m ∧ cum y m + len y m ≤ 121) ∧ (m = 6 → 151 ≤ cum y m ∧ cum y m + len y m ≤ 182) ∧ (8 ≤ m ∧ m ≤ 10 → 212 ≤ cum y m ∧ cum y m + len y m ≤ 305) := by
  have hl := lp_bd y
  refine ⟨fun h => ?_, fun h => ?_, fun h => ?_⟩
  · rcases (show m = 2 ∨ m = 3 ∨ m = 4 by omega) with rfl | rfl | rfl <;> (simp [cum, len]; omega)
  · subst h; simp [cum, len]; omega
  · rcases (show m = 8 ∨ m = 9 ∨ m = 10 by omega) with rfl | rfl | rfl <;> (simp [cum, len]; omega)
/-- where in its year an event of a made set lies -/
theorem made_at {sv bs y : Int} {r : Ru} (h : RuP sv r) (hb1 : -10800 ≤ bs) (hb2 : bs ≤ 0) (hy : Has r y) :
    (2 ≤ r.mo ∧ r.mo ≤ 4 ∧ 86400 * (fst y + 30) ≤ nomOf bs r y ∧ nomOf bs r y ≤ 86400 * (fst y + 121)) ∨
    (r.mo = 6 ∧ 86400 * (fst y + 150) ≤ nomOf bs r y ∧ nomOf bs r y ≤ 86400 * (fst y + 182)) ∨
    (8 ≤ r.mo ∧ r.mo ≤ 10 ∧ 86400 * (fst y + 211) ≤ nomOf bs r y ∧ nomOf bs r y ≤ 86400 * (fst y + 305)) := by
  have hd := day_in hy.2.2.2 h.ok.day
  have hm := months_bd y r.mo
  obtain ⟨c1, c2, _⟩ := h.ok.clk
  unfold nomOf
  have hif : -10800 ≤ (if r.base = 1 then bs else 0) ∧ (if r.base = 1 then bs else 0) ≤ 0 := by split <;> omega
  rcases h.mo with hq | ⟨hq, _⟩ | hq
  · have := hm.1 hq; exact .inl ⟨hq.1, hq.2, by omega, by omega⟩
  · have := hm.2.1 hq; exact .inr (.inl ⟨hq, by omega, by omega⟩)
  · have := hm.2.2 hq; exact .inr (.inr ⟨hq.1, hq.2, by omega, by omega⟩)
theorem made_rule {sv : Int} {rs : _root_.List Ru} {i : Int} {r : Ru} (h : MadeP sv rs) (hr : ruleAt rs i = some r) : RuP sv r := by
  obtain ⟨k, _, hk, _⟩ := ruleAt_ex hr
  exact h.each r (_root_.List.mem_of_getElem? hk)
/-- two rules of a made set -/
theorem made_two {sv : Int} {rs : _root_.List Ru} {i j : Int} {r s : Ru} (h : MadeP sv rs) (hr : ruleAt rs i = some r) (hs : ruleAt rs j = some s) (hl : i < j) : OrdR r s := by
  obtain ⟨k, hk0, hk, hkl⟩ := ruleAt_ex hr
  obtain ⟨l, hl0, hl1, hll⟩ := ruleAt_ex hs
  obtain ⟨h1, rfl⟩ := _root_.List.getElem?_eq_some_iff.1 hk
  obtain ⟨h2, rfl⟩ := _root_.List.getElem?_eq_some_iff.1 hl1
  exact _root_.List.pairwise_iff_getElem.1 h.ord k l h1 h2 (by omega)
theorem ru_years {sv y : Int} {r : Ru} (h : RuP sv r) (hy : Has r y) : r.fr ≤ y ∧ (y ≤ r.ut ∨ r.ut = 1048576) := by
  have h1 := hy.1
  have h2 := hy.2.1
  unfold firstY at h1
  unfold lastY at h2
  split at h2 <;> omega
/-- an event's place: its year, and whether it lies in spring, in June or in autumn -/
theorem ev_place {sv : Int} {rs : _root_.List Ru} {e : Ev} (h : MadeP sv rs) (he : IsEv rs e) : ∃ r, ruleAt rs e.rule = some r ∧ RuP sv r ∧ Has r e.year ∧
    ((2 ≤ r.mo ∧ r.mo ≤ 4 ∧ 86400 * (fst e.year + 30) ≤ e.nom ∧ e.nom ≤ 86400 * (fst e.year + 121)) ∨
    (r.mo = 6 ∧ 86400 * (fst e.year + 150) ≤ e.nom ∧ e.nom ≤ 86400 * (fst e.year + 182)) ∨
    (8 ≤ r.mo ∧ r.mo ≤ 10 ∧ 86400 * (fst e.year + 211) ≤ e.nom ∧ e.nom ≤ 86400 * (fst e.year + 305))) := by
  obtain ⟨r, hr, hh, hn⟩ := he
  have hb := baseL_bd rs
  have h1 := made_rule h hr
  have h2 := made_at h1 hb.1 hb.2 hh
  rw [← hn] at h2
  exact ⟨r, hr, h1, hh, h2⟩
/-- the events of a made set lie two months from each other -/
theorem made_gap {sv : Int} {rs : _root_.List Ru} {e d : Ev} (h : MadeP sv rs) (he : IsEv rs e) (hd : IsEv rs d) (hne : e ≠ d) (hle : e.nom ≤ d.nom) : e.nom + 86400 * 60 ≤ d.nom := by
  obtain ⟨r, hr, p1, p2, p3⟩ := ev_place h he
  obtain ⟨s, hs, q1, q2, q3⟩ := ev_place h hd
  rcases Int.lt_trichotomy e.year d.year with hy | hy | hy
  · have := fst_far e.year d.year (by omega)
    omega
  · have hyr := ru_years p1 p2
    have hys := ru_years q1 q2
    rw [hy] at p3 hyr
    rcases Int.lt_trichotomy e.rule d.rule with hl | hl | hl
    · rcases made_two h hr hs hl with h1 | ⟨_, _, h3, h4, h5, h6⟩
      · exfalso; have := q1.ok.fr; have := p1.ok.fr; omega
      · omega
    · exfalso
      obtain ⟨r', hr', _, hn⟩ := he
      obtain ⟨s', hs', _, hn'⟩ := hd
      rw [hl, hs'] at hr'
      cases hr'
      apply hne
      obtain ⟨a, b, c⟩ := e
      obtain ⟨a', b', c'⟩ := d
      dsimp only at *
      subst hy hl
      rw [hn, hn']
    · rcases made_two h hs hr hl with h1 | ⟨_, _, h3, h4, h5, h6⟩
      · exfalso; have := q1.ok.fr; have := p1.ok.fr; omega
      · omega
  · have := fst_far d.year e.year (by omega)
    omega
end Go.Proofs.YtdppmeeobpbfnaaDoor.Cv
namespace Go.Proofs.YtdppmeeobpbfnaaDoor.Cv
open Go.RowKit
set_option linter.unusedVariables false
set_option linter.unusedSimpArgs false

/-- the events behind a time, up to another one, in order -/
def Wk (rs : _root_.List Ru) (lo last : Int) (L : _root_.List Ev) : Prop := L.Pairwise (fun a b => a.nom < b.nom) ∧ ∀ e, e ∈ L ↔ (IsEv rs e ∧ lo < e.nom ∧ e.nom ≤ last)
theorem made_eq {sv : Int} {rs : _root_.List Ru} {e d : Ev} (h : MadeP sv rs) (he : IsEv rs e) (hd : IsEv rs d) (hn : e.nom = d.nom) : e = d := by
  by_cases hne : e = d
  · exact hne
  · have := made_gap h he hd hne (by omega); omega
theorem made_lt {sv : Int} {rs : _root_.List Ru} {e d : Ev} (h : MadeP sv rs) (he : IsEv rs e) (hd : IsEv rs d) : e.lt d ↔ e.nom < d.nom := by
  constructor
  · intro hl
    rcases Int.lt_or_le e.nom d.nom with h1 | h1
    · exact h1
    · unfold Ev.lt at hl
      have : e = d := made_eq h he hd (by omega)
      subst this
      omega
  · intro hl; unfold Ev.lt; omega
theorem wk_nil (rs : _root_.List Ru) (lo : Int) : Wk rs lo lo [] := ⟨_root_.List.Pairwise.nil, fun e => ⟨fun h => (by cases h), fun h => (by omega)⟩⟩
theorem wk_step {sv : Int} {rs : _root_.List Ru} {lo last : Int} {L : _root_.List Ev} {x : Ev} (h : MadeP sv rs) (hw : Wk rs lo last L) (hl : lo ≤ last) (hx : AftIs rs last (some x)) : Wk rs lo x.nom (L ++ [x]) := by
  obtain ⟨hx1, hx2, hx3⟩ := hx
  refine ⟨_root_.List.pairwise_append.2 ⟨hw.1, _root_.List.pairwise_singleton _ _, fun a ha b hb => ?_⟩, fun e => ?_⟩
  · rw [_root_.List.mem_singleton] at hb
    subst hb
    have := ((hw.2 a).1 ha).2.2
    omega
  · rw [_root_.List.mem_append, _root_.List.mem_singleton]
    constructor
    · rintro (he | rfl)
      · obtain ⟨h1, h2, h3⟩ := (hw.2 e).1 he
        exact ⟨h1, h2, by omega⟩
      · exact ⟨hx1, by omega, by omega⟩
    · rintro ⟨h1, h2, h3⟩
      rcases Int.lt_or_le last e.nom with h4 | h4
      · right
        have h5 := hx3 e h1 h4
        rw [made_lt h h1 hx1] at h5
        exact made_eq h h1 hx1 (by omega)
      · exact .inl ((hw.2 e).2 ⟨h1, h2, h4⟩)
/-- an event's half year -/
def slot (e : Ev) : Int := 2 * e.year + (if 86400 * (fst e.year + 200) ≤ e.nom then 1 else 0)
theorem slot_bd (e : Ev) : 2 * e.year ≤ slot e ∧ slot e ≤ 2 * e.year + 1 := by unfold slot; split <;> omega
theorem slot_lt {sv : Int} {rs : _root_.List Ru} {e d : Ev} (h : MadeP sv rs) (he : IsEv rs e) (hd : IsEv rs d) (hl : e.nom < d.nom) : slot e < slot d := by
  have s1 := slot_bd e
  have s2 := slot_bd d
  obtain ⟨r, hr, p1, p2, p3⟩ := ev_place h he
  obtain ⟨s, hs, q1, q2, q3⟩ := ev_place h hd
  rcases Int.lt_trichotomy e.year d.year with hy | hy | hy
  · omega
  · have hg := made_gap h he hd (fun e0 => by rw [e0] at hl; omega) (by omega)
    have hyr := ru_years p1 p2
    have hys := ru_years q1 q2
    unfold slot
    rw [hy] at p3 hyr ⊢
    rcases Int.lt_trichotomy e.rule d.rule with hlr | hlr | hlr
    · rcases made_two h hr hs hlr with h1 | ⟨_, _, h3, h4, h5, h6⟩
      · exfalso; have := q1.ok.fr; have := p1.ok.fr; omega
      · rw [if_neg (by omega), if_pos (by omega)]; omega
    · exfalso
      have : e = d := by
        obtain ⟨r', hr', _, hn⟩ := he
        obtain ⟨s', hs', _, hn'⟩ := hd
        rw [hlr, hs'] at hr'
        cases hr'
        rw [hy] at hn
        omega
      rw [this] at hl
      omega
    · rcases made_two h hs hr hlr with h1 | ⟨_, _, h3, h4, h5, h6⟩
      · exfalso; have := q1.ok.fr; have := p1.ok.fr; omega
      · exfalso; omega
  · exfalso
    have := fst_far d.year e.year (by omega)
    omega
theorem slots_len : ∀ (L : _root_.List Ev) (a b : Int), L.Pairwise (fun x y => slot x < slot y) → (∀ e ∈ L, a ≤ slot e ∧ slot e ≤ b) → a ≤ b + 1 → (L.length : Int) ≤ b - a + 1 := by
  intro L
  induction L with
  | nil => intro a b _ _ h; simp; omega
  | cons x l ih =>
    intro a b hp hb hab
    rw [_root_.List.pairwise_cons] at hp
    have hx := hb x (by simp)
    have := ih (slot x + 1) b hp.2 (fun e he => ⟨by have := hp.1 e he; omega, (hb e (by simp [he])).2⟩) (by omega)
    rw [_root_.List.length_cons]
    omega
theorem wk_len {sv : Int} {rs : _root_.List Ru} {lo last a b : Int} {L : _root_.List Ev} (h : MadeP sv rs) (hw : Wk rs lo last L) (hy : ∀ e, IsEv rs e → lo < e.nom → e.nom ≤ last → a ≤ e.year ∧ e.year ≤ b) (hab : a ≤ b + 1) : (L.length : Int) ≤ 2 * (b - a + 1) := by
  have := slots_len L (2 * a) (2 * b + 1) (hw.1.imp_of_mem (fun {x y} hx hy' hl => slot_lt h ((hw.2 x).1 hx).1 ((hw.2 y).1 hy').1 hl)) (fun e he => by
    obtain ⟨h1, h2, h3⟩ := (hw.2 e).1 he
    have := hy e h1 h2 h3
    have := slot_bd e
    omega) (by omega)
  omega
theorem wk_get {rs : _root_.List Ru} {lo last : Int} {L : _root_.List Ev} {i j : Nat} {a b : Ev} (hw : Wk rs lo last L) (ha : L[i]? = some a) (hb : L[j]? = some b) (hl : i < j) : a.nom < b.nom := by
  obtain ⟨h1, rfl⟩ := _root_.List.getElem?_eq_some_iff.1 ha
  obtain ⟨h2, rfl⟩ := _root_.List.getElem?_eq_some_iff.1 hb
  exact _root_.List.pairwise_iff_getElem.1 hw.1 i j h1 h2 hl
/-- Before, just behind an event: that event -/
theorem bef_at {sv : Int} {rs : _root_.List Ru} {x : Ev} (h : MadeP sv rs) (hx : IsEv rs x) : BefIs rs (x.nom + 1) (some x) :=
  ⟨hx, by omega, fun e he hn hl => by have := (made_lt h hx he).1 hl; omega⟩
/-- Before, at an event: the one ahead of it -/
theorem bef_prev {sv : Int} {rs : _root_.List Ru} {lo last : Int} {L : _root_.List Ev} {i : Nat} {a b : Ev} (h : MadeP sv rs) (hw : Wk rs lo last L) (ha : L[i]? = some a) (hb : L[i + 1]? = some b) : BefIs rs b.nom (some a) := by
  have h1 := (hw.2 a).1 (_root_.List.mem_of_getElem? ha)
  have h2 := (hw.2 b).1 (_root_.List.mem_of_getElem? hb)
  have h3 := wk_get hw ha hb (by omega)
  refine ⟨h1.1, h3, fun e he hn hl => ?_⟩
  have h4 := (made_lt h h1.1 he).1 hl
  obtain ⟨j, hj⟩ := _root_.List.mem_iff_getElem?.1 ((hw.2 e).2 ⟨he, by omega, by omega⟩)
  rcases Nat.lt_trichotomy j i with hji | hji | hji
  · have := wk_get hw hj ha hji; omega
  · subst hji; rw [ha] at hj; cases hj; omega
  · rcases Nat.lt_or_ge (i + 1) j with h5 | h5
    · have := wk_get hw hb hj h5; omega
    · obtain rfl : j = i + 1 := by omega
      rw [hb] at hj; cases hj; omega
end Go.Proofs.YtdppmeeobpbfnaaDoor.Cv
