/-
  Step by step through the events of a made set, in plain words. No program in sight.
-/
import Derived.Test.YtophiphhgcmjpaaDoorSetM
namespace Go.Proofs.YtophiphhgcmjpaaDoor.Cv
open Go.RowKit
set_option linter.unusedVariables false
set_option linter.unusedSimpArgs false

/-- the events behind a time, up to another one, in order -/
def Wk (rs : _root_.List Ru) (lo last : Int) (L : _root_.List Ev) : Prop := L.Pairwise (fun a b => a.nom < b.nom) ∧ ∀ e, e ∈ L ↔ (IsEv rs e ∧ lo < e.nom ∧ e.nom ≤ last)
theorem made_eq {sv : Int} {rs : _root_.List Ru} {e d : Ev} (h : MadeP sv rs) (he : IsEv rs e) (hd : IsEv rs d) (hn : e.nom = d.nom) : e = d := by
  by_cases hne : e = d
  · exact hne
  · have := made_gap h he hd hne (by omega); omega
theorem made_lt {sv : Int} {rs : _root_.List Ru} {e d : Ev} (h : MadeP sv rs) (he : IsEv rs e) (hd : IsEv rs d) : e.lt d ↔ e.nom < d.nom := by
  constructor
  · intro hl
    rcases Int.lt_or_le e.nom d.nom with h1 | h1
    · exact h1
    · unfold Ev.lt at hl
      have : e = d := made_eq h he hd (by omega)
      subst this
      omega
  · intro hl; unfold Ev.lt; omega
theorem wk_nil (rs : _root_.List Ru) (lo : Int) : Wk rs lo lo [] := ⟨_root_.List.Pairwise.nil, fun e => ⟨fun h => (by cases h), fun h => (by omega)⟩⟩
theorem wk_step {sv : Int} {rs : _root_.List Ru} {lo last : Int} {L : _root_.List Ev} {x : Ev} (h : MadeP sv rs) (hw : Wk rs lo last L) (hl : lo ≤ last) (hx : AftIs rs last (some x)) : Wk rs lo x.nom (L ++ [x]) := by
  obtain ⟨hx1, hx2, hx3⟩ := hx
  refine ⟨_root_.List.pairwise_append.2 ⟨hw.1, _root_.List.pairwise_singleton _ _, fun a ha b hb => ?_⟩, fun e => ?_⟩
  · rw [_root_.List.mem_singleton] at hb
    subst hb
    have := ((hw.2 a).1 ha).2.2
    omega
  · rw [_root_.List.mem_append, _root_.List.mem_singleton]
    constructor
    · rintro (he | rfl)
      · obtain ⟨h1, h2, h3⟩ := (hw.2 e).1 he
        exact ⟨h1, h2, by omega⟩
      · exact ⟨hx1, by omega, by omega⟩
    · rintro ⟨h1, h2, h3⟩
      rcases Int.lt_or_le last e.nom with h4 | h4
      · right
        have h5 := hx3 e h1 h4
        rw [made_lt h h1 hx1] at h5
        exact made_eq h h1 hx1 (by omega)
      · exact .inl ((hw.2 e).2 ⟨h1, h2, h4⟩)
/-- an event's half year -/
def slot (e : Ev) : Int := 2 * e.year + (if 86400 * (fst e.year + 200) ≤ e.nom then 1 else 0)
theorem slot_bd (e : Ev) : 2 * e.year ≤ slot e ∧ slot e ≤ 2 * e.year + 1 := by unfold slot; split <;> omega
theorem slot_lt {sv : Int} {rs : _root_.List Ru} {e d : Ev} (h : MadeP sv rs) (he : IsEv rs e) (hd : IsEv rs d) (hl : e.nom < d.nom) : slot e < slot d := by
  have s1 := slot_bd e
  have s2 := slot_bd d
  obtain ⟨r, hr, p1, p2, p3⟩ := ev_place h he
  obtain ⟨s, hs, q1, q2, q3⟩ := ev_place h hd
  rcases Int.lt_trichotomy e.year d.year with hy | hy | hy
  · omega
  · have hg := made_gap h he hd (fun e0 => by rw [e0] at hl; omega) (by omega)
    have hyr := ru_years p1 p2
    have hys := ru_years q1 q2
    unfold slot
    rw [hy] at p3 hyr ⊢
    rcases Int.lt_trichotomy e.rule d.rule with hlr | hlr | hlr
    · rcases made_two h hr hs hlr with h1 | ⟨_, _, h3, h4, h5, h6⟩
      · exfalso; have := q1.ok.fr; have := p1.ok.fr; omega
      · rw [if_neg (by omega), if_pos (by omega)]; omega
    · exfalso
      have : e = d := by
        obtain ⟨r', hr', _, hn⟩ := he
        obtain ⟨s', hs', _, hn'⟩ := hd
        rw [hlr, hs'] at hr'
        cases hr'
        rw [hy] at hn
        omega
      rw [this] at hl
      omega
    · rcases made_two h hs hr hlr with h1 | ⟨_, _, h3, h4, h5, h6⟩
      · exfalso; have := q1.ok.fr; have := p1.ok.fr; omega
      · exfalso; omega
  · exfalso
    have := fst_far d.year e.year (by omega)
    omega
theorem slots_len : ∀ (L : _root_.List Ev) (a b : Int), L.Pairwise (fun x y => slot x < slot y) → (∀ e ∈ L, a ≤ slot e ∧ slot e ≤ b) → a ≤ b + 1 → (L.length : Int) ≤ b - a + 1 := by
  intro L
  induction L with
  | nil => intro a b _ _ h; simp; omega
  | cons x l ih =>
    intro a b hp hb hab
    rw [_root_.List.pairwise_cons] at hp
    have hx := hb x (by simp)
    have := ih (slot x + 1) b hp.2 (fun e he => ⟨by have := hp.1 e he; omega, (hb e (by simp [he])).2⟩) (by omega)
    rw [_root_.List.length_cons]
    omega
theorem wk_len {sv : Int} {rs : _root_.List Ru} {lo last a b : Int} {L : _root_.List Ev} (h : MadeP sv rs) (hw : Wk rs lo last L) (hy : ∀ e, IsEv rs e → lo < e.nom → e.nom ≤ last → a ≤ e.year ∧ e.year ≤ b) (hab : a ≤ b + 1) : (L.length : Int) ≤ 2 * (b - a + 1) := by
  have := slots_len L (2 * a) (2 * b + 1) (hw.1.imp_of_mem (fun {x y} hx hy' hl => slot_lt h ((hw.2 x).1 hx).1 ((hw.2 y).1 hy').1 hl)) (fun e he => by
    obtain ⟨h1, h2, h3⟩ := (hw.2 e).1 he
    have := hy e h1 h2 h3
    have := slot_bd e
    omega) (by omega)
  omega
theorem wk_get {rs : _root_.List Ru} {lo last : Int} {L : _root_.List Ev} {i j : Nat} {a b : Ev} (hw : Wk rs lo last L) (ha : L[i]? = some a) (hb : L[j]? = some b) (hl : i < j) : a.nom < b.nom := by
  obtain ⟨h1, rfl⟩ := _root_.List.getElem?_eq_some_iff.1 ha
  obtain ⟨h2, rfl⟩ := _root_.List.getElem?_eq_some_iff.1 hb
  exact _root_.List.pairwise_iff_getElem.1 hw.1 i j h1 h2 hl
/-- Before, just behind an event: that event -/
theorem bef_at {sv : Int} {rs : _root_.List Ru} {x : Ev} (h : MadeP sv rs) (hx : IsEv rs x) : BefIs rs (x.nom + 1) (some x) :=
  ⟨hx, by omega, fun e he hn hl => by have := (made_lt h hx he).1 hl; omega⟩
/-- Before, at an event: the one ahead of it -/
theorem bef_prev {sv : Int} {rs : _root_.List Ru} {lo last : Int} {L : _root_.List Ev} {i : Nat} {a b : Ev} (h : MadeP sv rs) (hw : Wk rs lo last L) (ha : L[i]? = some a) (hb : L[i + 1]? = some b) : BefIs rs b.nom (some a) := by
  have h1 := (hw.2 a).1 (_root_.List.mem_of_getElem? ha)
  have h2 := (hw.2 b).1 (_root_.List.mem_of_getElem? hb)
  have h3 := wk_get hw ha hb (by omega)
  refine ⟨h1.1, h3, fun e he hn hl => ?_⟩
  have h4 := (made_lt h h1.1 he).1 hl
  obtain ⟨j, hj⟩ := _root_.List.mem_iff_getElem?.1 ((hw.2 e).2 ⟨he, by omega, by omega⟩)
  rcases Nat.lt_trichotomy j i with hji | hji | hji
  · have := wk_get hw hj ha hji; omega
  · subst hji; rw [ha] at hj; cases hj; omega
  · rcases Nat.lt_or_ge (i + 1) j with h5 | h5
    · have := wk_get hw hb hj h5; omega
    · obtain rfl : j = i + 1 := by omega
      rw [hb] at hj; cases hj; omega
end Go.Proofs.YtophiphhgcmjpaaDoor.Cv
