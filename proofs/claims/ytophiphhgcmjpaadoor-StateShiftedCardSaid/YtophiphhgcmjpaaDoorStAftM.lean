/-
  The state at an instant, looked for among all events of some years. No program in sight.
-/
import Derived.Test.YtophiphhgcmjpaaDoorStIniM
namespace Go.Proofs.YtophiphhgcmjpaaDoor.Cv
open Go.RowKit
set_option linter.unusedVariables false
set_option linter.unusedSimpArgs false

/-- behind the last event that is not behind t -/
theorem at_last {rs : _root_.List Ru} (h : Wide rs) (hs : ∀ r ∈ rs, -10800 ≤ r.save ∧ r.save ≤ 10800) {off t z : Int} (ho : -43200 ≤ off ∧ off ≤ 43200) {x : Ev} (hx : IsEv rs x) (hz : InstIs rs x off z) (hzt : z ≤ t) (hn : ∀ e, IsEv rs e → x.nom < e.nom → e.nom < t + 259200 → ∃ u, InstIs rs e off u ∧ t < u) :
    AtIs rs off t 3 (t + 259200) (behS rs x) := by
  have hxn := inst_near hs ho hz
  by_cases hy : ∃ y, IsEv rs y ∧ x.nom < y.nom ∧ y.nom < t + 259200
  · obtain ⟨y, hy1, hy2, hy3⟩ := hy
    obtain ⟨u, hu, hut⟩ := hn y hy1 hy2 hy3
    have hun := inst_near hs ho hu
    have same : ∀ e, IsEv rs e → x.nom < e.nom → e.nom < t + 259200 → e = y := fun e he h1 h2 => by
      obtain ⟨v, hv, hvt⟩ := hn e he h1 h2
      have hvn := inst_near hs ho hv
      by_cases hey : e = y
      · exact hey
      · rcases Int.le_total e.nom y.nom with h3 | h3
        · have := h e y he hy1 hey h3; omega
        · have := h y e hy1 he (Ne.symm hey) h3; omega
    refine .inr ⟨y, u, wide_bef h hy1 hy3 (fun e he hl => ?_), hu, .inr ⟨hut, .inr ⟨x, z, wide_bef h hx hy2 (fun e he hl => ?_), hz, .inl ⟨hzt, rfl⟩⟩⟩⟩
    · rcases Int.lt_or_le e.nom (t + 259200) with h1 | h1
      · have := same e he (by omega) h1; subst this; omega
      · exact h1
    · rcases Int.lt_or_le e.nom (t + 259200) with h1 | h1
      · have := same e he hl h1; subst this; exact Int.le_refl _
      · omega
  · refine .inr ⟨x, z, wide_bef h hx (by omega) (fun e he hl => ?_), hz, .inl ⟨hzt, rfl⟩⟩
    rcases Int.lt_or_le e.nom (t + 259200) with h1 | h1
    · exact (hy ⟨e, he, hl, h1⟩).elim
    · exact h1
/-- where all events are behind t -/
theorem at_none {rs : _root_.List Ru} (h : Wide rs) (hs : ∀ r ∈ rs, -10800 ≤ r.save ∧ r.save ≤ 10800) {off t : Int} (ho : -43200 ≤ off ∧ off ≤ 43200) (hn : ∀ e, IsEv rs e → e.nom < t + 259200 → ∃ u, InstIs rs e off u ∧ t < u) :
    AtIs rs off t 3 (t + 259200) (initS rs) := by
  by_cases hy : ∃ y, IsEv rs y ∧ y.nom < t + 259200
  · obtain ⟨y, hy1, hy3⟩ := hy
    obtain ⟨u, hu, hut⟩ := hn y hy1 hy3
    have hun := inst_near hs ho hu
    have same : ∀ e, IsEv rs e → e.nom < t + 259200 → e = y := fun e he h2 => by
      obtain ⟨v, hv, hvt⟩ := hn e he h2
      have hvn := inst_near hs ho hv
      by_cases hey : e = y
      · exact hey
      · rcases Int.le_total e.nom y.nom with h3 | h3
        · have := h e y he hy1 hey h3; omega
        · have := h y e hy1 he (Ne.symm hey) h3; omega
    refine .inr ⟨y, u, wide_bef h hy1 hy3 (fun e he hl => ?_), hu, .inr ⟨hut, .inl ⟨fun e he hl => ?_, rfl⟩⟩⟩
    · rcases Int.lt_or_le e.nom (t + 259200) with h1 | h1
      · have := same e he h1; subst this; omega
      · exact h1
    · have := same e he (by omega); subst this; omega
  · exact .inl ⟨fun e he hl => hy ⟨e, he, hl⟩, rfl⟩
/-- one second ahead of an event: the state before it -/
theorem at_prev {rs : _root_.List Ru} (h : Wide rs) (hs : ∀ r ∈ rs, -10800 ≤ r.save ∧ r.save ≤ 10800) {off z : Int} (ho : -43200 ≤ off ∧ off ≤ 43200) {x : Ev} (hx : IsEv rs x) (hz : InstIs rs x off z) {o : Option Ev} (hb : BefIs rs x.nom o) {s : Sta} (ha : AtIs rs off (z - 1) 3 (z - 1 + 259200) s) : befS rs o = s := by
  have hxn := inst_near hs ho hz
  have hxb : BefIs rs (z - 1 + 259200) (some x) := wide_bef h hx (by omega) (fun e he hl => by
    have := h x e hx he (fun hxe => by rw [hxe] at hl; omega) (by omega)
    omega)
  rcases ha with ⟨hn, _⟩ | ⟨y, u, hy, hu, ha⟩
  · exact (hn x hx hxb.2.1).elim
  · have e1 := hy.uniq hxb
    injection e1 with e1
    subst e1
    have e2 := hu.uniq hz
    subst e2
    rcases ha with ⟨hl, _⟩ | ⟨_, ha⟩
    · omega
    · rcases ha with ⟨hn, hs1⟩ | ⟨p, v, hp, hv, ha⟩
      · obtain rfl := hb.uniq hn
        exact hs1.symm
      · obtain rfl := hb.uniq hp
        rcases ha with ⟨_, hs1⟩ | ⟨hl, _⟩
        · exact hs1.symm
        · have := inst_far h hs ho hp.1 hx hp.2.1 hv hz
          omega
/-- the state behind the last one of some events that is not behind t -/
def AftS (rs : _root_.List Ru) (off t : Int) (L : _root_.List Ev) (j : Nat) (s : Sta) : Prop :=
  (s = initS rs ∧ ∀ (i : Nat) (e : Ev), i < j → L[i]? = some e → ∃ u, InstIs rs e off u ∧ t < u) ∨
  (∃ (i : Nat) (x : Ev) (z : Int), i < j ∧ L[i]? = some x ∧ InstIs rs x off z ∧ z ≤ t ∧ s = behS rs x ∧ ∀ (i' : Nat) (e : Ev), i < i' → i' < j → L[i']? = some e → ∃ u, InstIs rs e off u ∧ t < u)
theorem aftS_zero (rs : _root_.List Ru) (off t : Int) (L : _root_.List Ev) : AftS rs off t L 0 (initS rs) := .inl ⟨rfl, fun i e hi => by omega⟩
theorem aftS_yes {rs : _root_.List Ru} {off t z : Int} {L : _root_.List Ev} {j : Nat} {x : Ev} (hx : L[j]? = some x) (hz : InstIs rs x off z) (hl : z ≤ t) : AftS rs off t L (j + 1) (behS rs x) :=
  .inr ⟨j, x, z, by omega, hx, hz, hl, rfl, fun i' e h1 h2 => by omega⟩
theorem aftS_no {rs : _root_.List Ru} {off t z : Int} {L : _root_.List Ev} {j : Nat} {x : Ev} {s : Sta} (h : AftS rs off t L j s) (hx : L[j]? = some x) (hz : InstIs rs x off z) (hl : t < z) : AftS rs off t L (j + 1) s := by
  rcases h with ⟨h1, h2⟩ | ⟨i, y, v, h1, h2, h3, h4, h5, h6⟩
  · refine .inl ⟨h1, fun i e hi he => ?_⟩
    rcases Nat.lt_or_ge i j with h3 | h3
    · exact h2 i e h3 he
    · obtain rfl : i = j := by omega
      rw [hx] at he; cases he
      exact ⟨z, hz, hl⟩
  · refine .inr ⟨i, y, v, by omega, h2, h3, h4, h5, fun i' e h7 h8 he => ?_⟩
    rcases Nat.lt_or_ge i' j with h9 | h9
    · exact h6 i' e h7 h9 he
    · obtain rfl : i' = j := by omega
      rw [hx] at he; cases he
      exact ⟨z, hz, hl⟩
theorem in_all {sv t : Int} {rs : _root_.List Ru} {L : _root_.List Ev} (h : MadeP sv rs) (hI : InIs rs 1850 2170 L) (ht : t ≤ 6000000000) {e : Ev} (he : IsEv rs e) (hl : e.nom < t + 259200) : ∃ i : Nat, L[i]? = some e := by
  obtain ⟨r, hr, hh, hn⟩ := he
  have hb := baseL_bd rs
  have h1 := (nom_bd hb.1 hb.2 hh).1
  rw [← hn] at h1
  have hq := made_rule h hr
  have hf := hq.ok.fr
  have hy := hh.1
  unfold firstY at hy
  refine _root_.List.mem_iff_getElem?.1 ((hI.2 e).2 ⟨⟨r, hr, hh, hn⟩, by omega, ?_⟩)
  rcases Int.lt_or_le 2170 e.year with h2 | h2
  · have h3 := fst_far 2171 e.year (by omega)
    have h4 : 73400 ≤ fst 2171 := by decide
    omega
  · exact h2
/-- what 'after' finds is the state -/
theorem aftS_at {sv off t : Int} {rs : _root_.List Ru} {L : _root_.List Ev} {s : Sta} (h : MadeP sv rs) (hI : InIs rs 1850 2170 L) (ho : -43200 ≤ off ∧ off ≤ 43200) (ht : t ≤ 6000000000) (ha : AftS rs off t L L.length s) : AtIs rs off t 3 (t + 259200) s := by
  have hsa : ∀ r ∈ rs, -10800 ≤ r.save ∧ r.save ≤ 10800 := fun r hr => by have := made_sav h r hr; omega
  have hW := made_wide h
  rcases ha with ⟨rfl, h2⟩ | ⟨i, x, z, h1, h2, h3, h4, rfl, h6⟩
  · refine at_none hW hsa ho fun e he hl => ?_
    obtain ⟨k, hk⟩ := in_all h hI ht he hl
    exact h2 k e (_root_.List.getElem?_eq_some_iff.1 hk).1 hk
  · refine at_last hW hsa ho ((hI.2 x).1 (_root_.List.mem_of_getElem? h2)).1 h3 h4 fun e he hxe hl => ?_
    obtain ⟨k, hk⟩ := in_all h hI ht he hl
    refine h6 k e ?_ (_root_.List.getElem?_eq_some_iff.1 hk).1 hk
    rcases Nat.lt_or_ge i k with h7 | h7
    · exact h7
    · have := in_mono hI hk h2 h7
      omega
theorem in_lt {rs : _root_.List Ru} {a b : Int} {L : _root_.List Ev} (h : Wide rs) (hI : InIs rs a b L) {i j : Nat} {x y : Ev} (hx : L[i]? = some x) (hy : L[j]? = some y) (hl : i < j) : x.nom < y.nom := by
  obtain ⟨h1, e1⟩ := _root_.List.getElem?_eq_some_iff.1 hx
  obtain ⟨h2, e2⟩ := _root_.List.getElem?_eq_some_iff.1 hy
  have := _root_.List.pairwise_iff_getElem.1 hI.1 i j h1 h2 hl
  rw [e1, e2] at this
  exact (wide_lt h ((hI.2 x).1 (_root_.List.mem_of_getElem? hx)).1 ((hI.2 y).1 (_root_.List.mem_of_getElem? hy)).1).1 this
end Go.Proofs.YtophiphhgcmjpaaDoor.Cv
