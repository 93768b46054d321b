/-
  The law ApartSets in plain words: a made set, and one rule more for one year. No program in sight.
-/
import Derived.Test.YtghmdaahmijdiaaDoorSetM
import Derived.Test.YtghmdaahmijdiaaDoorApM
import Derived.Test.YtghmdaahmijdiaaDoorApMoreW
namespace Go.Proofs.YtghmdaahmijdiaaDoor.Cv
open Go.RowKit
set_option linter.unusedVariables false
set_option linter.unusedSimpArgs false

/-- the events of a set with one rule more, for one year -/
theorem more_ev {rs : _root_.List Ru} {m : Ru} {y N : Int} (hs : m.save = 0) (hfr : m.fr = y) (hut : m.ut = y) (hy : 1900 ≤ y ∧ y ≤ 2099) (hh : Has m y) (hN : N = nomOf (baseL rs) m y) {e : Ev} :
    IsEv (rs ++ [m]) e ↔ IsEv rs e ∨ e = ⟨y, (rs.length : Int), N⟩ := by
  constructor
  · rintro ⟨r, hr, hhr, hn⟩
    obtain ⟨k, hk, hk1, hkl⟩ := ruleAt_ex hr
    have hb : baseL (rs ++ [m]) = baseL rs := by unfold baseL; rw [leastL_more rs m hs]
    rw [hb] at hn
    rcases Nat.lt_or_ge k rs.length with h1 | h1
    · left
      refine ⟨r, ?_, hhr, hn⟩
      rw [_root_.List.getElem?_append_left h1] at hk1
      rw [show e.rule = (k : Int) by omega]
      exact ruleAt_nat hk1
    · right
      rw [_root_.List.getElem?_append_right h1] at hk1
      have hk0 : k - rs.length = 0 := by
        rcases Nat.eq_zero_or_pos (k - rs.length) with h | h
        · exact h
        · rw [_root_.List.getElem?_eq_none (by simp; omega)] at hk1; cases hk1
      rw [hk0] at hk1
      cases hk1
      have h2 := hhr.1
      have h3 := hhr.2.1
      unfold firstY at h2
      unfold lastY at h3
      rw [if_neg (by omega)] at h3
      have hye : e.year = y := by omega
      obtain ⟨a, b, c⟩ := e
      dsimp only at *
      subst hye
      rw [hn, hN]
      congr 1
      omega
  · rintro (h | rfl)
    · exact isEv_more hs h
    · refine ⟨m, ?_, hh, ?_⟩
      · refine ruleAt_nat ?_
        rw [_root_.List.getElem?_append_right (Nat.le_refl _)]
        simp
      · unfold baseL at *
        rw [leastL_more rs m hs]
        exact hN
theorem made_close {sv : Int} {rs : _root_.List Ru} (h : MadeP sv rs) : MinOf (Close rs) none := by
  rintro e ⟨⟨he, _⟩, d, ⟨hd, _⟩, hl, hn⟩
  have := made_gap h hd he (fun hde => by rw [hde] at hl; exact Ev.lt_irrefl _ hl) (lt_nom hl)
  omega
/-- which event of the wider set is too close -/
structure MoreR (rs : _root_.List Ru) (m : Ru) (x : Ev) (o : Option Ev) : Prop where
  far : FarIs rs x.nom → o = none
  near : ¬ FarIs rs x.nom → ∃ e, o = some e ∧ (e = x ∨ (x.nom ≤ e.nom ∧ e.nom - x.nom < 259200))
theorem more_close {sv : Int} {rs : _root_.List Ru} {m : Ru} {y N : Int} (h : MadeP sv rs) (hs : m.save = 0) (hfr : m.fr = y) (hut : m.ut = y) (hy : 1900 ≤ y ∧ y ≤ 2099) (hh : Has m y) (hN : N = nomOf (baseL rs) m y) (hN1 : -1152921504606846976 ≤ N) (hN2 : N ≤ 1152921504606846976)
    {o : Option Ev} (ho : MinOf (Close (rs ++ [m])) o) : MoreR rs m ⟨y, (rs.length : Int), N⟩ o := by
  have hev := fun e => more_ev (rs := rs) hs hfr hut hy hh hN (e := e)
  have hx := (hev ⟨y, (rs.length : Int), N⟩).2 (.inr rfl)
  have hcl := cl_in hN1 hN2
  have key : ∀ e, Close (rs ++ [m]) e → (e = ⟨y, (rs.length : Int), N⟩ ∨ (N ≤ e.nom ∧ e.nom - N < 259200)) ∧ ¬ FarIs rs N := by
    rintro e ⟨⟨he, _⟩, d, ⟨hd, _⟩, hl, hn⟩
    have hle := lt_nom hl
    rcases (hev e).1 he with h1 | rfl
    · rcases (hev d).1 hd with h2 | rfl
      · exfalso
        have := made_gap h h2 h1 (fun hde => by rw [hde] at hl; exact Ev.lt_irrefl _ hl) hle
        omega
      · dsimp only at hn hle
        exact ⟨.inr ⟨hle, hn⟩, fun hf => hf e h1 (by rw [hcl]; omega)⟩
    · refine ⟨.inl rfl, fun hf => ?_⟩
      rcases (hev d).1 hd with h2 | rfl
      · dsimp only at hn hle
        exact hf d h2 (by rw [hcl]; omega)
      · exact Ev.lt_irrefl _ hl
  constructor
  · intro hf
    cases o with
    | none => rfl
    | some e => exact ((key e ho.1).2 hf).elim
  · intro hf
    cases o with
    | some e => exact ⟨e, rfl, (key e ho.1).1⟩
    | none =>
      exfalso
      apply hf
      rintro e he ⟨h1, h2⟩
      dsimp only at h1 h2
      rw [hcl] at h1 h2
      have he2 := (hev e).2 (.inl he)
      have hne : e ≠ ⟨y, (rs.length : Int), N⟩ := fun hex => by
        obtain ⟨r, hr, _, _⟩ := he
        obtain ⟨k, hk, _, hkl⟩ := ruleAt_ex hr
        rw [hex] at hk
        dsimp only at hk
        omega
      rcases Ev.lt_total e ⟨y, (rs.length : Int), N⟩ with h3 | h3 | h3
      · have hy' := close_year hx he2 h3 (by dsimp only; omega)
        dsimp only at hy'
        exact ho _ ⟨⟨hx, by dsimp only; omega, by dsimp only; omega⟩, e, ⟨he2, by omega, by omega⟩, h3, by dsimp only; omega⟩
      · exact hne h3
      · have hy' := close_year he2 hx h3 (by dsimp only; omega)
        dsimp only at hy'
        exact ho _ ⟨⟨he2, by omega, by omega⟩, _, ⟨hx, by dsimp only; omega, by dsimp only; omega⟩, h3, by dsimp only; omega⟩
theorem more_far {rs : _root_.List Ru} {m : Ru} {y N : Int} (hs : m.save = 0) (hfr : m.fr = y) (hut : m.ut = y) (hy : 1900 ≤ y ∧ y ≤ 2099) (hh : Has m y) (hN : N = nomOf (baseL rs) m y) (hN1 : -1152921504606846976 ≤ N) (hN2 : N ≤ 1152921504606846976) : ¬ FarIs (rs ++ [m]) N := fun hf =>
  hf ⟨y, (rs.length : Int), N⟩ ((more_ev (rs := rs) hs hfr hut hy hh hN).2 (.inr rfl)) (by rw [cl_in hN1 hN2]; dsimp only; omega)
/-- the first event from there on -/
theorem more_aft {rs : _root_.List Ru} {m : Ru} {y N : Int} (hs : m.save = 0) (hfr : m.fr = y) (hut : m.ut = y) (hy : 1900 ≤ y ∧ y ≤ 2099) (hh : Has m y) (hN : N = nomOf (baseL rs) m y) {o : Option Ev} (ho : AftIs (rs ++ [m]) (N - 1) o) : ∃ b, o = some b ∧ b.nom ≤ N ∧ IsEv (rs ++ [m]) b := by
  have hx := (more_ev (rs := rs) hs hfr hut hy hh hN (e := ⟨y, (rs.length : Int), N⟩)).2 (.inr rfl)
  cases o with
  | none => exact (ho _ hx (by dsimp only; omega)).elim
  | some b =>
    refine ⟨b, rfl, ?_, ho.1⟩
    have h1 := ho.2.2 _ hx (by dsimp only; omega)
    rcases Int.lt_or_le N b.nom with h2 | h2
    · exact (h1 (by unfold Ev.lt; dsimp only; omega)).elim
    · exact h2
theorem in_gap {sv : Int} {rs : _root_.List Ru} {a b : Int} {L : _root_.List Ev} {i j : Nat} {x y : Ev} (h : MadeP sv rs) (hI : InIs rs a b L) (hx : L[i]? = some x) (hy : L[j]? = some y) (hl : i < j) : x.nom + 5184000 ≤ y.nom := by
  have m1 := (hI.2 x).1 (_root_.List.mem_of_getElem? hx)
  have m2 := (hI.2 y).1 (_root_.List.mem_of_getElem? hy)
  have hlt := pw_get hI.1 hx hy hl
  have := made_gap h m1.1 m2.1 (fun hde => by rw [hde] at hlt; exact Ev.lt_irrefl _ hlt) (lt_nom hlt)
  omega
/-- the rule more of the law ApartSets -/
def moreRu (y mo d sec : Int) : Ru := ⟨⟨#[82]⟩, y, y, mo, 1, 0, d, sec, 0, 0, ⟨#[]⟩⟩
theorem moreRu_has {y mo d sec : Int} (hy : 1900 ≤ y ∧ y ≤ 2099) (hm : 1 ≤ mo ∧ mo ≤ 12) (hd : 1 ≤ d ∧ d ≤ 28) (hs : 0 ≤ sec ∧ sec ≤ 65535) : Has (moreRu y mo d sec) y := by
  have hl := len_in y mo hm.1 hm.2
  refine ⟨?_, ?_, ?_, ?_⟩
  · unfold firstY moreRu; dsimp only; omega
  · unfold lastY moreRu; dsimp only; rw [if_neg (by omega)]; omega
  · unfold clk moreRu; dsimp only; omega
  · unfold moreRu
    dsimp only
    refine on_mk (by unfold inr; omega) hm.1 hm.2 ?_ (by omega)
    unfold good
    exact .inl ⟨rfl, rfl, by omega, by omega⟩
theorem moreRu_nom {bs y mo d sec : Int} (hb1 : -10800 ≤ bs) (hb2 : bs ≤ 0) (hy : 1900 ≤ y ∧ y ≤ 2099) (hm : 1 ≤ mo ∧ mo ≤ 12) (hd : 1 ≤ d ∧ d ≤ 28) (hs : 0 ≤ sec ∧ sec ≤ 65535) : -10000000000 ≤ nomOf bs (moreRu y mo d sec) y ∧ nomOf bs (moreRu y mo d sec) y ≤ 10000000000 := by
  have h := nom_bd hb1 hb2 (moreRu_has hy hm hd hs)
  have h1 := fst_far 1900 y (by omega)
  have h2 := fst_far (y + 1) 2100 (by omega)
  have h3 : fst 1900 = -25567 := by decide
  have h4 : fst 2100 = 47482 := by decide
  omega
end Go.Proofs.YtghmdaahmijdiaaDoor.Cv
