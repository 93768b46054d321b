/-
  The best of some events, in plain words: what the reference's Before and After look for. No program in sight.
-/
import Derived.Test.YtghmdaahmijdiaaDoorEvRefNear
import Derived.Test.YtghmdaahmijdiaaDoorEvRefOn
namespace Go.Proofs.YtghmdaahmijdiaaDoor.Cv
set_option linter.unusedVariables false
set_option linter.unusedSimpArgs false

/-- the last one, in order, of the events of which P holds -/
def MaxOf (P : Ev → Prop) : Option Ev → Prop
  | none => ∀ e, ¬ P e
  | some x => P x ∧ ∀ e, P e → ¬ x.lt e
/-- the first one -/
def MinOf (P : Ev → Prop) : Option Ev → Prop
  | none => ∀ e, ¬ P e
  | some x => P x ∧ ∀ e, P e → ¬ e.lt x
theorem MaxOf.congr {P Q : Ev → Prop} {o : Option Ev} (h : MaxOf P o) (hpq : ∀ e, P e ↔ Q e) : MaxOf Q o := by
  cases o with
  | none => exact fun e he => h e ((hpq e).2 he)
  | some x => exact ⟨(hpq x).1 h.1, fun e he => h.2 e ((hpq e).2 he)⟩
theorem MinOf.congr {P Q : Ev → Prop} {o : Option Ev} (h : MinOf P o) (hpq : ∀ e, P e ↔ Q e) : MinOf Q o := by
  cases o with
  | none => exact fun e he => h e ((hpq e).2 he)
  | some x => exact ⟨(hpq x).1 h.1, fun e he => h.2 e ((hpq e).2 he)⟩
theorem MaxOf.first {P : Ev → Prop} {y : Ev} (h : MaxOf P none) : MaxOf (fun e => P e ∨ e = y) (some y) :=
  ⟨.inr rfl, fun e he => by
    rcases he with he | rfl
    · exact (h e he).elim
    · exact Ev.lt_irrefl _⟩
theorem MaxOf.new {P : Ev → Prop} {x y : Ev} (h : MaxOf P (some x)) (hl : x.lt y) : MaxOf (fun e => P e ∨ e = y) (some y) :=
  ⟨.inr rfl, fun e he => by
    rcases he with he | rfl
    · exact fun hy => h.2 e he (Ev.lt_trans hl hy)
    · exact Ev.lt_irrefl _⟩
theorem MaxOf.old {P : Ev → Prop} {x y : Ev} (h : MaxOf P (some x)) (hl : ¬ x.lt y) : MaxOf (fun e => P e ∨ e = y) (some x) :=
  ⟨.inl h.1, fun e he => by
    rcases he with he | rfl
    · exact h.2 e he
    · exact hl⟩
theorem MinOf.first {P : Ev → Prop} {y : Ev} (h : MinOf P none) : MinOf (fun e => P e ∨ e = y) (some y) :=
  ⟨.inr rfl, fun e he => by
    rcases he with he | rfl
    · exact (h e he).elim
    · exact Ev.lt_irrefl _⟩
theorem MinOf.new {P : Ev → Prop} {x y : Ev} (h : MinOf P (some x)) (hl : y.lt x) : MinOf (fun e => P e ∨ e = y) (some y) :=
  ⟨.inr rfl, fun e he => by
    rcases he with he | rfl
    · exact fun hy => h.2 e he (Ev.lt_trans hy hl)
    · exact Ev.lt_irrefl _⟩
theorem MinOf.old {P : Ev → Prop} {x y : Ev} (h : MinOf P (some x)) (hl : ¬ y.lt x) : MinOf (fun e => P e ∨ e = y) (some x) :=
  ⟨.inl h.1, fun e he => by
    rcases he with he | rfl
    · exact h.2 e he
    · exact hl⟩
/-- the years that Before looks at -/
def InDn (r : Ru) (q y : Int) : Prop := max (firstY r) (min (lastY r) (q + 2) - 20) ≤ y ∧ y ≤ min (lastY r) (q + 2)
def InUp (r : Ru) (q y : Int) : Prop := max (firstY r) (q - 2) ≤ y ∧ y ≤ min (lastY r) (max (firstY r) (q - 2) + 20)
theorem NearIs.dn {r : Ru} {q a b : Int} (h : NearIs r q false a b) (y : Int) : (a ≤ y ∧ y ≤ b) ↔ InDn r q y := by
  obtain ⟨h1, h2, h3⟩ := h.2 rfl
  unfold InDn
  by_cases hb : firstY r ≤ b
  · rw [h2 hb, h1]
  · have := h3 (by omega)
    omega
theorem NearIs.up {r : Ru} {q a b : Int} (h : NearIs r q true a b) (y : Int) : (a ≤ y ∧ y ≤ b) ↔ InUp r q y := by
  obtain ⟨h1, h2, h3⟩ := h.1 rfl
  unfold InUp
  by_cases hb : a ≤ lastY r
  · rw [h2 hb, h1]
  · have := h3 (by omega)
    omega
/-- the events that Before looks at -/
def PDn (rs : _root_.List Ru) (N q : Int) (e : Ev) : Prop := IsEv rs e ∧ e.nom < N ∧ ∀ r, ruleAt rs e.rule = some r → InDn r q e.year
def PUp (rs : _root_.List Ru) (N q : Int) (e : Ev) : Prop := IsEv rs e ∧ N < e.nom ∧ ∀ r, ruleAt rs e.rule = some r → InUp r q e.year
theorem dn_near {rs : _root_.List Ru} {N q : Int} (hN : YearOf N q) {e : Ev} (he : IsEv rs e) (hn : e.nom < N) : ∃ x, PDn rs N q x ∧ ¬ x.lt e := by
  obtain ⟨r, hr, hh, hm⟩ := id he
  obtain ⟨b1, b2⟩ := baseL_bd rs
  have hz1 := hh.1
  have hz2 := hh.2.1
  have h0 : e.year ≤ q + 1 := by
    rcases (show q + 1 < e.year ∨ e.year ≤ q + 1 by omega) with h | h
    · have := far_behind b1 b2 hN hh (by omega)
      omega
    · exact h
  by_cases hin : InDn r q e.year
  · exact ⟨e, ⟨he, hn, fun p hp => by rw [hr] at hp; cases hp; exact hin⟩, Ev.lt_irrefl e⟩
  · unfold InDn at hin
    obtain ⟨j, j1, j2, j3⟩ := hh.near (min (lastY r) (q + 2) - 12) (by omega) (by omega)
    have hb := far_before b1 b2 hN j3 (by omega)
    have hg := nom_gap (bs := baseL rs) hh j3 (by omega)
    refine ⟨⟨min (lastY r) (q + 2) - 12 + j, e.rule, nomOf (baseL rs) r (min (lastY r) (q + 2) - 12 + j)⟩, ⟨⟨r, hr, j3, rfl⟩, hb, fun p hp => ?_⟩, ?_⟩
    · have hp : ruleAt rs e.rule = some p := hp
      rw [hr] at hp
      cases hp
      unfold InDn
      dsimp only
      omega
    · unfold Ev.lt
      dsimp only
      omega
theorem up_near {rs : _root_.List Ru} {N q : Int} (hN : YearOf N q) {e : Ev} (he : IsEv rs e) (hn : N < e.nom) : ∃ x, PUp rs N q x ∧ ¬ e.lt x := by
  obtain ⟨r, hr, hh, hm⟩ := id he
  obtain ⟨b1, b2⟩ := baseL_bd rs
  have hz1 := hh.1
  have hz2 := hh.2.1
  have h0 : q - 1 ≤ e.year := by
    rcases (show e.year < q - 1 ∨ q - 1 ≤ e.year by omega) with h | h
    · have := far_before b1 b2 hN hh (by omega)
      omega
    · exact h
  by_cases hin : InUp r q e.year
  · exact ⟨e, ⟨he, hn, fun p hp => by rw [hr] at hp; cases hp; exact hin⟩, Ev.lt_irrefl e⟩
  · unfold InUp at hin
    obtain ⟨j, j1, j2, j3⟩ := hh.near (max (firstY r) (q - 2) + 5) (by omega) (by omega)
    have hb := far_behind b1 b2 hN j3 (by omega)
    have hg := nom_gap (bs := baseL rs) j3 hh (by omega)
    refine ⟨⟨max (firstY r) (q - 2) + 5 + j, e.rule, nomOf (baseL rs) r (max (firstY r) (q - 2) + 5 + j)⟩, ⟨⟨r, hr, j3, rfl⟩, hb, fun p hp => ?_⟩, ?_⟩
    · have hp : ruleAt rs e.rule = some p := hp
      rw [hr] at hp
      cases hp
      unfold InUp
      dsimp only
      omega
    · unfold Ev.lt
      dsimp only
      omega
/-- the last one of those that Before looks at is the last one of all -/
theorem bef_of {rs : _root_.List Ru} {N q : Int} (hN : YearOf N q) {o : Option Ev} (h : MaxOf (PDn rs N q) o) : BefIs rs N o := by
  cases o with
  | none =>
    intro e he hn
    obtain ⟨x, hx, _⟩ := dn_near hN he hn
    exact h x hx
  | some b =>
    refine ⟨h.1.1, h.1.2.1, fun e he hn hlt => ?_⟩
    obtain ⟨x, hx, hxe⟩ := dn_near hN he hn
    refine h.2 x hx ?_
    rcases Ev.lt_total x e with h1 | h1 | h1
    · exact (hxe h1).elim
    · rw [h1]; exact hlt
    · exact Ev.lt_trans hlt h1
theorem aft_of {rs : _root_.List Ru} {N q : Int} (hN : YearOf N q) {o : Option Ev} (h : MinOf (PUp rs N q) o) : AftIs rs N o := by
  cases o with
  | none =>
    intro e he hn
    obtain ⟨x, hx, _⟩ := up_near hN he hn
    exact h x hx
  | some b =>
    refine ⟨h.1.1, h.1.2.1, fun e he hn hlt => ?_⟩
    obtain ⟨x, hx, hxe⟩ := up_near hN he hn
    refine h.2 x hx ?_
    rcases Ev.lt_total e x with h1 | h1 | h1
    · exact (hxe h1).elim
    · rw [← h1]; exact hlt
    · exact Ev.lt_trans h1 hlt
/-! the two loops -/
def PG (rs : _root_.List Ru) (C : Int → Prop) (R : Ru → Int → Prop) (e : Ev) : Prop := IsEv rs e ∧ C e.nom ∧ ∀ r, ruleAt rs e.rule = some r → R r e.year
/-- what has been looked at: all years of the rules ahead of k, those of k from a on, ahead of t -/
def PI (rs : _root_.List Ru) (C : Int → Prop) (R : Ru → Int → Prop) (k a t : Int) (e : Ev) : Prop := (PG rs C R e ∧ e.rule < k) ∨ (IsEv rs e ∧ C e.nom ∧ e.rule = k ∧ a ≤ e.year ∧ e.year < t)
theorem isEv_rule {rs : _root_.List Ru} {e : Ev} (h : IsEv rs e) : 0 ≤ e.rule ∧ e.rule < rs.length := by
  obtain ⟨r, hr, _⟩ := h
  unfold ruleAt at hr
  split at hr
  · have := (_root_.List.getElem?_eq_some_iff.1 hr).1
    omega
  · cases hr
theorem pi_start {rs : _root_.List Ru} {C : Int → Prop} {R : Ru → Int → Prop} {k a : Int} (e : Ev) : (PG rs C R e ∧ e.rule < k) ↔ PI rs C R k a a e := by
  unfold PI
  constructor
  · exact fun h => .inl h
  · rintro (h | ⟨_, _, _, h1, h2⟩)
    · exact h
    · omega
theorem pi_no {rs : _root_.List Ru} {C : Int → Prop} {R : Ru → Int → Prop} {k a t : Int} (h : ∀ ev, evOn rs k t = some ev → ¬ C ev.nom) (e : Ev) : PI rs C R k a t e ↔ PI rs C R k a (t + 1) e := by
  unfold PI
  constructor
  · rintro (h1 | ⟨h1, h2, h3, h4, h5⟩)
    · exact .inl h1
    · exact .inr ⟨h1, h2, h3, h4, by omega⟩
  · rintro (h1 | ⟨h1, h2, h3, h4, h5⟩)
    · exact .inl h1
    · by_cases ht : e.year = t
      · have hx := is_evOn h1
        rw [h3, ht] at hx
        exact (h e hx h2).elim
      · exact .inr ⟨h1, h2, h3, h4, by omega⟩
theorem pi_yes {rs : _root_.List Ru} {C : Int → Prop} {R : Ru → Int → Prop} {k a t : Int} {ev : Ev} (h : evOn rs k t = some ev) (hc : C ev.nom) (ha : a ≤ t) (e : Ev) : (PI rs C R k a t e ∨ e = ev) ↔ PI rs C R k a (t + 1) e := by
  obtain ⟨he, hk, hy⟩ := evOn_is h
  unfold PI
  constructor
  · rintro ((h1 | ⟨h1, h2, h3, h4, h5⟩) | rfl)
    · exact .inl h1
    · exact .inr ⟨h1, h2, h3, h4, by omega⟩
    · exact .inr ⟨he, hc, hk, by omega, by omega⟩
  · rintro (h1 | ⟨h1, h2, h3, h4, h5⟩)
    · exact .inl (.inl h1)
    · by_cases ht : e.year = t
      · have hx := is_evOn h1
        rw [h3, ht, h] at hx
        exact .inr (Option.some.inj hx).symm
      · exact .inl (.inr ⟨h1, h2, h3, h4, by omega⟩)
theorem pi_end {rs : _root_.List Ru} {C : Int → Prop} {R : Ru → Int → Prop} {k : Nat} {a b t : Int} {r : Ru} (hr : rs[k]? = some r) (hab : ∀ y, (a ≤ y ∧ y ≤ b) ↔ R r y) (h1 : b < t) (h2 : t ≤ b + 1 ∨ t = a) (e : Ev) : PI rs C R k a t e ↔ (PG rs C R e ∧ e.rule < ((k + 1 : Nat) : Int)) := by
  have hra : ruleAt rs (k : Int) = some r := ruleAt_nat hr
  unfold PI
  constructor
  · rintro (⟨h3, h4⟩ | ⟨h3, h4, h5, h6, h7⟩)
    · exact ⟨h3, by omega⟩
    · refine ⟨⟨h3, h4, fun p hp => ?_⟩, by omega⟩
      rw [h5, hra] at hp
      cases hp
      exact (hab _).1 ⟨h6, by omega⟩
  · rintro ⟨h3, h4⟩
    by_cases hk : e.rule = k
    · have := (hab e.year).2 (h3.2.2 r (by rw [hk]; exact hra))
      exact .inr ⟨h3.1, h3.2.1, hk, this.1, by omega⟩
    · exact .inl ⟨h3, by omega⟩
theorem pg_full {rs : _root_.List Ru} {C : Int → Prop} {R : Ru → Int → Prop} {n : Nat} (hn : n = rs.length) (e : Ev) : (PG rs C R e ∧ e.rule < (n : Int)) ↔ PG rs C R e :=
  ⟨fun h => h.1, fun h => ⟨h, by have := isEv_rule h.1; omega⟩⟩
theorem pg_zero {rs : _root_.List Ru} {C : Int → Prop} {R : Ru → Int → Prop} (e : Ev) : ¬ (PG rs C R e ∧ e.rule < ((0 : Nat) : Int)) := fun h => by
  have := isEv_rule h.1.1
  have := h.2
  omega
theorem yearOf_d {N y r : Int} (h : YearD (N / 86400) y r) : YearOf N (clamp y) := by
  obtain ⟨h1, h2, h3⟩ := h
  have hs := fst_succ y
  have e1 : ∀ a b : Int, a ≤ b → fst a ≤ fst b := fst_mono
  unfold clamp
  split
  · rename_i hy
    refine ⟨by omega, by omega, fun _ => ?_, fun h => by omega⟩
    have := e1 (y + 1) (-2000000000 + 1) (by omega)
    omega
  · split
    · rename_i _ hy
      refine ⟨by omega, by omega, fun h => by omega, fun _ => ?_⟩
      have := e1 2000000000 y (by omega)
      omega
    · exact ⟨by omega, by omega, fun _ => by omega, fun _ => by omega⟩
end Go.Proofs.YtghmdaahmijdiaaDoor.Cv
