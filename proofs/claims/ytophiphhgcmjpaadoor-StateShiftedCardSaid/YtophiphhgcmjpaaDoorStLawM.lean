/-
  Chapter 19's laws in plain words: the state at an instant is that of the last event that is not behind it. No program in sight.
-/
import Derived.Test.YtophiphhgcmjpaaDoorStAt
namespace Go.Proofs.YtophiphhgcmjpaaDoor.Cv
open Go.RowKit
set_option linter.unusedVariables false
set_option linter.unusedSimpArgs false

theorem made_tame {sv : Int} {rs : _root_.List Ru} (h : MadeP sv rs) : Tame rs := fun r hr => by
  have := (h.each r hr).ok.fr; omega
theorem made_sav {sv : Int} {rs : _root_.List Ru} (h : MadeP sv rs) : ∀ r ∈ rs, -3600 ≤ r.save ∧ r.save ≤ 7200 := fun r hr => by
  have h1 := (h.each r hr).save
  have h2 := h.svs
  omega
theorem made_savOk {sv : Int} {rs : _root_.List Ru} (h : MadeP sv rs) : SavOk rs := fun r hr => by have := made_sav h r hr; omega
/-- saves of states, within bounds -/
theorem befS_in {rs : _root_.List Ru} {a b : Int} (ha : a ≤ 0) (hb : 0 ≤ b) (h : ∀ r ∈ rs, a ≤ r.save ∧ r.save ≤ b) (o : Option Ev) : a ≤ (befS rs o).save ∧ (befS rs o).save ≤ b := by
  have hbeh : ∀ e, a ≤ (behS rs e).save ∧ (behS rs e).save ≤ b := by
    intro e
    unfold behS
    split
    · rename_i r hr
      obtain ⟨k, _, hk, _⟩ := ruleAt_ex hr
      exact h r (_root_.List.mem_of_getElem? hk)
    · exact ⟨ha, hb⟩
  cases o with
  | some e => exact hbeh e
  | none =>
    show a ≤ (initS rs).save ∧ (initS rs).save ≤ b
    unfold initS
    split
    · exact ⟨ha, hb⟩
    · split
      · exact hbeh _
      · exact hbeh _
/-- instants are near their nominal times -/
theorem inst_near {rs : _root_.List Ru} {e : Ev} {off z : Int} (h : ∀ r ∈ rs, -10800 ≤ r.save ∧ r.save ≤ 10800) (ho : -43200 ≤ off ∧ off ≤ 43200) (hz : InstIs rs e off z) : e.nom - 54000 ≤ z ∧ z ≤ e.nom + 54000 := by
  obtain ⟨r, hr, hz⟩ := hz
  rcases hz with ⟨_, o, _, hz⟩ | ⟨_, hz⟩ | ⟨_, _, hz⟩
  · have := befS_in (by omega) (by omega) h o
    omega
  · have := baseL_bd rs
    omega
  · omega
/-- a set whose events lie ten days apart or more -/
def Wide (rs : _root_.List Ru) : Prop := ∀ e d, IsEv rs e → IsEv rs d → e ≠ d → e.nom ≤ d.nom → e.nom + 864000 ≤ d.nom
theorem made_wide {sv : Int} {rs : _root_.List Ru} (h : MadeP sv rs) : Wide rs := fun e d he hd hne hl => by have := made_gap h he hd hne hl; omega
theorem wide_lt {rs : _root_.List Ru} (h : Wide rs) {e d : Ev} (he : IsEv rs e) (hd : IsEv rs d) : e.lt d ↔ e.nom < d.nom := by
  constructor
  · intro hl
    by_cases hne : e = d
    · subst hne; exact (Ev.lt_irrefl _ hl).elim
    · have h1 : e.nom ≤ d.nom := by unfold Ev.lt at hl; omega
      have := h e d he hd hne h1
      omega
  · intro hl; unfold Ev.lt; omega
theorem wide_bef {rs : _root_.List Ru} (h : Wide rs) {x : Ev} {N : Int} (hx : IsEv rs x) (hN : x.nom < N) (hn : ∀ e, IsEv rs e → x.nom < e.nom → N ≤ e.nom) : BefIs rs N (some x) :=
  ⟨hx, hN, fun e he hn1 hl => by have := hn e he ((wide_lt h hx he).1 hl); omega⟩
/-- the next event is the least later one -/
theorem wide_aft {rs : _root_.List Ru} (h : Wide rs) {N : Int} {y e : Ev} (hy : AftIs rs N (some y)) (he : IsEv rs e) (hn : N < e.nom) : y.nom ≤ e.nom := by
  have := hy.2.2 e he hn
  rcases Int.lt_or_le e.nom y.nom with h1 | h1
  · exact (this ((wide_lt h he hy.1).2 h1)).elim
  · exact h1
/-- between an event's instant and the next one's: the state behind it -/
theorem at_between {rs : _root_.List Ru} (h : Wide rs) (hs : ∀ r ∈ rs, -10800 ≤ r.save ∧ r.save ≤ 10800) {off t z : Int} (ho : -43200 ≤ off ∧ off ≤ 43200) {x : Ev} {oy : Option Ev} (hx : IsEv rs x) (hz : InstIs rs x off z) (hzt : z ≤ t) (hy : AftIs rs x.nom oy) (hyt : ∀ y, oy = some y → ∃ u, InstIs rs y off u ∧ t < u) :
    AtIs rs off t 3 (t + 259200) (behS rs x) := by
  have hn := inst_near hs ho hz
  have fin : ∀ N, x.nom < N → (∀ e, IsEv rs e → x.nom < e.nom → N ≤ e.nom) → ∀ n, AtIs rs off t (n + 1) N (behS rs x) := fun N h1 h2 n => .inr ⟨x, z, wide_bef h hx h1 h2, hz, .inl ⟨hzt, rfl⟩⟩
  cases oy with
  | none => exact fin _ (by omega) (fun e he hl => (hy e he hl).elim) 2
  | some y =>
    obtain ⟨u, hu, htu⟩ := hyt y rfl
    have hun := inst_near hs ho hu
    rcases Int.lt_or_le y.nom (t + 259200) with h1 | h1
    · refine .inr ⟨y, u, wide_bef h hy.1 h1 (fun e he hl => ?_), hu, .inr ⟨htu, fin y.nom hy.2.1 (fun e he hl => wide_aft h hy he hl) 1⟩⟩
      have := h y e hy.1 he (fun hye => by rw [hye] at hl; omega) (by omega)
      omega
    · exact fin _ (by omega) (fun e he hl => by have := wide_aft h hy he hl; omega) 2
/-- before the first event's instant: the first state -/
theorem at_before {rs : _root_.List Ru} (h : Wide rs) (hs : ∀ r ∈ rs, -10800 ≤ r.save ∧ r.save ≤ 10800) {off t u : Int} (ho : -43200 ≤ off ∧ off ≤ 43200) {y : Ev} (hy : IsEv rs y) (hf : ∀ e, IsEv rs e → y.nom ≤ e.nom) (hu : InstIs rs y off u) (htu : t < u) :
    AtIs rs off t 3 (t + 259200) (initS rs) := by
  have hun := inst_near hs ho hu
  have hbn : ∀ N, N ≤ y.nom → BefIs rs N none := fun N hN e he hl => by have := hf e he; omega
  rcases Int.lt_or_le y.nom (t + 259200) with h1 | h1
  · refine .inr ⟨y, u, wide_bef h hy h1 (fun e he hl => ?_), hu, .inr ⟨htu, .inl ⟨hbn _ (Int.le_refl _), rfl⟩⟩⟩
    have := h y e hy he (fun hye => by rw [hye] at hl; omega) (by omega)
    omega
  · exact .inl ⟨hbn _ h1, rfl⟩
/-- at an event's own instant -/
theorem at_own {rs : _root_.List Ru} (h : Wide rs) (hs : ∀ r ∈ rs, -10800 ≤ r.save ∧ r.save ≤ 10800) {off z : Int} (ho : -43200 ≤ off ∧ off ≤ 43200) {x : Ev} (hx : IsEv rs x) (hz : InstIs rs x off z) : AtIs rs off z 3 (z + 259200) (behS rs x) := by
  have hn := inst_near hs ho hz
  refine .inr ⟨x, z, wide_bef h hx (by omega) (fun e he hl => ?_), hz, .inl ⟨Int.le_refl _, rfl⟩⟩
  have := h x e hx he (fun hxe => by rw [hxe] at hl; omega) (by omega)
  omega
/-- instants stand in the order of the events, and far apart -/
theorem inst_far {rs : _root_.List Ru} (h : Wide rs) (hs : ∀ r ∈ rs, -10800 ≤ r.save ∧ r.save ≤ 10800) {off z u : Int} (ho : -43200 ≤ off ∧ off ≤ 43200) {x y : Ev} (hx : IsEv rs x) (hy : IsEv rs y) (hl : x.nom < y.nom) (hz : InstIs rs x off z) (hu : InstIs rs y off u) : z + 756000 ≤ u := by
  have h1 := inst_near hs ho hz
  have h2 := inst_near hs ho hu
  have := h x y hx hy (fun hxy => by rw [hxy] at hl; omega) (by omega)
  omega
end Go.Proofs.YtophiphhgcmjpaaDoor.Cv
