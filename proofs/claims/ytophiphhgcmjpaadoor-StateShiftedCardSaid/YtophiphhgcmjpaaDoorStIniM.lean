/-
  The first state of a made set, in plain words. No program in sight.
-/
import Derived.Test.YtophiphhgcmjpaaDoorStLawM
import Derived.Test.YtophiphhgcmjpaaDoorEvEx
namespace Go.Proofs.YtophiphhgcmjpaaDoor.Cv
open Go.RowKit
set_option linter.unusedVariables false
set_option linter.unusedSimpArgs false

/-- a set whose rules all have an event in their first year, and that is Wide -/
def HasF (rs : _root_.List Ru) : Prop := ∀ r ∈ rs, Has r r.fr ∧ -2000000000 ≤ r.fr
theorem firstEv_has {rs : _root_.List Ru} (hf : HasF rs) {k : Nat} {r : Ru} (hk : rs[k]? = some r) : firstEv rs k = some ⟨r.fr, (k : Int), nomOf (baseL rs) r r.fr⟩ := by
  unfold firstEv
  rw [hk]
  have h := hf r (_root_.List.mem_of_getElem? hk)
  have he : evOn rs (k : Int) r.fr = some ⟨r.fr, (k : Int), nomOf (baseL rs) r r.fr⟩ := evOn_yes hk h.1
  simp only [firstFrom, he]
/-- each event has a first one of its rule -/
theorem ev_first {rs : _root_.List Ru} (hf : HasF rs) {e : Ev} (he : IsEv rs e) : ∃ d, d ∈ firstsL rs rs.length ∧ d.rule = e.rule ∧ d.nom ≤ e.nom := by
  obtain ⟨r, hr, hh, hn⟩ := he
  obtain ⟨k, hk, hk1, hkl⟩ := ruleAt_ex hr
  have h := hf r (_root_.List.mem_of_getElem? hk1)
  refine ⟨⟨r.fr, (k : Int), nomOf (baseL rs) r r.fr⟩, _root_.List.mem_filterMap.2 ⟨k, _root_.List.mem_range.2 hkl, firstEv_has hf hk1⟩, by dsimp only; omega, ?_⟩
  dsimp only
  rw [hn]
  have hy := hh.1
  unfold firstY at hy
  rcases Int.lt_or_le r.fr e.year with h1 | h1
  · have := nom_gap (bs := baseL rs) h.1 hh h1; omega
  · have : e.year = r.fr := by omega
    rw [this]; exact Int.le_refl _
theorem wide_eq {rs : _root_.List Ru} (h : Wide rs) {e d : Ev} (he : IsEv rs e) (hd : IsEv rs d) (hn : e.nom = d.nom) : e = d := by
  by_cases hne : e = d
  · exact hne
  · have := h e d he hd hne (by omega); omega
/-- the least event that is not left out -/
theorem best_least {rs : _root_.List Ru} (h : Wide rs) (hf : HasF rs) {all : Bool} {but : Int} {x : Ev} (hx : IsEv rs x) (ho : outB rs all but x = false) (hl : ∀ e, IsEv rs e → outB rs all but e = false → x.nom ≤ e.nom) : bestL rs all but (firstsL rs rs.length) = some x := by
  have hb := bestL_is rs all but (firstsL rs rs.length)
  obtain ⟨d, hd, hdr, hdn⟩ := ev_first hf hx
  have hdo : outB rs all but d = false := by unfold outB at ho ⊢; rw [hdr]; exact ho
  have hde : d = x := wide_eq h (firstsL_ev hd) hx (by have := hl d (firstsL_ev hd) hdo; omega)
  subst hde
  cases hq : bestL rs all but (firstsL rs rs.length) with
  | none =>
    rw [hq] at hb
    have := hb d hd
    rw [hdo] at this; cases this
  | some y =>
    rw [hq] at hb
    have h1 := hb.2.2 d hd hdo
    have h2 := hl y (firstsL_ev hb.1) hb.2.1
    rw [wide_eq h (firstsL_ev hb.1) hx (by omega)]
theorem best_out {rs : _root_.List Ru} {all : Bool} {but : Int} {n : Nat} (hl : ∀ e, IsEv rs e → outB rs all but e = true) : bestL rs all but (firstsL rs n) = none := by
  have hb := bestL_is rs all but (firstsL rs n)
  cases hq : bestL rs all but (firstsL rs n) with
  | none => rfl
  | some y =>
    rw [hq] at hb
    have := hl y (firstsL_ev hb.1)
    rw [hb.2.1] at this; cases this
theorem outB_all {rs : _root_.List Ru} {but : Int} {e : Ev} : outB rs true but e = false := by unfold outB; simp
theorem outB_no {rs : _root_.List Ru} {but : Int} {e : Ev} (h : saveAt rs e.rule ≠ but) : outB rs false but e = false := by unfold outB; simp [h]
theorem outB_of {rs : _root_.List Ru} {but : Int} {e : Ev} (h : outB rs false but e = false) : saveAt rs e.rule ≠ but := by unfold outB at h; simpa using h
theorem outB_yes {rs : _root_.List Ru} {but : Int} {e : Ev} (h : saveAt rs e.rule = but) : outB rs false but e = true := by unfold outB; simp [h]
theorem init_some {rs : _root_.List Ru} (h : Wide rs) (hf : HasF rs) {x y : Ev} (hx : IsEv rs x) (hxl : ∀ e, IsEv rs e → x.nom ≤ e.nom) (hy : IsEv rs y) (hys : saveAt rs y.rule ≠ saveAt rs x.rule) (hyl : ∀ e, IsEv rs e → saveAt rs e.rule ≠ saveAt rs x.rule → y.nom ≤ e.nom) : initS rs = behS rs y := by
  unfold initS
  rw [best_least h hf hx outB_all (fun e he _ => hxl e he)]
  simp only
  rw [best_least h hf hy (outB_no hys) (fun e he ho => hyl e he (outB_of ho))]
theorem init_none {rs : _root_.List Ru} (h : Wide rs) (hf : HasF rs) {x : Ev} (hx : IsEv rs x) (hxl : ∀ e, IsEv rs e → x.nom ≤ e.nom) (hn : ∀ e, IsEv rs e → saveAt rs e.rule = saveAt rs x.rule) : initS rs = behS rs x := by
  unfold initS
  rw [best_least h hf hx outB_all (fun e he _ => hxl e he)]
  simp only
  rw [best_out (fun e he => outB_yes (hn e he))]
/-- the first event has an instant -/
theorem inst_first {rs : _root_.List Ru} {x : Ev} (hx : IsEv rs x) (hxl : ∀ e, IsEv rs e → x.nom ≤ e.nom) (off : Int) : ∃ u, InstIs rs x off u := by
  obtain ⟨r, hr, hh, hn⟩ := hx
  by_cases h0 : r.base = 0
  · exact ⟨_, r, hr, .inl ⟨h0, none, fun e he hl => by have := hxl e he; omega, rfl⟩⟩
  · by_cases h1 : r.base = 1
    · exact ⟨_, r, hr, .inr (.inl ⟨h1, rfl⟩)⟩
    · exact ⟨_, r, hr, .inr (.inr ⟨h0, h1, rfl⟩)⟩
theorem DayOk.good {k w d : Int} (h : DayOk k w d) : good k w d ∧ d ≤ 28 := by
  unfold DayOk at h; unfold Cv.good; omega
theorem RuOk.has {r : Ru} (h : RuOk r) {y : Int} (h1 : r.fr ≤ y) (h2 : (r.ut = 1048576 ∧ y ≤ 2000000000) ∨ y ≤ r.ut) (h3 : r.ut ≤ 2000000000) : Has r y := by
  have hf : firstY r = r.fr := by unfold firstY; have := h.fr; omega
  have hfr := h.fr
  obtain ⟨hg, hd⟩ := h.day.good
  have hm := h.mo
  have hc := h.clk
  have hy : y ≤ 2000000000 := by omega
  refine ⟨by omega, ?_, by show -604799 ≤ r.sec ∧ r.sec ≤ 604799 ∧ 0 ≤ r.base ∧ r.base ≤ 2; omega, on_mk (by unfold inr; omega) hm.1 hm.2 hg (by have := len_in y r.mo hm.1 hm.2; omega)⟩
  unfold lastY
  split <;> omega
theorem made_hasF {sv : Int} {rs : _root_.List Ru} (h : MadeP sv rs) : HasF rs := fun r hr => by
  have hk := (h.each r hr).ok
  have h1 := hk.fr
  have h2 := hk.ut
  exact ⟨hk.has (Int.le_refl _) (by omega) (by omega), by omega⟩
/-- each event has one of its rule among those of the years 1850 to 2170, which is not behind it -/
theorem in_first {sv : Int} {rs : _root_.List Ru} {L : _root_.List Ev} (h : MadeP sv rs) (hI : InIs rs 1850 2170 L) {e : Ev} (he : IsEv rs e) : ∃ d, d ∈ L ∧ d.rule = e.rule ∧ d.nom ≤ e.nom := by
  obtain ⟨r, hr, hh, hn⟩ := he
  obtain ⟨k, hk, hk1, hkl⟩ := ruleAt_ex hr
  have hq := (h.each r (_root_.List.mem_of_getElem? hk1)).ok.fr
  have hf := (made_hasF h r (_root_.List.mem_of_getElem? hk1)).1
  have hd : IsEv rs ⟨r.fr, (k : Int), nomOf (baseL rs) r r.fr⟩ := ⟨r, ruleAt_nat hk1, hf, rfl⟩
  refine ⟨_, (hI.2 _).2 ⟨hd, by dsimp only; omega, by dsimp only; omega⟩, by dsimp only; omega, ?_⟩
  dsimp only
  rw [hn]
  have hy := hh.1
  unfold firstY at hy
  rcases Int.lt_or_le r.fr e.year with h1 | h1
  · have := nom_gap (bs := baseL rs) hf hh h1; omega
  · have : e.year = r.fr := by omega
    rw [this]; exact Int.le_refl _
theorem in_some {sv : Int} {rs : _root_.List Ru} {L : _root_.List Ev} (h : MadeP sv rs) (hI : InIs rs 1850 2170 L) : ∃ x, L[0]? = some x := by
  obtain ⟨l, ra, rb, e, _⟩ := h.last
  have hra : ra ∈ rs := by rw [e]; simp
  obtain ⟨k, hk⟩ := _root_.List.mem_iff_getElem?.1 hra
  have hf := (made_hasF h ra hra).1
  obtain ⟨d, hd, _⟩ := in_first h hI (e := ⟨ra.fr, (k : Int), nomOf (baseL rs) ra ra.fr⟩) ⟨ra, ruleAt_nat hk, hf, rfl⟩
  cases L with
  | nil => cases hd
  | cons x l => exact ⟨x, rfl⟩
theorem in_mono {rs : _root_.List Ru} {a b : Int} {L : _root_.List Ev} (hI : InIs rs a b L) {i j : Nat} {x y : Ev} (hx : L[i]? = some x) (hy : L[j]? = some y) (hl : i ≤ j) : x.nom ≤ y.nom := by
  rcases Nat.lt_or_ge i j with h | h
  · obtain ⟨h1, rfl⟩ := _root_.List.getElem?_eq_some_iff.1 hx
    obtain ⟨h2, rfl⟩ := _root_.List.getElem?_eq_some_iff.1 hy
    have := _root_.List.pairwise_iff_getElem.1 hI.1 i j h1 h2 h
    unfold Ev.lt at this
    omega
  · obtain rfl : i = j := by omega
    rw [hx] at hy; cases hy; exact Int.le_refl _
theorem in_least {sv : Int} {rs : _root_.List Ru} {L : _root_.List Ev} (h : MadeP sv rs) (hI : InIs rs 1850 2170 L) {x : Ev} (hx : L[0]? = some x) {e : Ev} (he : IsEv rs e) : x.nom ≤ e.nom := by
  obtain ⟨d, hd, _, hdn⟩ := in_first h hI he
  obtain ⟨j, hj⟩ := _root_.List.mem_iff_getElem?.1 hd
  have := in_mono hI hx hj (Nat.zero_le _)
  omega
/-- the first one with another save -/
theorem in_other {sv c : Int} {rs : _root_.List Ru} {L : _root_.List Ev} (h : MadeP sv rs) (hI : InIs rs 1850 2170 L) {k : Nat} {y : Ev} (hy : L[k]? = some y) (hn : ∀ (i : Nat) (d : Ev), i < k → L[i]? = some d → saveAt rs d.rule = c) {e : Ev} (he : IsEv rs e) (hs : saveAt rs e.rule ≠ c) : y.nom ≤ e.nom := by
  obtain ⟨d, hd, hdr, hdn⟩ := in_first h hI he
  obtain ⟨j, hj⟩ := _root_.List.mem_iff_getElem?.1 hd
  have hjk : k ≤ j := by
    rcases Nat.lt_or_ge j k with h1 | h1
    · have := hn j d h1 hj
      rw [hdr] at this
      exact (hs this).elim
    · exact h1
  have := in_mono hI hy hj hjk
  omega
theorem in_none {sv c : Int} {rs : _root_.List Ru} {L : _root_.List Ev} (h : MadeP sv rs) (hI : InIs rs 1850 2170 L) (hn : ∀ (i : Nat) (d : Ev), L[i]? = some d → saveAt rs d.rule = c) {e : Ev} (he : IsEv rs e) : saveAt rs e.rule = c := by
  obtain ⟨d, hd, hdr, _⟩ := in_first h hI he
  obtain ⟨j, hj⟩ := _root_.List.mem_iff_getElem?.1 hd
  rw [← hdr]; exact hn j d hj
theorem RdEv.ce {g off n cap i : Nat} {l : _root_.List Ev} {w : World} {e : Ev} (h : RdEv (.slice (some ⟨g, off, none⟩) n cap) l w) (hr : l[i]? = some e) : w.cell? ⟨g, off + i * 3, none⟩ = some (.int .i64 e.year) ∧ w.cell? ⟨g, off + i * 3 + 1, none⟩ = some (.int .i64 e.rule) ∧ w.cell? ⟨g, off + i * 3 + 2, none⟩ = some (.int .i64 e.nom) := by
  obtain ⟨g', off', h1, h2⟩ := h.at_ hr
  injection h1 with h1
  injection h1 with h3 h4
  subst h3 h4
  exact h2
end Go.Proofs.YtophiphhgcmjpaaDoor.Cv
