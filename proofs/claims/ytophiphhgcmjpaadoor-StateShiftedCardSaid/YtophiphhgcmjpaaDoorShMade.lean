/-
  Made sets whose other save is turned below 0, and shifted. No program in sight.
-/
import Derived.Test.YtophiphhgcmjpaaDoorShM
import Derived.Test.YtophiphhgcmjpaaDoorDrSet
namespace Go.Proofs.YtophiphhgcmjpaaDoor.Cv
open Go.RowKit
set_option linter.unusedVariables false
set_option linter.unusedSimpArgs false

/-- the save other than 0 is below 0 -/
def ngR (r : Ru) : Ru := { r with save := min r.save (-r.save) }
theorem ruOk_has {r : Ru} (h : RuOk r) : Has r r.fr := by
  have h1 := h.fr
  have h2 := h.ut
  have h3 := h.clk
  have h4 := h.mo
  have hd : good r.k r.w r.d ∧ r.d ≤ 28 := by have := h.day; unfold DayOk at this; unfold Cv.good; omega
  refine ⟨by unfold firstY; omega, by unfold lastY; split <;> omega, by unfold Cv.clk; omega, on_mk (by unfold inr; omega) h4.1 h4.2 hd.1 (by have := len_in r.fr r.mo h4.1 h4.2; omega)⟩
theorem some1_of {rs : _root_.List Ru} {k : Nat} {r : Ru} (hk : rs[k]? = some r) (hh : Has r r.fr) : Some1 rs := by
  have he : evOn rs (k : Int) r.fr = some ⟨r.fr, (k : Int), nomOf (baseL rs) r r.fr⟩ := evOn_yes hk hh
  have hf : firstEv rs k = some ⟨r.fr, (k : Int), nomOf (baseL rs) r r.fr⟩ := by
    unfold firstEv
    rw [hk]
    simp only [firstFrom, he]
  have hm : (⟨r.fr, (k : Int), nomOf (baseL rs) r r.fr⟩ : Ev) ∈ firstsL rs rs.length := _root_.List.mem_filterMap.2 ⟨k, _root_.List.mem_range.2 (_root_.List.getElem?_eq_some_iff.1 hk).1, hf⟩
  have hb := bestL_is rs true 0 (firstsL rs rs.length)
  cases hq : bestL rs true 0 (firstsL rs rs.length) with
  | none =>
    rw [hq] at hb
    have := hb _ hm
    unfold outB at this
    simp at this
  | some e => exact ⟨e, hq⟩
theorem made_both {sv : Int} {rs : _root_.List Ru} (h : MadeP sv rs) : (∃ r ∈ rs, r.save = 0) ∧ ∃ r ∈ rs, r.save = sv := by
  obtain ⟨l, ra, rb, e, _, _, _, _, hs, _⟩ := h.last
  have ha : ra ∈ rs := by rw [e]; simp
  have hb : rb ∈ rs := by rw [e]; simp
  rcases hs with ⟨h1, h2⟩ | ⟨h1, h2⟩
  · exact ⟨⟨rb, hb, h2⟩, ⟨ra, ha, h1⟩⟩
  · exact ⟨⟨ra, ha, h1⟩, ⟨rb, hb, h2⟩⟩
theorem made_two_s {sv : Int} {rs : _root_.List Ru} (h : MadeP sv rs) : TwoS sv rs :=
  ⟨fun r hr => (h.each r hr).save, (made_both h).1, (made_both h).2, by have := h.svs; omega, fun r hr => by have := (h.each r hr).ok.clk; omega⟩
theorem made_some1 {sv : Int} {rs : _root_.List Ru} (h : MadeP sv rs) : Some1 rs := by
  obtain ⟨⟨r, hr, _⟩, _⟩ := made_both h
  obtain ⟨k, hk⟩ := _root_.List.mem_iff_getElem?.1 hr
  exact some1_of hk (ruOk_has (h.each r hr).ok)
theorem ng_two {sv : Int} {rs : _root_.List Ru} (h : MadeP sv rs) : TwoS (min sv (-sv)) (rs.map ngR) := by
  obtain ⟨⟨r0, hr0, hz⟩, r1, hr1, ho⟩ := made_both h
  refine ⟨fun r hr => ?_, ⟨ngR r0, _root_.List.mem_map.2 ⟨r0, hr0, rfl⟩, by show min r0.save (-r0.save) = 0; omega⟩, ⟨ngR r1, _root_.List.mem_map.2 ⟨r1, hr1, rfl⟩, by show min r1.save (-r1.save) = _; rw [ho]⟩, by have := h.svs; omega, fun r hr => ?_⟩
  · obtain ⟨q, hq, rfl⟩ := _root_.List.mem_map.1 hr
    show min q.save (-q.save) = 0 ∨ min q.save (-q.save) = _
    rcases (h.each q hq).save with hs | hs
    · exact .inl (by omega)
    · exact .inr (by rw [hs])
  · obtain ⟨q, hq, rfl⟩ := _root_.List.mem_map.1 hr
    show -172800 ≤ q.sec ∧ q.sec ≤ 172800
    have := (h.each q hq).ok.clk; omega
theorem ng_some1 {sv : Int} {rs : _root_.List Ru} (h : MadeP sv rs) : Some1 (rs.map ngR) := by
  obtain ⟨⟨r, hr, _⟩, _⟩ := made_both h
  obtain ⟨k, hk⟩ := _root_.List.mem_iff_getElem?.1 hr
  have hh := ruOk_has (h.each r hr).ok
  exact some1_of (rs := rs.map ngR) (k := k) (r := ngR r) (by simp [hk]) hh
/-- what is known of the rules of a set, whatever its saves are -/
structure CalmR (rs : _root_.List Ru) : Prop where
  fr : ∀ r ∈ rs, -2000000000 ≤ r.fr ∧ r.fr ≤ 4000000000
  save : ∀ r ∈ rs, -10800 ≤ r.save ∧ r.save ≤ 10800
  fits : ∀ r ∈ rs, r.fits
theorem made_calm {sv : Int} {rs : _root_.List Ru} (h : MadeP sv rs) : CalmR rs :=
  ⟨fun r hr => by have := (h.each r hr).ok.fr; omega, fun r hr => by have := (h.each r hr).ok.save; omega, fun r hr => (h.each r hr).ok.fits⟩
theorem ng_calm {sv : Int} {rs : _root_.List Ru} (h : MadeP sv rs) : CalmR (rs.map ngR) := by
  refine ⟨fun r hr => ?_, fun r hr => ?_, fun r hr => ?_⟩ <;> obtain ⟨q, hq, rfl⟩ := _root_.List.mem_map.1 hr
  · have := (h.each q hq).ok.fr
    show -2000000000 ≤ q.fr ∧ q.fr ≤ 4000000000
    omega
  · have := (h.each q hq).ok.save
    show -10800 ≤ min q.save (-q.save) ∧ min q.save (-q.save) ≤ 10800
    omega
  · obtain ⟨a1, a2, a3, a4, a5, a6, a7, a8, a9⟩ := (h.each q hq).ok.fits
    have := (h.each q hq).ok.save
    exact ⟨a1, a2, a3, a4, a5, a6, a7, a8, by show fit (min q.save (-q.save)); unfold fit; omega⟩
theorem two_sh_calm {s : Int} {rs : _root_.List Ru} (h : TwoS s rs) (hc : CalmR rs) : CalmR (shL (-s) rs) := by
  have hb := h.bd
  refine ⟨fun r hr => ?_, fun r hr => ?_, fun r hr => ?_⟩ <;> obtain ⟨q, hq, rfl⟩ := _root_.List.mem_map.1 hr
  · exact hc.fr q hq
  · have := h.each q hq
    show -10800 ≤ q.save + -s ∧ q.save + -s ≤ 10800
    omega
  · obtain ⟨a1, a2, a3, a4, a5, a6, a7, a8, a9⟩ := hc.fits q hq
    have h1 := h.each q hq
    have h2 := h.sec q hq
    refine ⟨a1, a2, a3, a4, a5, a6, ?_, a8, by show fit (q.save + -s); unfold fit; omega⟩
    show fit (if q.base = 1 then q.sec - -s else q.sec)
    unfold fit
    split <;> omega
theorem CalmR.tame {rs : _root_.List Ru} (h : CalmR rs) : Tame rs := h.fr
end Go.Proofs.YtophiphhgcmjpaaDoor.Cv
