/-
  A source by numbers that is read: bounds, and its zones.
-/
import Derived.Test.YtdppmeeobpbfnaaDoorErLawM
namespace Go.Proofs.YtdppmeeobpbfnaaDoor.Cv
open Go.RowKit
set_option linter.unusedVariables false
set_option linter.unusedSimpArgs false

theorem RdZo.at_ {A : Option Addr} {n cap i : Nat} {l : _root_.List (ByteArray × _root_.List Er)} {w : World} {nm : ByteArray} {es : _root_.List Er} (h : RdZo (.slice A n cap) l w) (hr : l[i]? = some (nm, es)) : ∃ g off vz, A = some ⟨g, off, none⟩ ∧ w.cell? ⟨g, off + i * 2, none⟩ = some (.string nm) ∧ w.cell? ⟨g, off + i * 2 + 1, none⟩ = some vz ∧ RdEr vz es w := by
  obtain ⟨a, c, h1, h4⟩ := h
  injection h1 with e1 e2 e3
  subst e1
  exact h4 i _ hr
theorem rdDz_four {v : Value} {n : Nat} {l : _root_.List (Nat × _root_.List De)} {w : World} (h : RdDz v n l w) : ∀ q ∈ l.map (fun p => p.2), q.length ≤ 4 := by
  obtain ⟨a, c, h1, h2, h3, h4, h5⟩ := h
  intro q hq
  obtain ⟨p, hp, rfl⟩ := _root_.List.mem_map.1 hq
  obtain ⟨i, hi⟩ := _root_.List.mem_iff_getElem?.1 hp
  obtain ⟨g, off, u, _, _, k⟩ := h5 i p hi
  obtain ⟨_, _, _, _, _, hl, _⟩ := k
  omega
theorem rdDz_three {v : Value} {n : Nat} {l : _root_.List (Nat × _root_.List De)} {w : World} (h : RdDz v n l w) : l.length ≤ 3 := by
  obtain ⟨a, c, h1, h2, h3, h4, h5⟩ := h
  omega
theorem rdDs_three {v : Value} {n : Nat} {l : _root_.List (_root_.List Int)} {w : World} (h : RdDs v n l w) : l.length ≤ 3 := by
  obtain ⟨a, c, h1, h2, h3, h4, h5⟩ := h
  omega
theorem normD_13 (l : _root_.List (_root_.List Int)) (h : l.length ≤ 3) : 1 ≤ (normD l).length ∧ (normD l).length ≤ 3 := by rw [normD_len]; omega
theorem normZ_len (l : _root_.List (_root_.List De)) : (normZ l).length = max 1 l.length := by
  unfold normZ
  rw [_root_.List.length_map]
  cases l with
  | nil => rfl
  | cons a r => rw [if_neg (by simp)]; simp only [_root_.List.length_cons]; omega
theorem normE_len (l : _root_.List De) : (normE l).length = max 1 l.length := by
  unfold normE
  cases l with
  | nil => rfl
  | cons a r => rw [if_neg (by simp)]; simp only [_root_.List.length_cons]; omega
theorem normZ_in {l : _root_.List (_root_.List De)} (h : ∀ q ∈ l, q.length ≤ 4) : ∀ q ∈ normZ l, 1 ≤ q.length ∧ q.length ≤ 4 := by
  intro q hq
  unfold normZ at hq
  obtain ⟨p, hp, rfl⟩ := _root_.List.mem_map.1 hq
  rw [normE_len]
  have : p.length ≤ 4 := by
    by_cases hl : l = []
    · rw [if_pos hl] at hp; simp at hp; rw [hp]; simp
    · rw [if_neg hl] at hp; exact h p hp
  omega
/-- the zones of a made source -/
theorem zones_ok {dl : _root_.List (_root_.List Int)} {S : Nat} {rs : _root_.List Ru} {l : _root_.List (_root_.List De)} (h : RulesV dl S rs) (hS : 1 ≤ S ∧ S ≤ 3) (hl : ∀ q ∈ l, q.length ≤ 4) :
    ∀ (i : Nat) (nm : ByteArray) (es : _root_.List Er), (zonesUp (S : Int) (normZ l) (normZ l).length)[i]? = some (nm, es) → ∃ Y, JanEs S es rs Y ∧ 1 ≤ es.length ∧ es.length ≤ 4 := by
  intro i nm es hi
  have hk := (_root_.List.getElem?_eq_some_iff.1 hi).1
  rw [zonesUp_len] at hk
  rw [zonesUp_get hk] at hi
  injection (Option.some.inj hi) with _ he
  subst he
  have hx := _root_.List.getElem?_eq_getElem (l := normZ l) (i := i) hk
  have e : (normZ l).getD i [] = (normZ l)[i] := by rw [_root_.List.getD_eq_getElem?_getD, hx]; rfl
  obtain ⟨b1, b2⟩ := normZ_in hl _ (_root_.List.mem_of_getElem? hx)
  rw [e]
  refine ⟨_, made_jan h hS b2, ?_, ?_⟩ <;> unfold ersL <;> rw [ersUp_len] <;> assumption
theorem i64_of {n : Int} (h : (Lit.int .i64 n).wf = true) : -9223372036854775808 ≤ n ∧ n ≤ 9223372036854775807 := by
  simp [Lit.wf, IntKind.min, IntKind.max, IntKind.signed, IntKind.bits] at h
  omega
end Go.Proofs.YtdppmeeobpbfnaaDoor.Cv
namespace Go.Proofs.YtdppmeeobpbfnaaDoor
open Go.RowKit Cv
/-- the tables, out of the longer list of these laws' rows -/
theorem tabs5_of {W : World} (hL : laidMetH Tryd.prog Rows.erasWholeRow.laid W) : Tabs W := by
  have hL := hL.filter (fun x => x.1 == "analemma/civil.before" || x.1 == "analemma/dayform.kinds")
  have hL : laidMetH Tryd.prog Rows.erasFindRow.laid W := by
    rw [show (Rows.erasWholeRow.laid.filter fun x => x.1 == "analemma/civil.before" || x.1 == "analemma/dayform.kinds") = Rows.erasFindRow.laid from rfl] at hL
    exact hL
  exact ⟨tab_of hL, ktab_of hL⟩
end Go.Proofs.YtdppmeeobpbfnaaDoor
