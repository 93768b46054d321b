/-
  The last event before a time, found among the events of some years. No program in sight.
-/
import Derived.Test.YtophiphhgcmjpaaDoorEvMath
namespace Go.Proofs.YtophiphhgcmjpaaDoor.Cv
set_option linter.unusedVariables false
set_option linter.unusedSimpArgs false

/-- the events of some years, by reckoning -/
def candL (rs : _root_.List Ru) (lo : Int) (n : Nat) : _root_.List Ev := (_root_.List.range rs.length).flatMap fun (i : Nat) => (_root_.List.range n).filterMap fun (j : Nat) => evOn rs (i : Int) (lo + (j : Int))
def ltB (a b : Ev) : Bool := decide (a.lt b)
/-- the check: o is the last event before N among those of n years from lo on -/
def chkBef (rs : _root_.List Ru) (lo : Int) (n : Nat) (N : Int) : Option Ev → Bool
  | none => (candL rs lo n).all fun e => !decide (e.nom < N)
  | some x => (candL rs lo n).contains x && decide (x.nom < N) && (candL rs lo n).all fun e => !decide (e.nom < N) || !decide (x.lt e)
theorem candL_mem {rs : _root_.List Ru} {lo : Int} {n : Nat} {e : Ev} (he : IsEv rs e) (h1 : lo ≤ e.year) (h2 : e.year < lo + n) : e ∈ candL rs lo n := by
  have ho := is_evOn he
  obtain ⟨r, hr, _⟩ := he
  unfold ruleAt at hr
  split at hr
  · rename_i h0
    have hl := (_root_.List.getElem?_eq_some_iff.1 hr).1
    unfold candL
    refine _root_.List.mem_flatMap.2 ⟨e.rule.toNat, _root_.List.mem_range.2 hl, _root_.List.mem_filterMap.2 ⟨(e.year - lo).toNat, _root_.List.mem_range.2 (by omega), ?_⟩⟩
    rw [show ((e.rule.toNat : Nat) : Int) = e.rule by omega, show lo + (((e.year - lo).toNat : Nat) : Int) = e.year by omega]
    exact ho
  · cases hr
theorem candL_ev {rs : _root_.List Ru} {lo : Int} {n : Nat} {e : Ev} (h : e ∈ candL rs lo n) : IsEv rs e := by
  unfold candL at h
  obtain ⟨i, _, hi⟩ := _root_.List.mem_flatMap.1 h
  obtain ⟨j, _, hj⟩ := _root_.List.mem_filterMap.1 hi
  exact (evOn_is hj).1
theorem bef_of {rs : _root_.List Ru} {lo : Int} {n : Nat} {N : Int} {o : Option Ev} (hlo : rs.all (fun r => decide (lo ≤ r.fr)) = true) (hhi : N ≤ 86400 * (fst (lo + n) - 14)) (h : chkBef rs lo n N o = true) : BefIs rs N o := by
  have key : ∀ e, IsEv rs e → e.nom < N → e ∈ candL rs lo n := by
    intro e he hn
    refine candL_mem he ?_ ?_
    · obtain ⟨r, hr, hh, _⟩ := he
      unfold ruleAt at hr
      split at hr
      · have := _root_.List.all_eq_true.1 hlo r (_root_.List.mem_of_getElem? hr)
        have h1 := hh.1
        unfold firstY at h1
        simp at this
        omega
      · cases hr
    · obtain ⟨r, hr, hh, hnn⟩ := he
      have hb := baseL_bd rs
      have h1 := (nom_bd hb.1 hb.2 hh).1
      rcases Int.lt_or_le e.year (lo + n) with h2 | h2
      · exact h2
      · have : fst (lo + n) ≤ fst e.year := by unfold fst; omega
        omega
  cases o with
  | none =>
    intro e he hn
    have := _root_.List.all_eq_true.1 h e (key e he hn)
    simp at this
    omega
  | some x =>
    unfold chkBef at h
    simp only [Bool.and_eq_true, decide_eq_true_eq] at h
    obtain ⟨⟨h1, h2⟩, h3⟩ := h
    refine ⟨candL_ev (by simpa using h1), h2, fun e he hn hl => ?_⟩
    have := _root_.List.all_eq_true.1 h3 e (key e he hn)
    simp at this
    rcases this with h4 | h4
    · omega
    · exact h4 hl
end Go.Proofs.YtophiphhgcmjpaaDoor.Cv
