/-
  Chapter 19 in plain words: each rule's first event, and which of them is the first one. No program in sight.
-/
import Derived.Test.YtdppmeeobpbfnaaDoorStB
namespace Go.Proofs.YtdppmeeobpbfnaaDoor.Cv
open Go.RowKit
set_option linter.unusedVariables false
set_option linter.unusedSimpArgs false

/-- the first event of a rule from a year on, in so many years -/
def firstFrom (rs : _root_.List Ru) (i y : Int) : Nat → Option Ev
  | 0 => none
  | n + 1 => match evOn rs i y with
    | some e => some e
    | none => firstFrom rs i (y + 1) n
theorem firstFrom_no {rs : _root_.List Ru} {i y : Int} {n : Nat} (h : evOn rs i y = none) : firstFrom rs i y (n + 1) = firstFrom rs i (y + 1) n := by simp only [firstFrom, h]
theorem firstFrom_skip {rs : _root_.List Ru} {i y : Int} : ∀ (j n : Nat), (∀ k : Nat, k < j → evOn rs i (y + (k : Int)) = none) → firstFrom rs i y (j + n) = firstFrom rs i (y + (j : Int)) n
  | 0, n, _ => by rw [Nat.zero_add]; congr 1; omega
  | j + 1, n, h => by
    have h0 := h 0 (by omega)
    rw [show y + ((0 : Nat) : Int) = y by omega] at h0
    rw [show j + 1 + n = (j + n) + 1 by omega]
    rw [firstFrom_no h0, firstFrom_skip j n (fun k hk => by have := h (k + 1) (by omega); rwa [show y + ((k + 1 : Nat) : Int) = y + 1 + (k : Int) by omega] at this)]
    rw [show y + 1 + (j : Int) = y + ((j + 1 : Nat) : Int) by omega]
theorem firstFrom_at {rs : _root_.List Ru} {i y : Int} {j n : Nat} {e : Ev} (h : ∀ k : Nat, k < j → evOn rs i (y + (k : Int)) = none) (he : evOn rs i (y + (j : Int)) = some e) (hn : j < n) : firstFrom rs i y n = some e := by
  obtain ⟨m, rfl⟩ : ∃ m, n = j + (m + 1) := ⟨n - j - 1, by omega⟩
  rw [firstFrom_skip j (m + 1) h]
  unfold firstFrom
  rw [he]
theorem firstFrom_none {rs : _root_.List Ru} {i y : Int} {n : Nat} (h : ∀ k : Nat, k < n → evOn rs i (y + (k : Int)) = none) : firstFrom rs i y n = none := by
  have := firstFrom_skip n 0 h
  rw [Nat.add_zero] at this
  rw [this]; rfl
theorem firstFrom_is {rs : _root_.List Ru} {i : Int} : ∀ {n : Nat} {y : Int} {e : Ev}, firstFrom rs i y n = some e → IsEv rs e ∧ e.rule = i
  | 0, _, _, h => by cases h
  | n + 1, y, e, h => by
    unfold firstFrom at h
    cases ho : evOn rs i y with
    | some d => rw [ho] at h; cases h; obtain ⟨h1, h2, _⟩ := evOn_is ho; exact ⟨h1, h2⟩
    | none => rw [ho] at h; exact firstFrom_is h
/-- the first event of rule k -/
def firstEv (rs : _root_.List Ru) (k : Nat) : Option Ev := match rs[k]? with
  | some r => firstFrom rs (k : Int) r.fr 9
  | none => none
/-- those of the first k rules -/
def firstsL (rs : _root_.List Ru) (k : Nat) : _root_.List Ev := (_root_.List.range k).filterMap (firstEv rs)
theorem firstsL_zero (rs : _root_.List Ru) : firstsL rs 0 = [] := rfl
theorem firstsL_some {rs : _root_.List Ru} {k : Nat} {e : Ev} (h : firstEv rs k = some e) : firstsL rs (k + 1) = firstsL rs k ++ [e] := by
  unfold firstsL; rw [_root_.List.range_succ, _root_.List.filterMap_append]; simp [h]
theorem firstsL_none {rs : _root_.List Ru} {k : Nat} (h : firstEv rs k = none) : firstsL rs (k + 1) = firstsL rs k := by
  unfold firstsL; rw [_root_.List.range_succ, _root_.List.filterMap_append]; simp [h]
theorem firstsL_len (rs : _root_.List Ru) (k : Nat) : (firstsL rs k).length ≤ k := by
  unfold firstsL
  exact Nat.le_trans (_root_.List.length_filterMap_le _ _) (by simp)
/-- the save of the rule of an event -/
def saveAt (rs : _root_.List Ru) (i : Int) : Int := match ruleAt rs i with
  | some r => r.save
  | none => 0
/-- left out by first -/
def outB (rs : _root_.List Ru) (all : Bool) (but : Int) (e : Ev) : Bool := !all && saveAt rs e.rule == but
/-- one more event -/
def bestS (rs : _root_.List Ru) (all : Bool) (but : Int) (o : Option Ev) (e : Ev) : Option Ev :=
  if outB rs all but e = true then o else match o with
    | none => some e
    | some b => if b.nom ≤ e.nom then some b else some e
def bestL (rs : _root_.List Ru) (all : Bool) (but : Int) (l : _root_.List Ev) : Option Ev := l.foldl (bestS rs all but) none
theorem bestL_snoc (rs : _root_.List Ru) (all : Bool) (but : Int) (l : _root_.List Ev) (e : Ev) : bestL rs all but (l ++ [e]) = bestS rs all but (bestL rs all but l) e := by
  unfold bestL; rw [_root_.List.foldl_append]; rfl
/-- what it is -/
def FstIs (rs : _root_.List Ru) (all : Bool) (but : Int) (l : _root_.List Ev) : Option Ev → Prop
  | none => ∀ e ∈ l, outB rs all but e = true
  | some x => x ∈ l ∧ outB rs all but x = false ∧ ∀ e ∈ l, outB rs all but e = false → x.nom ≤ e.nom
theorem bestS_is {rs : _root_.List Ru} {all : Bool} {but : Int} {l : _root_.List Ev} {o : Option Ev} {e : Ev} (h : FstIs rs all but l o) : FstIs rs all but (l ++ [e]) (bestS rs all but o e) := by
  unfold bestS
  split
  · rename_i ho
    cases o with
    | none =>
      intro d hd
      rcases _root_.List.mem_append.1 hd with h1 | h1
      · exact h d h1
      · rw [_root_.List.mem_singleton] at h1; subst h1; exact ho
    | some x =>
      refine ⟨_root_.List.mem_append_left _ h.1, h.2.1, fun d hd hdo => ?_⟩
      rcases _root_.List.mem_append.1 hd with h1 | h1
      · exact h.2.2 d h1 hdo
      · rw [_root_.List.mem_singleton] at h1; subst h1; rw [ho] at hdo; cases hdo
  · rename_i ho
    rw [Bool.not_eq_true] at ho
    cases o with
    | none =>
      refine ⟨by simp, ho, fun d hd hdo => ?_⟩
      rcases _root_.List.mem_append.1 hd with h1 | h1
      · have := h d h1; rw [hdo] at this; cases this
      · rw [_root_.List.mem_singleton] at h1; subst h1; exact Int.le_refl _
    | some x =>
      dsimp only
      split
      · rename_i hl
        refine ⟨_root_.List.mem_append_left _ h.1, h.2.1, fun d hd hdo => ?_⟩
        rcases _root_.List.mem_append.1 hd with h1 | h1
        · exact h.2.2 d h1 hdo
        · rw [_root_.List.mem_singleton] at h1; subst h1; exact hl
      · rename_i hl
        refine ⟨by simp, ho, fun d hd hdo => ?_⟩
        rcases _root_.List.mem_append.1 hd with h1 | h1
        · have := h.2.2 d h1 hdo; omega
        · rw [_root_.List.mem_singleton] at h1; subst h1; exact Int.le_refl _
theorem bestL_is (rs : _root_.List Ru) (all : Bool) (but : Int) (l : _root_.List Ev) : FstIs rs all but l (bestL rs all but l) := by
  have key : ∀ (m p : _root_.List Ev) (o : Option Ev), FstIs rs all but p o → FstIs rs all but (p ++ m) (m.foldl (bestS rs all but) o) := by
    intro m
    induction m with
    | nil => intro p o h; simpa using h
    | cons e m ih =>
      intro p o h
      have := ih (p ++ [e]) _ (bestS_is h)
      rw [_root_.List.append_assoc] at this
      exact this
  exact key l [] none (fun e he => by cases he)
end Go.Proofs.YtdppmeeobpbfnaaDoor.Cv
