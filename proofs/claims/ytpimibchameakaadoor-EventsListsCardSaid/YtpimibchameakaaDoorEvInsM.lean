/-
  Putting an event into a sorted list, from the end, in plain words. No program in sight.
-/
import Derived.Test.YtpimibchameakaaDoorEvEx
import Derived.Test.YtpimibchameakaaDoorEvStdW
namespace Go.Proofs.YtpimibchameakaaDoor.Cv
open Go.RowKit
set_option linter.unusedVariables false
set_option linter.unusedSimpArgs false

abbrev Sorted' (l : _root_.List Ev) : Prop := l.Pairwise (fun a b => ¬ b.lt a)
theorem ins_done {p s : _root_.List Ev} {x : Ev} (hl : Sorted' (p ++ s)) (hs : ∀ e ∈ s, x.lt e) (hp : p = [] ∨ ∃ p' y, p = p' ++ [y] ∧ ¬ x.lt y) : Sorted' (p ++ x :: s) := by
  obtain ⟨h1, h2, h3⟩ := _root_.List.pairwise_append.1 hl
  have asym : ∀ a b : Ev, a.lt b → ¬ b.lt a := fun a b h k => Ev.lt_irrefl a (Ev.lt_trans h k)
  refine _root_.List.pairwise_append.2 ⟨h1, _root_.List.pairwise_cons.2 ⟨fun e he => asym _ _ (hs e he), h2⟩, fun a ha b hb => ?_⟩
  rcases _root_.List.mem_cons.1 hb with rfl | hb
  · rcases hp with rfl | ⟨p', y, rfl, hxy⟩
    · cases ha
    · rcases _root_.List.mem_append.1 ha with ha | ha
      · have hya : ¬ y.lt a := (_root_.List.pairwise_append.1 h1).2.2 a ha y (_root_.List.mem_singleton.2 rfl)
        intro hba
        rcases Ev.lt_total y b with h | h | h
        · exact hya (Ev.lt_trans h hba)
        · rw [h] at hya; exact hya hba
        · exact hxy h
      · rw [_root_.List.mem_singleton] at ha
        subst ha
        exact hxy
  · exact h3 a ha b hb
theorem ins_perm {p s c : _root_.List Ev} {x : Ev} (h : (p ++ s).Perm c) : (p ++ x :: s).Perm (c ++ [x]) :=
  (_root_.List.perm_middle).trans ((h.cons x).trans (_root_.List.perm_append_singleton x c).symm)
theorem flatEv_set3 : ∀ (l : _root_.List Ev) (i : Nat) (e y : Ev), l[i]? = some e → (((flatEv l).set (i * 3) (.int .i64 y.year)).set (i * 3 + 1) (.int .i64 y.rule)).set (i * 3 + 2) (.int .i64 y.nom) = flatEv (l.set i y) := by
  intro l
  induction l with
  | nil => intro i e y h; simp at h
  | cons a l ih =>
    intro i e y h
    cases i with
    | zero => rfl
    | succ i =>
      have hl : (encEv a).length = 3 := rfl
      show (((encEv a ++ flatEv l).set _ _).set _ _).set _ _ = encEv a ++ flatEv (l.set i y)
      rw [_root_.List.set_append_right _ _ (by omega), _root_.List.set_append_right _ _ (by omega), _root_.List.set_append_right _ _ (by omega), hl, show (i + 1) * 3 - 3 = i * 3 by omega, show (i + 1) * 3 + 1 - 3 = i * 3 + 1 by omega, show (i + 1) * 3 + 2 - 3 = i * 3 + 2 by omega, ih i e y (by simpa using h)]
/-- two neighbours change places -/
theorem ins_swap (p s : _root_.List Ev) (x y : Ev) : ((p ++ y :: x :: s).set (p.length + 1) y).set p.length x = p ++ x :: y :: s := by
  rw [_root_.List.set_append_right _ _ (by omega), show p.length + 1 - p.length = 1 by omega, _root_.List.set_append_right _ _ (by omega), Nat.sub_self]
  rfl
theorem ins_at0 (p s : _root_.List Ev) (x y : Ev) : (p ++ y :: x :: s)[p.length]? = some y := by
  rw [_root_.List.getElem?_append_right (by omega), Nat.sub_self]; rfl
theorem ins_at1 (p s : _root_.List Ev) (x y : Ev) : (p ++ y :: x :: s)[p.length + 1]? = some x := by
  rw [_root_.List.getElem?_append_right (by omega), show p.length + 1 - p.length = 1 by omega]; rfl
theorem ins_at1' (p s : _root_.List Ev) (x y : Ev) : ((p ++ y :: x :: s).set (p.length + 1) y)[p.length]? = some y := by
  rw [_root_.List.getElem?_set_ne (by omega)]; exact ins_at0 p s x y
/-- the row behind the change -/
theorem ins_row (p s : _root_.List Ev) (x y : Ev) : ((((((flatEv (p ++ y :: x :: s)).set ((p.length + 1) * 3) (.int .i64 y.year)).set ((p.length + 1) * 3 + 1) (.int .i64 y.rule)).set ((p.length + 1) * 3 + 2) (.int .i64 y.nom)).set (p.length * 3) (.int .i64 x.year)).set (p.length * 3 + 1) (.int .i64 x.rule)).set (p.length * 3 + 2) (.int .i64 x.nom) = flatEv (p ++ x :: y :: s) := by
  rw [flatEv_set3 _ _ x y (ins_at1 p s x y), flatEv_set3 _ _ y x (ins_at1' p s x y), ins_swap]
theorem own_ev {w : World} {base g n cap i : Nat} {l : _root_.List Ev} {e : Ev} (h : w.ownsRow base 34 3 (.slice (some ⟨g, 0, none⟩) n cap) n (flatEv l)) (he : l[i]? = some e) (hi : i < n) : w.cell? ⟨g, i * 3, none⟩ = some (.int .i64 e.year) ∧ w.cell? ⟨g, i * 3 + 1, none⟩ = some (.int .i64 e.rule) ∧ w.cell? ⟨g, i * 3 + 2, none⟩ = some (.int .i64 e.nom) := by
  refine ⟨?_, ?_, ?_⟩
  · rw [h.cellAt (i * 3) (by omega)]; exact flatEv_at l i 0 e he (by decide)
  · rw [h.cellAt (i * 3 + 1) (by omega)]; exact flatEv_at l i 1 e he (by decide)
  · rw [h.cellAt (i * 3 + 2) (by omega)]; exact flatEv_at l i 2 e he (by decide)
end Go.Proofs.YtpimibchameakaaDoor.Cv
