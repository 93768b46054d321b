/-
  The contract of slices.SortFunc at events, with the order of events.
-/
import Derived.Test.YtophiphhgcmjpaaDoorEvBA
import Derived.Test.YtophiphhgcmjpaaDoorShelf
import Derived.Shelf.SlSortCmp.WholeK
import Derived.Shelf.SlSortCmp.NoneTotal
namespace Go.Proofs.YtophiphhgcmjpaaDoor
open Go.RowKit Cv
set_option linter.unusedVariables false
set_option linter.unusedSimpArgs false

namespace Cv
instance : Inhabited Ev := ⟨⟨0, 0, 0⟩⟩
/-- an event's cells, as a list; a list's -/
def encEv (e : Ev) : _root_.List Value := [.int .i64 e.year, .int .i64 e.rule, .int .i64 e.nom]
def flatEv (l : _root_.List Ev) : _root_.List Value := l.flatMap encEv
theorem flatEv_len (l : _root_.List Ev) : (flatEv l).length = l.length * 3 := by
  unfold flatEv
  induction l with
  | nil => rfl
  | cons e l ih => rw [_root_.List.flatMap_cons, _root_.List.length_append, ih, _root_.List.length_cons]; show 3 + _ = _; omega
theorem flatEv_one (l : _root_.List Ev) : ∀ u ∈ flatEv l, u.oneCell' = true := by
  intro u hu
  unfold flatEv at hu
  obtain ⟨e, _, he⟩ := _root_.List.mem_flatMap.1 hu
  simp [encEv] at he
  rcases he with rfl | rfl | rfl <;> rfl
theorem flatEv_at (l : _root_.List Ev) : ∀ (i j : Nat) (e : Ev), l[i]? = some e → j < 3 → (flatEv l)[i * 3 + j]? = (encEv e)[j]? := by
  unfold flatEv
  induction l with
  | nil => intro i j r h; simp at h
  | cons s l ih =>
    intro i j r h hj
    rw [_root_.List.flatMap_cons]
    have hl : (encEv s).length = 3 := rfl
    cases i with
    | zero =>
      simp at h
      subst h
      rw [_root_.List.getElem?_append_left (by omega)]
      congr 1; omega
    | succ i =>
      rw [_root_.List.getElem?_append_right (by omega), hl, show (i + 1) * 3 + j - 3 = i * 3 + j by omega]
      exact ih i j r (by simpa using h) hj
theorem swoEv : Go.Sort.SWO (Go.Proofs.ltOf ordI) where
  irrefl x := by
    unfold Go.Proofs.ltOf
    rw [decide_eq_false_iff_not, ordI_lt]; exact Ev.lt_irrefl x
  trans x y z h k := by
    unfold Go.Proofs.ltOf at *
    rw [decide_eq_true_iff, ordI_lt] at *; exact Ev.lt_trans h k
  ntrans x y z h k := by
    unfold Go.Proofs.ltOf at *
    rw [decide_eq_false_iff_not, ordI_lt] at *
    intro hl
    rcases Ev.lt_total x y with e | e | e
    · exact h e
    · subst e; exact k hl
    · exact k (Ev.lt_trans e hl)
end Cv

theorem isAggEv : ∀ w, (isAgg 31).run Tryd.prog w = .ok true w := Tryd.isAgg31
theorem sizeOfEv : ∀ w, (Go.sizeOf 31).run Tryd.prog w = .ok 3 w := Tryd.sizeOf31

open Go.Sort Go.Shelf in
theorem cmpLaysEv (blk off size : Nat) (w : World) : Go.Proofs.CmpLays Tryd.prog 26 #[] encEv 3 ordI blk off size w :=
  fun m os dk _ x y => (orderX_any x y _).mono fun e w' h => by
    obtain ⟨h1, rfl⟩ := h
    exact ⟨h1, 1, _, by rw [alloc_eq_grow, alloc_eq_grow, alloc_eq_grow, grow_grow, grow_grow]; rfl⟩

namespace Cv
open Go.Sort
theorem flatK_ev (l : _root_.List Ev) : (flatK encEv 3 l.toArray).toList = flatEv l := by
  apply _root_.List.ext_getElem?
  intro j
  by_cases hj : j < l.length * 3
  · have hq : j = (j / 3) * 3 + j % 3 := by omega
    obtain ⟨e, he⟩ : ∃ e, l[j / 3]? = some e := by rw [_root_.List.getElem?_eq_getElem (by omega)]; exact ⟨_, rfl⟩
    have h1 : (flatK encEv 3 l.toArray)[j]! = (encEv l.toArray[j / 3]!)[j % 3]! := get_flatK encEv 3 l.toArray j (by simpa using hj)
    have h2 : l.toArray[j / 3]! = e := by simp [he]
    rw [h2] at h1
    conv => rhs; rw [hq]
    rw [flatEv_at l (j / 3) (j % 3) e he (by omega), Array.getElem?_toList]
    have h3 : j < (flatK encEv 3 l.toArray).size := by simp; omega
    rw [Array.getElem?_eq_getElem h3, ← getElem!_pos (flatK encEv 3 l.toArray) j h3, h1]
    have h4 : j % 3 = 0 ∨ j % 3 = 1 ∨ j % 3 = 2 := by omega
    rcases h4 with h | h | h <;> rw [h] <;> rfl
  · rw [_root_.List.getElem?_eq_none (by simp; omega), _root_.List.getElem?_eq_none (by rw [flatEv_len]; omega)]
theorem putCells_take (cur F : Array Value) (h : F.size ≤ cur.size) : (putCells id 0 F cur).toList.take F.size = F.toList := by
  apply _root_.List.ext_getElem?
  intro j
  by_cases hj : j < F.size
  · rw [_root_.List.getElem?_take_of_lt hj, Array.getElem?_toList]
    simp [putCells, hj, show j < cur.size by omega]
  · rw [_root_.List.getElem?_take_eq_none (by omega), _root_.List.getElem?_eq_none (by simp; omega)]
theorem heap_put {w : World} {g n : Nat} {os : Array Obj} {cur : Array Value} {e : TypeId} {fr : Nat × Nat} (F : Array Value) (hb : w.heap[g]? = some (.cells cur e fr)) :
    (grow (putRow id (Go.Sort.ahead w n) g 0 F) os).heap[g]? = some (.cells (putCells id 0 F cur) e fr) := by
  have hg : g < w.heap.size := (Array.getElem?_eq_some_iff.1 hb).1
  rw [heap_grow_old _ _ (by simpa using hg)]
  simp [putRow, mapBlock, Go.Sort.ahead, Array.getElem?_modify, hb, onCells]
theorem below_put {w : World} {g n B : Nat} {os : Array Obj} (F : Array Value) (h1 : B ≤ g) (h2 : B ≤ w.heap.size) : Go.RowKit.Below B w (grow (putRow id (Go.Sort.ahead w n) g 0 F) os) := by
  refine ⟨rfl, rfl, rfl, by simp, fun k hk => ?_⟩
  rw [heap_grow_old _ _ (by simp; omega)]
  have : g ≠ k := by omega
  simp [putRow, mapBlock, Go.Sort.ahead, Array.getElem?_modify, this]
end Cv

open Go.Sort Go.Shelf in
set_option maxRecDepth 100000 in
theorem sortEv_any (v : Value) (l : _root_.List Ev) (base : Nat) (W : World) (h : W.ownsRow base 31 3 v l.length (flatEv l)) (hl : l.length ≤ 100000000) :
    Calls Tryd.prog 25 #[v, .func (.func 26) #[] #[]] W fun e w' => e = .returned (.tuple #[]) ∧
      ∃ l' : _root_.List Ev, Hid (l'.Perm l ∧ l'.Pairwise (fun a b => ¬ b.lt a)) ∧ Hid (w'.ownsRow base 31 3 v l.length (flatEv l')) ∧ Hid (∀ B, B ≤ base → B ≤ W.heap.size → Go.RowKit.Below B W w') := by
  rcases h.2 with ⟨rfl, hn⟩ | ⟨g, cap, cur, rfl, hbase, hb, h1, h2, h3, h4⟩
  · have hnil : l = [] := _root_.List.length_eq_zero_iff.1 hn
    subst hnil
    have hcon := Go.Proofs.AnyF.slices_SortFunc_none Tryd.sortEv none 0 (.func (.func 26) #[] #[]) W
    change Calls Tryd.prog 25 _ _ _ at hcon
    exact hcon.mono fun e w' ⟨he, hw⟩ => ⟨he, [], Lib.hid ⟨_root_.List.Perm.refl _, _root_.List.Pairwise.nil⟩, by rw [hw]; exact Lib.hid h, by rw [hw]; exact Lib.hid fun B _ _ => Go.RowKit.Below.refl _ _⟩
  · have hH : HoldsK encEv 3 W g 0 l.toArray := by
      intro j hj
      have hj' : j < l.length * 3 := by simpa using hj
      refine ⟨?_, by simp [World.frozen?, hb]⟩
      rw [Nat.zero_add, h.cellAt j (by omega), ← flatK_ev, Array.getElem?_toList, Array.getElem?_eq_getElem hj, ← getElem!_pos _ j hj]
      rfl
    have hcon := Go.Proofs.AnyQ.slices_SortFunc Tryd.sortEv 3 isAggEv sizeOfEv encEv (fun _ => rfl) (fun x v hv => by simp [encEv] at hv; rcases hv with rfl | rfl | rfl <;> rfl) ordI swoEv 26 #[] g 0 cap l.toArray W cf_order (cmpLaysEv g 0 l.toArray.size W) hH (Array.getElem?_eq_some_iff.1 hb).1 (by simp; omega)
    change Calls Tryd.prog 25 _ _ _ at hcon
    have hsz : l.toArray.size = l.length := by simp
    rw [hsz] at hcon
    refine hcon.mono fun e w' ⟨he, d', n, os, hp, hs, hw⟩ => ⟨he, d'.toList, ?_, ?_, ?_⟩
    · obtain ⟨p1, _, p3⟩ := hp
      rw [hsz] at p1
      have e1 : d'.extract 0 l.length = d' := by rw [← p1]; simp
      have e2 : l.toArray.extract 0 l.length = l.toArray := by simp
      rw [e1, e2] at p3
      refine Lib.hid ⟨p3, ?_⟩
      rw [_root_.List.pairwise_iff_getElem]
      intro i j hi hj hij
      have := hs i j (Nat.zero_le _) hij (by simp at hj; omega)
      unfold Go.Proofs.ltOf at this
      rw [decide_eq_false_iff_not, ordI_lt] at this
      simp at hi hj
      simpa [getElem!_pos d' i hi, getElem!_pos d' j hj] using this
    · subst hw
      obtain ⟨p1, _, _⟩ := hp
      rw [hsz] at p1
      have hd : flatEv d'.toList = (flatK encEv 3 d').toList := by rw [← flatK_ev]
      have hF : (flatK encEv 3 d').size = l.length * 3 := by simp [p1]
      exact Lib.hid ⟨by rw [flatEv_len]; simp [p1], .inr ⟨g, cap, _, rfl, hbase, heap_put (flatK encEv 3 d') hb, h1, h2, by simp [putCells, h3], by rw [hd, ← hF]; exact putCells_take _ _ (by omega)⟩⟩
    · subst hw
      exact Lib.hid fun B b1 b2 => below_put _ (by omega) b2
end Go.Proofs.YtophiphhgcmjpaaDoor
