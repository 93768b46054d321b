/-
  Rules of the call's own, changed one after the other. No program in sight.
-/
import Derived.Test.YtophiphhgcmjpaaDoorDrSet
namespace Go.Proofs.YtophiphhgcmjpaaDoor.Cv
open Go.RowKit
set_option linter.unusedVariables false
set_option linter.unusedSimpArgs false

theorem ownC {w : World} {base g n cap size j : Nat} {e : TypeId} {xs : _root_.List Value} (h : w.ownsRow base e size (.slice (some ⟨g, 0, none⟩) n cap) n xs) (hj : j < n * size) : (∃ u, w.cell? ⟨g, j, none⟩ = some u) ∧ w.frozen? ⟨g, j, none⟩ = false ∧ base ≤ g ∧ g < w.heap.size := by
  rcases h.2 with ⟨h1, _⟩ | ⟨g', c', cur, h1, h2, h3, h4, h5, h6, h7⟩
  · cases h1
  · cases h1
    have hsz : j < cur.size := by rw [h6]; exact Nat.lt_of_lt_of_le hj (Nat.mul_le_mul_right size h4)
    exact ⟨⟨cur[j], cellB h3 (by rw [Array.getElem?_eq_getElem hsz])⟩, frzB h3 _, h2, (Array.getElem?_eq_some_iff.1 h3).1⟩
theorem ownR {w : World} {base g n cap i : Nat} {rs : _root_.List Ru} {r : Ru} (h : w.ownsRow base 37 11 (.slice (some ⟨g, 0, none⟩) n cap) n (flatRu rs)) (hr : rs[i]? = some r) (j : Nat) (hj : j < 11) (hi : i < n) : w.cell? ⟨g, i * 11 + j, none⟩ = r.arr.toList[j]? := by
  rw [h.cellAt (i * 11 + j) (by omega)]
  exact flatRu_get rs i r hr j hj
theorem flat_setAt (j : Nat) (hj : j < 11) (x : Value) (r r' : Ru) (hr : r'.arr.toList = r.arr.toList.set j x) : ∀ (rs : _root_.List Ru) (k : Nat), rs[k]? = some r → flatRu (rs.set k r') = (flatRu rs).set (k * 11 + j) x := by
  intro rs
  induction rs with
  | nil => intro k h; simp at h
  | cons y l ih =>
    intro k h
    cases k with
    | zero =>
      simp at h; subst h
      show r'.arr.toList ++ flatRu l = (y.arr.toList ++ flatRu l).set _ _
      rw [_root_.List.set_append_left _ _ (by rw [arr_len]; omega), hr]
      congr 2; omega
    | succ k =>
      show y.arr.toList ++ flatRu (l.set k _) = (y.arr.toList ++ flatRu l).set _ _
      rw [_root_.List.set_append_right _ _ (by rw [arr_len]; omega), arr_len, show (k + 1) * 11 + j - 11 = k * 11 + j by omega, ih k (by simpa using h)]
/-- the first k rules changed -/
def mixR (f : Ru → Ru) (k : Nat) (rs : _root_.List Ru) : _root_.List Ru := (rs.take k).map f ++ rs.drop k
theorem mixR_zero (f : Ru → Ru) (rs : _root_.List Ru) : mixR f 0 rs = rs := by unfold mixR; simp
theorem mixR_all (f : Ru → Ru) (rs : _root_.List Ru) : mixR f rs.length rs = rs.map f := by unfold mixR; simp
theorem mixR_len (f : Ru → Ru) (k : Nat) (rs : _root_.List Ru) : (mixR f k rs).length = rs.length := by unfold mixR; simp; omega
theorem mixR_get {f : Ru → Ru} {k : Nat} {rs : _root_.List Ru} {r : Ru} (h : rs[k]? = some r) : (mixR f k rs)[k]? = some r := by
  have hk := (_root_.List.getElem?_eq_some_iff.1 h).1
  unfold mixR
  rw [_root_.List.getElem?_append_right (by simp; omega)]
  simp [Nat.min_eq_left (Nat.le_of_lt hk), h]
theorem mixR_succ {f : Ru → Ru} {k : Nat} {rs : _root_.List Ru} {r : Ru} (h : rs[k]? = some r) : mixR f (k + 1) rs = (mixR f k rs).set k (f r) := by
  have hk := (_root_.List.getElem?_eq_some_iff.1 h).1
  have hd : rs.drop k = r :: rs.drop (k + 1) := by
    rw [_root_.List.drop_eq_getElem_cons hk]
    congr 1
    rw [_root_.List.getElem?_eq_getElem hk] at h
    exact Option.some.inj h
  have ht : rs.take (k + 1) = rs.take k ++ [r] := by rw [_root_.List.take_add_one, h]; rfl
  unfold mixR
  rw [ht, hd, _root_.List.map_append, _root_.List.set_append_right _ _ (by simp; omega)]
  simp [Nat.min_eq_left (Nat.le_of_lt hk)]
theorem set_set_same {l : _root_.List Ru} {k : Nat} {a b : Ru} : (l.set k a).set k b = l.set k b := by simp
theorem get_set_same {l : _root_.List Ru} {k : Nat} {a r : Ru} (h : l[k]? = some r) : (l.set k a)[k]? = some a := by
  have hk := (_root_.List.getElem?_eq_some_iff.1 h).1
  simp [hk]
/-- the rules lie below a block -/
def RulB (v : Value) (n : Nat) : Prop := ∀ (A : Option Addr) (l c : Nat), v = .slice A l c → ∀ g off, A = some ⟨g, off, none⟩ → g < n
theorem rulB_of {A : Option Addr} {l c : Nat} {rs : _root_.List Ru} {w : World} (h : Rul (.slice A l c) rs w) (hl : 0 < rs.length) : RulB (.slice A l c) w.heap.size := by
  intro A' l' c' e g off hA
  injection e with e1 e2 e3
  subst e1
  obtain ⟨r, hr⟩ : ∃ r, rs[0]? = some r := by rw [_root_.List.getElem?_eq_getElem hl]; exact ⟨_, rfl⟩
  obtain ⟨g', off', e4, hrg⟩ := h.at_ hr
  rw [hA] at e4
  injection e4 with e5
  injection e5 with e6
  subst e6
  obtain ⟨h0, _⟩ := range11 hrg
  exact lt_of_cell h0
theorem rul_setCells {v : Value} {rs : _root_.List Ru} {V : World} {b o n : Nat} {l : _root_.List Value} (h : Rul v rs V) (hb : n ≤ b) (hv : RulB v n) : Rul v rs (V.setCells b o l) := by
  obtain ⟨a, c, h1, h2, h3, h4⟩ := h
  refine ⟨a, c, h1, h2, h3, fun i r hr => ?_⟩
  obtain ⟨g, off, e, k⟩ := h4 i r hr
  have := hv a _ _ h1 g off e
  exact ⟨g, off, e, fun j x hx => cell_setCells (k j x hx) (by omega)⟩
theorem rul_set {v : Value} {rs : _root_.List Ru} {V : World} {b o n : Nat} {x : Value} (h : Rul v rs V) (hb : n ≤ b) (hv : RulB v n) : Rul v rs (V.setCell ⟨b, o, none⟩ x) := rul_setCells (l := [x]) h hb hv
theorem own_nonempty {w : World} {base : Nat} {v : Value} {n : Nat} {xs : _root_.List Value} {e : TypeId} {s : Nat} (h : w.ownsRow base e s v n xs) (hn : 0 < n) : ∃ g cap, v = .slice (some ⟨g, 0, none⟩) n cap := by
  rcases h.2 with ⟨_, h0⟩ | ⟨g, c, cur, h1, _⟩
  · omega
  · exact ⟨g, c, h1⟩
theorem block_set {V : World} {b c j : Nat} {x : Value} {ob : Obj} (h : V.heap[b]? = some ob) (hne : b ≠ c) : (V.setCell ⟨c, j, none⟩ x).heap[b]? = some ob := block_setCells (l := [x]) h hne
end Go.Proofs.YtophiphhgcmjpaaDoor.Cv
