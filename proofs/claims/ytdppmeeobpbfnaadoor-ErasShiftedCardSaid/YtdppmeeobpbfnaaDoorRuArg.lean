/-
  Rules that came in as arguments.
-/
import Derived.Test.YtdppmeeobpbfnaaDoorRuMem
import Derived.ProofKit
import Derived.OpenShut
import Derived.ChangeArms
import Derived.Deep.Slices
namespace Go.Proofs.YtdppmeeobpbfnaaDoor
open Go.RowKit Cv Go.ChangeShapes Go.WideShapes Go.Deep
set_option linter.unusedVariables false
set_option linter.unusedSimpArgs false

theorem cellsInt : Tryd.prog.cellsOf 3 = 1 := by kernel_rfl
theorem cellsInt64 : Tryd.prog.cellsOf 2 = 1 := by kernel_rfl
theorem cellsStr : Tryd.prog.cellsOf 9 = 1 := by kernel_rfl
theorem cellsDay : Tryd.prog.cellsOf 52 = 3 := by kernel_rfl
theorem cellsClock : Tryd.prog.cellsOf 54 = 2 := by kernel_rfl
theorem cellsRule : Tryd.prog.cellsOf 56 = 11 := by kernel_rfl

section
variable {H : Type} {enc : TypeId × Value → H} {W : World} {base : Nat} {sp : Nat → Bool} {hd : Bool}
/-- a part of a struct, by the field's number -/
theorem part_of {t : TypeId} {fs : Array Field} {fuel : Nat} {cs : _root_.List Value} {x : DataW H × List MemPlace} (ht : Tryd.prog.underlying t = some (.struct fs)) (h : DataW.trod enc Tryd.prog W base sp hd fuel t cs = some x) (i : Nat) (f : Field) (hf : fs[i]? = some f) :
    ∃ n y, DataW.trod enc Tryd.prog W base sp hd n f.type ((cs.drop f.offset).take (Tryd.prog.cellsOf f.type)) = some y := by
  obtain ⟨xs, n, _, _, _, hxl, hg⟩ := DataW.trod_struct ht h
  have hi : i < fs.size := (Array.getElem?_eq_some_iff.1 hf).1
  have h1 := hg i f hf
  rw [List.getElem?_eq_getElem (by omega)] at h1
  exact ⟨n, _, h1⟩
set_option maxRecDepth 100000 in
theorem rule_cells {fuel : Nat} {cs : _root_.List Value} {x : DataW H × List MemPlace} (h : DataW.trod enc Tryd.prog W base sp hd fuel 56 cs = some x) : ∃ r : Ru, cs = r.arr.toList ∧ r.fits ∧ r.na.size ≤ maxLen ∧ r.le.size ≤ maxLen := by
  have hl : cs.length = 11 := by
    obtain ⟨_, _, _, _, hl, _⟩ := DataW.trod_struct Tryd.underlying56 h
    rw [hl, cellsRule]
  match cs, hl with
  | [c0, c1, c2, c3, c4, c5, c6, c7, c8, c9, c10], _ =>
    obtain ⟨n0, y0, t0⟩ := part_of Tryd.underlying56 h 0 _ rfl
    obtain ⟨n1, y1, t1⟩ := part_of Tryd.underlying56 h 1 _ rfl
    obtain ⟨n2, y2, t2⟩ := part_of Tryd.underlying56 h 2 _ rfl
    obtain ⟨n3, y3, t3⟩ := part_of Tryd.underlying56 h 3 _ rfl
    obtain ⟨n4, y4, t4⟩ := part_of Tryd.underlying56 h 4 _ rfl
    obtain ⟨n5, y5, t5⟩ := part_of Tryd.underlying56 h 5 _ rfl
    obtain ⟨n6, y6, t6⟩ := part_of Tryd.underlying56 h 6 _ rfl
    obtain ⟨n7, y7, t7⟩ := part_of Tryd.underlying56 h 7 _ rfl
    simp only [List.getElem_toArray, List.getElem_cons_succ, List.getElem_cons_zero, cellsInt, cellsInt64, cellsStr, cellsDay, cellsClock] at t0 t1 t2 t3 t4 t5 t6 t7
    simp only [List.drop_succ_cons, List.drop_zero, List.take_succ_cons, List.take_zero] at t0 t1 t2 t3 t4 t5 t6 t7
    obtain ⟨na, e0, _, s0⟩ := DataW.trod_string Tryd.underlying9 t0
    obtain ⟨fr, e1, _, w1⟩ := DataW.trod_int Tryd.underlying3 t1
    obtain ⟨ut, e2, _, w2⟩ := DataW.trod_int Tryd.underlying3 t2
    obtain ⟨mo, e3, _, w3⟩ := DataW.trod_int Tryd.underlying3 t3
    obtain ⟨save, e6, _, w6⟩ := DataW.trod_int Tryd.underlying2 t6
    obtain ⟨le, e7, _, s7⟩ := DataW.trod_string Tryd.underlying9 t7
    obtain ⟨m0, z0, u0⟩ := part_of Tryd.underlying52 t4 0 _ rfl
    obtain ⟨m1, z1, u1⟩ := part_of Tryd.underlying52 t4 1 _ rfl
    obtain ⟨m2, z2, u2⟩ := part_of Tryd.underlying52 t4 2 _ rfl
    obtain ⟨p0, q0, v0⟩ := part_of Tryd.underlying54 t5 0 _ rfl
    obtain ⟨p1, q1, v1⟩ := part_of Tryd.underlying54 t5 1 _ rfl
    simp only [List.getElem_toArray, List.getElem_cons_succ, List.getElem_cons_zero, cellsInt, cellsInt64] at u0 u1 u2 v0 v1
    simp only [List.drop_succ_cons, List.drop_zero, List.take_succ_cons, List.take_zero] at u0 u1 u2 v0 v1
    obtain ⟨kk, f0, _, x0⟩ := DataW.trod_int Tryd.underlying3 u0
    obtain ⟨w, f1, _, x1⟩ := DataW.trod_int Tryd.underlying3 u1
    obtain ⟨d, f2, _, x2⟩ := DataW.trod_int Tryd.underlying3 u2
    obtain ⟨sec, g0, _, x3⟩ := DataW.trod_int Tryd.underlying2 v0
    obtain ⟨bs, g1, _, x4⟩ := DataW.trod_int Tryd.underlying3 v1
    simp only [List.cons.injEq, and_true] at e0 e1 e2 e3 e6 e7 f0 f1 f2 g0 g1
    subst e0 e1 e2 e3 e6 e7 f0 f1 f2 g0 g1
    exact ⟨⟨na, fr, ut, mo, kk, w, d, sec, bs, save, le⟩, rfl, ⟨fit_of w1, fit_of w2, fit_of w3, fit_of x0, fit_of x1, fit_of x2, fit_of x3, fit_of x4, fit_of w6⟩, s0, s7⟩
set_option maxRecDepth 100000 in
/-- a rule by value -/
theorem rule_of {v : Value} {d : DataW H} {p : List MemPlace} (hv : Value.okWide Tryd.prog W .any base 56 v) (h : DataW.Trod enc Tryd.prog W 0 sp hd 56 v d p) : ∃ r : Ru, v = .agg r.arr ∧ r.fits ∧ r.na.size ≤ maxLen ∧ r.le.size ≤ maxLen := by
  obtain ⟨cs, rfl, _⟩ := okWide_struct Tryd.underlying56 hv
  obtain ⟨fuel, hf⟩ := h
  obtain ⟨r, hr, hfit, h1, h2⟩ := rule_cells hf
  exact ⟨r, by congr 1; exact Array.toList_inj.1 (by simpa [Value.cells] using hr), hfit, h1, h2⟩
theorem spot_none {w : World} {a : Addr} {v : Value} (h : w.cell? a = some v) : ∃ g off, a = ⟨g, off, none⟩ := by
  obtain ⟨g, off, s⟩ := a
  cases s with
  | none => exact ⟨g, off, rfl⟩
  | some s =>
    unfold World.cell? at h
    split at h <;> simp at h
theorem list_ex {α : Type} (p : Nat → α → Prop) : ∀ n : Nat, (∀ i, i < n → ∃ x, p i x) → ∃ l : _root_.List α, l.length = n ∧ ∀ i x, l[i]? = some x → p i x := by
  intro n
  induction n with
  | zero => exact fun _ => ⟨[], rfl, fun i x h => by simp at h⟩
  | succ n ih =>
    intro h
    obtain ⟨l, hl, hp⟩ := ih fun i hi => h i (by omega)
    obtain ⟨x, hx⟩ := h n (by omega)
    refine ⟨l ++ [x], by simp [hl], fun i y hy => ?_⟩
    by_cases hi : i < n
    · rw [_root_.List.getElem?_append_left (by omega)] at hy
      exact hp i y hy
    · rw [_root_.List.getElem?_append_right (by omega), hl] at hy
      have : i - n = 0 := by
        have := (_root_.List.getElem?_eq_some_iff.1 hy).1
        simp at this; omega
      rw [this] at hy
      simp at hy
      subst hy
      obtain rfl : i = n := by omega
      exact hx
set_option maxRecDepth 100000 in
/-- a slice of rules -/
theorem rules_of {v : Value} {d : DataW H} {p : List MemPlace} (hv : Value.okWide Tryd.prog W .any base 36 v) (h : DataW.Trod enc Tryd.prog W 0 sp hd 36 v d p) :
    ∃ (A : Option Addr) (n cap : Nat), v = .slice A n cap ∧ n ≤ maxLen ∧ (n ≤ 1000 → ∃ rs : _root_.List Ru, rs.length = n ∧ Rul (.slice A n cap) rs W ∧ ∀ r ∈ rs, r.na.size ≤ maxLen ∧ r.le.size ≤ maxLen) := by
  obtain ⟨fuel, hf⟩ := h
  obtain ⟨A, n, cap, rfl⟩ := okWide_slice Tryd.underlying36 hv
  refine ⟨A, n, cap, rfl, ?_⟩
  rcases open_slice Tryd.underlying36 hf with ⟨hc, _⟩ | ⟨a, len, cap', m, k, D, Pl, hc, _, hlc, hcm, hm, _, hel⟩
  · simp [Value.cells] at hc
    obtain ⟨rfl, rfl, rfl⟩ := hc
    refine ⟨by unfold maxLen; omega, fun _ => ⟨[], rfl, ⟨none, 0, rfl, by simp, ?_, ?_⟩, ?_⟩⟩
    · intro r hr; cases hr
    · intro i r hr; simp at hr
    · intro r hr; cases hr
  · simp [Value.cells] at hc
    obtain ⟨rfl, rfl, rfl⟩ := hc
    have hmn : n ≤ m := by rw [hm]; split <;> omega
    refine ⟨by omega, fun hn => ?_⟩
    have key : ∀ i, i < n → ∃ r : Ru, (r.fits ∧ r.na.size ≤ maxLen ∧ r.le.size ≤ maxLen) ∧ ∃ g off, a = ⟨g, off, none⟩ ∧ W.rangeAt g (off + i * 11) r.arr.toList := by
      intro i hi
      have h0 : ∃ g off, a = ⟨g, off, none⟩ := by
        obtain ⟨cs0, hc0, ht0⟩ := hel 0 (by omega)
        rw [cellsRule] at hc0
        obtain ⟨_, hl0, hat⟩ := World.cells?_some hc0
        have h1 := hat 0 (by omega)
        rw [_root_.List.getElem?_eq_getElem (by omega), Nat.zero_mul] at h1
        have e : (a.add 0).add 0 = a := by simp [Addr.add]
        rw [e] at h1
        exact spot_none h1
      obtain ⟨g, off, rfl⟩ := h0
      obtain ⟨cs, hc, ht⟩ := hel i (by omega)
      rw [cellsRule] at hc
      obtain ⟨_, hl, hat⟩ := World.cells?_some hc
      obtain ⟨r, rfl, hfit, s1, s2⟩ := rule_cells ht
      refine ⟨r, ⟨hfit, s1, s2⟩, g, off, rfl, fun j u hu => ?_⟩
      have hj : j < 11 := (_root_.List.getElem?_eq_some_iff.1 hu).1
      rw [← hu, ← hat j hj, Addr.add_mid, Addr.add_mid]
    obtain ⟨rs, hrl, hp⟩ := list_ex _ n key
    subst hrl
    refine ⟨rs, rfl, ⟨some a, cap, rfl, hn, fun r hr => ?_, fun i r hr => ?_⟩, fun r hr => ?_⟩
    · obtain ⟨i, hi⟩ := _root_.List.mem_iff_getElem?.1 hr
      exact (hp i r hi).1.1
    · obtain ⟨_, g, off, e, hrg⟩ := hp i r hr
      exact ⟨g, off, by rw [e], hrg⟩
    · obtain ⟨i, hi⟩ := _root_.List.mem_iff_getElem?.1 hr
      exact (hp i r hi).1.2
end
end Go.Proofs.YtdppmeeobpbfnaaDoor
