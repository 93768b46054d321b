/-
  A set by numbers that came in as an argument.
-/
import Derived.Test.YtdppmeeobpbfnaaDoorDrAt
import Derived.Test.YtdppmeeobpbfnaaDoorRuArg
namespace Go.Proofs.YtdppmeeobpbfnaaDoor
open Go.RowKit Cv Go.ChangeShapes Go.WideShapes Go.Deep
set_option linter.unusedVariables false
set_option linter.unusedSimpArgs false

theorem cellsU8 : Tryd.prog.cellsOf 5 = 1 := by kernel_rfl
theorem u8_bd {b : Int} (h : (Lit.int .u8 b).wf = true) : 0 ≤ b ∧ b ≤ 255 := byte_of h

section
variable {H : Type} {enc : TypeId × Value → H} {W : World} {base : Nat} {sp : Nat → Bool} {hd : Bool}
set_option maxRecDepth 100000 in
theorem drf_of {v : Value} {d : DataW H} {p : List MemPlace} (hv : Value.okWide Tryd.prog W .any base 68 v) (h : DataW.Trod enc Tryd.prog W 0 sp hd 68 v d p) : ∃ bs : _root_.List Int, Drf v bs W := by
  obtain ⟨fuel, hf⟩ := h
  obtain ⟨A, n, cap, rfl⟩ := okWide_slice Tryd.underlying68 hv
  rcases open_slice Tryd.underlying68 hf with ⟨hc, _⟩ | ⟨a, len, cap', m, k, D, Pl, hc, _, hlc, hcm, hm, _, hel⟩
  · simp [Value.cells] at hc
    obtain ⟨rfl, rfl, rfl⟩ := hc
    exact ⟨[], none, 0, rfl, by simp, fun b hb => (by cases hb), fun i b hb => by simp at hb⟩
  · simp [Value.cells] at hc
    obtain ⟨rfl, rfl, rfl⟩ := hc
    have hmn : n ≤ m := by rw [hm]; split <;> omega
    have key : ∀ i, i < n → ∃ b : Int, (0 ≤ b ∧ b ≤ 255) ∧ ∃ g off, a = ⟨g, off, none⟩ ∧ W.cell? ⟨g, off + i, none⟩ = some (.int .u8 b) := by
      intro i hi
      have h0 : ∃ g off, a = ⟨g, off, none⟩ := by
        obtain ⟨cs0, hc0, ht0⟩ := hel 0 (by omega)
        rw [cellsU8] at hc0
        obtain ⟨_, hl0, hat⟩ := World.cells?_some hc0
        have h1 := hat 0 (by omega)
        rw [_root_.List.getElem?_eq_getElem (by omega), Nat.zero_mul] at h1
        have e : (a.add 0).add 0 = a := by simp [Addr.add]
        rw [e] at h1
        exact spot_none h1
      obtain ⟨g, off, rfl⟩ := h0
      obtain ⟨cs, hc, ht⟩ := hel i (by omega)
      rw [cellsU8] at hc
      obtain ⟨_, hl, hat⟩ := World.cells?_some hc
      obtain ⟨b, e0, _, w0⟩ := DataW.trod_int Tryd.underlying5 ht
      subst e0
      refine ⟨b, u8_bd w0, g, off, rfl, ?_⟩
      have h1 := hat 0 (by omega)
      rw [Addr.add_mid, Addr.add_mid, Nat.mul_one, Nat.add_zero] at h1
      rw [h1]; rfl
    obtain ⟨bs, hbl, hp⟩ := list_ex _ n key
    subst hbl
    refine ⟨bs, some a, cap, rfl, by omega, fun b hb => ?_, fun i b hb => ?_⟩
    · obtain ⟨i, hi⟩ := _root_.List.mem_iff_getElem?.1 hb
      exact (hp i b hi).1
    · obtain ⟨_, g, off, e, hc⟩ := hp i b hb
      exact ⟨g, off, by rw [e], hc⟩
end
end Go.Proofs.YtdppmeeobpbfnaaDoor
