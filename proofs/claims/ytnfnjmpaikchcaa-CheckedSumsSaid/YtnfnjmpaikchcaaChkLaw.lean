/-
  What the walks of the laws of chapter 3 share.
-/
import Derived.Test.YtnfnjmpaikchcaaChkEx
import Derived.Deep.DeepCutAuto
import Derived.Deep.CutBlock
import Derived.ProofKit
namespace Go.Proofs.Ytnfnjmpaikchcaa
open Go.RowKit Ck
set_option linter.unusedVariables false
set_option linter.unusedSimpArgs false

theorem fit_of {n : Int} (h : (Lit.int .i64 n).wf = true) : fit n := by
  simp only [Lit.wf, IntKind.min, IntKind.max, IntKind.signed, IntKind.bits, Bool.and_eq_true, decide_eq_true_eq, if_true] at h
  unfold fit; omega
namespace Ck
/-- what a result of two numbers is, behind one name -/
def Chk (p : Prop) (s x : Int) (ok : Bool) : Prop := (p ∧ x = s ∧ ok = true) ∨ (¬ p ∧ x = 0 ∧ ok = false)
theorem Two.ex {p : Prop} {s : Int} {w : World} (e : Ending) (w' : World) (h : Two p s w e w') : ∃ x ok, Hid (Chk p s x ok) ∧ e = .returned (.tuple #[.int .i64 x, .bool ok]) ∧ w = w' := by
  obtain ⟨rfl, ⟨hp, rfl⟩ | ⟨hp, rfl⟩⟩ := h
  · exact ⟨s, true, .inl ⟨hp, rfl, rfl⟩, rfl, rfl⟩
  · exact ⟨0, false, .inr ⟨hp, rfl, rfl⟩, rfl, rfl⟩
theorem dq_mul {a b : Int} (h0 : b ≠ 0) : dq (a * b) b = a ∧ dr (a * b) b = 0 :=
  dq_uniq h0 (by rw [Int.mul_comm b a]; omega) (fun h => by omega) (fun h => by omega)
theorem mul_dq_fit {a b : Int} (ha : fit a) : fit (0 + a) := by rwa [Int.zero_add]
end Ck

namespace Ck
theorem Chk.same {p q : Prop} {s t x y : Int} {ok ok' : Bool} (h : Chk p s x ok) (k : Chk q t y ok') (hp : p ↔ q) (hs : s = t) : x = y ∧ ok = ok' := by
  rcases h with ⟨h, rfl, rfl⟩ | ⟨h, rfl, rfl⟩ <;> rcases k with ⟨k, rfl, rfl⟩ | ⟨k, rfl, rfl⟩
  · exact ⟨hs, rfl⟩
  · exact (k (hp.1 h)).elim
  · exact (h (hp.2 k)).elim
  · exact ⟨rfl, rfl⟩
theorem Chk.ok_true {p : Prop} {s x : Int} {ok : Bool} (h : Chk p s x ok) (hp : p) : x = s ∧ ok = true := h.elim (fun h => h.2) (fun h => (h.1 hp).elim)
theorem Chk.ok_false {p : Prop} {s x : Int} {ok : Bool} (h : Chk p s x ok) (hp : ¬ p) : x = 0 ∧ ok = false := h.elim (fun h => (hp h.1).elim) (fun h => h.2)
end Ck

theorem lt_of_cell {w : World} {a : Addr} {v : Value} (h : w.cell? a = some v) : a.block < w.heap.size := by
  unfold World.cell? at h
  rcases Nat.lt_or_ge a.block w.heap.size with hl | hl
  · exact hl
  · rw [Array.getElem?_eq_none hl] at h; simp at h
/-- a slice of int64s that came in -/
theorem int64s_of {H : Type} {enc : TypeId × Value → H} {W : World} {base : Nat} {v : Value} {d : DataW H} {p : List MemPlace} (hv : Value.okWide Try.prog W .any base 30 v)
    (h : DataW.Trod enc Try.prog W 0 (fun _ => true) true 30 v d p) :
    ∃ (a : Option Addr) (len cap : Nat) (zs : List Int), v = .slice a len cap ∧ zs.length = len ∧ len ≤ cap ∧ cap ≤ maxLen ∧ (∀ z ∈ zs, fit z) ∧ (a = none → len = 0 ∧ cap = 0) ∧
      (∀ j, j < len → ∃ b off, a = some ⟨b, off, none⟩ ∧ b < W.heap.size ∧ W.cell? ⟨b, off + j, none⟩ = some (.int .i64 (zs[j]?.getD 0))) := by
  obtain ⟨a, len, cap, rfl⟩ := Go.WideShapes.okWide_slice Try.underlying30 hv
  obtain ⟨fuel, hf⟩ := h
  rcases Go.ChangeShapes.open_ints Try.underlying30 Try.underlying2 (by kernel_rfl) hf with ⟨hcs, _⟩ | ⟨x, l, c, zs, hcs, _, hl, hm, hz, _, hcell, hwz⟩
  · simp [Value.cells] at hcs
    obtain ⟨rfl, rfl, rfl⟩ := hcs
    exact ⟨none, 0, 0, [], rfl, rfl, Nat.le_refl _, by unfold maxLen; omega, by simp, fun _ => ⟨rfl, rfl⟩, fun j hj => by omega⟩
  · simp [Value.cells] at hcs
    obtain ⟨rfl, rfl, rfl⟩ := hcs
    have hz' : zs.length = cap := by simpa using hz
    refine ⟨_, len, cap, zs.take len, rfl, by rw [List.length_take]; omega, hl, hm, fun z hzm => fit_of (hwz z (List.mem_of_mem_take hzm)), fun h => by simp at h, fun j hj => ?_⟩
    obtain ⟨b, off, spot⟩ := x
    have h0 := hcell j (by omega)
    have h1 := hcell 0 (by omega)
    have hs : spot = none := by simpa [Addr.add] using World.cell?_spot h1
    subst hs
    refine ⟨b, off, rfl, by simpa [Addr.add] using lt_of_cell h1, ?_⟩
    have e1 : (Addr.mk b off none).add j = ⟨b, off + j, none⟩ := by unfold Addr.add; split <;> simp_all
    rw [e1] at h0
    rw [h0, List.getElem?_take, if_pos hj]; simp [List.getD]
end Go.Proofs.Ytnfnjmpaikchcaa
