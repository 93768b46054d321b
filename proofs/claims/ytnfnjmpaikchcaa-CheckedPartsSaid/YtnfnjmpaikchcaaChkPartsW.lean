/-
  The walk of the law CheckedParts: it returns true at every slice of int64s.
-/
import Derived.Test.YtnfnjmpaikchcaaChkLaw
namespace Go.Proofs.Ytnfnjmpaikchcaa
open Go.RowKit Ck
set_option linter.unusedVariables false
set_option linter.unusedSimpArgs false

namespace Ck
theorem psum_take (zs : List Int) (n : Nat) : ∀ k, k ≤ n → psum (zs.take n) k = psum zs k
  | 0, _ => rfl
  | k + 1, h => by
    have h1 : (zs.take n).getD k 0 = zs.getD k 0 := by simp [List.getD, List.getElem?_take, show k < n from by omega]
    simp only [psum, psum_take zs n k (by omega), h1]
end Ck

set_option maxRecDepth 100000 in
set_option maxHeartbeats 4000000 in
theorem checkedParts.parts_ok (w : World) (a : Option Addr) (len cap : Nat) (zs : List Int) (hlen : zs.length = len) (hcap : len ≤ cap) (hm : cap ≤ maxLen) (hz : ∀ z ∈ zs, fit z)
    (hc : ∀ j, j < len → ∃ b off, a = some ⟨b, off, none⟩ ∧ b < w.heap.size ∧ w.cell? ⟨b, off + j, none⟩ = some (.int .i64 (zs[j]?.getD 0))) :
    Calls Try.prog 6 #[.slice a len cap] w fun e w' => e = .returned (.bool true) ∧ Below w.heap.size w w' := by
  unfold maxLen at hm
  have HL := Lib.hid hlen; clear hlen
  by_cases h3 : 300 < len
  · go_enter Try.func6, Try.ntmps6
    go_wp2_with fail
    refine (works_any _).mono ?_
    rintro e w1 ⟨rfl, hB⟩
    go_wp2_with fail
    go_ret
    exact ⟨rfl, hB⟩
  · go_enter Try.func6, Try.ntmps6
    go_wp2_with fail
    go_loopw [3, 4, 17] (fun s f i wr => ∃ (k : Nat) (x : Int) (ok : Bool), k ≤ len ∧ i = .int .i64 k ∧ s = .int .i64 x ∧ f = .bool ok ∧ Hid (pr (psum zs k) = (x, ok)) ∧ Below w.heap.size w wr) (fun _ _ i _ => len - (intOf i).toNat)
    case atStart => exact ⟨0, 0, true, by omega, rfl, rfl, rfl, rfl, Below.refl _ _⟩
    case round =>
      obtain ⟨k, x, ok, hk, rfl, rfl, rfl, hp, hB⟩ := hrel
      by_cases hlt : k < len
      · obtain ⟨b, off, rfl, hb, hcell⟩ := hc k hlt
        have hcx : wr.cell? ⟨b, off + k, none⟩ = some (.int .i64 (zs[k]?.getD 0)) := (hB.cell (p := ⟨b, off + k, none⟩) hb).trans hcell
        have hsz := hB.size
        have hzf : fit (zs[k]?.getD 0) := by
          cases hq : zs[k]? with
          | none => simp; decide
          | some z => simpa using hz z (List.mem_of_getElem? hq)
        have HZ := Lib.hid hzf; clear hzf
        have hgd : zs.getD k 0 = zs[k]?.getD 0 := by simp [List.getD]
        have hI : Ints wr.heap.size wr (.slice (some ⟨b, off, none⟩) (zs.take (k + 1)).length cap) (zs.take (k + 1)) := by
          refine .inr ⟨b, off, cap, rfl, by omega, fun j hj => ?_⟩
          have hj' : j < k + 1 := by simp at hj; omega
          obtain ⟨b', off', e, _, hcj⟩ := hc j (by omega)
          cases e
          rw [List.getElem?_take, if_pos hj']
          exact (hB.cell (p := ⟨b, off + j, none⟩) hb).trans hcj
        have htl : (zs.take (k + 1)).length = k + 1 := by rw [List.length_take, HL.out]; omega
        rw [htl] at hI
        have hsum := sum_any (some ⟨b, off, none⟩) (k + 1) cap (zs.take (k + 1)) (by rw [htl]; unfold maxLen; omega) (fun z h => hz z (List.mem_of_mem_take h)) wr hI
        rw [htl, psum_take zs (k + 1) (k + 1) (by omega)] at hsum
        have hn : ∃ y ok', pr (psum zs (k + 1)) = (y, ok') ∧ ((ok = true ∧ ok' = true ∧ fit (x + zs[k]?.getD 0) ∧ y = x + zs[k]?.getD 0) ∨ (ok = true ∧ ok' = false ∧ y = 0 ∧ ¬ fit (x + zs[k]?.getD 0)) ∨ (ok = false ∧ x = 0 ∧ ok' = false ∧ y = 0)) := by
          have hpo := hp.out
          cases hq : psum zs k with
          | none =>
            rw [hq] at hpo; simp [pr] at hpo; obtain ⟨rfl, rfl⟩ := hpo
            exact ⟨0, false, by rw [psum_none hq _ (by omega)]; rfl, .inr (.inr ⟨rfl, rfl, rfl, rfl⟩)⟩
          | some u =>
            rw [hq] at hpo; simp [pr] at hpo; obtain ⟨rfl, rfl⟩ := hpo
            rw [psum_some hq, hgd]
            by_cases hf : fit (u + zs[k]?.getD 0)
            · rw [if_pos hf]; exact ⟨_, true, rfl, .inl ⟨rfl, rfl, hf, rfl⟩⟩
            · rw [if_neg hf]; exact ⟨0, false, rfl, .inr (.inl ⟨rfl, rfl, rfl, hf⟩)⟩
        have hxf : fit x := by
          have hpo := hp.out
          cases hq : psum zs k with
          | none => rw [hq] at hpo; simp [pr] at hpo; obtain ⟨rfl, rfl⟩ := hpo; decide
          | some u => rw [hq] at hpo; simp [pr] at hpo; obtain ⟨rfl, rfl⟩ := hpo; exact psum_fit hq
        have HX := Lib.hid hxf; clear hxf
        obtain ⟨y, ok', hpr, hcase⟩ := hn
        rw [hpr] at hsum
        have HP := Lib.hid hpr
        have HS := Lib.hid hsum
        clear hpr hsum hgd htl hI hp
        rcases hcase with ⟨rfl, rfl, hf, rfl⟩ | ⟨rfl, rfl, rfl, hf⟩ | ⟨rfl, rfl, rfl, rfl⟩
        · have HF := Lib.hid hf; clear hf
          go_wp2_with fail
          refine (add_any _ _ _ HX.out HZ.out).mono ?_
          intro e w' hq; obtain ⟨rfl, rfl⟩ := Two.to_yes HF.out rfl _ _ hq; clear hq
          go_wp2_with fail
          refine (HS.out).mono ?_
          rintro e w' ⟨rfl, hB1⟩
          go_wp2_with fail
          go_roundw
          case rel => exact ⟨k + 1, _, _, by omega, by go_num, rfl, rfl, HP, hB.trans (hB1.mono hsz)⟩
          case measure => simp [intOf]; omega
        · have HF := Lib.hid hf; clear hf
          go_wp2_with fail
          refine (add_any _ _ _ HX.out HZ.out).mono ?_
          intro e w' hq; obtain ⟨rfl, rfl⟩ := Two.to_no HF.out rfl _ _ hq; clear hq
          go_wp2_with fail
          refine (HS.out).mono ?_
          rintro e w' ⟨rfl, hB1⟩
          go_wp2_with fail
          go_roundw
          case rel => exact ⟨k + 1, _, _, by omega, by go_num, rfl, rfl, HP, hB.trans (hB1.mono hsz)⟩
          case measure => simp [intOf]; omega
        · go_wp2_with fail
          refine (add_any _ _ _ HX.out HZ.out).mono ?_
          intro e w' hq; obtain ⟨rfl, rfl⟩ := Two.to_yes (by rw [Int.zero_add]; exact HZ.out) rfl _ _ hq; clear hq
          go_wp2_with fail
          refine (HS.out).mono ?_
          rintro e w' ⟨rfl, hB1⟩
          go_wp2_with fail
          go_roundw
          case rel => exact ⟨k + 1, _, _, by omega, by go_num, rfl, rfl, HP, hB.trans (hB1.mono hsz)⟩
          case measure => simp [intOf]; omega
      · obtain rfl : k = len := by omega
        go_wp2_with fail
        refine (works_any _).mono ?_
        rintro e w1 ⟨rfl, hB1⟩
        go_wp2_with fail
        go_ret
        exact ⟨rfl, hB.trans (hB1.mono hB.size)⟩

theorem checkedParts.checkedParts_walk {H : Type} {enc : TypeId × Value → H} (W : World) {base : Nat} (v : Value) (hv : Value.okWide Try.prog W .any base 30 v) {d : DataW H} {p : List MemPlace}
    (h : DataW.Trod enc Try.prog W 0 (fun _ => true) true 30 v d p) :
    Calls Try.prog 6 #[v] W fun e w' => e = .returned (.bool true) ∧ Below W.heap.size W w' := by
  obtain ⟨a, len, cap, zs, rfl, h1, h2, h3, h4, _, h5⟩ := int64s_of hv h
  exact checkedParts.parts_ok W a len cap zs h1 h2 h3 h4 h5
end Go.Proofs.Ytnfnjmpaikchcaa
