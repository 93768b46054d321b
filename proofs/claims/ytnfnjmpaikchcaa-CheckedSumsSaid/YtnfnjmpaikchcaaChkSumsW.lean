/-
  The walk of the law CheckedSums: it returns true at every slice of int64s.
-/
import Derived.Test.YtnfnjmpaikchcaaChkRef
import Derived.Handy
namespace Go.Proofs.Ytnfnjmpaikchcaa
open Go.RowKit Ck
set_option linter.unusedVariables false
set_option linter.unusedSimpArgs false

namespace Ck
/-- where an element of a slice lies -/
def At (w : World) (a : Option Addr) (zs : List Int) (j : Nat) : Prop := ∃ b off, a = some ⟨b, off, none⟩ ∧ b < w.heap.size ∧ w.cell? ⟨b, off + j, none⟩ = some (.int .i64 (zs[j]?.getD 0))
theorem drewN_below {B : Nat} {a w : World} (h : Below B a w) (n : Nat) : Below B a (w.drewN n) := ⟨h.os, h.tape, h.output, h.size, h.block⟩
end Ck

set_option maxRecDepth 100000 in
set_option maxHeartbeats 1000000 in
theorem refSum_any (a : Option Addr) (len cap : Nat) (zs : List Int) (hz : ∀ z ∈ zs, fit z) (w : World) (hl : len ≤ 1000) (hc : ∀ j, j < len → At w a zs j) :
    Calls Try.prog 23 #[.slice a len cap] w fun e w' => e = .returned (.tuple #[.int .i64 (pr (psum zs len)).1, .bool (pr (psum zs len)).2]) ∧ w = w' := by
  have HC := Lib.hid hc; clear hc
  go_enter Try.func23, Try.ntmps23
  go_wp2_with fail
  go_loop [4, 5] (fun t i => ∃ (k : Nat) (s : Int), k ≤ len ∧ i = .int .i64 k ∧ t = .int .i64 s ∧ Hid (psum zs k = some s)) (fun _ i => len - (intOf i).toNat)
  case atStart => exact ⟨0, 0, by omega, rfl, rfl, rfl⟩
  case round =>
    obtain ⟨k, s, hk, rfl, rfl, hs⟩ := hrel
    by_cases hlt : k < len
    · obtain ⟨b, off, rfl, hb, hcx⟩ := HC.out k hlt
      have hzf : fit (zs[k]?.getD 0) := by
        cases hq : zs[k]? with
        | none => simp; decide
        | some z => simpa using hz z (List.mem_of_getElem? hq)
      have HZ := Lib.hid hzf; have HS := Lib.hid (psum_fit hs.out)
      have hgd : zs.getD k 0 = zs[k]?.getD 0 := by simp [List.getD]
      have hst := psum_some hs.out
      rw [hgd] at hst
      clear hzf hgd
      by_cases hf : fit (s + zs[k]?.getD 0)
      · rw [if_pos hf] at hst
        have HF := Lib.hid hf; have HT := Lib.hid hst
        clear hf hst
        go_wp2_with fail
        refine (refAdd_any _ _ _ HS.out HZ.out).mono ?_
        intro e w' hq; obtain ⟨rfl, rfl⟩ := Two.to_yes HF.out rfl _ _ hq; clear hq
        go_wp2_with fail
        go_round
        case rel => exact ⟨k + 1, _, by omega, by go_num, rfl, HT⟩
        case measure => simp [intOf]; omega
      · rw [if_neg hf] at hst
        have HF := Lib.hid hf
        have HT := Lib.hid (psum_none hst len (by omega))
        clear hf hst
        go_wp2_with fail
        refine (refAdd_any _ _ _ HS.out HZ.out).mono ?_
        intro e w' hq; obtain ⟨rfl, rfl⟩ := Two.to_no HF.out rfl _ _ hq; clear hq
        go_wp2_with fail
        go_ret2
        rw [HT.out]
        exact ⟨rfl, rfl⟩
    · obtain rfl : k = len := by omega
      go_wp2_with fail
      go_ret2
      rw [hs.out]
      exact ⟨rfl, rfl⟩

set_option maxRecDepth 100000 in
set_option maxHeartbeats 1000000 in
theorem equal_any (a1 a2 : Option Addr) (len c1 c2 : Nat) (zs : List Int) (w : World) (hl : len ≤ 1000) (h1 : ∀ j, j < len → At w a1 zs j) (h2 : ∀ j, j < len → At w a2 zs j) :
    Calls Try.prog 24 #[.slice a1 len c1, .slice a2 len c2] w fun e w' => e = .returned (.bool true) ∧ ∃ n, w' = w.drewN n := by
  have H1 := Lib.hid h1; have H2 := Lib.hid h2; clear h1 h2
  go_enter Try.func24, Try.ntmps24
  go_wp2_with fail
  go_loopw [13] (fun i wr => ∃ k n : Nat, k ≤ len ∧ i = .int .i64 k ∧ wr = w.drewN n) (fun i _ => len - (intOf i).toNat)
  case atStart => exact ⟨0, 0, by omega, rfl, rfl⟩
  case round =>
    obtain ⟨k, n, hk, rfl, rfl⟩ := hrel
    by_cases hlt : k < len
    · obtain ⟨b, off, rfl, hb, hcx⟩ := H1.out k hlt
      obtain ⟨b', off', rfl, hb', hcy⟩ := H2.out k hlt
      have hi : (0 : Int) ≤ k := by omega
      have hi2 : (k : Int) < len := by omega
      go_wp2_with fail
      go_quiet (fail)
      go_wp2_with fail
      go_roundw
      case rel => exact ⟨k + 1, _, by omega, by go_num, rfl⟩
      case measure => simp [intOf]; omega
    · obtain rfl : k = len := by omega
      go_wp2_with fail
      go_ret
      exact ⟨rfl, _, rfl⟩

theorem infoT2 : (Try.prog.info? 2).map (fun i => (i.zero, i.size, i.bytes)) = some (some (.int .i64 0), 1, 8) := by kernel_rfl

set_option maxRecDepth 100000 in
set_option maxHeartbeats 1000000 in
/-- a clone of a slice: nil of nil; else a slice of the same numbers in new memory -/
theorem clone_any (a : Option Addr) (len cap : Nat) (zs : List Int) (hz : zs.length = len) (w : World) (hl : len ≤ 1000) (hn : a = none → len = 0 ∧ cap = 0) (h : ∀ j, j < len → At w a zs j) :
    Calls Try.prog 22 #[.slice a len cap] w fun e w' => ∃ a' c', e = .returned (.slice a' len c') ∧ Ints w'.heap.size w' (.slice a' len c') zs ∧ (∀ j, j < len → At w' a' zs j) ∧ Below w.heap.size w w' := by
  have own : ∀ (w' : World) (v : Value), w'.ownsRow w.heap.size 2 1 v len (zs.map (Value.int .i64)) → ∃ a' c', v = .slice a' len c' ∧ Ints w'.heap.size w' (.slice a' len c') zs ∧ (∀ j, j < len → At w' a' zs j) := by
    intro w' v ho
    rcases ho.2 with ⟨rfl, h0⟩ | ⟨g, c, cur, rfl, hg, hh, hc1, hc2, hc3, hc4⟩
    · subst h0
      exact ⟨none, 0, rfl, .inl ⟨rfl, List.eq_nil_of_length_eq_zero hz⟩, fun j hj => by omega⟩
    · have hcell : ∀ j, j < len → w'.cell? ⟨g, j, none⟩ = some (.int .i64 (zs[j]?.getD 0)) := fun j hj => by
        rw [ho.cellAt j (by omega), List.getElem?_map, List.getElem?_eq_getElem (by omega)]; simp
      have hlt : g < w'.heap.size := (Array.getElem?_eq_some_iff.1 hh).1
      refine ⟨_, c, rfl, .inr ⟨g, 0, c, by rw [hz], hlt, fun j hj => by rw [Nat.zero_add]; exact hcell j (by omega)⟩, fun j hj => ⟨g, 0, rfl, hlt, by rw [Nat.zero_add]; exact hcell j hj⟩⟩
  obtain ⟨i0, hi, hz0, hz1, hz2⟩ := info_parts infoT2
  cases a with
  | none =>
    obtain ⟨rfl, rfl⟩ := hn rfl
    refine (Try.slices_Clone_nil 0 0 w).mono ?_
    rintro e w' ⟨rfl, rfl⟩
    exact ⟨none, 0, rfl, .inl ⟨rfl, List.eq_nil_of_length_eq_zero hz⟩, fun j hj => by omega, Below.refl _ _⟩
  | some x =>
    by_cases h0 : len = 0
    · subst h0
      obtain rfl : zs = [] := List.eq_nil_of_length_eq_zero hz
      go_enter Try.func22, Try.ntmps22
      go_wp2_with fail
      rw [Lib.run_eql_slice_nil w 30 2 (some x) 0 cap 0 0 Try.underlying30]
      simp only [Option.isNone_some]
      go_wp2_with fail
      go_ret
      exact ⟨_, 0, rfl, .inr ⟨w.heap.size, 0, 0, rfl, by simp, fun j hj => by simp at hj⟩, fun j hj => by omega, by go_grown⟩
    · obtain ⟨b, off, e, hb, _⟩ := h 0 (by omega)
      cases e
      refine (Try.slices_Clone i0 _ 1 8 hi hz0 hz1 hz2 rfl (by decide) Try.sizeOf2 b off len cap (zs.map (Value.int .i64)) w (by rw [List.length_map]; omega) (by unfold maxLen; omega) (by omega) ?_ ?_).mono ?_
      · intro j u hu
        rw [List.getElem?_map] at hu
        have hj : j < len := by
          rcases Nat.lt_or_ge j zs.length with h' | h'
          · omega
          · rw [List.getElem?_eq_none h'] at hu; simp at hu
        obtain ⟨b', off', e', _, hc⟩ := h j hj
        cases e'
        rw [hc]
        rw [List.getElem?_eq_getElem (by omega)] at hu ⊢
        simpa using hu
      · intro u hu
        obtain ⟨z, _, rfl⟩ := List.mem_map.1 hu
        rfl
      · rintro e w' ⟨v', rfl, ho, _, hB⟩
        obtain ⟨a', c', rfl, h3, h4⟩ := own w' v' ho
        exact ⟨a', c', rfl, h3, h4, hB⟩

set_option maxRecDepth 100000 in
set_option maxHeartbeats 1000000 in
theorem checkedSums.sums_ok (w : World) (a : Option Addr) (len cap : Nat) (zs : List Int) (hlen : zs.length = len) (hcap : len ≤ cap) (hm : cap ≤ maxLen) (hz : ∀ z ∈ zs, fit z) (hn : a = none → len = 0 ∧ cap = 0)
    (hc : ∀ j, j < len → At w a zs j) :
    Calls Try.prog 8 #[.slice a len cap] w fun e w' => e = .returned (.bool true) ∧ Below w.heap.size w w' := by
  unfold maxLen at hm
  have HL := Lib.hid hlen; have HZ := Lib.hid hz; have HN := Lib.hid hn; have HC := Lib.hid hc
  clear hlen hz hn hc
  by_cases h3 : 1000 < len
  · go_enter Try.func8, Try.ntmps8
    go_wp2_with fail
    refine (works_any _).mono ?_
    rintro e w' ⟨rfl, hB⟩
    go_wp2_with fail
    go_ret
    exact ⟨rfl, hB⟩
  · have h4 : len ≤ 1000 := by omega
    go_enter Try.func8, Try.ntmps8
    go_wp2_with fail
    refine (clone_any a len cap zs HL.out w h4 HN.out HC.out).mono ?_
    rintro e w' ⟨a', c', rfl, hI, hA, hB⟩
    have HI := Lib.hid hI; have HA := Lib.hid hA
    clear hI hA
    have hsum := sum_any a' len c' zs (by rw [HL.out]; unfold maxLen; omega) HZ.out w' (by exact HI.out)
    rw [HL.out] at hsum
    have HSU := Lib.hid hsum
    clear hsum
    go_wp2_with fail
    refine (HSU.out).mono ?_
    rintro e w2 ⟨rfl, hB2⟩
    have hs1 := hB.size
    have hs2 := hB2.size
    have hC2 : ∀ j, j < len → At w2 a zs j := fun j hj => by
      obtain ⟨b, off, rfl, hb, hcx⟩ := HC.out j hj
      exact ⟨b, off, rfl, by omega, ((hB.trans (hB2.mono hs1)).cell (p := ⟨b, off + j, none⟩) hb).trans hcx⟩
    have hA2 : ∀ j, j < len → At w2 a' zs j := fun j hj => by
      obtain ⟨b, off, rfl, hb, hcx⟩ := HA.out j hj
      exact ⟨b, off, rfl, by omega, (hB2.cell (p := ⟨b, off + j, none⟩) hb).trans hcx⟩
    have HC2 := Lib.hid hC2; have HA2 := Lib.hid hA2
    clear hC2 hA2
    go_wp2_with fail
    refine (refSum_any a len cap zs HZ.out w2 h4 HC2.out).mono ?_
    rintro e w' ⟨rfl, rfl⟩
    go_wp2_with fail
    refine (is_any _ _ _ _ _).mono ?_
    intro e w' hq; obtain ⟨rfl, rfl⟩ := Yes.to_yes ⟨rfl, rfl⟩ _ _ hq; clear hq
    go_wp2_with fail
    refine (equal_any a' a len c' cap zs w2 h4 HA2.out HC2.out).mono ?_
    rintro e w' ⟨rfl, n, rfl⟩
    go_wp2_with fail
    refine (works_any _).mono ?_
    rintro e w' ⟨rfl, hB3⟩
    go_wp2_with fail
    go_ret
    exact ⟨rfl, (drewN_below (hB.trans (hB2.mono hs1)) n).trans (hB3.mono (by show w.heap.size ≤ w2.heap.size; omega))⟩

theorem checkedSums.checkedSums_walk {H : Type} {enc : TypeId × Value → H} (W : World) {base : Nat} (v : Value) (hv : Value.okWide Try.prog W .any base 30 v) {d : DataW H} {p : List MemPlace}
    (h : DataW.Trod enc Try.prog W 0 (fun _ => true) true 30 v d p) :
    Calls Try.prog 8 #[v] W fun e w' => e = .returned (.bool true) ∧ Below W.heap.size W w' := by
  obtain ⟨a, len, cap, zs, rfl, h1, h2, h3, h4, h5, h6⟩ := int64s_of hv h
  exact checkedSums.sums_ok W a len cap zs h1 h2 h3 h4 h5 h6
end Go.Proofs.Ytnfnjmpaikchcaa
