/-
  The walk of the law ApartFars.
-/
import Derived.Test.YtghmdaahmijdiaaDoorApEx
import Derived.Test.YtghmdaahmijdiaaDoorApRef
namespace Go.Proofs.YtghmdaahmijdiaaDoor
open Go.RowKit Cv
set_option linter.unusedVariables false
set_option linter.unusedSimpArgs false

set_option maxRecDepth 100000 in
set_option maxHeartbeats 4000000 in
theorem apFars_core (v : Value) (rs : _root_.List Ru) (N : Int) (W : World) (hT : Tabs W) (h : Rul v rs W) (hl : rs.length ≤ 8) (hN1 : -9223372036854775808 ≤ N) (hN2 : N ≤ 9223372036854775807) :
    Calls Tryd.prog 4 #[v, .int .i64 N] W fun e w' => e = .returned (.bool true) ∧ Below W.heap.size W w' := by
  obtain ⟨A, cap, rfl⟩ := h.sl
  have HT := Lib.hid hT
  have H := Lib.hid h
  obtain ⟨n, hn⟩ : ∃ n, n = rs.length := ⟨_, rfl⟩
  rw [← hn] at hl H ⊢
  clear hT h hn
  have hnl : (n : Int) ≤ 8 := by omega
  go_enter Tryd.func4, Tryd.ntmps4
  go_wp2_with fail
  refine (apFar_any _ rs N _ (by exact HT.out) (by exact H.out) (by omega) (by omega)).mono ?_
  rintro e w1 ⟨b, hp, rfl, hb⟩
  have HB := Lib.hid hb
  clear hb
  go_wp2_with fail
  refine (refFar_any _ rs N _ (by exact H.out.below HB.out) (by omega) (by omega)).mono ?_
  rintro e w2 ⟨c, hq, rfl, hb⟩
  obtain rfl : b = c := by rw [Bool.eq_iff_iff, hp.out, hq.out]
  have HB := Lib.hid (bel_trans HB.out hb)
  clear hb hp hq
  go_wp2_with fail
  refine (works18_any _ (by exact HT.out.below HB.out)).mono ?_
  rintro e w3 ⟨rfl, hb⟩
  go_wp2_with fail
  go_ret
  exact ⟨rfl, bel_trans HB.out hb⟩

set_option maxRecDepth 100000 in
theorem apartFars.apartFars_walk (W : World) (hL : laidMetH Tryd.prog Rows.apartFarsRow.laid W) (v : Value) {H : Type} {enc : TypeId × Value → H} {base : Nat} {d : DataW H} {p : List MemPlace} (hv : Value.okWide Tryd.prog W .any base 22 v)
    (h : DataW.Trod enc Tryd.prog W 0 (fun _ => true) true 22 v d p) (N : Int) (wN : (Lit.int .i64 N).wf = true) :
    Calls Tryd.prog 4 #[v, .int .i64 N] W fun e w' => e = .returned (.bool true) ∧ Below W.heap.size W w' := by
  obtain ⟨hN1, hN2⟩ := fit_of wN
  obtain ⟨A, n, cap, rfl, hn, hrs⟩ := rules_of hv h
  by_cases h8 : n ≤ 8
  · obtain ⟨rs, hl, hR, _⟩ := hrs (by omega)
    exact apFars_core _ rs N W ⟨tab_of hL, ktab_of hL⟩ hR (by omega) hN1 hN2
  · have HT := Lib.hid (show Tabs W from ⟨tab_of hL, ktab_of hL⟩)
    have hn8 : (8 : Int) < (n : Int) := by omega
    clear hrs h hv hL
    go_enter Tryd.func4, Tryd.ntmps4
    go_wp2_with fail
    refine (works18_any _ (by exact HT.out)).mono ?_
    rintro e w' ⟨rfl, hb⟩
    go_wp2_with fail
    go_ret
    exact ⟨rfl, hb⟩
end Go.Proofs.YtghmdaahmijdiaaDoor
