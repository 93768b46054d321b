/-
  The law ErasFind: its argument opened, its walk.
-/
import Derived.Test.YtdppmeeobpbfnaaDoorErWk
import Derived.Test.YtdppmeeobpbfnaaDoorRuArg
import Derived.Test.YtdppmeeobpbfnaaDoorDayAlw
namespace Go.Proofs.YtdppmeeobpbfnaaDoor
open Go.RowKit Cv Go.ChangeShapes Go.WideShapes Go.Deep
set_option linter.unusedVariables false
set_option linter.unusedSimpArgs false

theorem cellsSpan : Tryd.prog.cellsOf 26 = 3 := by kernel_rfl

section
variable {H : Type} {enc : TypeId × Value → H} {W : World} {base : Nat} {sp : Nat → Bool} {hd : Bool}
set_option maxRecDepth 100000 in
theorem span_cells {fuel : Nat} {cs : _root_.List Value} {x : DataW H × List MemPlace} (h : DataW.trod enc Tryd.prog W base sp hd fuel 26 cs = some x) : ∃ s : Sp, cs = s.enc := by
  have hl : cs.length = 3 := by
    obtain ⟨_, _, _, _, hl, _⟩ := DataW.trod_struct Tryd.underlying26 h
    rw [hl, cellsSpan]
  match cs, hl with
  | [c0, c1, c2], _ =>
    obtain ⟨n0, y0, t0⟩ := part_of Tryd.underlying26 h 0 _ rfl
    obtain ⟨n1, y1, t1⟩ := part_of Tryd.underlying26 h 1 _ rfl
    obtain ⟨n2, y2, t2⟩ := part_of Tryd.underlying26 h 2 _ rfl
    simp only [List.getElem_toArray, List.getElem_cons_succ, List.getElem_cons_zero, cellsInt, cellsInt64] at t0 t1 t2
    simp only [List.drop_succ_cons, List.drop_zero, List.take_succ_cons, List.take_zero] at t0 t1 t2
    obtain ⟨a, e0, _, w0⟩ := DataW.trod_int Tryd.underlying2 t0
    obtain ⟨b, e1, _, w1⟩ := DataW.trod_int Tryd.underlying2 t1
    obtain ⟨c, e2, _, w2⟩ := DataW.trod_int Tryd.underlying3 t2
    simp only [List.cons.injEq, and_true] at e0 e1 e2
    subst e0 e1 e2
    exact ⟨⟨a, b, c⟩, rfl⟩
set_option maxRecDepth 100000 in
/-- a slice of spans -/
theorem spans_of {v : Value} {d : DataW H} {p : List MemPlace} (hv : Value.okWide Tryd.prog W .any base 22 v) (h : DataW.Trod enc Tryd.prog W 0 sp hd 22 v d p) :
    ∃ (A : Option Addr) (n cap : Nat), v = .slice A n cap ∧ n ≤ maxLen ∧ ∃ l : _root_.List Sp, l.length = n ∧ RdSp (.slice A n cap) l W := by
  obtain ⟨fuel, hf⟩ := h
  obtain ⟨A, n, cap, rfl⟩ := okWide_slice Tryd.underlying22 hv
  refine ⟨A, n, cap, rfl, ?_⟩
  rcases open_slice Tryd.underlying22 hf with ⟨hc, _⟩ | ⟨a, len, cap', m, k, D, Pl, hc, _, hlc, hcm, hm, _, hel⟩
  · simp [Value.cells] at hc
    obtain ⟨rfl, rfl, rfl⟩ := hc
    exact ⟨by unfold maxLen; omega, [], rfl, none, 0, rfl, fun i r hr => by simp at hr⟩
  · simp [Value.cells] at hc
    obtain ⟨rfl, rfl, rfl⟩ := hc
    have hmn : n ≤ m := by rw [hm]; split <;> omega
    refine ⟨by omega, ?_⟩
    have key : ∀ i, i < n → ∃ r : Sp, ∃ g off, a = ⟨g, off, none⟩ ∧ W.rangeAt g (off + i * 3) r.enc := by
      intro i hi
      have h0 : ∃ g off, a = ⟨g, off, none⟩ := by
        obtain ⟨cs0, hc0, ht0⟩ := hel 0 (by omega)
        rw [cellsSpan] at hc0
        obtain ⟨_, hl0, hat⟩ := World.cells?_some hc0
        have h1 := hat 0 (by omega)
        rw [_root_.List.getElem?_eq_getElem (by omega), Nat.zero_mul] at h1
        have e : (a.add 0).add 0 = a := by simp [Addr.add]
        rw [e] at h1
        exact spot_none h1
      obtain ⟨g, off, rfl⟩ := h0
      obtain ⟨cs, hc, ht⟩ := hel i (by omega)
      rw [cellsSpan] at hc
      obtain ⟨_, hl, hat⟩ := World.cells?_some hc
      obtain ⟨r, rfl⟩ := span_cells ht
      refine ⟨r, g, off, rfl, fun j u hu => ?_⟩
      have hj : j < 3 := (_root_.List.getElem?_eq_some_iff.1 hu).1
      rw [← hu, ← hat j hj, Addr.add_mid, Addr.add_mid]
    obtain ⟨rs, hrl, hp⟩ := list_ex _ n key
    subst hrl
    refine ⟨rs, rfl, some a, cap, rfl, fun i r hr => ?_⟩
    obtain ⟨g, off, e, hrg⟩ := hp i r hr
    exact ⟨g, off, by rw [e], hrg⟩
end

set_option maxRecDepth 100000 in
set_option maxHeartbeats 4000000 in
theorem erasFind_big (A : Option Addr) (n cap : Nat) (t : Int) (W : World) (hT : Tabs W) (hn : 50 < n) (hm : n ≤ maxLen) :
    Calls Tryd.prog 3 #[.slice A n cap, .int .i64 t] W fun e w' => e = .returned (.bool true) ∧ Below W.heap.size W w' := by
  have HT := Lib.hid hT
  have h1 : (50 : Int) < (n : Int) := by omega
  have h2 : decide ((50 : Int) < (n : Int)) = true := by simp; omega
  unfold maxLen at hm
  clear hT
  go_enter Tryd.func3, Tryd.ntmps3
  go_wp2_with fail
  refine (works23_any _ HT.out).mono ?_
  rintro e w1 ⟨rfl, hb⟩
  go_wp2_with fail
  go_ret
  exact ⟨rfl, hb⟩

set_option maxRecDepth 100000 in
set_option maxHeartbeats 4000000 in
theorem erasFind_core (A : Option Addr) (n cap : Nat) (l : _root_.List Sp) (t : Int) (W : World) (hT : Tabs W) (hR : RdSp (.slice A n cap) l W) (hl : l.length = n) (hn : n ≤ 50) :
    Calls Tryd.prog 3 #[.slice A n cap, .int .i64 t] W fun e w' => e = .returned (.bool true) ∧ Below W.heap.size W w' := by
  have HT := Lib.hid hT
  have HR := Lib.hid hR
  have HL := Lib.hid (show l.length ≤ 50 by omega)
  have h1 : ¬ (50 : Int) < (n : Int) := by omega
  have h2 : decide ((50 : Int) < (n : Int)) = false := by simp; omega
  have heq := eqSp
  clear hT hR hl
  go_enter Tryd.func3, Tryd.ntmps3
  go_wp2_with fail
  refine (cloneSp_any _ l _ (by exact HR.out) (by have := HL.out; omega)).mono ?_
  rintro e w1 ⟨v2, rfl, hG, hb⟩
  have HB := Lib.hid hb
  have HR := Lib.hid (HR.out.below hb)
  have HG := Lib.hid hG
  obtain ⟨A2, c2, rfl⟩ := hG.sl
  clear hb hG
  go_wp2_with fail
  refine (find_any _ l t _ (by exact HG.out) (by have := HL.out; omega)).mono ?_
  rintro e w2 ⟨o, ho, he, hb⟩
  have HO := ho
  cases o with
  | none =>
    obtain rfl : e = .returned (.tuple #[.agg #[.int .i64 0, .int .i64 0, .int .i64 0], .bool false]) := he
    have hx := bel_trans hb (bel_alloc w2 (.cells #[.int .i64 0, .int .i64 0, .int .i64 0] 26))
    have K6 := Lib.hid (heap_alloc_new w2 (.cells #[.int .i64 0, .int .i64 0, .int .i64 0] 26))
    have HB := Lib.hid (bel_trans HB.out hx)
    have HR := Lib.hid (HR.out.below hx)
    have HG := Lib.hid (HG.out.below hx)
    clear hb hx
    go_wp2_with fail
    refine (refFind_any _ l t _ (by exact HR.out) (by have := HL.out; omega)).mono ?_
    intro e w3 hq; obtain ⟨rfl, hb⟩ := FindR.to (v := .tuple #[.agg #[.int .i64 0, .int .i64 0, .int .i64 0], .bool false]) HO.out rfl _ _ hq; clear hq
    have hx := bel_trans hb (bel_alloc w3 (.cells #[.int .i64 0, .int .i64 0, .int .i64 0] 26))
    have K8 := Lib.hid (heap_alloc_new w3 (.cells #[.int .i64 0, .int .i64 0, .int .i64 0] 26))
    have K6 := Lib.hid (block_below K6.out hx)
    have HB := Lib.hid (bel_trans HB.out hx)
    have HR := Lib.hid (HR.out.below hx)
    have HG := Lib.hid (HG.out.below hx)
    clear hb hx
    have a0 := cellB K6.out (i := 0) rfl
    have a1 := cellB K6.out (i := 1) rfl
    have a2 := cellB K6.out (i := 2) rfl
    have b0 := cellB K8.out (i := 0) rfl
    have b1 := cellB K8.out (i := 1) rfl
    have b2 := cellB K8.out (i := 2) rfl
    go_wp2_with fail
    refine (equalSp_any _ _ l _ (by exact HG.out) (by exact HR.out) (by have := HL.out; omega)).mono ?_
    rintro e w4 ⟨rfl, hb⟩
    have HB := Lib.hid (bel_trans HB.out hb)
    clear hb a0 a1 a2 b0 b1 b2
    go_wp2_with fail
    refine (works23_any _ (by exact HT.out.below HB.out)).mono ?_
    rintro e w5 ⟨rfl, hb⟩
    have HB := Lib.hid (bel_trans HB.out hb)
    clear hb
    go_wp2_with fail
    go_ret
    exact ⟨rfl, HB.out⟩
  | some s =>
    obtain ⟨sx, sy, sz⟩ := s
    obtain rfl : e = .returned (.tuple #[.agg #[.int .i64 sx, .int .i64 sy, .int .i64 sz], .bool true]) := he
    have hx := bel_trans hb (bel_alloc w2 (.cells #[.int .i64 sx, .int .i64 sy, .int .i64 sz] 26))
    have K6 := Lib.hid (heap_alloc_new w2 (.cells #[.int .i64 sx, .int .i64 sy, .int .i64 sz] 26))
    have HB := Lib.hid (bel_trans HB.out hx)
    have HR := Lib.hid (HR.out.below hx)
    have HG := Lib.hid (HG.out.below hx)
    clear hb hx
    go_wp2_with fail
    refine (refFind_any _ l t _ (by exact HR.out) (by have := HL.out; omega)).mono ?_
    intro e w3 hq; obtain ⟨rfl, hb⟩ := FindR.to (v := .tuple #[.agg #[.int .i64 sx, .int .i64 sy, .int .i64 sz], .bool true]) HO.out rfl _ _ hq; clear hq
    have hx := bel_trans hb (bel_alloc w3 (.cells #[.int .i64 sx, .int .i64 sy, .int .i64 sz] 26))
    have K8 := Lib.hid (heap_alloc_new w3 (.cells #[.int .i64 sx, .int .i64 sy, .int .i64 sz] 26))
    have K6 := Lib.hid (block_below K6.out hx)
    have HB := Lib.hid (bel_trans HB.out hx)
    have HR := Lib.hid (HR.out.below hx)
    have HG := Lib.hid (HG.out.below hx)
    clear hb hx
    have a0 := cellB K6.out (i := 0) rfl
    have a1 := cellB K6.out (i := 1) rfl
    have a2 := cellB K6.out (i := 2) rfl
    have b0 := cellB K8.out (i := 0) rfl
    have b1 := cellB K8.out (i := 1) rfl
    have b2 := cellB K8.out (i := 2) rfl
    go_wp2_with fail
    refine (equalSp_any _ _ l _ (by exact HG.out) (by exact HR.out) (by have := HL.out; omega)).mono ?_
    rintro e w4 ⟨rfl, hb⟩
    have HB := Lib.hid (bel_trans HB.out hb)
    clear hb a0 a1 a2 b0 b1 b2
    go_wp2_with fail
    refine (works23_any _ (by exact HT.out.below HB.out)).mono ?_
    rintro e w5 ⟨rfl, hb⟩
    have HB := Lib.hid (bel_trans HB.out hb)
    clear hb
    go_wp2_with fail
    go_ret
    exact ⟨rfl, HB.out⟩

set_option maxRecDepth 100000 in
theorem erasFind.erasFind_walk (W : World) (hL : laidMetH Tryd.prog Rows.erasFindRow.laid W) (v : Value) {H : Type} {enc : TypeId × Value → H} {base : Nat} {d : DataW H} {p : List MemPlace} (hv : Value.okWide Tryd.prog W .any base 22 v)
    (h : DataW.Trod enc Tryd.prog W 0 (fun _ => true) true 22 v d p) (t : Int) (wt : (Lit.int .i64 t).wf = true) :
    Calls Tryd.prog 3 #[v, .int .i64 t] W fun e w' => e = .returned (.bool true) ∧ Below W.heap.size W w' := by
  obtain ⟨A, n, cap, rfl, hm, l, hl, hR⟩ := spans_of hv h
  have hT : Tabs W := ⟨tab_of hL, ktab_of hL⟩
  rcases Nat.lt_or_ge 50 n with hn | hn
  · exact erasFind_big A n cap t W hT hn hm
  · exact erasFind_core A n cap l t W hT hR hl hn
end Go.Proofs.YtdppmeeobpbfnaaDoor
