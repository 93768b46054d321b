/-
  Chapter 18's small functions (fixed, at, close) and its examples (works).
-/
import Derived.Test.YtghmdaahmijdiaaDoorAp
import Derived.Test.YtghmdaahmijdiaaDoorRuArg
import Derived.Deep.RegionHeld3
import Derived.Deep.MidRow
namespace Go.Proofs.YtghmdaahmijdiaaDoor
open Go.RowKit Cv
set_option linter.unusedVariables false
set_option linter.unusedSimpArgs false

namespace Cv
theorem cells6x {A B : World} {p0 p1 p2 p3 p4 p5 : Addr} {v0 v1 v2 v3 v4 v5 : Value} (hb : Below A.heap.size A B) (h : A.cell? p0 = some v0 ∧ A.cell? p1 = some v1 ∧ A.cell? p2 = some v2 ∧ A.cell? p3 = some v3 ∧ A.cell? p4 = some v4 ∧ A.cell? p5 = some v5) : B.cell? p0 = some v0 ∧ B.cell? p1 = some v1 ∧ B.cell? p2 = some v2 ∧ B.cell? p3 = some v3 ∧ B.cell? p4 = some v4 ∧ B.cell? p5 = some v5 :=
  ⟨cell_below hb h.1, cell_below hb h.2.1, cell_below hb h.2.2.1, cell_below hb h.2.2.2.1, cell_below hb h.2.2.2.2.1, cell_below hb h.2.2.2.2.2⟩
theorem cells3x {w : World} {b c : Nat} {t u : TypeId} {v0 v1 v2 u0 u1 u2 : Value} (h : w.heap[b]? = some (.cells #[v0, v1, v2] t)) (k : w.heap[c]? = some (.cells #[u0, u1, u2] u)) : w.cell? ⟨b, 0, none⟩ = some v0 ∧ w.cell? ⟨b, 1, none⟩ = some v1 ∧ w.cell? ⟨b, 2, none⟩ = some v2 ∧ w.cell? ⟨c, 0, none⟩ = some u0 ∧ w.cell? ⟨c, 1, none⟩ = some u1 ∧ w.cell? ⟨c, 2, none⟩ = some u2 :=
  ⟨cellB h (i := 0) rfl, cellB h (i := 1) rfl, cellB h (i := 2) rfl, cellB k (i := 0) rfl, cellB k (i := 1) rfl, cellB k (i := 2) rfl⟩
theorem cells11x {w : World} {b : Nat} {t : TypeId} {v0 v1 v2 v3 v4 v5 v6 v7 v8 v9 v10 : Value} (h : w.heap[b]? = some (.cells #[v0, v1, v2, v3, v4, v5, v6, v7, v8, v9, v10] t)) : w.cell? ⟨b, 0, none⟩ = some v0 ∧ w.cell? ⟨b, 1, none⟩ = some v1 ∧ w.cell? ⟨b, 2, none⟩ = some v2 ∧ w.cell? ⟨b, 3, none⟩ = some v3 ∧ w.cell? ⟨b, 4, none⟩ = some v4 ∧ w.cell? ⟨b, 5, none⟩ = some v5 ∧ w.cell? ⟨b, 6, none⟩ = some v6 ∧ w.cell? ⟨b, 7, none⟩ = some v7 ∧ w.cell? ⟨b, 8, none⟩ = some v8 ∧ w.cell? ⟨b, 9, none⟩ = some v9 ∧ w.cell? ⟨b, 10, none⟩ = some v10 :=
  ⟨cellB h (i := 0) rfl, cellB h (i := 1) rfl, cellB h (i := 2) rfl, cellB h (i := 3) rfl, cellB h (i := 4) rfl, cellB h (i := 5) rfl, cellB h (i := 6) rfl, cellB h (i := 7) rfl, cellB h (i := 8) rfl, cellB h (i := 9) rfl, cellB h (i := 10) rfl⟩
theorem there3x {V : World} {b : Nat} {t : TypeId} {x y z : Value} (h : V.heap[b]? = some (.cells #[x, y, z] t)) : V.there b 0 3 := by
  intro j hj
  have e : j = 0 ∨ j = 1 ∨ j = 2 := by omega
  rcases e with rfl | rfl | rfl
  · exact ⟨by rw [cellB h (i := 0) rfl]; rfl, frzB h _⟩
  · exact ⟨by rw [cellB h (i := 1) rfl]; rfl, frzB h _⟩
  · exact ⟨by rw [cellB h (i := 2) rfl]; rfl, frzB h _⟩
theorem new_atx {w : World} {n : Nat} (o : Obj) (e : n = w.heap.size) : (w.alloc o).heap[n]? = some o := by rw [e]; exact heap_alloc_new w o
theorem rul_nil (W : World) : Rul (.slice none 0 0) [] W := ⟨none, 0, rfl, by simp, by simp, fun i r hr => by simp at hr⟩
/-- two rules that lie in one block -/
theorem duo_rul {W : World} {b : Nat} {r0 r1 : Ru} (h : W.heap[b]? = some (.cells (r0.arr.toList ++ r1.arr.toList).toArray 34)) (h0 : r0.fits) (h1 : r1.fits) : Rul (.slice (some ⟨b, 0, none⟩) 2 2) [r0, r1] W :=
  Rul.block (rs := [r0, r1]) h (by simp) (by simp) (by intro r hr; simp at hr; rcases hr with rfl | rfl <;> assumption)
end Cv

set_option maxRecDepth 100000 in
theorem fixed18_any (f t d : Int) (W : World) : Calls Tryd.prog 19 #[.int .i64 f, .int .i64 t, .int .i64 d] W fun e W' => e = .returned (.agg #[.string ⟨#[82]⟩, .int .i64 f, .int .i64 t, .int .i64 3, .int .i64 1, .int .i64 0, .int .i64 d, .int .i64 0, .int .i64 0, .int .i64 0, .string ⟨#[]⟩]) ∧ Below W.heap.size W W' := by
  go_enter Tryd.func19, Tryd.ntmps19
  go_wp2_with fail
  refine bodyPost_ret (results_cell_row rfl _ _ _ _ _ _ _ rfl (heap_alloc_new _ _) Tryd.underlying34 rfl (by kernel_rfl)) rfl ?_
  exact ⟨rfl, bel_alloc _ _⟩

set_option maxRecDepth 100000 in
theorem at18_any (y d n v : Int) (W : World) (hT : Tabs W) (hy1 : -9223372036854775808 ≤ y) (hy2 : y ≤ 9223372036854775807) (hd1 : -9223372036854775808 ≤ d) (hd2 : d ≤ 9223372036854775807) (hi : inr y) (ho : ok y 3 d) (hn : num y 3 d = n) (hv : 86400 * n = v) :
    Calls Tryd.prog 22 #[.int .i64 y, .int .i64 d] W fun e W' => e = .returned (.int .i64 v) ∧ Below W.heap.size W W' := by
  have HV := Lib.hid hv
  have HT := Lib.hid hT
  have HO := Lib.hid (show inr y ∧ ok y 3 d from ⟨hi, ho⟩)
  have HN := Lib.hid hn
  have hb := num_far hi ho
  rw [hn] at hb
  obtain ⟨hb1, hb2⟩ := hb
  clear hT hi ho hn hv
  go_enter Tryd.func22, Tryd.ntmps22
  go_wp2_with fail
  refine (days_any y 3 d _ (by exact HT.out.1) (by omega) (by omega) (by omega) (by omega)).mono ?_
  intro e w' hq; obtain ⟨rfl, nd, rfl⟩ := DaysR.to_yes (v := n) HO.out HN.out _ _ hq; clear hq
  go_wp2_with fail
  go_ret
  exact ⟨ret_i64 HV.out, bel_drew (Below.refl _ _) _⟩

set_option maxRecDepth 100000 in
theorem close18_any (v : Value) (rs : _root_.List Ru) (i y n : Int) (W : World) (hT : Tabs W) (h : Rul v rs W) (hc : MinOf (Close rs) (some ⟨y, i, n⟩)) :
    Calls Tryd.prog 20 #[v, .int .i64 i, .int .i64 y] W fun e W' => e = .returned (.bool true) ∧ Below W.heap.size W W' := by
  have HT := Lib.hid hT
  have H := Lib.hid h
  have HC := Lib.hid hc
  obtain ⟨A, cap, rfl⟩ := h.sl
  clear hT h hc
  go_enter Tryd.func20, Tryd.ntmps20
  go_wp2_with fail
  refine (apCheck_any _ rs _ (by exact HT.out) (by exact H.out)).mono ?_
  intro e w1 hq; obtain ⟨rfl, hb⟩ := ChkR.to (v := .tuple #[.agg #[.int .i64 y, .int .i64 i, .int .i64 n], .int .i64 13]) HC.out rfl _ _ hq; clear hq
  have HB := Lib.hid (bel_trans hb (bel_alloc w1 (.cells #[.int .i64 y, .int .i64 i, .int .i64 n] 25)))
  have HE := Lib.hid (heap_alloc_new w1 (.cells #[.int .i64 y, .int .i64 i, .int .i64 n] 25))
  clear hb
  have d0 := cellB HE.out (i := 0) rfl
  have d1 := cellB HE.out (i := 1) rfl
  have d2 := cellB HE.out (i := 2) rfl
  go_wp2_with fail
  go_ret
  exact ⟨rfl, HB.out⟩


set_option maxRecDepth 100000 in
set_option maxHeartbeats 16000000 in
theorem works18_any (W : World) (hT : Tabs W) : Calls Tryd.prog 10 #[] W fun e w' => e = .returned (.bool true) ∧ Below W.heap.size W w' := by
  have heq := eqEv
  have HT := Lib.hid hT
  clear hT
  go_enter Tryd.func10, Tryd.ntmps10
  go_wp2_with fail
  refine (fixed18_any 2000 2000 1 _).mono ?_
  rintro e w1 ⟨rfl, hb1⟩
  go_wp2_with fail
  refine (fixed18_any 2000 2000 4 _).mono ?_
  rintro e w2 ⟨rfl, hb2⟩
  have HB := Lib.hid (bel_trans (bel_trans hb1 hb2) (bel_alloc w2 (.cells #[.string ⟨#[82]⟩, .int .i64 2000, .int .i64 2000, .int .i64 3, .int .i64 1, .int .i64 0, .int .i64 1, .int .i64 0, .int .i64 0, .int .i64 0, .string ⟨#[]⟩, .string ⟨#[82]⟩, .int .i64 2000, .int .i64 2000, .int .i64 3, .int .i64 1, .int .i64 0, .int .i64 4, .int .i64 0, .int .i64 0, .int .i64 0, .string ⟨#[]⟩] 34)))
  have HL := Lib.hid (duo_rul (r0 := fx 2000 2000 1 0) (r1 := fx 2000 2000 4 0) (heap_alloc_new w2 (.cells #[.string ⟨#[82]⟩, .int .i64 2000, .int .i64 2000, .int .i64 3, .int .i64 1, .int .i64 0, .int .i64 1, .int .i64 0, .int .i64 0, .int .i64 0, .string ⟨#[]⟩, .string ⟨#[82]⟩, .int .i64 2000, .int .i64 2000, .int .i64 3, .int .i64 1, .int .i64 0, .int .i64 4, .int .i64 0, .int .i64 0, .int .i64 0, .string ⟨#[]⟩] 34)) (by unfold Ru.fits fit; decide) (by unfold Ru.fits fit; decide))
  clear hb1 hb2
  go_wp2_with fail
  refine (apCheck_any _ _ _ (by exact HT.out.below HB.out) (by exact HL.out)).mono ?_
  intro e w3 hq; obtain ⟨rfl, hb⟩ := ChkR.to (v := .tuple #[.agg #[.int .i64 0, .int .i64 0, .int .i64 0], .int .i64 0]) ap1 rfl _ _ hq; clear hq
  have HK2 := Lib.hid (heap_alloc_new w3 (.cells #[.int .i64 0, .int .i64 0, .int .i64 0] 25))
  have HB := Lib.hid (bel_trans (bel_trans HB.out hb) (bel_alloc w3 (.cells #[.int .i64 0, .int .i64 0, .int .i64 0] 25)))
  have HL := Lib.hid (Rul.below HL.out (bel_trans hb (bel_alloc w3 (.cells #[.int .i64 0, .int .i64 0, .int .i64 0] 25))))
  clear hb
  go_wp2_with fail
  refine (fixed18_any 1990 1048576 1 _).mono ?_
  rintro e w4 ⟨rfl, hb⟩
  have HB := Lib.hid (bel_trans (bel_trans HB.out hb) (bel_alloc w4 (.cells #[.string ⟨#[82]⟩, .int .i64 1990, .int .i64 1048576, .int .i64 3, .int .i64 3, .int .i64 0, .int .i64 8, .int .i64 0, .int .i64 0, .int .i64 0, .string ⟨#[]⟩] 34)))
  have HL := Lib.hid (Rul.below HL.out (bel_trans hb (bel_alloc w4 (.cells #[.string ⟨#[82]⟩, .int .i64 1990, .int .i64 1048576, .int .i64 3, .int .i64 3, .int .i64 0, .int .i64 8, .int .i64 0, .int .i64 0, .int .i64 0, .string ⟨#[]⟩] 34))))
  have HK2 := Lib.hid (block_below HK2.out (bel_trans hb (bel_alloc w4 (.cells #[.string ⟨#[82]⟩, .int .i64 1990, .int .i64 1048576, .int .i64 3, .int .i64 3, .int .i64 0, .int .i64 8, .int .i64 0, .int .i64 0, .int .i64 0, .string ⟨#[]⟩] 34))))
  have HSU := Lib.hid (heap_alloc_new w4 (.cells #[.string ⟨#[82]⟩, .int .i64 1990, .int .i64 1048576, .int .i64 3, .int .i64 3, .int .i64 0, .int .i64 8, .int .i64 0, .int .i64 0, .int .i64 0, .string ⟨#[]⟩] 34))
  clear hb

  go_upto_region 5 with fail
  go_cut [5, 6] (fun p q w' => ∃ b5 : Nat, p = .pointer (some ⟨b5, 0, none⟩) ∧ q = .int .i64 13 ∧ Hid (w'.heap[b5]? = some (.cells #[.int .i64 1990, .int .i64 1, .int .i64 637200000] 25)) ∧ Hid (Below (w4.alloc (.cells #[.string ⟨#[82]⟩, .int .i64 1990, .int .i64 1048576, .int .i64 3, .int .i64 3, .int .i64 0, .int .i64 8, .int .i64 0, .int .i64 0, .int .i64 0, .string ⟨#[]⟩] 34)).heap.size (w4.alloc (.cells #[.string ⟨#[82]⟩, .int .i64 1990, .int .i64 1048576, .int .i64 3, .int .i64 3, .int .i64 0, .int .i64 8, .int .i64 0, .int .i64 0, .int .i64 0, .string ⟨#[]⟩] 34)) w'))
  case first =>
    have HBc := Lib.hid (Below.drew (Below.refl (w4.alloc (.cells #[.string ⟨#[82]⟩, .int .i64 1990, .int .i64 1048576, .int .i64 3, .int .i64 3, .int .i64 0, .int .i64 8, .int .i64 0, .int .i64 0, .int .i64 0, .string ⟨#[]⟩] 34)).heap.size (w4.alloc (.cells #[.string ⟨#[82]⟩, .int .i64 1990, .int .i64 1048576, .int .i64 3, .int .i64 3, .int .i64 0, .int .i64 8, .int .i64 0, .int .i64 0, .int .i64 0, .string ⟨#[]⟩] 34))))
    have HSc := Lib.hid (show (w4.alloc (.cells #[.string ⟨#[82]⟩, .int .i64 1990, .int .i64 1048576, .int .i64 3, .int .i64 3, .int .i64 0, .int .i64 8, .int .i64 0, .int .i64 0, .int .i64 0, .string ⟨#[]⟩] 34)).drew.heap[w4.heap.size]? = some (.cells #[.string ⟨#[82]⟩, .int .i64 1990, .int .i64 1048576, .int .i64 3, .int .i64 3, .int .i64 0, .int .i64 8, .int .i64 0, .int .i64 0, .int .i64 0, .string ⟨#[]⟩] 34) from HSU.out)
    go_wp2_with fail
    refine wp_region_held_drew (S := (fun w' => w'.cell? ⟨w4.heap.size, 0, none⟩ = some (.string ⟨#[82]⟩) ∧ w'.cell? ⟨w4.heap.size, 1, none⟩ = some (.int .i64 1990) ∧ w'.cell? ⟨w4.heap.size, 2, none⟩ = some (.int .i64 1048576) ∧ w'.cell? ⟨w4.heap.size, 3, none⟩ = some (.int .i64 3) ∧ w'.cell? ⟨w4.heap.size, 4, none⟩ = some (.int .i64 3) ∧ w'.cell? ⟨w4.heap.size, 5, none⟩ = some (.int .i64 0) ∧ w'.cell? ⟨w4.heap.size, 6, none⟩ = some (.int .i64 8) ∧ w'.cell? ⟨w4.heap.size, 7, none⟩ = some (.int .i64 0) ∧ w'.cell? ⟨w4.heap.size, 8, none⟩ = some (.int .i64 0) ∧ w'.cell? ⟨w4.heap.size, 9, none⟩ = some (.int .i64 0) ∧ w'.cell? ⟨w4.heap.size, 10, none⟩ = some (.string ⟨#[]⟩))) (by kernel_rfl) (by exact cells11x HSc.out) (fun hHeld => ?_)
    refine wpAnyH_take (i := 0) (v := ?_) rfl (by kernel_rfl) (by kernel_rfl) (by kernel_rfl) (fun _ _ _ h => h) (Or.inl ⟨by rfl, ?_⟩) (by assumption) ?_
    rotate_left 1
    · (intro w hSw; (try dsimp only at hSw); first | (go_simp; done) | (go_simp; with_reducible rfl))
    try simp only [Act.put, List.getElem_toArray, List.getElem_cons_succ, List.getElem_cons_zero, List.setIfInBounds_toArray, List.set_cons_zero, List.set_cons_succ]
    refine wpAnyH_ready (rs := [1, 7]) (by kernel_rfl) (by simp) ?_
    refine AllReadyH.cons rfl (fun K hK => ?_) (AllReadyH.cons rfl (fun K hK => ?_) AllReadyH.nil)
    · go_simp
      refine (fixed18_any 1990 1048576 12 _).mono ?_
      rintro e w5 ⟨rfl, hb5⟩
      go_wp2_with fail
      refine hK.out _ _ ?_ (fun hHeld => ?_)
      · exact cells11x (block_below HSc.out hb5)
      clear hK K
      try simp only [Act.put, List.getElem_toArray, List.getElem_cons_succ, List.getElem_cons_zero, List.setIfInBounds_toArray, List.set_cons_zero, List.set_cons_succ]
      have HSc := Lib.hid (block_below HSc.out hb5)
      have HBc := Lib.hid (bel_trans HBc.out hb5)
      refine wpAnyH_ready (rs := [2, 7]) (by kernel_rfl) (by simp) ?_
      refine AllReadyH.cons rfl (fun K hK => ?_) (AllReadyH.cons rfl (fun K hK => ?_) AllReadyH.nil)
      · go_simp
        refine hK.out _ _ ?_ (fun hHeld => ?_)
        · exact cells11x (block_below HSc.out (bel_alloc _ _))
        clear hK K
        try simp only [Act.put, List.getElem_toArray, List.getElem_cons_succ, List.getElem_cons_zero, List.setIfInBounds_toArray, List.set_cons_zero, List.set_cons_succ]
        have HRc := Lib.hid (duo_rul (r0 := sn 1990 1048576 0 8) (r1 := fx 1990 1048576 12 0) (new_atx (w := w5) (n := w5.heap.size) (.cells #[.string ⟨#[82]⟩, .int .i64 1990, .int .i64 1048576, .int .i64 3, .int .i64 3, .int .i64 0, .int .i64 8, .int .i64 0, .int .i64 0, .int .i64 0, .string ⟨#[]⟩, .string ⟨#[82]⟩, .int .i64 1990, .int .i64 1048576, .int .i64 3, .int .i64 1, .int .i64 0, .int .i64 12, .int .i64 0, .int .i64 0, .int .i64 0, .string ⟨#[]⟩] 34) (by first | rfl | simp)) (by unfold Ru.fits fit; decide) (by unfold Ru.fits fit; decide))
        have HSc := Lib.hid (block_below HSc.out (bel_alloc w5 (.cells #[.string ⟨#[82]⟩, .int .i64 1990, .int .i64 1048576, .int .i64 3, .int .i64 3, .int .i64 0, .int .i64 8, .int .i64 0, .int .i64 0, .int .i64 0, .string ⟨#[]⟩, .string ⟨#[82]⟩, .int .i64 1990, .int .i64 1048576, .int .i64 3, .int .i64 1, .int .i64 0, .int .i64 12, .int .i64 0, .int .i64 0, .int .i64 0, .string ⟨#[]⟩] 34)))
        have HBc := Lib.hid (bel_trans HBc.out (bel_alloc w5 (.cells #[.string ⟨#[82]⟩, .int .i64 1990, .int .i64 1048576, .int .i64 3, .int .i64 3, .int .i64 0, .int .i64 8, .int .i64 0, .int .i64 0, .int .i64 0, .string ⟨#[]⟩, .string ⟨#[82]⟩, .int .i64 1990, .int .i64 1048576, .int .i64 3, .int .i64 1, .int .i64 0, .int .i64 12, .int .i64 0, .int .i64 0, .int .i64 0, .string ⟨#[]⟩] 34)))
        refine wpAnyH_ready (rs := [3, 7]) (by kernel_rfl) (by simp) ?_
        refine AllReadyH.cons rfl (fun K hK => ?_) (AllReadyH.cons rfl (fun K hK => ?_) AllReadyH.nil)
        · go_simp
          refine (apCheck_any _ [sn 1990 1048576 0 8, fx 1990 1048576 12 0] _ (by exact HT.out.below (bel_trans HB.out HBc.out)) (by exact HRc.out)).mono ?_
          intro e w7 hq; obtain ⟨rfl, hb7⟩ := ChkR.to (v := .tuple #[.agg #[.int .i64 1990, .int .i64 1, .int .i64 637200000], .int .i64 13]) ap4 rfl _ _ hq; clear hq
          go_wp2_with fail
          refine hK.out _ _ ?_ (fun hHeld => ?_)
          · exact cells11x (block_below HSc.out hb7)
          clear hK K
          try simp only [Act.put, List.getElem_toArray, List.getElem_cons_succ, List.getElem_cons_zero, List.setIfInBounds_toArray, List.set_cons_zero, List.set_cons_succ]
          have HSc := Lib.hid (block_below HSc.out hb7)
          have HRc := Lib.hid (Rul.below HRc.out hb7)
          have HBc := Lib.hid (bel_trans HBc.out hb7)
          refine wpAnyH_take (i := 4) (v := ?_) rfl (by kernel_rfl) (by kernel_rfl) (by kernel_rfl) (fun _ _ _ h => h) (Or.inl ⟨by rfl, ?_⟩) (by assumption) ?_
          rotate_left 1
          · (intro w hSw; (try dsimp only at hSw); first | (go_simp; done) | (go_simp; with_reducible rfl))
          try simp only [Act.put, List.getElem_toArray, List.getElem_cons_succ, List.getElem_cons_zero, List.setIfInBounds_toArray, List.set_cons_zero, List.set_cons_succ]
          refine wpAnyH_take (i := 5) (v := ?_) rfl (by kernel_rfl) (by kernel_rfl) (by kernel_rfl) (fun _ _ _ h => h) (Or.inl ⟨by rfl, ?_⟩) (by assumption) ?_
          rotate_left 1
          · (intro w hSw; (try dsimp only at hSw); first | (go_simp; done) | (go_simp; with_reducible rfl))
          try simp only [Act.put, List.getElem_toArray, List.getElem_cons_succ, List.getElem_cons_zero, List.setIfInBounds_toArray, List.set_cons_zero, List.set_cons_succ]
          refine wpAnyH_take (i := 6) (v := ?_) rfl (by kernel_rfl) (by kernel_rfl) (by kernel_rfl) (fun _ _ _ h => h) (Or.inl ⟨by rfl, ?_⟩) (by assumption) ?_
          rotate_left 1
          · (intro w hSw; (try dsimp only at hSw); first | (go_simp; done) | (go_simp; with_reducible rfl))
          try simp only [Act.put, List.getElem_toArray, List.getElem_cons_succ, List.getElem_cons_zero, List.setIfInBounds_toArray, List.set_cons_zero, List.set_cons_succ]
          refine wpAnyH_ready (rs := [7]) (by kernel_rfl) (by simp) ?_
          refine AllReadyH.cons rfl (fun K hK => ?_) AllReadyH.nil
          go_simp
          refine hK.out _ _ ?_ (fun hHeld => ?_)
          · exact cells11x (block_below HSc.out (bel_alloc _ _))
          clear hK K
          try simp only [Act.put, List.getElem_toArray, List.getElem_cons_succ, List.getElem_cons_zero, List.setIfInBounds_toArray, List.set_cons_zero, List.set_cons_succ]
          obtain ⟨B5, hB5⟩ : ∃ B5, B5 = w7.heap.size := ⟨_, rfl⟩
          have hB6 : B5 = w7.heap.size := hB5.trans (by first | rfl | simp)
          have HNE := Lib.hid (show w4.heap.size ≠ B5 by rw [hB6]; exact Nat.ne_of_lt (Array.getElem?_eq_some_iff.1 HSc.out).1)
          have HLE := Lib.hid (show (w4.alloc (.cells #[.string ⟨#[82]⟩, .int .i64 1990, .int .i64 1048576, .int .i64 3, .int .i64 3, .int .i64 0, .int .i64 8, .int .i64 0, .int .i64 0, .int .i64 0, .string ⟨#[]⟩] 34)).heap.size ≤ B5 by rw [hB6]; exact HBc.out.size)
          have HAc := Lib.hid (new_atx (.cells #[.int .i64 0, .int .i64 0, .int .i64 0] 25) hB6)
          have HSc := Lib.hid (block_below HSc.out (bel_alloc w7 (.cells #[.int .i64 0, .int .i64 0, .int .i64 0] 25)))
          have HBc := Lib.hid (bel_trans HBc.out (bel_alloc w7 (.cells #[.int .i64 0, .int .i64 0, .int .i64 0] 25)))
          have HRc := Lib.hid (Rul.below HRc.out (bel_alloc w7 (.cells #[.int .i64 0, .int .i64 0, .int .i64 0] 25)))
          rw [← hB5]
          clear hB5 hB6
          refine wpAnyH_ready (rs := [8]) (by kernel_rfl) (by simp) ?_
          refine AllReadyH.cons rfl (fun K hK => ?_) AllReadyH.nil
          rw [if_pos (by rfl)]
          refine wp_store_mid _ _ _ rfl B5 0 #[.int .i64 1990, .int .i64 1, .int .i64 637200000] rfl rfl (there3x HAc.out) (by kernel_rfl) (by simp [Value.oneCell']) ?_
          refine hK.out _ _ ?_ (fun hHeld => ?_)
          · exact cells11x (block_setCells HSc.out HNE.out)
          clear hK K
          try simp only [Act.put, List.getElem_toArray, List.getElem_cons_succ, List.getElem_cons_zero, List.setIfInBounds_toArray, List.set_cons_zero, List.set_cons_succ]
          refine wpAnyH_take (i := 9) (v := ?_) rfl (by kernel_rfl) (by kernel_rfl) (by kernel_rfl) (fun _ _ _ h => h) (Or.inl ⟨by rfl, ?_⟩) (by assumption) ?_
          rotate_left 1
          · (intro w hSw; (try dsimp only at hSw); first | (go_simp; done) | (go_simp; with_reducible rfl))
          try simp only [Act.put, List.getElem_toArray, List.getElem_cons_succ, List.getElem_cons_zero, List.setIfInBounds_toArray, List.set_cons_zero, List.set_cons_succ]
          refine wpAnyH_done (by kernel_rfl) ?_ _
          go_wp2_with fail
          go_meet
          case rel => exact ⟨B5, rfl, rfl, Lib.hid (set3c HAc.out), Lib.hid (bel_setCells HBc.out HLE.out)⟩
        · go_simp
          refine hK.out _ _ ?_ (fun hHeld => ?_)
          · exact cells11x (block_below HSc.out (bel_alloc _ _))
          clear hK K
          try simp only [Act.put, List.getElem_toArray, List.getElem_cons_succ, List.getElem_cons_zero, List.setIfInBounds_toArray, List.set_cons_zero, List.set_cons_succ]
          obtain ⟨B5, hB5⟩ : ∃ B5, B5 = w5.heap.size + 1 := ⟨_, rfl⟩
          have hB6 : B5 = (w5.alloc (.cells #[.string ⟨#[82]⟩, .int .i64 1990, .int .i64 1048576, .int .i64 3, .int .i64 3, .int .i64 0, .int .i64 8, .int .i64 0, .int .i64 0, .int .i64 0, .string ⟨#[]⟩, .string ⟨#[82]⟩, .int .i64 1990, .int .i64 1048576, .int .i64 3, .int .i64 1, .int .i64 0, .int .i64 12, .int .i64 0, .int .i64 0, .int .i64 0, .string ⟨#[]⟩] 34)).heap.size := hB5.trans (by first | rfl | simp)
          have HNE := Lib.hid (show w4.heap.size ≠ B5 by rw [hB6]; exact Nat.ne_of_lt (Array.getElem?_eq_some_iff.1 HSc.out).1)
          have HLE := Lib.hid (show (w4.alloc (.cells #[.string ⟨#[82]⟩, .int .i64 1990, .int .i64 1048576, .int .i64 3, .int .i64 3, .int .i64 0, .int .i64 8, .int .i64 0, .int .i64 0, .int .i64 0, .string ⟨#[]⟩] 34)).heap.size ≤ B5 by rw [hB6]; exact HBc.out.size)
          have HAc := Lib.hid (new_atx (.cells #[.int .i64 0, .int .i64 0, .int .i64 0] 25) hB6)
          have HSc := Lib.hid (block_below HSc.out (bel_alloc (w5.alloc (.cells #[.string ⟨#[82]⟩, .int .i64 1990, .int .i64 1048576, .int .i64 3, .int .i64 3, .int .i64 0, .int .i64 8, .int .i64 0, .int .i64 0, .int .i64 0, .string ⟨#[]⟩, .string ⟨#[82]⟩, .int .i64 1990, .int .i64 1048576, .int .i64 3, .int .i64 1, .int .i64 0, .int .i64 12, .int .i64 0, .int .i64 0, .int .i64 0, .string ⟨#[]⟩] 34)) (.cells #[.int .i64 0, .int .i64 0, .int .i64 0] 25)))
          have HBc := Lib.hid (bel_trans HBc.out (bel_alloc (w5.alloc (.cells #[.string ⟨#[82]⟩, .int .i64 1990, .int .i64 1048576, .int .i64 3, .int .i64 3, .int .i64 0, .int .i64 8, .int .i64 0, .int .i64 0, .int .i64 0, .string ⟨#[]⟩, .string ⟨#[82]⟩, .int .i64 1990, .int .i64 1048576, .int .i64 3, .int .i64 1, .int .i64 0, .int .i64 12, .int .i64 0, .int .i64 0, .int .i64 0, .string ⟨#[]⟩] 34)) (.cells #[.int .i64 0, .int .i64 0, .int .i64 0] 25)))
          have HRc := Lib.hid (Rul.below HRc.out (bel_alloc (w5.alloc (.cells #[.string ⟨#[82]⟩, .int .i64 1990, .int .i64 1048576, .int .i64 3, .int .i64 3, .int .i64 0, .int .i64 8, .int .i64 0, .int .i64 0, .int .i64 0, .string ⟨#[]⟩, .string ⟨#[82]⟩, .int .i64 1990, .int .i64 1048576, .int .i64 3, .int .i64 1, .int .i64 0, .int .i64 12, .int .i64 0, .int .i64 0, .int .i64 0, .string ⟨#[]⟩] 34)) (.cells #[.int .i64 0, .int .i64 0, .int .i64 0] 25)))
          rw [← hB5]
          clear hB5 hB6
          refine wpAnyH_ready (rs := [3]) (by kernel_rfl) (by simp) ?_
          refine AllReadyH.cons rfl (fun K hK => ?_) AllReadyH.nil
          go_simp
          refine (apCheck_any _ [sn 1990 1048576 0 8, fx 1990 1048576 12 0] _ (by exact HT.out.below (bel_trans HB.out HBc.out)) (by exact HRc.out)).mono ?_
          intro e w7 hq; obtain ⟨rfl, hb7⟩ := ChkR.to (v := .tuple #[.agg #[.int .i64 1990, .int .i64 1, .int .i64 637200000], .int .i64 13]) ap4 rfl _ _ hq; clear hq
          go_wp2_with fail
          refine hK.out _ _ ?_ (fun hHeld => ?_)
          · exact cells11x (block_below HSc.out hb7)
          clear hK K
          try simp only [Act.put, List.getElem_toArray, List.getElem_cons_succ, List.getElem_cons_zero, List.setIfInBounds_toArray, List.set_cons_zero, List.set_cons_succ]
          have HSc := Lib.hid (block_below HSc.out hb7)
          have HAc := Lib.hid (block_below HAc.out hb7)
          have HRc := Lib.hid (Rul.below HRc.out hb7)
          have HBc := Lib.hid (bel_trans HBc.out hb7)
          refine wpAnyH_take (i := 4) (v := ?_) rfl (by kernel_rfl) (by kernel_rfl) (by kernel_rfl) (fun _ _ _ h => h) (Or.inl ⟨by rfl, ?_⟩) (by assumption) ?_
          rotate_left 1
          · (intro w hSw; (try dsimp only at hSw); first | (go_simp; done) | (go_simp; with_reducible rfl))
          try simp only [Act.put, List.getElem_toArray, List.getElem_cons_succ, List.getElem_cons_zero, List.setIfInBounds_toArray, List.set_cons_zero, List.set_cons_succ]
          refine wpAnyH_take (i := 5) (v := ?_) rfl (by kernel_rfl) (by kernel_rfl) (by kernel_rfl) (fun _ _ _ h => h) (Or.inl ⟨by rfl, ?_⟩) (by assumption) ?_
          rotate_left 1
          · (intro w hSw; (try dsimp only at hSw); first | (go_simp; done) | (go_simp; with_reducible rfl))
          try simp only [Act.put, List.getElem_toArray, List.getElem_cons_succ, List.getElem_cons_zero, List.setIfInBounds_toArray, List.set_cons_zero, List.set_cons_succ]
          refine wpAnyH_take (i := 6) (v := ?_) rfl (by kernel_rfl) (by kernel_rfl) (by kernel_rfl) (fun _ _ _ h => h) (Or.inl ⟨by rfl, ?_⟩) (by assumption) ?_
          rotate_left 1
          · (intro w hSw; (try dsimp only at hSw); first | (go_simp; done) | (go_simp; with_reducible rfl))
          try simp only [Act.put, List.getElem_toArray, List.getElem_cons_succ, List.getElem_cons_zero, List.setIfInBounds_toArray, List.set_cons_zero, List.set_cons_succ]
          refine wpAnyH_ready (rs := [8]) (by kernel_rfl) (by simp) ?_
          refine AllReadyH.cons rfl (fun K hK => ?_) AllReadyH.nil
          rw [if_pos (by rfl)]
          refine wp_store_mid _ _ _ rfl B5 0 #[.int .i64 1990, .int .i64 1, .int .i64 637200000] rfl rfl (there3x HAc.out) (by kernel_rfl) (by simp [Value.oneCell']) ?_
          refine hK.out _ _ ?_ (fun hHeld => ?_)
          · exact cells11x (block_setCells HSc.out HNE.out)
          clear hK K
          try simp only [Act.put, List.getElem_toArray, List.getElem_cons_succ, List.getElem_cons_zero, List.setIfInBounds_toArray, List.set_cons_zero, List.set_cons_succ]
          refine wpAnyH_take (i := 9) (v := ?_) rfl (by kernel_rfl) (by kernel_rfl) (by kernel_rfl) (fun _ _ _ h => h) (Or.inl ⟨by rfl, ?_⟩) (by assumption) ?_
          rotate_left 1
          · (intro w hSw; (try dsimp only at hSw); first | (go_simp; done) | (go_simp; with_reducible rfl))
          try simp only [Act.put, List.getElem_toArray, List.getElem_cons_succ, List.getElem_cons_zero, List.setIfInBounds_toArray, List.set_cons_zero, List.set_cons_succ]
          refine wpAnyH_done (by kernel_rfl) ?_ _
          go_wp2_with fail
          go_meet
          case rel => exact ⟨B5, rfl, rfl, Lib.hid (set3c HAc.out), Lib.hid (bel_setCells HBc.out HLE.out)⟩
      · go_simp
        refine hK.out _ _ ?_ (fun hHeld => ?_)
        · exact cells11x (block_below HSc.out (bel_alloc _ _))
        clear hK K
        try simp only [Act.put, List.getElem_toArray, List.getElem_cons_succ, List.getElem_cons_zero, List.setIfInBounds_toArray, List.set_cons_zero, List.set_cons_succ]
        obtain ⟨B5, hB5⟩ : ∃ B5, B5 = w5.heap.size := ⟨_, rfl⟩
        have hB6 : B5 = w5.heap.size := hB5.trans (by first | rfl | simp)
        have HNE := Lib.hid (show w4.heap.size ≠ B5 by rw [hB6]; exact Nat.ne_of_lt (Array.getElem?_eq_some_iff.1 HSc.out).1)
        have HLE := Lib.hid (show (w4.alloc (.cells #[.string ⟨#[82]⟩, .int .i64 1990, .int .i64 1048576, .int .i64 3, .int .i64 3, .int .i64 0, .int .i64 8, .int .i64 0, .int .i64 0, .int .i64 0, .string ⟨#[]⟩] 34)).heap.size ≤ B5 by rw [hB6]; exact HBc.out.size)
        have HAc := Lib.hid (new_atx (.cells #[.int .i64 0, .int .i64 0, .int .i64 0] 25) hB6)
        have HSc := Lib.hid (block_below HSc.out (bel_alloc w5 (.cells #[.int .i64 0, .int .i64 0, .int .i64 0] 25)))
        have HBc := Lib.hid (bel_trans HBc.out (bel_alloc w5 (.cells #[.int .i64 0, .int .i64 0, .int .i64 0] 25)))
        rw [← hB5]
        clear hB5 hB6
        refine wpAnyH_ready (rs := [2]) (by kernel_rfl) (by simp) ?_
        refine AllReadyH.cons rfl (fun K hK => ?_) AllReadyH.nil
        go_simp
        refine hK.out _ _ ?_ (fun hHeld => ?_)
        · exact cells11x (block_below HSc.out (bel_alloc _ _))
        clear hK K
        try simp only [Act.put, List.getElem_toArray, List.getElem_cons_succ, List.getElem_cons_zero, List.setIfInBounds_toArray, List.set_cons_zero, List.set_cons_succ]
        have HRc := Lib.hid (duo_rul (r0 := sn 1990 1048576 0 8) (r1 := fx 1990 1048576 12 0) (new_atx (w := (w5.alloc (.cells #[.int .i64 0, .int .i64 0, .int .i64 0] 25))) (n := w5.heap.size + 1) (.cells #[.string ⟨#[82]⟩, .int .i64 1990, .int .i64 1048576, .int .i64 3, .int .i64 3, .int .i64 0, .int .i64 8, .int .i64 0, .int .i64 0, .int .i64 0, .string ⟨#[]⟩, .string ⟨#[82]⟩, .int .i64 1990, .int .i64 1048576, .int .i64 3, .int .i64 1, .int .i64 0, .int .i64 12, .int .i64 0, .int .i64 0, .int .i64 0, .string ⟨#[]⟩] 34) (by first | rfl | simp)) (by unfold Ru.fits fit; decide) (by unfold Ru.fits fit; decide))
        have HSc := Lib.hid (block_below HSc.out (bel_alloc (w5.alloc (.cells #[.int .i64 0, .int .i64 0, .int .i64 0] 25)) (.cells #[.string ⟨#[82]⟩, .int .i64 1990, .int .i64 1048576, .int .i64 3, .int .i64 3, .int .i64 0, .int .i64 8, .int .i64 0, .int .i64 0, .int .i64 0, .string ⟨#[]⟩, .string ⟨#[82]⟩, .int .i64 1990, .int .i64 1048576, .int .i64 3, .int .i64 1, .int .i64 0, .int .i64 12, .int .i64 0, .int .i64 0, .int .i64 0, .string ⟨#[]⟩] 34)))
        have HAc := Lib.hid (block_below HAc.out (bel_alloc (w5.alloc (.cells #[.int .i64 0, .int .i64 0, .int .i64 0] 25)) (.cells #[.string ⟨#[82]⟩, .int .i64 1990, .int .i64 1048576, .int .i64 3, .int .i64 3, .int .i64 0, .int .i64 8, .int .i64 0, .int .i64 0, .int .i64 0, .string ⟨#[]⟩, .string ⟨#[82]⟩, .int .i64 1990, .int .i64 1048576, .int .i64 3, .int .i64 1, .int .i64 0, .int .i64 12, .int .i64 0, .int .i64 0, .int .i64 0, .string ⟨#[]⟩] 34)))
        have HBc := Lib.hid (bel_trans HBc.out (bel_alloc (w5.alloc (.cells #[.int .i64 0, .int .i64 0, .int .i64 0] 25)) (.cells #[.string ⟨#[82]⟩, .int .i64 1990, .int .i64 1048576, .int .i64 3, .int .i64 3, .int .i64 0, .int .i64 8, .int .i64 0, .int .i64 0, .int .i64 0, .string ⟨#[]⟩, .string ⟨#[82]⟩, .int .i64 1990, .int .i64 1048576, .int .i64 3, .int .i64 1, .int .i64 0, .int .i64 12, .int .i64 0, .int .i64 0, .int .i64 0, .string ⟨#[]⟩] 34)))
        refine wpAnyH_ready (rs := [3]) (by kernel_rfl) (by simp) ?_
        refine AllReadyH.cons rfl (fun K hK => ?_) AllReadyH.nil
        go_simp
        refine (apCheck_any _ [sn 1990 1048576 0 8, fx 1990 1048576 12 0] _ (by exact HT.out.below (bel_trans HB.out HBc.out)) (by exact HRc.out)).mono ?_
        intro e w7 hq; obtain ⟨rfl, hb7⟩ := ChkR.to (v := .tuple #[.agg #[.int .i64 1990, .int .i64 1, .int .i64 637200000], .int .i64 13]) ap4 rfl _ _ hq; clear hq
        go_wp2_with fail
        refine hK.out _ _ ?_ (fun hHeld => ?_)
        · exact cells11x (block_below HSc.out hb7)
        clear hK K
        try simp only [Act.put, List.getElem_toArray, List.getElem_cons_succ, List.getElem_cons_zero, List.setIfInBounds_toArray, List.set_cons_zero, List.set_cons_succ]
        have HSc := Lib.hid (block_below HSc.out hb7)
        have HAc := Lib.hid (block_below HAc.out hb7)
        have HRc := Lib.hid (Rul.below HRc.out hb7)
        have HBc := Lib.hid (bel_trans HBc.out hb7)
        refine wpAnyH_take (i := 4) (v := ?_) rfl (by kernel_rfl) (by kernel_rfl) (by kernel_rfl) (fun _ _ _ h => h) (Or.inl ⟨by rfl, ?_⟩) (by assumption) ?_
        rotate_left 1
        · (intro w hSw; (try dsimp only at hSw); first | (go_simp; done) | (go_simp; with_reducible rfl))
        try simp only [Act.put, List.getElem_toArray, List.getElem_cons_succ, List.getElem_cons_zero, List.setIfInBounds_toArray, List.set_cons_zero, List.set_cons_succ]
        refine wpAnyH_take (i := 5) (v := ?_) rfl (by kernel_rfl) (by kernel_rfl) (by kernel_rfl) (fun _ _ _ h => h) (Or.inl ⟨by rfl, ?_⟩) (by assumption) ?_
        rotate_left 1
        · (intro w hSw; (try dsimp only at hSw); first | (go_simp; done) | (go_simp; with_reducible rfl))
        try simp only [Act.put, List.getElem_toArray, List.getElem_cons_succ, List.getElem_cons_zero, List.setIfInBounds_toArray, List.set_cons_zero, List.set_cons_succ]
        refine wpAnyH_take (i := 6) (v := ?_) rfl (by kernel_rfl) (by kernel_rfl) (by kernel_rfl) (fun _ _ _ h => h) (Or.inl ⟨by rfl, ?_⟩) (by assumption) ?_
        rotate_left 1
        · (intro w hSw; (try dsimp only at hSw); first | (go_simp; done) | (go_simp; with_reducible rfl))
        try simp only [Act.put, List.getElem_toArray, List.getElem_cons_succ, List.getElem_cons_zero, List.setIfInBounds_toArray, List.set_cons_zero, List.set_cons_succ]
        refine wpAnyH_ready (rs := [8]) (by kernel_rfl) (by simp) ?_
        refine AllReadyH.cons rfl (fun K hK => ?_) AllReadyH.nil
        rw [if_pos (by rfl)]
        refine wp_store_mid _ _ _ rfl B5 0 #[.int .i64 1990, .int .i64 1, .int .i64 637200000] rfl rfl (there3x HAc.out) (by kernel_rfl) (by simp [Value.oneCell']) ?_
        refine hK.out _ _ ?_ (fun hHeld => ?_)
        · exact cells11x (block_setCells HSc.out HNE.out)
        clear hK K
        try simp only [Act.put, List.getElem_toArray, List.getElem_cons_succ, List.getElem_cons_zero, List.setIfInBounds_toArray, List.set_cons_zero, List.set_cons_succ]
        refine wpAnyH_take (i := 9) (v := ?_) rfl (by kernel_rfl) (by kernel_rfl) (by kernel_rfl) (fun _ _ _ h => h) (Or.inl ⟨by rfl, ?_⟩) (by assumption) ?_
        rotate_left 1
        · (intro w hSw; (try dsimp only at hSw); first | (go_simp; done) | (go_simp; with_reducible rfl))
        try simp only [Act.put, List.getElem_toArray, List.getElem_cons_succ, List.getElem_cons_zero, List.setIfInBounds_toArray, List.set_cons_zero, List.set_cons_succ]
        refine wpAnyH_done (by kernel_rfl) ?_ _
        go_wp2_with fail
        go_meet
        case rel => exact ⟨B5, rfl, rfl, Lib.hid (set3c HAc.out), Lib.hid (bel_setCells HBc.out HLE.out)⟩
    · go_simp
      refine hK.out _ _ ?_ (fun hHeld => ?_)
      · exact cells11x (block_below HSc.out (bel_alloc _ _))
      clear hK K
      try simp only [Act.put, List.getElem_toArray, List.getElem_cons_succ, List.getElem_cons_zero, List.setIfInBounds_toArray, List.set_cons_zero, List.set_cons_succ]
      obtain ⟨B5, hB5⟩ : ∃ B5, B5 = w4.heap.size + 1 := ⟨_, rfl⟩
      have hB6 : B5 = (w4.alloc (.cells #[.string ⟨#[82]⟩, .int .i64 1990, .int .i64 1048576, .int .i64 3, .int .i64 3, .int .i64 0, .int .i64 8, .int .i64 0, .int .i64 0, .int .i64 0, .string ⟨#[]⟩] 34)).drew.heap.size := hB5.trans (by first | rfl | simp)
      have HNE := Lib.hid (show w4.heap.size ≠ B5 by rw [hB6]; exact Nat.ne_of_lt (Array.getElem?_eq_some_iff.1 HSc.out).1)
      have HLE := Lib.hid (show (w4.alloc (.cells #[.string ⟨#[82]⟩, .int .i64 1990, .int .i64 1048576, .int .i64 3, .int .i64 3, .int .i64 0, .int .i64 8, .int .i64 0, .int .i64 0, .int .i64 0, .string ⟨#[]⟩] 34)).heap.size ≤ B5 by rw [hB6]; exact HBc.out.size)
      have HAc := Lib.hid (new_atx (.cells #[.int .i64 0, .int .i64 0, .int .i64 0] 25) hB6)
      have HSc := Lib.hid (block_below HSc.out (bel_alloc (w4.alloc (.cells #[.string ⟨#[82]⟩, .int .i64 1990, .int .i64 1048576, .int .i64 3, .int .i64 3, .int .i64 0, .int .i64 8, .int .i64 0, .int .i64 0, .int .i64 0, .string ⟨#[]⟩] 34)).drew (.cells #[.int .i64 0, .int .i64 0, .int .i64 0] 25)))
      have HBc := Lib.hid (bel_trans HBc.out (bel_alloc (w4.alloc (.cells #[.string ⟨#[82]⟩, .int .i64 1990, .int .i64 1048576, .int .i64 3, .int .i64 3, .int .i64 0, .int .i64 8, .int .i64 0, .int .i64 0, .int .i64 0, .string ⟨#[]⟩] 34)).drew (.cells #[.int .i64 0, .int .i64 0, .int .i64 0] 25)))
      rw [← hB5]
      clear hB5 hB6
      refine wpAnyH_ready (rs := [1]) (by kernel_rfl) (by simp) ?_
      refine AllReadyH.cons rfl (fun K hK => ?_) AllReadyH.nil
      go_simp
      refine (fixed18_any 1990 1048576 12 _).mono ?_
      rintro e w5 ⟨rfl, hb5⟩
      go_wp2_with fail
      refine hK.out _ _ ?_ (fun hHeld => ?_)
      · exact cells11x (block_below HSc.out hb5)
      clear hK K
      try simp only [Act.put, List.getElem_toArray, List.getElem_cons_succ, List.getElem_cons_zero, List.setIfInBounds_toArray, List.set_cons_zero, List.set_cons_succ]
      have HSc := Lib.hid (block_below HSc.out hb5)
      have HAc := Lib.hid (block_below HAc.out hb5)
      have HBc := Lib.hid (bel_trans HBc.out hb5)
      refine wpAnyH_ready (rs := [2]) (by kernel_rfl) (by simp) ?_
      refine AllReadyH.cons rfl (fun K hK => ?_) AllReadyH.nil
      go_simp
      refine hK.out _ _ ?_ (fun hHeld => ?_)
      · exact cells11x (block_below HSc.out (bel_alloc _ _))
      clear hK K
      try simp only [Act.put, List.getElem_toArray, List.getElem_cons_succ, List.getElem_cons_zero, List.setIfInBounds_toArray, List.set_cons_zero, List.set_cons_succ]
      have HRc := Lib.hid (duo_rul (r0 := sn 1990 1048576 0 8) (r1 := fx 1990 1048576 12 0) (new_atx (w := w5) (n := w5.heap.size) (.cells #[.string ⟨#[82]⟩, .int .i64 1990, .int .i64 1048576, .int .i64 3, .int .i64 3, .int .i64 0, .int .i64 8, .int .i64 0, .int .i64 0, .int .i64 0, .string ⟨#[]⟩, .string ⟨#[82]⟩, .int .i64 1990, .int .i64 1048576, .int .i64 3, .int .i64 1, .int .i64 0, .int .i64 12, .int .i64 0, .int .i64 0, .int .i64 0, .string ⟨#[]⟩] 34) (by first | rfl | simp)) (by unfold Ru.fits fit; decide) (by unfold Ru.fits fit; decide))
      have HSc := Lib.hid (block_below HSc.out (bel_alloc w5 (.cells #[.string ⟨#[82]⟩, .int .i64 1990, .int .i64 1048576, .int .i64 3, .int .i64 3, .int .i64 0, .int .i64 8, .int .i64 0, .int .i64 0, .int .i64 0, .string ⟨#[]⟩, .string ⟨#[82]⟩, .int .i64 1990, .int .i64 1048576, .int .i64 3, .int .i64 1, .int .i64 0, .int .i64 12, .int .i64 0, .int .i64 0, .int .i64 0, .string ⟨#[]⟩] 34)))
      have HAc := Lib.hid (block_below HAc.out (bel_alloc w5 (.cells #[.string ⟨#[82]⟩, .int .i64 1990, .int .i64 1048576, .int .i64 3, .int .i64 3, .int .i64 0, .int .i64 8, .int .i64 0, .int .i64 0, .int .i64 0, .string ⟨#[]⟩, .string ⟨#[82]⟩, .int .i64 1990, .int .i64 1048576, .int .i64 3, .int .i64 1, .int .i64 0, .int .i64 12, .int .i64 0, .int .i64 0, .int .i64 0, .string ⟨#[]⟩] 34)))
      have HBc := Lib.hid (bel_trans HBc.out (bel_alloc w5 (.cells #[.string ⟨#[82]⟩, .int .i64 1990, .int .i64 1048576, .int .i64 3, .int .i64 3, .int .i64 0, .int .i64 8, .int .i64 0, .int .i64 0, .int .i64 0, .string ⟨#[]⟩, .string ⟨#[82]⟩, .int .i64 1990, .int .i64 1048576, .int .i64 3, .int .i64 1, .int .i64 0, .int .i64 12, .int .i64 0, .int .i64 0, .int .i64 0, .string ⟨#[]⟩] 34)))
      refine wpAnyH_ready (rs := [3]) (by kernel_rfl) (by simp) ?_
      refine AllReadyH.cons rfl (fun K hK => ?_) AllReadyH.nil
      go_simp
      refine (apCheck_any _ [sn 1990 1048576 0 8, fx 1990 1048576 12 0] _ (by exact HT.out.below (bel_trans HB.out HBc.out)) (by exact HRc.out)).mono ?_
      intro e w7 hq; obtain ⟨rfl, hb7⟩ := ChkR.to (v := .tuple #[.agg #[.int .i64 1990, .int .i64 1, .int .i64 637200000], .int .i64 13]) ap4 rfl _ _ hq; clear hq
      go_wp2_with fail
      refine hK.out _ _ ?_ (fun hHeld => ?_)
      · exact cells11x (block_below HSc.out hb7)
      clear hK K
      try simp only [Act.put, List.getElem_toArray, List.getElem_cons_succ, List.getElem_cons_zero, List.setIfInBounds_toArray, List.set_cons_zero, List.set_cons_succ]
      have HSc := Lib.hid (block_below HSc.out hb7)
      have HAc := Lib.hid (block_below HAc.out hb7)
      have HRc := Lib.hid (Rul.below HRc.out hb7)
      have HBc := Lib.hid (bel_trans HBc.out hb7)
      refine wpAnyH_take (i := 4) (v := ?_) rfl (by kernel_rfl) (by kernel_rfl) (by kernel_rfl) (fun _ _ _ h => h) (Or.inl ⟨by rfl, ?_⟩) (by assumption) ?_
      rotate_left 1
      · (intro w hSw; (try dsimp only at hSw); first | (go_simp; done) | (go_simp; with_reducible rfl))
      try simp only [Act.put, List.getElem_toArray, List.getElem_cons_succ, List.getElem_cons_zero, List.setIfInBounds_toArray, List.set_cons_zero, List.set_cons_succ]
      refine wpAnyH_take (i := 5) (v := ?_) rfl (by kernel_rfl) (by kernel_rfl) (by kernel_rfl) (fun _ _ _ h => h) (Or.inl ⟨by rfl, ?_⟩) (by assumption) ?_
      rotate_left 1
      · (intro w hSw; (try dsimp only at hSw); first | (go_simp; done) | (go_simp; with_reducible rfl))
      try simp only [Act.put, List.getElem_toArray, List.getElem_cons_succ, List.getElem_cons_zero, List.setIfInBounds_toArray, List.set_cons_zero, List.set_cons_succ]
      refine wpAnyH_take (i := 6) (v := ?_) rfl (by kernel_rfl) (by kernel_rfl) (by kernel_rfl) (fun _ _ _ h => h) (Or.inl ⟨by rfl, ?_⟩) (by assumption) ?_
      rotate_left 1
      · (intro w hSw; (try dsimp only at hSw); first | (go_simp; done) | (go_simp; with_reducible rfl))
      try simp only [Act.put, List.getElem_toArray, List.getElem_cons_succ, List.getElem_cons_zero, List.setIfInBounds_toArray, List.set_cons_zero, List.set_cons_succ]
      refine wpAnyH_ready (rs := [8]) (by kernel_rfl) (by simp) ?_
      refine AllReadyH.cons rfl (fun K hK => ?_) AllReadyH.nil
      rw [if_pos (by rfl)]
      refine wp_store_mid _ _ _ rfl B5 0 #[.int .i64 1990, .int .i64 1, .int .i64 637200000] rfl rfl (there3x HAc.out) (by kernel_rfl) (by simp [Value.oneCell']) ?_
      refine hK.out _ _ ?_ (fun hHeld => ?_)
      · exact cells11x (block_setCells HSc.out HNE.out)
      clear hK K
      try simp only [Act.put, List.getElem_toArray, List.getElem_cons_succ, List.getElem_cons_zero, List.setIfInBounds_toArray, List.set_cons_zero, List.set_cons_succ]
      refine wpAnyH_take (i := 9) (v := ?_) rfl (by kernel_rfl) (by kernel_rfl) (by kernel_rfl) (fun _ _ _ h => h) (Or.inl ⟨by rfl, ?_⟩) (by assumption) ?_
      rotate_left 1
      · (intro w hSw; (try dsimp only at hSw); first | (go_simp; done) | (go_simp; with_reducible rfl))
      try simp only [Act.put, List.getElem_toArray, List.getElem_cons_succ, List.getElem_cons_zero, List.setIfInBounds_toArray, List.set_cons_zero, List.set_cons_succ]
      refine wpAnyH_done (by kernel_rfl) ?_ _
      go_wp2_with fail
      go_meet
      case rel => exact ⟨B5, rfl, rfl, Lib.hid (set3c HAc.out), Lib.hid (bel_setCells HBc.out HLE.out)⟩
  case rest =>
    obtain ⟨b5, rfl, rfl, HK5, hb5⟩ := hcut
    have HB := Lib.hid (Below.drew (bel_trans HB.out hb5.out))
    have HL := Lib.hid (Rul.below HL.out (Below.drew hb5.out))
    have HK2 := Lib.hid (show wc.drew.heap[w3.heap.size]? = some (.cells #[.int .i64 0, .int .i64 0, .int .i64 0] 25) from block_below HK2.out (Below.drew hb5.out))
    have HK5 := Lib.hid (show wc.drew.heap[b5]? = some (.cells #[.int .i64 1990, .int .i64 1, .int .i64 637200000] 25) from HK5.out)
    have HS6 := Lib.hid (cells3x HK2.out HK5.out)
    clear hb5 HSU HK2 HK5
    go_wp2_with fail
    refine wp_region_held_drew (S := (fun w' => w'.cell? ⟨w3.heap.size, 0, none⟩ = some (.int .i64 0) ∧ w'.cell? ⟨w3.heap.size, 1, none⟩ = some (.int .i64 0) ∧ w'.cell? ⟨w3.heap.size, 2, none⟩ = some (.int .i64 0) ∧ w'.cell? ⟨b5, 0, none⟩ = some (.int .i64 1990) ∧ w'.cell? ⟨b5, 1, none⟩ = some (.int .i64 1) ∧ w'.cell? ⟨b5, 2, none⟩ = some (.int .i64 637200000))) (by kernel_rfl) (by exact HS6.out) (fun hHeld => ?_)
    refine wpAnyH_take (i := 0) (v := ?_) rfl (by kernel_rfl) (by kernel_rfl) (by kernel_rfl) (fun _ _ _ h => h) (Or.inl ⟨by rfl, ?_⟩) (by assumption) ?_
    rotate_left 1
    · (intro w hSw; (try dsimp only at hSw); first | (go_simp; done) | (go_simp; with_reducible rfl))
    try simp only [Act.put, List.getElem_toArray, List.getElem_cons_succ, List.getElem_cons_zero, List.setIfInBounds_toArray, List.set_cons_zero, List.set_cons_succ]
    refine wpAnyH_take (i := 1) (v := ?_) rfl (by kernel_rfl) (by kernel_rfl) (by kernel_rfl) (fun _ _ _ h => h) (Or.inl ⟨by rfl, ?_⟩) (by assumption) ?_
    rotate_left 1
    · (intro w hSw; (try dsimp only at hSw); first | (go_simp; done) | (go_simp; with_reducible rfl))
    try simp only [Act.put, List.getElem_toArray, List.getElem_cons_succ, List.getElem_cons_zero, List.setIfInBounds_toArray, List.set_cons_zero, List.set_cons_succ]
    refine wpAnyH_take (i := 2) (v := ?_) rfl (by kernel_rfl) (by kernel_rfl) (by kernel_rfl) (fun _ _ _ h => h) (Or.inl ⟨by rfl, ?_⟩) (by assumption) ?_
    rotate_left 1
    · (intro w hSw; (try dsimp only at hSw); first | (go_simp; done) | (go_simp; with_reducible rfl))
    try simp only [Act.put, List.getElem_toArray, List.getElem_cons_succ, List.getElem_cons_zero, List.setIfInBounds_toArray, List.set_cons_zero, List.set_cons_succ]
    refine wpAnyH_take (i := 3) (v := ?_) rfl (by kernel_rfl) (by kernel_rfl) (by kernel_rfl) (fun _ _ _ h => h) (Or.inl ⟨by rfl, ?_⟩) (by assumption) ?_
    rotate_left 1
    · (intro w hSw; (try dsimp only at hSw); first | (go_simp; done) | (go_simp; with_reducible rfl))
    try simp only [Act.put, List.getElem_toArray, List.getElem_cons_succ, List.getElem_cons_zero, List.setIfInBounds_toArray, List.set_cons_zero, List.set_cons_succ]
    refine wpAnyH_take (i := 4) (v := ?_) rfl (by kernel_rfl) (by kernel_rfl) (by kernel_rfl) (fun _ _ _ h => h) (Or.inl ⟨by rfl, ?_⟩) (by assumption) ?_
    rotate_left 1
    · (intro w hSw; (try dsimp only at hSw); first | (go_simp; done) | (go_simp; with_reducible rfl))
    try simp only [Act.put, List.getElem_toArray, List.getElem_cons_succ, List.getElem_cons_zero, List.setIfInBounds_toArray, List.set_cons_zero, List.set_cons_succ]
    refine wpAnyH_take (i := 5) (v := ?_) rfl (by kernel_rfl) (by kernel_rfl) (by kernel_rfl) (fun _ _ _ h => h) (Or.inl ⟨by rfl, ?_⟩) (by assumption) ?_
    rotate_left 1
    · (intro w hSw; (try dsimp only at hSw); first | (go_simp; done) | (go_simp; with_reducible rfl))
    try simp only [Act.put, List.getElem_toArray, List.getElem_cons_succ, List.getElem_cons_zero, List.setIfInBounds_toArray, List.set_cons_zero, List.set_cons_succ]
    refine wpAnyH_take (i := 6) (v := ?_) rfl (by kernel_rfl) (by kernel_rfl) (by kernel_rfl) (fun _ _ _ h => h) (Or.inl ⟨by rfl, ?_⟩) (by assumption) ?_
    rotate_left 1
    · (intro w hSw; (try dsimp only at hSw); first | (go_simp; done) | (go_simp; with_reducible rfl))
    try simp only [Act.put, List.getElem_toArray, List.getElem_cons_succ, List.getElem_cons_zero, List.setIfInBounds_toArray, List.set_cons_zero, List.set_cons_succ]
    refine wpAnyH_take (i := 7) (v := ?_) rfl (by kernel_rfl) (by kernel_rfl) (by kernel_rfl) (fun _ _ _ h => h) (Or.inl ⟨by rfl, ?_⟩) (by assumption) ?_
    rotate_left 1
    · (intro w hSw; (try dsimp only at hSw); first | (go_simp; done) | (go_simp; with_reducible rfl))
    try simp only [Act.put, List.getElem_toArray, List.getElem_cons_succ, List.getElem_cons_zero, List.setIfInBounds_toArray, List.set_cons_zero, List.set_cons_succ]
    refine wpAnyH_ready (rs := [8]) (by kernel_rfl) (by simp) ?_
    refine AllReadyH.cons rfl (fun K hK => ?_) AllReadyH.nil
    go_simp
    refine (fixed18_any 2000 2000 1 _).mono ?_
    rintro e w21 ⟨rfl, hb21⟩
    go_wp2_with fail
    refine hK.out _ _ ?_ (fun hHeld => ?_)
    · exact cells6x hb21 HS6.out
    clear hK K
    try simp only [Act.put, List.getElem_toArray, List.getElem_cons_succ, List.getElem_cons_zero, List.setIfInBounds_toArray, List.set_cons_zero, List.set_cons_succ]
    have HS6 := Lib.hid (cells6x hb21 HS6.out)
    have HL := Lib.hid (Rul.below HL.out hb21)
    have HB := Lib.hid (bel_trans HB.out hb21)
    clear hb21
    refine wpAnyH_ready (rs := [9]) (by kernel_rfl) (by simp) ?_
    refine AllReadyH.cons rfl (fun K hK => ?_) AllReadyH.nil
    go_simp
    refine (fixed18_any 2000 2000 3 _).mono ?_
    rintro e w22 ⟨rfl, hb22⟩
    go_wp2_with fail
    refine hK.out _ _ ?_ (fun hHeld => ?_)
    · exact cells6x hb22 HS6.out
    clear hK K
    try simp only [Act.put, List.getElem_toArray, List.getElem_cons_succ, List.getElem_cons_zero, List.setIfInBounds_toArray, List.set_cons_zero, List.set_cons_succ]
    have HS6 := Lib.hid (cells6x hb22 HS6.out)
    have HL := Lib.hid (Rul.below HL.out hb22)
    have HB := Lib.hid (bel_trans HB.out hb22)
    clear hb22
    refine wpAnyH_ready (rs := [10]) (by kernel_rfl) (by simp) ?_
    refine AllReadyH.cons rfl (fun K hK => ?_) AllReadyH.nil
    go_simp
    refine hK.out _ _ ?_ (fun hHeld => ?_)
    · exact cells6x (bel_alloc _ _) HS6.out
    clear hK K
    try simp only [Act.put, List.getElem_toArray, List.getElem_cons_succ, List.getElem_cons_zero, List.setIfInBounds_toArray, List.set_cons_zero, List.set_cons_succ]
    have HQ := Lib.hid (duo_rul (r0 := fx 2000 2000 1 0) (r1 := fx 2000 2000 3 0) (heap_alloc_new w22 (.cells #[.string ⟨#[82]⟩, .int .i64 2000, .int .i64 2000, .int .i64 3, .int .i64 1, .int .i64 0, .int .i64 1, .int .i64 0, .int .i64 0, .int .i64 0, .string ⟨#[]⟩, .string ⟨#[82]⟩, .int .i64 2000, .int .i64 2000, .int .i64 3, .int .i64 1, .int .i64 0, .int .i64 3, .int .i64 0, .int .i64 0, .int .i64 0, .string ⟨#[]⟩] 34)) (by unfold Ru.fits fit; decide) (by unfold Ru.fits fit; decide))
    have HS6 := Lib.hid (cells6x (bel_alloc w22 (.cells #[.string ⟨#[82]⟩, .int .i64 2000, .int .i64 2000, .int .i64 3, .int .i64 1, .int .i64 0, .int .i64 1, .int .i64 0, .int .i64 0, .int .i64 0, .string ⟨#[]⟩, .string ⟨#[82]⟩, .int .i64 2000, .int .i64 2000, .int .i64 3, .int .i64 1, .int .i64 0, .int .i64 3, .int .i64 0, .int .i64 0, .int .i64 0, .string ⟨#[]⟩] 34)) HS6.out)
    have HL := Lib.hid (Rul.below HL.out (bel_alloc w22 (.cells #[.string ⟨#[82]⟩, .int .i64 2000, .int .i64 2000, .int .i64 3, .int .i64 1, .int .i64 0, .int .i64 1, .int .i64 0, .int .i64 0, .int .i64 0, .string ⟨#[]⟩, .string ⟨#[82]⟩, .int .i64 2000, .int .i64 2000, .int .i64 3, .int .i64 1, .int .i64 0, .int .i64 3, .int .i64 0, .int .i64 0, .int .i64 0, .string ⟨#[]⟩] 34)))
    have HB := Lib.hid (bel_trans HB.out (bel_alloc w22 (.cells #[.string ⟨#[82]⟩, .int .i64 2000, .int .i64 2000, .int .i64 3, .int .i64 1, .int .i64 0, .int .i64 1, .int .i64 0, .int .i64 0, .int .i64 0, .string ⟨#[]⟩, .string ⟨#[82]⟩, .int .i64 2000, .int .i64 2000, .int .i64 3, .int .i64 1, .int .i64 0, .int .i64 3, .int .i64 0, .int .i64 0, .int .i64 0, .string ⟨#[]⟩] 34)))
    refine wpAnyH_ready (rs := [11]) (by kernel_rfl) (by simp) ?_
    refine AllReadyH.cons rfl (fun K hK => ?_) AllReadyH.nil
    go_simp
    refine (close18_any _ _ _ _ _ _ (by exact HT.out.below HB.out) (by exact HQ.out) ap2).mono ?_
    rintro e w24 ⟨rfl, hb24⟩
    go_wp2_with fail
    refine hK.out _ _ ?_ (fun hHeld => ?_)
    · exact cells6x hb24 HS6.out
    clear hK K
    try simp only [Act.put, List.getElem_toArray, List.getElem_cons_succ, List.getElem_cons_zero, List.setIfInBounds_toArray, List.set_cons_zero, List.set_cons_succ]
    have HS6 := Lib.hid (cells6x hb24 HS6.out)
    have HL := Lib.hid (Rul.below HL.out hb24)
    have HB := Lib.hid (bel_trans HB.out hb24)
    clear hb24
    refine wpAnyH_take (i := 12) (v := ?_) rfl (by kernel_rfl) (by kernel_rfl) (by kernel_rfl) (fun _ _ _ h => h) (Or.inl ⟨by rfl, ?_⟩) (by assumption) ?_
    rotate_left 1
    · (intro w hSw; (try dsimp only at hSw); first | (go_simp; done) | (go_simp; with_reducible rfl))
    try simp only [Act.put, List.getElem_toArray, List.getElem_cons_succ, List.getElem_cons_zero, List.setIfInBounds_toArray, List.set_cons_zero, List.set_cons_succ]
    refine wpAnyH_take (i := 13) (v := ?_) rfl (by kernel_rfl) (by kernel_rfl) (by kernel_rfl) (fun _ _ _ h => h) (Or.inl ⟨by rfl, ?_⟩) (by assumption) ?_
    rotate_left 1
    · (intro w hSw; (try dsimp only at hSw); first | (go_simp; done) | (go_simp; with_reducible rfl))
    try simp only [Act.put, List.getElem_toArray, List.getElem_cons_succ, List.getElem_cons_zero, List.setIfInBounds_toArray, List.set_cons_zero, List.set_cons_succ]
    refine wpAnyH_take (i := 14) (v := ?_) rfl (by kernel_rfl) (by kernel_rfl) (by kernel_rfl) (fun _ _ _ h => h) (Or.inl ⟨by rfl, ?_⟩) (by assumption) ?_
    rotate_left 1
    · (intro w hSw; (try dsimp only at hSw); first | (go_simp; done) | (go_simp; with_reducible rfl))
    try simp only [Act.put, List.getElem_toArray, List.getElem_cons_succ, List.getElem_cons_zero, List.setIfInBounds_toArray, List.set_cons_zero, List.set_cons_succ]
    refine wpAnyH_take (i := 15) (v := ?_) rfl (by kernel_rfl) (by kernel_rfl) (by kernel_rfl) (fun _ _ _ h => h) (Or.inl ⟨by rfl, ?_⟩) (by assumption) ?_
    rotate_left 1
    · (intro w hSw; (try dsimp only at hSw); first | (go_simp; done) | (go_simp; with_reducible rfl))
    try simp only [Act.put, List.getElem_toArray, List.getElem_cons_succ, List.getElem_cons_zero, List.setIfInBounds_toArray, List.set_cons_zero, List.set_cons_succ]
    refine wpAnyH_take (i := 16) (v := ?_) rfl (by kernel_rfl) (by kernel_rfl) (by kernel_rfl) (fun _ _ _ h => h) (Or.inl ⟨by rfl, ?_⟩) (by assumption) ?_
    rotate_left 1
    · (intro w hSw; (try dsimp only at hSw); first | (go_simp; done) | (go_simp; with_reducible rfl))
    try simp only [Act.put, List.getElem_toArray, List.getElem_cons_succ, List.getElem_cons_zero, List.setIfInBounds_toArray, List.set_cons_zero, List.set_cons_succ]
    refine wpAnyH_take (i := 17) (v := ?_) rfl (by kernel_rfl) (by kernel_rfl) (by kernel_rfl) (fun _ _ _ h => h) (Or.inl ⟨by rfl, ?_⟩) (by assumption) ?_
    rotate_left 1
    · (intro w hSw; (try dsimp only at hSw); first | (go_simp; done) | (go_simp; with_reducible rfl))
    try simp only [Act.put, List.getElem_toArray, List.getElem_cons_succ, List.getElem_cons_zero, List.setIfInBounds_toArray, List.set_cons_zero, List.set_cons_succ]
    refine wpAnyH_take (i := 18) (v := ?_) rfl (by kernel_rfl) (by kernel_rfl) (by kernel_rfl) (fun _ _ _ h => h) (Or.inl ⟨by rfl, ?_⟩) (by assumption) ?_
    rotate_left 1
    · (intro w hSw; (try dsimp only at hSw); first | (go_simp; done) | (go_simp; with_reducible rfl))
    try simp only [Act.put, List.getElem_toArray, List.getElem_cons_succ, List.getElem_cons_zero, List.setIfInBounds_toArray, List.set_cons_zero, List.set_cons_succ]
    refine wpAnyH_take (i := 19) (v := ?_) rfl (by kernel_rfl) (by kernel_rfl) (by kernel_rfl) (fun _ _ _ h => h) (Or.inl ⟨by rfl, ?_⟩) (by assumption) ?_
    rotate_left 1
    · (intro w hSw; (try dsimp only at hSw); first | (go_simp; done) | (go_simp; with_reducible rfl))
    try simp only [Act.put, List.getElem_toArray, List.getElem_cons_succ, List.getElem_cons_zero, List.setIfInBounds_toArray, List.set_cons_zero, List.set_cons_succ]
    refine wpAnyH_take (i := 20) (v := ?_) rfl (by kernel_rfl) (by kernel_rfl) (by kernel_rfl) (fun _ _ _ h => h) (Or.inl ⟨by rfl, ?_⟩) (by assumption) ?_
    rotate_left 1
    · (intro w hSw; (try dsimp only at hSw); first | (go_simp; done) | (go_simp; with_reducible rfl))
    try simp only [Act.put, List.getElem_toArray, List.getElem_cons_succ, List.getElem_cons_zero, List.setIfInBounds_toArray, List.set_cons_zero, List.set_cons_succ]
    refine wpAnyH_take (i := 21) (v := ?_) rfl (by kernel_rfl) (by kernel_rfl) (by kernel_rfl) (fun _ _ _ h => h) (Or.inl ⟨by rfl, ?_⟩) (by assumption) ?_
    rotate_left 1
    · (intro w hSw; (try dsimp only at hSw); first | (go_simp; done) | (go_simp; with_reducible rfl))
    try simp only [Act.put, List.getElem_toArray, List.getElem_cons_succ, List.getElem_cons_zero, List.setIfInBounds_toArray, List.set_cons_zero, List.set_cons_succ]
    refine wpAnyH_take (i := 22) (v := ?_) rfl (by kernel_rfl) (by kernel_rfl) (by kernel_rfl) (fun _ _ _ h => h) (Or.inl ⟨by rfl, ?_⟩) (by assumption) ?_
    rotate_left 1
    · (intro w hSw; (try dsimp only at hSw); first | (go_simp; done) | (go_simp; with_reducible rfl))
    try simp only [Act.put, List.getElem_toArray, List.getElem_cons_succ, List.getElem_cons_zero, List.setIfInBounds_toArray, List.set_cons_zero, List.set_cons_succ]
    refine wpAnyH_take (i := 23) (v := ?_) rfl (by kernel_rfl) (by kernel_rfl) (by kernel_rfl) (fun _ _ _ h => h) (Or.inl ⟨by rfl, ?_⟩) (by assumption) ?_
    rotate_left 1
    · (intro w hSw; (try dsimp only at hSw); first | (go_simp; done) | (go_simp; with_reducible rfl))
    try simp only [Act.put, List.getElem_toArray, List.getElem_cons_succ, List.getElem_cons_zero, List.setIfInBounds_toArray, List.set_cons_zero, List.set_cons_succ]
    refine wpAnyH_take (i := 24) (v := ?_) rfl (by kernel_rfl) (by kernel_rfl) (by kernel_rfl) (fun _ _ _ h => h) (Or.inl ⟨by rfl, ?_⟩) (by assumption) ?_
    rotate_left 1
    · (intro w hSw; (try dsimp only at hSw); first | (go_simp; done) | (go_simp; with_reducible rfl))
    try simp only [Act.put, List.getElem_toArray, List.getElem_cons_succ, List.getElem_cons_zero, List.setIfInBounds_toArray, List.set_cons_zero, List.set_cons_succ]
    refine wpAnyH_take (i := 25) (v := ?_) rfl (by kernel_rfl) (by kernel_rfl) (by kernel_rfl) (fun _ _ _ h => h) (Or.inl ⟨by rfl, ?_⟩) (by assumption) ?_
    rotate_left 1
    · (intro w hSw; (try dsimp only at hSw); first | (go_simp; done) | (go_simp; with_reducible rfl))
    try simp only [Act.put, List.getElem_toArray, List.getElem_cons_succ, List.getElem_cons_zero, List.setIfInBounds_toArray, List.set_cons_zero, List.set_cons_succ]
    refine wpAnyH_take (i := 26) (v := ?_) rfl (by kernel_rfl) (by kernel_rfl) (by kernel_rfl) (fun _ _ _ h => h) (Or.inl ⟨by rfl, ?_⟩) (by assumption) ?_
    rotate_left 1
    · (intro w hSw; (try dsimp only at hSw); first | (go_simp; done) | (go_simp; with_reducible rfl))
    try simp only [Act.put, List.getElem_toArray, List.getElem_cons_succ, List.getElem_cons_zero, List.setIfInBounds_toArray, List.set_cons_zero, List.set_cons_succ]
    refine wpAnyH_take (i := 27) (v := ?_) rfl (by kernel_rfl) (by kernel_rfl) (by kernel_rfl) (fun _ _ _ h => h) (Or.inl ⟨by rfl, ?_⟩) (by assumption) ?_
    rotate_left 1
    · (intro w hSw; (try dsimp only at hSw); first | (go_simp; done) | (go_simp; with_reducible rfl))
    try simp only [Act.put, List.getElem_toArray, List.getElem_cons_succ, List.getElem_cons_zero, List.setIfInBounds_toArray, List.set_cons_zero, List.set_cons_succ]
    refine wpAnyH_take (i := 28) (v := ?_) rfl (by kernel_rfl) (by kernel_rfl) (by kernel_rfl) (fun _ _ _ h => h) (Or.inl ⟨by rfl, ?_⟩) (by assumption) ?_
    rotate_left 1
    · (intro w hSw; (try dsimp only at hSw); first | (go_simp; done) | (go_simp; with_reducible rfl))
    try simp only [Act.put, List.getElem_toArray, List.getElem_cons_succ, List.getElem_cons_zero, List.setIfInBounds_toArray, List.set_cons_zero, List.set_cons_succ]
    refine wpAnyH_take (i := 29) (v := ?_) rfl (by kernel_rfl) (by kernel_rfl) (by kernel_rfl) (fun _ _ _ h => h) (Or.inl ⟨by rfl, ?_⟩) (by assumption) ?_
    rotate_left 1
    · (intro w hSw; (try dsimp only at hSw); first | (go_simp; done) | (go_simp; with_reducible rfl))
    try simp only [Act.put, List.getElem_toArray, List.getElem_cons_succ, List.getElem_cons_zero, List.setIfInBounds_toArray, List.set_cons_zero, List.set_cons_succ]
    refine wpAnyH_ready (rs := [30]) (by kernel_rfl) (by simp) ?_
    refine AllReadyH.cons rfl (fun K hK => ?_) AllReadyH.nil
    go_simp
    refine (at18_any 1990 12 7375 637200000 _ (by exact HT.out.below HB.out) (by decide) (by decide) (by decide) (by decide) (by unfold inr; decide) (by unfold ok; decide) (by decide) (by decide)).mono ?_
    rintro e w25 ⟨rfl, hb25⟩
    go_wp2_with fail
    refine hK.out _ _ ?_ (fun hHeld => ?_)
    · exact cells6x hb25 HS6.out
    clear hK K
    try simp only [Act.put, List.getElem_toArray, List.getElem_cons_succ, List.getElem_cons_zero, List.setIfInBounds_toArray, List.set_cons_zero, List.set_cons_succ]
    have HS6 := Lib.hid (cells6x hb25 HS6.out)
    have HL := Lib.hid (Rul.below HL.out hb25)
    have HB := Lib.hid (bel_trans HB.out hb25)
    clear hb25
    refine wpAnyH_take (i := 31) (v := ?_) rfl (by kernel_rfl) (by kernel_rfl) (by kernel_rfl) (fun _ _ _ h => h) (Or.inl ⟨by rfl, ?_⟩) (by assumption) ?_
    rotate_left 1
    · (intro w hSw; (try dsimp only at hSw); first | (go_simp; done) | (go_simp; with_reducible rfl))
    try simp only [Act.put, List.getElem_toArray, List.getElem_cons_succ, List.getElem_cons_zero, List.setIfInBounds_toArray, List.set_cons_zero, List.set_cons_succ]
    refine wpAnyH_take (i := 32) (v := ?_) rfl (by kernel_rfl) (by kernel_rfl) (by kernel_rfl) (fun _ _ _ h => h) (Or.inl ⟨by rfl, ?_⟩) (by assumption) ?_
    rotate_left 1
    · (intro w hSw; (try dsimp only at hSw); first | (go_simp; done) | (go_simp; with_reducible rfl))
    try simp only [Act.put, List.getElem_toArray, List.getElem_cons_succ, List.getElem_cons_zero, List.setIfInBounds_toArray, List.set_cons_zero, List.set_cons_succ]
    refine wpAnyH_take (i := 33) (v := ?_) rfl (by kernel_rfl) (by kernel_rfl) (by kernel_rfl) (fun _ _ _ h => h) (Or.inl ⟨by rfl, ?_⟩) (by assumption) ?_
    rotate_left 1
    · (intro w hSw; (try dsimp only at hSw); first | (go_simp; done) | (go_simp; with_reducible rfl))
    try simp only [Act.put, List.getElem_toArray, List.getElem_cons_succ, List.getElem_cons_zero, List.setIfInBounds_toArray, List.set_cons_zero, List.set_cons_succ]
    refine wpAnyH_ready (rs := [34]) (by kernel_rfl) (by simp) ?_
    refine AllReadyH.cons rfl (fun K hK => ?_) AllReadyH.nil
    go_simp
    refine (fixed18_any 2000 2000 1 _).mono ?_
    rintro e w26 ⟨rfl, hb26⟩
    go_wp2_with fail
    refine hK.out _ _ ?_ (fun hHeld => ?_)
    · exact cells6x hb26 HS6.out
    clear hK K
    try simp only [Act.put, List.getElem_toArray, List.getElem_cons_succ, List.getElem_cons_zero, List.setIfInBounds_toArray, List.set_cons_zero, List.set_cons_succ]
    have HS6 := Lib.hid (cells6x hb26 HS6.out)
    have HL := Lib.hid (Rul.below HL.out hb26)
    have HB := Lib.hid (bel_trans HB.out hb26)
    clear hb26
    refine wpAnyH_ready (rs := [35]) (by kernel_rfl) (by simp) ?_
    refine AllReadyH.cons rfl (fun K hK => ?_) AllReadyH.nil
    go_simp
    refine (fixed18_any 2000 2000 1 _).mono ?_
    rintro e w27 ⟨rfl, hb27⟩
    go_wp2_with fail
    refine hK.out _ _ ?_ (fun hHeld => ?_)
    · exact cells6x hb27 HS6.out
    clear hK K
    try simp only [Act.put, List.getElem_toArray, List.getElem_cons_succ, List.getElem_cons_zero, List.setIfInBounds_toArray, List.set_cons_zero, List.set_cons_succ]
    have HS6 := Lib.hid (cells6x hb27 HS6.out)
    have HL := Lib.hid (Rul.below HL.out hb27)
    have HB := Lib.hid (bel_trans HB.out hb27)
    clear hb27
    refine wpAnyH_ready (rs := [36]) (by kernel_rfl) (by simp) ?_
    refine AllReadyH.cons rfl (fun K hK => ?_) AllReadyH.nil
    go_simp
    refine hK.out _ _ ?_ (fun hHeld => ?_)
    · exact cells6x (bel_alloc _ _) HS6.out
    clear hK K
    try simp only [Act.put, List.getElem_toArray, List.getElem_cons_succ, List.getElem_cons_zero, List.setIfInBounds_toArray, List.set_cons_zero, List.set_cons_succ]
    have HQ := Lib.hid (duo_rul (r0 := fx 2000 2000 1 0) (r1 := fx 2000 2000 1 0) (heap_alloc_new w27 (.cells #[.string ⟨#[82]⟩, .int .i64 2000, .int .i64 2000, .int .i64 3, .int .i64 1, .int .i64 0, .int .i64 1, .int .i64 0, .int .i64 0, .int .i64 0, .string ⟨#[]⟩, .string ⟨#[82]⟩, .int .i64 2000, .int .i64 2000, .int .i64 3, .int .i64 1, .int .i64 0, .int .i64 1, .int .i64 0, .int .i64 0, .int .i64 0, .string ⟨#[]⟩] 34)) (by unfold Ru.fits fit; decide) (by unfold Ru.fits fit; decide))
    have HS6 := Lib.hid (cells6x (bel_alloc w27 (.cells #[.string ⟨#[82]⟩, .int .i64 2000, .int .i64 2000, .int .i64 3, .int .i64 1, .int .i64 0, .int .i64 1, .int .i64 0, .int .i64 0, .int .i64 0, .string ⟨#[]⟩, .string ⟨#[82]⟩, .int .i64 2000, .int .i64 2000, .int .i64 3, .int .i64 1, .int .i64 0, .int .i64 1, .int .i64 0, .int .i64 0, .int .i64 0, .string ⟨#[]⟩] 34)) HS6.out)
    have HL := Lib.hid (Rul.below HL.out (bel_alloc w27 (.cells #[.string ⟨#[82]⟩, .int .i64 2000, .int .i64 2000, .int .i64 3, .int .i64 1, .int .i64 0, .int .i64 1, .int .i64 0, .int .i64 0, .int .i64 0, .string ⟨#[]⟩, .string ⟨#[82]⟩, .int .i64 2000, .int .i64 2000, .int .i64 3, .int .i64 1, .int .i64 0, .int .i64 1, .int .i64 0, .int .i64 0, .int .i64 0, .string ⟨#[]⟩] 34)))
    have HB := Lib.hid (bel_trans HB.out (bel_alloc w27 (.cells #[.string ⟨#[82]⟩, .int .i64 2000, .int .i64 2000, .int .i64 3, .int .i64 1, .int .i64 0, .int .i64 1, .int .i64 0, .int .i64 0, .int .i64 0, .string ⟨#[]⟩, .string ⟨#[82]⟩, .int .i64 2000, .int .i64 2000, .int .i64 3, .int .i64 1, .int .i64 0, .int .i64 1, .int .i64 0, .int .i64 0, .int .i64 0, .string ⟨#[]⟩] 34)))
    refine wpAnyH_ready (rs := [37]) (by kernel_rfl) (by simp) ?_
    refine AllReadyH.cons rfl (fun K hK => ?_) AllReadyH.nil
    go_simp
    refine (close18_any _ _ _ _ _ _ (by exact HT.out.below HB.out) (by exact HQ.out) ap3).mono ?_
    rintro e w29 ⟨rfl, hb29⟩
    go_wp2_with fail
    refine hK.out _ _ ?_ (fun hHeld => ?_)
    · exact cells6x hb29 HS6.out
    clear hK K
    try simp only [Act.put, List.getElem_toArray, List.getElem_cons_succ, List.getElem_cons_zero, List.setIfInBounds_toArray, List.set_cons_zero, List.set_cons_succ]
    have HS6 := Lib.hid (cells6x hb29 HS6.out)
    have HL := Lib.hid (Rul.below HL.out hb29)
    have HB := Lib.hid (bel_trans HB.out hb29)
    clear hb29
    refine wpAnyH_take (i := 38) (v := ?_) rfl (by kernel_rfl) (by kernel_rfl) (by kernel_rfl) (fun _ _ _ h => h) (Or.inl ⟨by rfl, ?_⟩) (by assumption) ?_
    rotate_left 1
    · (intro w hSw; (try dsimp only at hSw); first | (go_simp; done) | (go_simp; with_reducible rfl))
    try simp only [Act.put, List.getElem_toArray, List.getElem_cons_succ, List.getElem_cons_zero, List.setIfInBounds_toArray, List.set_cons_zero, List.set_cons_succ]
    refine wpAnyH_take (i := 39) (v := ?_) rfl (by kernel_rfl) (by kernel_rfl) (by kernel_rfl) (fun _ _ _ h => h) (Or.inl ⟨by rfl, ?_⟩) (by assumption) ?_
    rotate_left 1
    · (intro w hSw; (try dsimp only at hSw); first | (go_simp; done) | (go_simp; with_reducible rfl))
    try simp only [Act.put, List.getElem_toArray, List.getElem_cons_succ, List.getElem_cons_zero, List.setIfInBounds_toArray, List.set_cons_zero, List.set_cons_succ]
    refine wpAnyH_take (i := 40) (v := ?_) rfl (by kernel_rfl) (by kernel_rfl) (by kernel_rfl) (fun _ _ _ h => h) (Or.inl ⟨by rfl, ?_⟩) (by assumption) ?_
    rotate_left 1
    · (intro w hSw; (try dsimp only at hSw); first | (go_simp; done) | (go_simp; with_reducible rfl))
    try simp only [Act.put, List.getElem_toArray, List.getElem_cons_succ, List.getElem_cons_zero, List.setIfInBounds_toArray, List.set_cons_zero, List.set_cons_succ]
    refine wpAnyH_ready (rs := [41]) (by kernel_rfl) (by simp) ?_
    refine AllReadyH.cons rfl (fun K hK => ?_) AllReadyH.nil
    go_simp
    refine (at18_any 2000 7 11023 952387200 _ (by exact HT.out.below HB.out) (by decide) (by decide) (by decide) (by decide) (by unfold inr; decide) (by unfold ok; decide) (by decide) (by decide)).mono ?_
    rintro e w30 ⟨rfl, hb30⟩
    go_wp2_with fail
    refine hK.out _ _ ?_ (fun hHeld => ?_)
    · exact cells6x hb30 HS6.out
    clear hK K
    try simp only [Act.put, List.getElem_toArray, List.getElem_cons_succ, List.getElem_cons_zero, List.setIfInBounds_toArray, List.set_cons_zero, List.set_cons_succ]
    have HS6 := Lib.hid (cells6x hb30 HS6.out)
    have HL := Lib.hid (Rul.below HL.out hb30)
    have HB := Lib.hid (bel_trans HB.out hb30)
    clear hb30
    refine wpAnyH_ready (rs := [42]) (by kernel_rfl) (by simp) ?_
    refine AllReadyH.cons rfl (fun K hK => ?_) AllReadyH.nil
    go_simp
    refine (apFar_any _ _ 952387200 _ (by exact HT.out.below HB.out) (by exact HL.out) (by decide) (by decide)).mono ?_
    intro e w31 hq; obtain ⟨rfl, hb31⟩ := FarR.yes ap5 _ _ hq; clear hq
    go_wp2_with fail
    refine hK.out _ _ ?_ (fun hHeld => ?_)
    · exact cells6x hb31 HS6.out
    clear hK K
    try simp only [Act.put, List.getElem_toArray, List.getElem_cons_succ, List.getElem_cons_zero, List.setIfInBounds_toArray, List.set_cons_zero, List.set_cons_succ]
    have HS6 := Lib.hid (cells6x hb31 HS6.out)
    have HL := Lib.hid (Rul.below HL.out hb31)
    have HB := Lib.hid (bel_trans HB.out hb31)
    clear hb31
    refine wpAnyH_take (i := 43) (v := ?_) rfl (by kernel_rfl) (by kernel_rfl) (by kernel_rfl) (fun _ _ _ h => h) (Or.inl ⟨by rfl, ?_⟩) (by assumption) ?_
    rotate_left 1
    · (intro w hSw; (try dsimp only at hSw); first | (go_simp; done) | (go_simp; with_reducible rfl))
    try simp only [Act.put, List.getElem_toArray, List.getElem_cons_succ, List.getElem_cons_zero, List.setIfInBounds_toArray, List.set_cons_zero, List.set_cons_succ]
    refine wpAnyH_take (i := 44) (v := ?_) rfl (by kernel_rfl) (by kernel_rfl) (by kernel_rfl) (fun _ _ _ h => h) (Or.inl ⟨by rfl, ?_⟩) (by assumption) ?_
    rotate_left 1
    · (intro w hSw; (try dsimp only at hSw); first | (go_simp; done) | (go_simp; with_reducible rfl))
    try simp only [Act.put, List.getElem_toArray, List.getElem_cons_succ, List.getElem_cons_zero, List.setIfInBounds_toArray, List.set_cons_zero, List.set_cons_succ]
    refine wpAnyH_take (i := 45) (v := ?_) rfl (by kernel_rfl) (by kernel_rfl) (by kernel_rfl) (fun _ _ _ h => h) (Or.inl ⟨by rfl, ?_⟩) (by assumption) ?_
    rotate_left 1
    · (intro w hSw; (try dsimp only at hSw); first | (go_simp; done) | (go_simp; with_reducible rfl))
    try simp only [Act.put, List.getElem_toArray, List.getElem_cons_succ, List.getElem_cons_zero, List.setIfInBounds_toArray, List.set_cons_zero, List.set_cons_succ]
    refine wpAnyH_ready (rs := [46]) (by kernel_rfl) (by simp) ?_
    refine AllReadyH.cons rfl (fun K hK => ?_) AllReadyH.nil
    go_simp
    refine (at18_any 2000 7 11023 952387200 _ (by exact HT.out.below HB.out) (by decide) (by decide) (by decide) (by decide) (by unfold inr; decide) (by unfold ok; decide) (by decide) (by decide)).mono ?_
    rintro e w32 ⟨rfl, hb32⟩
    go_wp2_with fail
    refine hK.out _ _ ?_ (fun hHeld => ?_)
    · exact cells6x hb32 HS6.out
    clear hK K
    try simp only [Act.put, List.getElem_toArray, List.getElem_cons_succ, List.getElem_cons_zero, List.setIfInBounds_toArray, List.set_cons_zero, List.set_cons_succ]
    have HS6 := Lib.hid (cells6x hb32 HS6.out)
    have HL := Lib.hid (Rul.below HL.out hb32)
    have HB := Lib.hid (bel_trans HB.out hb32)
    clear hb32
    refine wpAnyH_take (i := 47) (v := ?_) rfl (by kernel_rfl) (by kernel_rfl) (by kernel_rfl) (fun _ _ _ h => h) (Or.inl ⟨by rfl, ?_⟩) (by assumption) ?_
    rotate_left 1
    · (intro w hSw; (try dsimp only at hSw); first | (go_simp; done) | (go_simp; with_reducible rfl))
    try simp only [Act.put, List.getElem_toArray, List.getElem_cons_succ, List.getElem_cons_zero, List.setIfInBounds_toArray, List.set_cons_zero, List.set_cons_succ]
    refine wpAnyH_ready (rs := [48]) (by kernel_rfl) (by simp) ?_
    refine AllReadyH.cons rfl (fun K hK => ?_) AllReadyH.nil
    go_simp
    refine (apFar_any _ _ 952387199 _ (by exact HT.out.below HB.out) (by exact HL.out) (by decide) (by decide)).mono ?_
    intro e w33 hq; obtain ⟨rfl, hb33⟩ := FarR.no ap6 _ _ hq; clear hq
    go_wp2_with fail
    refine hK.out _ _ ?_ (fun hHeld => ?_)
    · exact cells6x hb33 HS6.out
    clear hK K
    try simp only [Act.put, List.getElem_toArray, List.getElem_cons_succ, List.getElem_cons_zero, List.setIfInBounds_toArray, List.set_cons_zero, List.set_cons_succ]
    have HS6 := Lib.hid (cells6x hb33 HS6.out)
    have HL := Lib.hid (Rul.below HL.out hb33)
    have HB := Lib.hid (bel_trans HB.out hb33)
    clear hb33
    refine wpAnyH_take (i := 49) (v := ?_) rfl (by kernel_rfl) (by kernel_rfl) (by kernel_rfl) (fun _ _ _ h => h) (Or.inl ⟨by rfl, ?_⟩) (by assumption) ?_
    rotate_left 1
    · (intro w hSw; (try dsimp only at hSw); first | (go_simp; done) | (go_simp; with_reducible rfl))
    try simp only [Act.put, List.getElem_toArray, List.getElem_cons_succ, List.getElem_cons_zero, List.setIfInBounds_toArray, List.set_cons_zero, List.set_cons_succ]
    refine wpAnyH_take (i := 50) (v := ?_) rfl (by kernel_rfl) (by kernel_rfl) (by kernel_rfl) (fun _ _ _ h => h) (Or.inl ⟨by rfl, ?_⟩) (by assumption) ?_
    rotate_left 1
    · (intro w hSw; (try dsimp only at hSw); first | (go_simp; done) | (go_simp; with_reducible rfl))
    try simp only [Act.put, List.getElem_toArray, List.getElem_cons_succ, List.getElem_cons_zero, List.setIfInBounds_toArray, List.set_cons_zero, List.set_cons_succ]
    refine wpAnyH_take (i := 51) (v := ?_) rfl (by kernel_rfl) (by kernel_rfl) (by kernel_rfl) (fun _ _ _ h => h) (Or.inl ⟨by rfl, ?_⟩) (by assumption) ?_
    rotate_left 1
    · (intro w hSw; (try dsimp only at hSw); first | (go_simp; done) | (go_simp; with_reducible rfl))
    try simp only [Act.put, List.getElem_toArray, List.getElem_cons_succ, List.getElem_cons_zero, List.setIfInBounds_toArray, List.set_cons_zero, List.set_cons_succ]
    refine wpAnyH_take (i := 52) (v := ?_) rfl (by kernel_rfl) (by kernel_rfl) (by kernel_rfl) (fun _ _ _ h => h) (Or.inl ⟨by rfl, ?_⟩) (by assumption) ?_
    rotate_left 1
    · (intro w hSw; (try dsimp only at hSw); first | (go_simp; done) | (go_simp; with_reducible rfl))
    try simp only [Act.put, List.getElem_toArray, List.getElem_cons_succ, List.getElem_cons_zero, List.setIfInBounds_toArray, List.set_cons_zero, List.set_cons_succ]
    refine wpAnyH_ready (rs := [53]) (by kernel_rfl) (by simp) ?_
    refine AllReadyH.cons rfl (fun K hK => ?_) AllReadyH.nil
    go_simp
    refine (at18_any 2000 1 11017 951868800 _ (by exact HT.out.below HB.out) (by decide) (by decide) (by decide) (by decide) (by unfold inr; decide) (by unfold ok; decide) (by decide) (by decide)).mono ?_
    rintro e w34 ⟨rfl, hb34⟩
    go_wp2_with fail
    refine hK.out _ _ ?_ (fun hHeld => ?_)
    · exact cells6x hb34 HS6.out
    clear hK K
    try simp only [Act.put, List.getElem_toArray, List.getElem_cons_succ, List.getElem_cons_zero, List.setIfInBounds_toArray, List.set_cons_zero, List.set_cons_succ]
    have HS6 := Lib.hid (cells6x hb34 HS6.out)
    have HL := Lib.hid (Rul.below HL.out hb34)
    have HB := Lib.hid (bel_trans HB.out hb34)
    clear hb34
    refine wpAnyH_ready (rs := [54]) (by kernel_rfl) (by simp) ?_
    refine AllReadyH.cons rfl (fun K hK => ?_) AllReadyH.nil
    go_simp
    refine (apFar_any _ _ 951868800 _ (by exact HT.out.below HB.out) (by exact HL.out) (by decide) (by decide)).mono ?_
    intro e w35 hq; obtain ⟨rfl, hb35⟩ := FarR.no ap7 _ _ hq; clear hq
    go_wp2_with fail
    refine hK.out _ _ ?_ (fun hHeld => ?_)
    · exact cells6x hb35 HS6.out
    clear hK K
    try simp only [Act.put, List.getElem_toArray, List.getElem_cons_succ, List.getElem_cons_zero, List.setIfInBounds_toArray, List.set_cons_zero, List.set_cons_succ]
    have HS6 := Lib.hid (cells6x hb35 HS6.out)
    have HL := Lib.hid (Rul.below HL.out hb35)
    have HB := Lib.hid (bel_trans HB.out hb35)
    clear hb35
    refine wpAnyH_take (i := 55) (v := ?_) rfl (by kernel_rfl) (by kernel_rfl) (by kernel_rfl) (fun _ _ _ h => h) (Or.inl ⟨by rfl, ?_⟩) (by assumption) ?_
    rotate_left 1
    · (intro w hSw; (try dsimp only at hSw); first | (go_simp; done) | (go_simp; with_reducible rfl))
    try simp only [Act.put, List.getElem_toArray, List.getElem_cons_succ, List.getElem_cons_zero, List.setIfInBounds_toArray, List.set_cons_zero, List.set_cons_succ]
    refine wpAnyH_take (i := 56) (v := ?_) rfl (by kernel_rfl) (by kernel_rfl) (by kernel_rfl) (fun _ _ _ h => h) (Or.inl ⟨by rfl, ?_⟩) (by assumption) ?_
    rotate_left 1
    · (intro w hSw; (try dsimp only at hSw); first | (go_simp; done) | (go_simp; with_reducible rfl))
    try simp only [Act.put, List.getElem_toArray, List.getElem_cons_succ, List.getElem_cons_zero, List.setIfInBounds_toArray, List.set_cons_zero, List.set_cons_succ]
    refine wpAnyH_take (i := 57) (v := ?_) rfl (by kernel_rfl) (by kernel_rfl) (by kernel_rfl) (fun _ _ _ h => h) (Or.inl ⟨by rfl, ?_⟩) (by assumption) ?_
    rotate_left 1
    · (intro w hSw; (try dsimp only at hSw); first | (go_simp; done) | (go_simp; with_reducible rfl))
    try simp only [Act.put, List.getElem_toArray, List.getElem_cons_succ, List.getElem_cons_zero, List.setIfInBounds_toArray, List.set_cons_zero, List.set_cons_succ]
    refine wpAnyH_ready (rs := [58]) (by kernel_rfl) (by simp) ?_
    refine AllReadyH.cons rfl (fun K hK => ?_) AllReadyH.nil
    go_simp
    refine (apFar_any _ [] 0 _ (by exact HT.out.below HB.out) (by exact rul_nil _) (by decide) (by decide)).mono ?_
    intro e w36 hq; obtain ⟨rfl, hb36⟩ := FarR.yes ap8 _ _ hq; clear hq
    go_wp2_with fail
    refine hK.out _ _ ?_ (fun hHeld => ?_)
    · exact cells6x hb36 HS6.out
    clear hK K
    try simp only [Act.put, List.getElem_toArray, List.getElem_cons_succ, List.getElem_cons_zero, List.setIfInBounds_toArray, List.set_cons_zero, List.set_cons_succ]
    have HS6 := Lib.hid (cells6x hb36 HS6.out)
    have HL := Lib.hid (Rul.below HL.out hb36)
    have HB := Lib.hid (bel_trans HB.out hb36)
    clear hb36
    refine wpAnyH_take (i := 59) (v := ?_) rfl (by kernel_rfl) (by kernel_rfl) (by kernel_rfl) (fun _ _ _ h => h) (Or.inl ⟨by rfl, ?_⟩) (by assumption) ?_
    rotate_left 1
    · (intro w hSw; (try dsimp only at hSw); first | (go_simp; done) | (go_simp; with_reducible rfl))
    try simp only [Act.put, List.getElem_toArray, List.getElem_cons_succ, List.getElem_cons_zero, List.setIfInBounds_toArray, List.set_cons_zero, List.set_cons_succ]
    refine wpAnyH_take (i := 60) (v := ?_) rfl (by kernel_rfl) (by kernel_rfl) (by kernel_rfl) (fun _ _ _ h => h) (Or.inl ⟨by rfl, ?_⟩) (by assumption) ?_
    rotate_left 1
    · (intro w hSw; (try dsimp only at hSw); first | (go_simp; done) | (go_simp; with_reducible rfl))
    try simp only [Act.put, List.getElem_toArray, List.getElem_cons_succ, List.getElem_cons_zero, List.setIfInBounds_toArray, List.set_cons_zero, List.set_cons_succ]
    refine wpAnyH_done (by kernel_rfl) ?_ _
    go_wp2_with fail
    go_ret
    exact ⟨rfl, HB.out⟩
end Go.Proofs.YtghmdaahmijdiaaDoor
