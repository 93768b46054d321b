/-
  eras.Spans at zones whose eras, but the last one, have no rules.
-/
import Derived.Test.YtdppmeeobpbfnaaDoorErM
import Derived.Deep.DeepCutAuto
import Derived.Deep.AppendLies
namespace Go.Proofs.YtdppmeeobpbfnaaDoor
open Go.RowKit Cv
set_option linter.unusedVariables false
set_option linter.unusedSimpArgs false

namespace Cv
theorem alo {V : World} {b : Nat} {o o' : Obj} (h : V.heap[b]? = some o) : (V.alloc o').heap[b]? = some o := block_below h (bel_alloc V o')
theorem sz_alloc2 (V : World) (o : Obj) : (V.alloc o).heap.size = V.heap.size + 1 := by show (V.heap.push o).size = _; simp
theorem aln {V : World} {b : Nat} {o : Obj} (h : b = V.heap.size) : (V.alloc o).heap[b]? = some o := by subst h; exact heap_alloc_new V o
end Cv
set_option maxRecDepth 100000 in
set_option maxHeartbeats 2000000 in
theorem spansBad_any (A : Option Addr) (n cap : Nat) (ra la sa : Option Addr) (rn rc ln lc sn sc : Nat) (z : Int) (W : World) (hz : (n : Int) ≤ z) :
    Calls Tryd.prog 13 #[.agg #[.slice ra rn rc, .slice A n cap, .slice la ln lc, .slice sa sn sc], .int .i64 z] W fun e w' => e = .returned (.tuple #[.slice none 0 0, .int .i64 3]) ∧ Below W.heap.size W w' := by
  have h1 : ¬ z < 0 := by omega
  have h2 : decide ((n : Int) ≤ z) = true := by simp; omega
  go_enter Tryd.func13, Tryd.ntmps13
  go_wp2_with fail
  go_ret2
  exact ⟨rfl, bel_alloc _ _⟩

set_option maxRecDepth 100000 in
set_option maxHeartbeats 16000000 in
theorem spans_any (A : Option Addr) (n cap zi : Nat) (ra la sa : Option Addr) (rn rc ln lc sn sc : Nat) (zs : _root_.List (ByteArray × _root_.List Er)) (nm : ByteArray) (es : _root_.List Er) (W : World) (hT : Tabs W) (hZ : RdZo (.slice A n cap) zs W) (hz : zs[zi]? = some (nm, es)) (hn : n ≤ 1000) (hne : es.length ≤ 100)
    (hok : ∀ (i : Nat) (e : Er), i + 1 < es.length → es[i]? = some e → Ok0 e) :
    Calls Tryd.prog 13 #[.agg #[.slice ra rn rc, .slice A n cap, .slice la ln lc, .slice sa sn sc], .int .i64 (zi : Int)] W (SpansR (spansFrom (-9223372036854775808) 0 es) W) := by
  have HT := Lib.hid hT
  have HOK := Lib.hid hok
  obtain ⟨o, ho⟩ : ∃ o, spansFrom (-9223372036854775808) 0 es = o := ⟨_, rfl⟩
  rw [ho]
  have HOO := Lib.hid ho
  clear ho
  have hzn : zi < n := by
    obtain ⟨a, c, h1, h2⟩ := hZ
    injection h1 with h3 h4 h5
    rw [h4]; exact (_root_.List.getElem?_eq_some_iff.1 hz).1
  have hb0 : Below W.heap.size W (((W.alloc (.cells #[.slice ra rn rc, .slice A n cap, .slice la ln lc, .slice sa sn sc] 41)).alloc (.map #[] 0)).alloc (.cells #[.slice ra rn rc, .slice A n cap, .slice la ln lc, .slice sa sn sc, .map (some (W.heap.size + 1))] 80)) := bel_trans (bel_trans (bel_alloc W _) (bel_alloc _ _)) (bel_alloc _ _)
  have HB := Lib.hid hb0
  have KS := Lib.hid (show (((W.alloc (.cells #[.slice ra rn rc, .slice A n cap, .slice la ln lc, .slice sa sn sc] 41)).alloc (.map #[] 0)).alloc (.cells #[.slice ra rn rc, .slice A n cap, .slice la ln lc, .slice sa sn sc, .map (some (W.heap.size + 1))] 80)).heap[W.heap.size]? = some (.cells #[.slice ra rn rc, .slice A n cap, .slice la ln lc, .slice sa sn sc] 41) from alo (alo (aln (by simp))))
  have KB := Lib.hid (show (((W.alloc (.cells #[.slice ra rn rc, .slice A n cap, .slice la ln lc, .slice sa sn sc] 41)).alloc (.map #[] 0)).alloc (.cells #[.slice ra rn rc, .slice A n cap, .slice la ln lc, .slice sa sn sc, .map (some (W.heap.size + 1))] 80)).heap[W.heap.size + 1 + 1]? = some (.cells #[.slice ra rn rc, .slice A n cap, .slice la ln lc, .slice sa sn sc, .map (some (W.heap.size + 1))] 80) from aln (by simp))
  have HZ := Lib.hid (hZ.below hb0)
  have h1 : ¬ (zi : Int) < 0 := by omega
  have h2 : decide ((n : Int) ≤ (zi : Int)) = false := by simp; omega
  have h3 : (0 : Int) ≤ (zi : Int) := by omega
  have h4 : (zi : Int) < (n : Int) := by omega
  obtain ⟨i0, hi, hz0, hzs, hzb⟩ := info_parts infoSp
  have HI := Lib.hid (And.intro hi (And.intro hz0 (And.intro hzs hzb)))
  have HZI := Lib.hid hz
  obtain ⟨g, of_, vz, rfl, z0, z1, hE⟩ : ∃ g off vz, A = some ⟨g, off, none⟩ ∧ W.cell? ⟨g, off + zi * 2, none⟩ = some (.string nm) ∧ W.cell? ⟨g, off + zi * 2 + 1, none⟩ = some vz ∧ RdEr vz es W := by
    obtain ⟨a, c, q1, q2⟩ := hZ
    injection q1 with q3 q4 q5
    subst q3
    exact q2 zi _ hz
  obtain ⟨Ae, ce, rfl⟩ := hE.sl
  have HE0 := Lib.hid (hE.below hb0)
  have y1 := cell_below hb0 z1
  obtain ⟨m, hm⟩ : ∃ m, m = es.length := ⟨_, rfl⟩
  rw [← hm] at HE0 hne y1
  have HM := Lib.hid hm
  clear hT hZ hok hi hz0 hzs hzb hz hb0 z0 z1 hE hm
  have hmm := @run_makeMap Tryd.prog
  have x0 := cellB KS.out (i := 0) rfl
  have x1 := cellB KS.out (i := 1) rfl
  have x2 := cellB KS.out (i := 2) rfl
  have x3 := cellB KS.out (i := 3) rfl
  go_enter Tryd.func13, Tryd.ntmps13
  go_wp2_with fail
  go_quiet (fail)
  clear x0 x1 x2 x3 y1 KS
  have hbd := bel_drew (Below.refl (((W.alloc (.cells #[.slice ra rn rc, .slice (some ⟨g, of_, none⟩) n cap, .slice la ln lc, .slice sa sn sc] 41)).alloc (.map #[] 0)).alloc (.cells #[.slice ra rn rc, .slice (some ⟨g, of_, none⟩) n cap, .slice la ln lc, .slice sa sn sc, .map (some (W.heap.size + 1))] 80)).heap.size _) nq
  have HBW := Lib.hid (bel_trans HB.out hbd)
  have KB := Lib.hid (block_below KB.out hbd)
  have HE0 := Lib.hid (HE0.out.below hbd)
  obtain ⟨wb, hwb⟩ : ∃ wb : World, wb = (((W.alloc (.cells #[.slice ra rn rc, .slice (some ⟨g, of_, none⟩) n cap, .slice la ln lc, .slice sa sn sc] 41)).alloc (.map #[] 0)).alloc (.cells #[.slice ra rn rc, .slice (some ⟨g, of_, none⟩) n cap, .slice la ln lc, .slice sa sn sc, .map (some (W.heap.size + 1))] 80)).drewN nq := ⟨_, rfl⟩
  rw [← hwb] at HBW KB HE0 ⊢
  clear hwb hbd HB HZ
  have HW3 := Lib.hid (show W.heap.size ≤ wb.heap.size from HBW.out.size)
  have hw1 : IntKind.i64.wrap ((m : Int) - 1) = (m : Int) - 1 := IntWalk.i64_in _ (by omega)
  go_wp2_with fail
  go_loopw [7, 8, 35] (fun ov sv iv wr => ∃ (k : Nat) (st : Int) (acc : _root_.List Sp) (wq : World), k ≤ m ∧ iv = .int .i64 (k : Int) ∧ sv = .int .i64 st ∧ wr = wq ∧ -9223372036854775808 ≤ st ∧ st ≤ 9223372036854775807 ∧ acc.length = k ∧ Hid (Below wb.heap.size wb wq) ∧ Hid (wq.ownsRow wb.heap.size 26 3 ov acc.length (flatSp acc)) ∧ Hid (SpK es k st acc)) (fun _ _ iv _ => m - (intOf iv).toNat)
  case atStart => exact ⟨0, _, [], _, by omega, rfl, rfl, rfl, by omega, by omega, rfl, Lib.hid (Below.refl _ _), Lib.hid (by exact World.ownsRow_nil _ _ _ _), Lib.hid (spK_zero es)⟩
  case round =>
    obtain ⟨k, st, acc, wq, hk, rfl, rfl, rfl, st1, st2, hacc, H3, HO, HK⟩ := hrel
    by_cases hlt : k < m
    · obtain ⟨e, he⟩ : ∃ e, es[k]? = some e := ⟨_, _root_.List.getElem?_eq_getElem (by rw [← HM.out]; exact hlt)⟩
      have HEK := Lib.hid he
      obtain ⟨ge, oe, rfl, hrg⟩ := (HE0.out.below H3.out).at_ he
      obtain ⟨eo, ek, esv, et, ef, ei, ey, em, ed, ew, ea, ec, eb⟩ := e
      obtain ⟨c0, c1, c2, c3, c4, c5, c6, c7, c8, c9, c10, c11, c12⟩ := range13 hrg
      dsimp only at c0 c1 c2 c3 c4 c5 c6 c7 c8 c9 c10 c11 c12
      have hk0 : (0 : Int) ≤ (k : Int) := by omega
      have hk1 : (k : Int) < (m : Int) := by omega
      clear he hrg
      rcases (show k + 1 = m ∨ k + 1 < m by omega) with hlast | hmore
      · have hc1 : ¬ (k : Int) < (m : Int) - 1 := by omega
        have hc2 : decide ((k : Int) < (m : Int) - 1) = false := by simp; omega
        have HS := Lib.hid (spK_last HK.out HEK.out (by rw [← HM.out]; exact hlast))
        have hbe := bel_alloc wr (.cells #[.int .i64 eo, .int .i64 ek, .int .i64 esv, .string et, .string ef, .bool ei, .int .i64 ey, .int .i64 em, .int .i64 ed, .int .i64 ew, .int .i64 ea, .int .i64 ec, .int .i64 eb] 60)
        have H3 := Lib.hid (bel_trans H3.out hbe)
        have HO := Lib.hid (HO.out.alloc (.cells #[.int .i64 eo, .int .i64 ek, .int .i64 esv, .string et, .string ef, .bool ei, .int .i64 ey, .int .i64 em, .int .i64 ed, .int .i64 ew, .int .i64 ea, .int .i64 ec, .int .i64 eb] 60))
        have hws := sz_alloc2 wr (.cells #[.int .i64 eo, .int .i64 ek, .int .i64 esv, .string et, .string ef, .bool ei, .int .i64 ey, .int .i64 em, .int .i64 ed, .int .i64 ew, .int .i64 ea, .int .i64 ec, .int .i64 eb] 60)
        go_wp2_with (at_builtin; refine wpList_append_own _ rfl (.tmp 60) (.tmp 65) 22 rfl wb.heap.size 26 i0 (.agg #[.int .i64 0, .int .i64 0, .int .i64 0]) 3 24 Tryd.underlying22 HI.out.1 HI.out.2.1 HI.out.2.2.1 HI.out.2.2.2 rfl (by decide) _ _ _ rfl (HO.out.alloc _) ⟨wr.heap.size + 1, 0, none⟩ 1 1 [.int .i64 st, .int .i64 9223372036854775807, .int .i64 (k : Int)] rfl rfl (World.news_of_block (heap_alloc2_new _ _ _)) (by intro u hu; simp at hu; rcases hu with rfl | rfl | rfl <;> rfl) (by unfold maxLen; omega) (by omega) (by have := H3.out.size; simp at this ⊢; omega) ?_; intro v1 w3 hown3 hgrow3 hnil3)
        go_round
        case rel => exact ⟨k + 1, 9223372036854775807, acc ++ [⟨st, 9223372036854775807, (k : Int)⟩], _, by omega, by go_num, rfl, rfl, by omega, by omega, by rw [_root_.List.length_append, hacc]; rfl, Lib.hid (Below.grown (bel_trans H3.out (bel_alloc _ _)) hgrow3 (by have := H3.out.size; simp at this ⊢; omega) (fun q hq => (HO.out.lt q (by exact hq)).1)), Lib.hid (by rw [flatSp_app, _root_.List.length_append]; exact hown3), HS⟩
        case measure => simp [intOf]; omega
      · have hc1 : (k : Int) < (m : Int) - 1 := by omega
        have hc2 : decide ((k : Int) < (m : Int) - 1) = true := by simp; omega
        have hok := HOK.out k _ (by rw [← HM.out]; exact hmore) HEK.out
        have hek : ek = 0 := hok.k
        subst hek
        have hei : ei = true := hok.is
        subst hei
        obtain ⟨t1, t2⟩ := instE_bd hok
        have HOKE := Lib.hid hok
        obtain ⟨tt, htt⟩ : ∃ tt, instE ⟨eo, 0, esv, et, ef, true, ey, em, ed, ew, ea, ec, eb⟩ = tt := ⟨_, rfl⟩
        rw [htt] at t1 t2
        have HTT := Lib.hid htt
        clear htt hok
        have hbe := bel_alloc wr (.cells #[.int .i64 eo, .int .i64 0, .int .i64 esv, .string et, .string ef, .bool true, .int .i64 ey, .int .i64 em, .int .i64 ed, .int .i64 ew, .int .i64 ea, .int .i64 ec, .int .i64 eb] 60)
        have H3 := Lib.hid (bel_trans H3.out hbe)
        have HO := Lib.hid (HO.out.alloc (.cells #[.int .i64 eo, .int .i64 0, .int .i64 esv, .string et, .string ef, .bool true, .int .i64 ey, .int .i64 em, .int .i64 ed, .int .i64 ew, .int .i64 ea, .int .i64 ec, .int .i64 eb] 60))
        have KE := Lib.hid (heap_alloc_new wr (.cells #[.int .i64 eo, .int .i64 0, .int .i64 esv, .string et, .string ef, .bool true, .int .i64 ey, .int .i64 em, .int .i64 ed, .int .i64 ew, .int .i64 ea, .int .i64 ec, .int .i64 eb] 60))
        have HB := Lib.hid (bel_trans HBW.out H3.out)
        have KBr := Lib.hid (block_below KB.out H3.out)
        clear hbe
        go_wp2_with fail
        clear c0 c1 c2 c3 c4 c5 c6 c7 c8 c9 c10 c11 c12
        have hbd : Below (wr.alloc (.cells #[.int .i64 eo, .int .i64 0, .int .i64 esv, .string et, .string ef, .bool true, .int .i64 ey, .int .i64 em, .int .i64 ed, .int .i64 ew, .int .i64 ea, .int .i64 ec, .int .i64 eb] 60)).heap.size (wr.alloc (.cells #[.int .i64 eo, .int .i64 0, .int .i64 esv, .string et, .string ef, .bool true, .int .i64 ey, .int .i64 em, .int .i64 ed, .int .i64 ew, .int .i64 ea, .int .i64 ec, .int .i64 eb] 60)) (wr.alloc (.cells #[.int .i64 eo, .int .i64 0, .int .i64 esv, .string et, .string ef, .bool true, .int .i64 ey, .int .i64 em, .int .i64 ed, .int .i64 ew, .int .i64 ea, .int .i64 ec, .int .i64 eb] 60)).drew := Below.drew (Below.refl _ _)
        have HB := Lib.hid (bel_trans HB.out hbd)
        have KE := Lib.hid (block_below KE.out hbd)
        have KBr := Lib.hid (block_below KBr.out hbd)
        have H3 := Lib.hid (bel_trans H3.out hbd)
        have HO := Lib.hid (own_below17 HO.out hbd)
        clear hbd
        go_wp2_with fail
        refine wp_region_held_drew (S := (fun w' => w'.cell? ⟨wr.heap.size, 0, none⟩ = some (.int .i64 eo) ∧ w'.cell? ⟨wr.heap.size, 1, none⟩ = some (.int .i64 0) ∧ w'.cell? ⟨wr.heap.size, 2, none⟩ = some (.int .i64 esv) ∧ w'.cell? ⟨wr.heap.size, 3, none⟩ = some (.string et) ∧ w'.cell? ⟨wr.heap.size, 4, none⟩ = some (.string ef) ∧ w'.cell? ⟨wr.heap.size, 5, none⟩ = some (.bool true) ∧ w'.cell? ⟨wr.heap.size, 6, none⟩ = some (.int .i64 ey) ∧ w'.cell? ⟨wr.heap.size, 7, none⟩ = some (.int .i64 em) ∧ w'.cell? ⟨wr.heap.size, 8, none⟩ = some (.int .i64 ed) ∧ w'.cell? ⟨wr.heap.size, 9, none⟩ = some (.int .i64 ew) ∧ w'.cell? ⟨wr.heap.size, 10, none⟩ = some (.int .i64 ea) ∧ w'.cell? ⟨wr.heap.size, 11, none⟩ = some (.int .i64 ec) ∧ w'.cell? ⟨wr.heap.size, 12, none⟩ = some (.int .i64 eb) ∧ w'.cell? ⟨W.heap.size + 1 + 1, 0, none⟩ = some (.slice ra rn rc) ∧ w'.cell? ⟨W.heap.size + 1 + 1, 1, none⟩ = some (.slice (some ⟨g, of_, none⟩) n cap) ∧ w'.cell? ⟨W.heap.size + 1 + 1, 2, none⟩ = some (.slice la ln lc) ∧ w'.cell? ⟨W.heap.size + 1 + 1, 3, none⟩ = some (.slice sa sn sc) ∧ w'.cell? ⟨W.heap.size + 1 + 1, 4, none⟩ = some (.map (some (W.heap.size + 1))))) (by kernel_rfl) (by exact ⟨cellB (block_below KE.out (Below.refl _ _)) (i := 0) rfl, cellB (block_below KE.out (Below.refl _ _)) (i := 1) rfl, cellB (block_below KE.out (Below.refl _ _)) (i := 2) rfl, cellB (block_below KE.out (Below.refl _ _)) (i := 3) rfl, cellB (block_below KE.out (Below.refl _ _)) (i := 4) rfl, cellB (block_below KE.out (Below.refl _ _)) (i := 5) rfl, cellB (block_below KE.out (Below.refl _ _)) (i := 6) rfl, cellB (block_below KE.out (Below.refl _ _)) (i := 7) rfl, cellB (block_below KE.out (Below.refl _ _)) (i := 8) rfl, cellB (block_below KE.out (Below.refl _ _)) (i := 9) rfl, cellB (block_below KE.out (Below.refl _ _)) (i := 10) rfl, cellB (block_below KE.out (Below.refl _ _)) (i := 11) rfl, cellB (block_below KE.out (Below.refl _ _)) (i := 12) rfl, cellB (block_below KBr.out (Below.refl _ _)) (i := 0) rfl, cellB (block_below KBr.out (Below.refl _ _)) (i := 1) rfl, cellB (block_below KBr.out (Below.refl _ _)) (i := 2) rfl, cellB (block_below KBr.out (Below.refl _ _)) (i := 3) rfl, cellB (block_below KBr.out (Below.refl _ _)) (i := 4) rfl⟩) (fun hHeld => ?_)
        refine wpAnyH_take (i := 0) (v := ?_) rfl (by kernel_rfl) (by kernel_rfl) (by kernel_rfl) (fun _ _ _ h => h) (Or.inl ⟨by rfl, ?_⟩) (by assumption) ?_
        rotate_left 1
        · (intro w hSw; (try dsimp only at hSw); first | (go_simp; done) | (go_simp; with_reducible rfl))
        try simp only [Act.put, List.getElem_toArray, List.getElem_cons_succ, List.getElem_cons_zero, List.setIfInBounds_toArray, List.set_cons_zero, List.set_cons_succ]
        refine wpAnyH_take (i := 1) (v := ?_) rfl (by kernel_rfl) (by kernel_rfl) (by kernel_rfl) (fun _ _ _ h => h) (Or.inl ⟨by rfl, ?_⟩) (by assumption) ?_
        rotate_left 1
        · (intro w hSw; (try dsimp only at hSw); first | (go_simp; done) | (go_simp; with_reducible rfl))
        try simp only [Act.put, List.getElem_toArray, List.getElem_cons_succ, List.getElem_cons_zero, List.setIfInBounds_toArray, List.set_cons_zero, List.set_cons_succ]
        refine wpAnyH_take (i := 2) (v := ?_) rfl (by kernel_rfl) (by kernel_rfl) (by kernel_rfl) (fun _ _ _ h => h) (Or.inl ⟨by rfl, ?_⟩) (by assumption) ?_
        rotate_left 1
        · (intro w hSw; (try dsimp only at hSw); first | (go_simp; done) | (go_simp; with_reducible rfl))
        try simp only [Act.put, List.getElem_toArray, List.getElem_cons_succ, List.getElem_cons_zero, List.setIfInBounds_toArray, List.set_cons_zero, List.set_cons_succ]
        refine wpAnyH_ready (rs := [3]) (by kernel_rfl) (by simp) ?_
        refine AllReadyH.cons rfl (fun K hK => ?_) AllReadyH.nil
        go_simp
        refine (rules0_any _ _ _ _ _ eo esv et ef true ey em ed ew ea ec eb _).mono ?_
        rintro e w20 ⟨rfl, hb20⟩
        go_wp2_with fail
        refine hK.out _ _ ?_ (fun hHeld => ?_)
        · exact ⟨cellB (block_below KE.out hb20) (i := 0) rfl, cellB (block_below KE.out hb20) (i := 1) rfl, cellB (block_below KE.out hb20) (i := 2) rfl, cellB (block_below KE.out hb20) (i := 3) rfl, cellB (block_below KE.out hb20) (i := 4) rfl, cellB (block_below KE.out hb20) (i := 5) rfl, cellB (block_below KE.out hb20) (i := 6) rfl, cellB (block_below KE.out hb20) (i := 7) rfl, cellB (block_below KE.out hb20) (i := 8) rfl, cellB (block_below KE.out hb20) (i := 9) rfl, cellB (block_below KE.out hb20) (i := 10) rfl, cellB (block_below KE.out hb20) (i := 11) rfl, cellB (block_below KE.out hb20) (i := 12) rfl, cellB (block_below KBr.out hb20) (i := 0) rfl, cellB (block_below KBr.out hb20) (i := 1) rfl, cellB (block_below KBr.out hb20) (i := 2) rfl, cellB (block_below KBr.out hb20) (i := 3) rfl, cellB (block_below KBr.out hb20) (i := 4) rfl⟩
        clear hK K
        try simp only [Act.put, List.getElem_toArray, List.getElem_cons_succ, List.getElem_cons_zero, List.setIfInBounds_toArray, List.set_cons_zero, List.set_cons_succ]
        have HB := Lib.hid (bel_trans HB.out hb20)
        have KE := Lib.hid (block_below KE.out hb20)
        have KBr := Lib.hid (block_below KBr.out hb20)
        have H3 := Lib.hid (bel_trans H3.out hb20)
        have HO := Lib.hid (own_below17 HO.out hb20)
        refine wpAnyH_ready (rs := [4]) (by kernel_rfl) (by simp) ?_
        refine AllReadyH.cons rfl (fun K hK => ?_) AllReadyH.nil
        go_simp
        refine (inst0_any eo esv et ef ey em ed ew ea ec eb _ _ (by exact HT.out.below HB.out) HOKE.out).mono ?_
        rw [HTT.out]; rintro e w21 ⟨rfl, hb21⟩
        go_wp2_with fail
        refine hK.out _ _ ?_ (fun hHeld => ?_)
        · exact ⟨cellB (block_below KE.out hb21) (i := 0) rfl, cellB (block_below KE.out hb21) (i := 1) rfl, cellB (block_below KE.out hb21) (i := 2) rfl, cellB (block_below KE.out hb21) (i := 3) rfl, cellB (block_below KE.out hb21) (i := 4) rfl, cellB (block_below KE.out hb21) (i := 5) rfl, cellB (block_below KE.out hb21) (i := 6) rfl, cellB (block_below KE.out hb21) (i := 7) rfl, cellB (block_below KE.out hb21) (i := 8) rfl, cellB (block_below KE.out hb21) (i := 9) rfl, cellB (block_below KE.out hb21) (i := 10) rfl, cellB (block_below KE.out hb21) (i := 11) rfl, cellB (block_below KE.out hb21) (i := 12) rfl, cellB (block_below KBr.out hb21) (i := 0) rfl, cellB (block_below KBr.out hb21) (i := 1) rfl, cellB (block_below KBr.out hb21) (i := 2) rfl, cellB (block_below KBr.out hb21) (i := 3) rfl, cellB (block_below KBr.out hb21) (i := 4) rfl⟩
        clear hK K
        try simp only [Act.put, List.getElem_toArray, List.getElem_cons_succ, List.getElem_cons_zero, List.setIfInBounds_toArray, List.set_cons_zero, List.set_cons_succ]
        have HB := Lib.hid (bel_trans HB.out hb21)
        have KE := Lib.hid (block_below KE.out hb21)
        have KBr := Lib.hid (block_below KBr.out hb21)
        have H3 := Lib.hid (bel_trans H3.out hb21)
        have HO := Lib.hid (own_below17 HO.out hb21)
        refine wpAnyH_take (i := 5) (v := ?_) rfl (by kernel_rfl) (by kernel_rfl) (by kernel_rfl) (fun _ _ _ h => h) (Or.inl ⟨by rfl, ?_⟩) (by assumption) ?_
        rotate_left 1
        · (intro w hSw; (try dsimp only at hSw); first | (go_simp; done) | (go_simp; with_reducible rfl))
        try simp only [Act.put, List.getElem_toArray, List.getElem_cons_succ, List.getElem_cons_zero, List.setIfInBounds_toArray, List.set_cons_zero, List.set_cons_succ]
        refine wpAnyH_take (i := 6) (v := ?_) rfl (by kernel_rfl) (by kernel_rfl) (by kernel_rfl) (fun _ _ _ h => h) (Or.inl ⟨by rfl, ?_⟩) (by assumption) ?_
        rotate_left 1
        · (intro w hSw; (try dsimp only at hSw); first | (go_simp; done) | (go_simp; with_reducible rfl))
        try simp only [Act.put, List.getElem_toArray, List.getElem_cons_succ, List.getElem_cons_zero, List.setIfInBounds_toArray, List.set_cons_zero, List.set_cons_succ]
        refine wpAnyH_take (i := 7) (v := ?_) rfl (by kernel_rfl) (by kernel_rfl) (by kernel_rfl) (fun _ _ _ h => h) (Or.inl ⟨by rfl, ?_⟩) (by assumption) ?_
        rotate_left 1
        · (intro w hSw; (try dsimp only at hSw); first | (go_simp; done) | (go_simp; with_reducible rfl))
        try simp only [Act.put, List.getElem_toArray, List.getElem_cons_succ, List.getElem_cons_zero, List.setIfInBounds_toArray, List.set_cons_zero, List.set_cons_succ]
        refine wpAnyH_take (i := 8) (v := ?_) rfl (by kernel_rfl) (by kernel_rfl) (by kernel_rfl) (fun _ _ _ h => h) (Or.inl ⟨by rfl, ?_⟩) (by assumption) ?_
        rotate_left 1
        · (intro w hSw; (try dsimp only at hSw); first | (go_simp; done) | (go_simp; with_reducible rfl))
        try simp only [Act.put, List.getElem_toArray, List.getElem_cons_succ, List.getElem_cons_zero, List.setIfInBounds_toArray, List.set_cons_zero, List.set_cons_succ]
        refine wpAnyH_take (i := 9) (v := ?_) rfl (by kernel_rfl) (by kernel_rfl) (by kernel_rfl) (fun _ _ _ h => h) (Or.inl ⟨by rfl, ?_⟩) (by assumption) ?_
        rotate_left 1
        · (intro w hSw; (try dsimp only at hSw); first | (go_simp; done) | (go_simp; with_reducible rfl))
        try simp only [Act.put, List.getElem_toArray, List.getElem_cons_succ, List.getElem_cons_zero, List.setIfInBounds_toArray, List.set_cons_zero, List.set_cons_succ]
        refine wpAnyH_done (by kernel_rfl) ?_ _
        rcases Int.lt_or_le st tt with hst | hst
        · have hst1 : ¬ tt ≤ st := by omega
          have hst2 : decide (tt ≤ st) = false := by simp; omega
          have HS := Lib.hid (show SpK es (k + 1) tt (acc ++ [⟨st, tt, (k : Int)⟩]) by rw [← HTT.out]; exact spK_more HK.out HEK.out (by rw [← HM.out]; exact hmore) (by rw [HTT.out]; exact hst))
          go_wp2_with (at_builtin; refine wpList_append_own _ rfl (.tmp 60) (.tmp 65) 22 rfl wb.heap.size 26 i0 (.agg #[.int .i64 0, .int .i64 0, .int .i64 0]) 3 24 Tryd.underlying22 HI.out.1 HI.out.2.1 HI.out.2.2.1 HI.out.2.2.2 rfl (by decide) _ _ _ rfl (HO.out.alloc _) ⟨w21.heap.size, 0, none⟩ 1 1 [.int .i64 st, .int .i64 tt, .int .i64 (k : Int)] rfl rfl (World.news_of_block (heap_alloc_new _ _)) (by intro u hu; simp at hu; rcases hu with rfl | rfl | rfl <;> rfl) (by unfold maxLen; omega) (by omega) (by have := H3.out.size; simp at this ⊢; omega) ?_; intro v1 w3 hown3 hgrow3 hnil3)
          go_round
          case rel => exact ⟨k + 1, tt, acc ++ [⟨st, tt, (k : Int)⟩], _, by omega, by go_num, rfl, rfl, by omega, by omega, by rw [_root_.List.length_append, hacc]; rfl, Lib.hid (Below.grown (bel_trans H3.out (bel_alloc _ _)) hgrow3 (by have := H3.out.size; simp at this ⊢; omega) (fun q hq => (HO.out.lt q (by exact hq)).1)), Lib.hid (by rw [flatSp_app, _root_.List.length_append]; exact hown3), HS⟩
          case measure => simp [intOf]; omega
        · have hst2 : decide (tt ≤ st) = true := by simp; omega
          have ho : o = none := by rw [← HOO.out]; exact spK_no HK.out HEK.out (by rw [← HM.out]; exact hmore) (by rw [HTT.out]; exact hst)
          subst ho
          go_wp2_with fail
          go_ret2
          exact ⟨rfl, bel_trans HBW.out H3.out⟩
    · obtain rfl : k = m := by omega
      have HF := Lib.hid (show spansFrom (-9223372036854775808) 0 es = some acc by have h := HK.out; rw [HM.out] at h; exact spK_end h)
      have ho : o = some acc := by rw [← HOO.out]; exact HF.out
      subst ho
      go_wp2_with fail
      go_ret2
      exact ⟨_, rfl, RdSp.own HO.out, bel_trans HBW.out H3.out⟩
end Go.Proofs.YtdppmeeobpbfnaaDoor
