/-
  eras.Spans at zones whose eras, but the last one, are right.
-/
import Derived.Test.YtdppmeeobpbfnaaDoorErBkB
import Derived.Deep.DeepCutAuto
import Derived.Deep.AppendLies
namespace Go.Proofs.YtdppmeeobpbfnaaDoor
open Go.RowKit Cv
set_option linter.unusedVariables false
set_option linter.unusedSimpArgs false

set_option maxRecDepth 100000 in
set_option maxHeartbeats 16000000 in
theorem spansG_any (A : Option Addr) (n cap zi : Nat) (ra la sa : Option Addr) (rn rc ln lc sn sc : Nat) (rs : _root_.List Ru) (zs : _root_.List (ByteArray × _root_.List Er)) (nm : ByteArray) (es : _root_.List Er) (W : World) (hT : Tabs W) (hRs : Rul (.slice ra rn rc) rs W) (hZ : RdZo (.slice A n cap) zs W) (hz : zs[zi]? = some (nm, es)) (hn : n ≤ 1000) (hne : es.length ≤ 100) (hn0 : 0 < es.length)
    (hok : ∀ (i : Nat) (e : Er), i + 1 < es.length → es[i]? = some e → OkE e (ofS e.set rs) ∧ e.set.size ≤ 1000) :
    Calls Tryd.prog 13 #[.agg #[.slice ra rn rc, .slice A n cap, .slice la ln lc, .slice sa sn sc], .int .i64 (zi : Int)] W (SpanG es rs W) := by
  have HT := Lib.hid hT
  have HOK := Lib.hid hok
  have hzn : zi < n := by
    obtain ⟨a, c, h1, h2⟩ := hZ
    injection h1 with h3 h4 h5
    rw [h4]; exact (_root_.List.getElem?_eq_some_iff.1 hz).1
  have hb0 : Below W.heap.size W (((W.alloc (.cells #[.slice ra rn rc, .slice A n cap, .slice la ln lc, .slice sa sn sc] 41)).alloc (.map #[] 0)).alloc (.cells #[.slice ra rn rc, .slice A n cap, .slice la ln lc, .slice sa sn sc, .map (some (W.heap.size + 1))] 80)) := bel_trans (bel_trans (bel_alloc W _) (bel_alloc _ _)) (bel_alloc _ _)
  have HB := Lib.hid hb0
  have KS := Lib.hid (show (((W.alloc (.cells #[.slice ra rn rc, .slice A n cap, .slice la ln lc, .slice sa sn sc] 41)).alloc (.map #[] 0)).alloc (.cells #[.slice ra rn rc, .slice A n cap, .slice la ln lc, .slice sa sn sc, .map (some (W.heap.size + 1))] 80)).heap[W.heap.size]? = some (.cells #[.slice ra rn rc, .slice A n cap, .slice la ln lc, .slice sa sn sc] 41) from alo (alo (aln (by simp))))
  have KB := Lib.hid (show (((W.alloc (.cells #[.slice ra rn rc, .slice A n cap, .slice la ln lc, .slice sa sn sc] 41)).alloc (.map #[] 0)).alloc (.cells #[.slice ra rn rc, .slice A n cap, .slice la ln lc, .slice sa sn sc, .map (some (W.heap.size + 1))] 80)).heap[W.heap.size + 1 + 1]? = some (.cells #[.slice ra rn rc, .slice A n cap, .slice la ln lc, .slice sa sn sc, .map (some (W.heap.size + 1))] 80) from aln (by simp))
  have HZ := Lib.hid (hZ.below hb0)
  have HRU0 := Lib.hid hRs
  have HBK0 := Lib.hid (show Book (W.heap.size + 1) 0 rs (((W.alloc (.cells #[.slice ra rn rc, .slice A n cap, .slice la ln lc, .slice sa sn sc] 41)).alloc (.map #[] 0)).alloc (.cells #[.slice ra rn rc, .slice A n cap, .slice la ln lc, .slice sa sn sc, .map (some (W.heap.size + 1))] 80)) by have h := Book.made (W.alloc (.cells #[.slice ra rn rc, .slice A n cap, .slice la ln lc, .slice sa sn sc] 41)) rs; rw [sz_alloc2] at h; exact h.below (bel_alloc _ _))
  have h1 : ¬ (zi : Int) < 0 := by omega
  have h2 : decide ((n : Int) ≤ (zi : Int)) = false := by simp; omega
  have h3 : (0 : Int) ≤ (zi : Int) := by omega
  have h4 : (zi : Int) < (n : Int) := by omega
  obtain ⟨i0, hi, hz0, hzs, hzb⟩ := info_parts infoSp
  have HI := Lib.hid (And.intro hi (And.intro hz0 (And.intro hzs hzb)))
  have HZI := Lib.hid hz
  obtain ⟨g, of_, vz, rfl, z0, z1, hE⟩ : ∃ g off vz, A = some ⟨g, off, none⟩ ∧ W.cell? ⟨g, off + zi * 2, none⟩ = some (.string nm) ∧ W.cell? ⟨g, off + zi * 2 + 1, none⟩ = some vz ∧ RdEr vz es W := by
    obtain ⟨a, c, q1, q2⟩ := hZ
    injection q1 with q3 q4 q5
    subst q3
    exact q2 zi _ hz
  obtain ⟨Ae, ce, rfl⟩ := hE.sl
  have HE0 := Lib.hid hE
  have y1 := cell_below hb0 z1
  obtain ⟨m, hm⟩ : ∃ m, m = es.length := ⟨_, rfl⟩
  rw [← hm] at HE0 hne y1 hn0
  have HM := Lib.hid hm
  clear hRs hT hZ hok hi hz0 hzs hzb hz hb0 z0 z1 hE hm
  have hmm := @run_makeMap Tryd.prog
  have x0 := cellB KS.out (i := 0) rfl
  have x1 := cellB KS.out (i := 1) rfl
  have x2 := cellB KS.out (i := 2) rfl
  have x3 := cellB KS.out (i := 3) rfl
  go_enter Tryd.func13, Tryd.ntmps13
  go_wp2_with fail
  go_quiet (fail)
  clear x0 x1 x2 x3 y1 KS
  have hbd := bel_drew (Below.refl (((W.alloc (.cells #[.slice ra rn rc, .slice (some ⟨g, of_, none⟩) n cap, .slice la ln lc, .slice sa sn sc] 41)).alloc (.map #[] 0)).alloc (.cells #[.slice ra rn rc, .slice (some ⟨g, of_, none⟩) n cap, .slice la ln lc, .slice sa sn sc, .map (some (W.heap.size + 1))] 80)).heap.size _) nq
  have HBW := Lib.hid (bel_trans HB.out hbd)
  have KB := Lib.hid (block_below KB.out hbd)
  have HBK := Lib.hid (HBK0.out.below hbd)
  clear HBK0
  obtain ⟨wb, hwb⟩ : ∃ wb : World, wb = (((W.alloc (.cells #[.slice ra rn rc, .slice (some ⟨g, of_, none⟩) n cap, .slice la ln lc, .slice sa sn sc] 41)).alloc (.map #[] 0)).alloc (.cells #[.slice ra rn rc, .slice (some ⟨g, of_, none⟩) n cap, .slice la ln lc, .slice sa sn sc, .map (some (W.heap.size + 1))] 80)).drewN nq := ⟨_, rfl⟩
  rw [← hwb] at HBW KB HBK ⊢
  have hmbw : W.heap.size + 1 + 1 < wb.heap.size := (Array.getElem?_eq_some_iff.1 KB.out).1
  clear hwb hbd HB HZ
  have HW3 := Lib.hid (show W.heap.size ≤ wb.heap.size from HBW.out.size)
  have hw1 : IntKind.i64.wrap ((m : Int) - 1) = (m : Int) - 1 := IntWalk.i64_in _ (by omega)
  go_wp2_with fail
  go_loopw [7, 8, 35] (fun ov sv iv wr => ∃ (k : Nat) (st : Int) (acc : _root_.List Sp) (wq : World), k ≤ m ∧ iv = .int .i64 (k : Int) ∧ sv = .int .i64 st ∧ wr = wq ∧ -9223372036854775808 ≤ st ∧ st ≤ 9223372036854775807 ∧ acc.length = k ∧ Hid (Below W.heap.size W wq) ∧ Hid (wb.heap.size ≤ wq.heap.size) ∧ Hid (wq.heap[W.heap.size + 1 + 1]? = some (.cells #[.slice ra rn rc, .slice (some ⟨g, of_, none⟩) n cap, .slice la ln lc, .slice sa sn sc, .map (some (W.heap.size + 1))] 80)) ∧ Hid (Book (W.heap.size + 1) k rs wq) ∧ Hid (wq.ownsRow wb.heap.size 26 3 ov acc.length (flatSp acc)) ∧ Hid (SpJ es rs m k st acc)) (fun _ _ iv _ => m - (intOf iv).toNat)
  case atStart => exact ⟨0, _, [], _, by omega, rfl, rfl, rfl, by omega, by omega, rfl, HBW, Lib.hid (Nat.le_refl _), KB, HBK, Lib.hid (by exact World.ownsRow_nil _ _ _ _), Lib.hid (spJ_zero (by omega))⟩
  case round =>
    clear KB HBK
    obtain ⟨k, st, acc, wq, hk, rfl, rfl, rfl, st1, st2, hacc, HB, HLE, KBr, HBK, HO, HK⟩ := hrel
    by_cases hlt : k < m
    · obtain ⟨e, he⟩ : ∃ e, es[k]? = some e := ⟨_, _root_.List.getElem?_eq_getElem (by rw [← HM.out]; exact hlt)⟩
      have HEK := Lib.hid he
      obtain ⟨ge, oe, rfl, hrg⟩ := (HE0.out.below HB.out).at_ he
      obtain ⟨eo, ek, esv, et, ef, ei, ey, em, ed, ew, ea, ec, eb⟩ := e
      obtain ⟨c0, c1, c2, c3, c4, c5, c6, c7, c8, c9, c10, c11, c12⟩ := range13 hrg
      dsimp only at c0 c1 c2 c3 c4 c5 c6 c7 c8 c9 c10 c11 c12
      have hk0 : (0 : Int) ≤ (k : Int) := by omega
      have hk1 : (k : Int) < (m : Int) := by omega
      clear he hrg
      rcases (show k + 1 = m ∨ k + 1 < m by omega) with hlast | hmore
      · have hc1 : ¬ (k : Int) < (m : Int) - 1 := by omega
        have hc2 : decide ((k : Int) < (m : Int) - 1) = false := by simp; omega
        have HS := Lib.hid (spJ_last HK.out hlast)
        have hbe := bel_alloc wr (.cells #[.int .i64 eo, .int .i64 ek, .int .i64 esv, .string et, .string ef, .bool ei, .int .i64 ey, .int .i64 em, .int .i64 ed, .int .i64 ew, .int .i64 ea, .int .i64 ec, .int .i64 eb] 60)
        have hbe2 := bel_trans hbe (bel_alloc _ (.cells #[.int .i64 st, .int .i64 9223372036854775807, .int .i64 (k : Int)] 26))
        have HO := Lib.hid (own_below17 HO.out hbe2)
        have hle := Nat.le_trans HLE.out hbe2.size
        go_wp2_with (at_builtin; refine wpList_append_own _ rfl (.tmp 60) (.tmp 65) 22 rfl wb.heap.size 26 i0 (.agg #[.int .i64 0, .int .i64 0, .int .i64 0]) 3 24 Tryd.underlying22 HI.out.1 HI.out.2.1 HI.out.2.2.1 HI.out.2.2.2 rfl (by decide) _ _ _ rfl HO.out ⟨wr.heap.size + 1, 0, none⟩ 1 1 [.int .i64 st, .int .i64 9223372036854775807, .int .i64 (k : Int)] rfl rfl (World.news_of_block (heap_alloc2_new _ _ _)) (by intro u hu; simp at hu; rcases hu with rfl | rfl | rfl <;> rfl) (by unfold maxLen; omega) (by omega) hle ?_; intro v1 w3 hown3 hgrow3 hnil3)
        have hrow : ∀ q, Value.ownBlock _ = some q → wb.heap.size ≤ q := fun q hq => (HO.out.lt q hq).1
        go_round
        case rel => exact ⟨k + 1, 9223372036854775807, acc ++ [⟨st, 9223372036854775807, (k : Int)⟩], _, by omega, by go_num, rfl, rfl, by omega, by omega, by rw [_root_.List.length_append, hacc]; rfl, Lib.hid (Below.grown (bel_trans HB.out hbe2) hgrow3 (by have := HB.out.size; have := hbe2.size; omega) (fun q hq => by have := hrow q hq; omega)), Lib.hid (Nat.le_trans hle hgrow3.size), Lib.hid ((hgrow3.block _ (bk2m (block_below KBr.out hbe2)) (fun e => by have := hrow _ e.symm; omega)).trans (block_below KBr.out hbe2)), Lib.hid (((HBK.out.below hbe2).grownO hgrow3 (fun q hq => by obtain ⟨p1, cur, p2⟩ := own_typ HO.out q hq; exact ⟨by omega, _, cur, p2, by decide⟩)).up), Lib.hid (by rw [flatSp_app, _root_.List.length_append]; exact hown3), HS⟩
        case measure => simp [intOf]; omega
      · have hc1 : (k : Int) < (m : Int) - 1 := by omega
        have hc2 : decide ((k : Int) < (m : Int) - 1) = true := by simp; omega
        obtain ⟨hok, hset⟩ := HOK.out k _ (by rw [← HM.out]; exact hmore) HEK.out
        have HOKE := Lib.hid hok
        have hei : ei = true := hok.1
        subst hei
        have hset' : et.size ≤ 1000 := hset
        have hbe := bel_alloc wr (.cells #[.int .i64 eo, .int .i64 ek, .int .i64 esv, .string et, .string ef, .bool true, .int .i64 ey, .int .i64 em, .int .i64 ed, .int .i64 ew, .int .i64 ea, .int .i64 ec, .int .i64 eb] 60)
        have KE := Lib.hid (heap_alloc_new wr (.cells #[.int .i64 eo, .int .i64 ek, .int .i64 esv, .string et, .string ef, .bool true, .int .i64 ey, .int .i64 em, .int .i64 ed, .int .i64 ew, .int .i64 ea, .int .i64 ec, .int .i64 eb] 60))
        replace HB := Lib.hid (bel_trans HB.out hbe)
        replace KBr := Lib.hid (block_below KBr.out hbe)
        replace HBK := Lib.hid (HBK.out.below hbe)
        replace HO := Lib.hid (own_below17 HO.out hbe)
        replace HLE := Lib.hid (Nat.le_trans HLE.out hbe.size)
        clear hok hset
        have hew : W.heap.size + 1 < wr.heap.size := by have := (Array.getElem?_eq_some_iff.1 KBr.out).1; have h2 := HLE.out; have h3 := hmbw; rw [sz_alloc2] at h2; omega
        clear hbe
        go_wp2_with fail
        clear c0 c1 c2 c3 c4 c5 c6 c7 c8 c9 c10 c11 c12
        have hbd : Below (wr.alloc (.cells #[.int .i64 eo, .int .i64 ek, .int .i64 esv, .string et, .string ef, .bool true, .int .i64 ey, .int .i64 em, .int .i64 ed, .int .i64 ew, .int .i64 ea, .int .i64 ec, .int .i64 eb] 60)).heap.size (wr.alloc (.cells #[.int .i64 eo, .int .i64 ek, .int .i64 esv, .string et, .string ef, .bool true, .int .i64 ey, .int .i64 em, .int .i64 ed, .int .i64 ew, .int .i64 ea, .int .i64 ec, .int .i64 eb] 60)) (wr.alloc (.cells #[.int .i64 eo, .int .i64 ek, .int .i64 esv, .string et, .string ef, .bool true, .int .i64 ey, .int .i64 em, .int .i64 ed, .int .i64 ew, .int .i64 ea, .int .i64 ec, .int .i64 eb] 60)).drew := Below.drew (Below.refl _ _)
        have HB := Lib.hid (bel_trans HB.out hbd)
        have KE := Lib.hid (block_below KE.out hbd)
        have KBr := Lib.hid (block_below KBr.out hbd)
        have HBK := Lib.hid (HBK.out.below hbd)
        have HO := Lib.hid (own_below17 HO.out hbd)
        have HLE := Lib.hid (Nat.le_trans HLE.out hbd.size)
        clear hbd
        go_wp2_with fail
        refine wp_region_held_drew (S := (fun w' => w'.cell? ⟨wr.heap.size, 0, none⟩ = some (.int .i64 eo) ∧ w'.cell? ⟨wr.heap.size, 1, none⟩ = some (.int .i64 ek) ∧ w'.cell? ⟨wr.heap.size, 2, none⟩ = some (.int .i64 esv) ∧ w'.cell? ⟨wr.heap.size, 3, none⟩ = some (.string et) ∧ w'.cell? ⟨wr.heap.size, 4, none⟩ = some (.string ef) ∧ w'.cell? ⟨wr.heap.size, 5, none⟩ = some (.bool true) ∧ w'.cell? ⟨wr.heap.size, 6, none⟩ = some (.int .i64 ey) ∧ w'.cell? ⟨wr.heap.size, 7, none⟩ = some (.int .i64 em) ∧ w'.cell? ⟨wr.heap.size, 8, none⟩ = some (.int .i64 ed) ∧ w'.cell? ⟨wr.heap.size, 9, none⟩ = some (.int .i64 ew) ∧ w'.cell? ⟨wr.heap.size, 10, none⟩ = some (.int .i64 ea) ∧ w'.cell? ⟨wr.heap.size, 11, none⟩ = some (.int .i64 ec) ∧ w'.cell? ⟨wr.heap.size, 12, none⟩ = some (.int .i64 eb) ∧ w'.cell? ⟨W.heap.size + 1 + 1, 0, none⟩ = some (.slice ra rn rc) ∧ w'.cell? ⟨W.heap.size + 1 + 1, 1, none⟩ = some (.slice (some ⟨g, of_, none⟩) n cap) ∧ w'.cell? ⟨W.heap.size + 1 + 1, 2, none⟩ = some (.slice la ln lc) ∧ w'.cell? ⟨W.heap.size + 1 + 1, 3, none⟩ = some (.slice sa sn sc) ∧ w'.cell? ⟨W.heap.size + 1 + 1, 4, none⟩ = some (.map (some (W.heap.size + 1))))) (by kernel_rfl) (by exact ⟨cellB (block_below KE.out (Below.refl _ _)) (i := 0) rfl, cellB (block_below KE.out (Below.refl _ _)) (i := 1) rfl, cellB (block_below KE.out (Below.refl _ _)) (i := 2) rfl, cellB (block_below KE.out (Below.refl _ _)) (i := 3) rfl, cellB (block_below KE.out (Below.refl _ _)) (i := 4) rfl, cellB (block_below KE.out (Below.refl _ _)) (i := 5) rfl, cellB (block_below KE.out (Below.refl _ _)) (i := 6) rfl, cellB (block_below KE.out (Below.refl _ _)) (i := 7) rfl, cellB (block_below KE.out (Below.refl _ _)) (i := 8) rfl, cellB (block_below KE.out (Below.refl _ _)) (i := 9) rfl, cellB (block_below KE.out (Below.refl _ _)) (i := 10) rfl, cellB (block_below KE.out (Below.refl _ _)) (i := 11) rfl, cellB (block_below KE.out (Below.refl _ _)) (i := 12) rfl, cellB (block_below KBr.out (Below.refl _ _)) (i := 0) rfl, cellB (block_below KBr.out (Below.refl _ _)) (i := 1) rfl, cellB (block_below KBr.out (Below.refl _ _)) (i := 2) rfl, cellB (block_below KBr.out (Below.refl _ _)) (i := 3) rfl, cellB (block_below KBr.out (Below.refl _ _)) (i := 4) rfl⟩) (fun hHeld => ?_)
        refine wpAnyH_take (i := 0) (v := ?_) rfl (by kernel_rfl) (by kernel_rfl) (by kernel_rfl) (fun _ _ _ h => h) (Or.inl ⟨by rfl, ?_⟩) (by assumption) ?_
        rotate_left 1
        · (intro w hSw; (try dsimp only at hSw); first | (go_simp; done) | (go_simp; with_reducible rfl))
        try simp only [Act.put, List.getElem_toArray, List.getElem_cons_succ, List.getElem_cons_zero, List.setIfInBounds_toArray, List.set_cons_zero, List.set_cons_succ]
        refine wpAnyH_take (i := 1) (v := ?_) rfl (by kernel_rfl) (by kernel_rfl) (by kernel_rfl) (fun _ _ _ h => h) (Or.inl ⟨by rfl, ?_⟩) (by assumption) ?_
        rotate_left 1
        · (intro w hSw; (try dsimp only at hSw); first | (go_simp; done) | (go_simp; with_reducible rfl))
        try simp only [Act.put, List.getElem_toArray, List.getElem_cons_succ, List.getElem_cons_zero, List.setIfInBounds_toArray, List.set_cons_zero, List.set_cons_succ]
        refine wpAnyH_take (i := 2) (v := ?_) rfl (by kernel_rfl) (by kernel_rfl) (by kernel_rfl) (fun _ _ _ h => h) (Or.inl ⟨by rfl, ?_⟩) (by assumption) ?_
        rotate_left 1
        · (intro w hSw; (try dsimp only at hSw); first | (go_simp; done) | (go_simp; with_reducible rfl))
        try simp only [Act.put, List.getElem_toArray, List.getElem_cons_succ, List.getElem_cons_zero, List.setIfInBounds_toArray, List.set_cons_zero, List.set_cons_succ]
        refine wpAnyH_ready (rs := [3]) (by kernel_rfl) (by simp) ?_
        refine AllReadyH.cons rfl (fun K hK => ?_) AllReadyH.nil
        go_simp
        refine (bookAll_any (.slice ra rn rc) (.slice (some ⟨g, of_, none⟩) n cap) (.slice la ln lc) (.slice sa sn sc) ⟨eo, ek, esv, et, ef, true, ey, em, ed, ew, ea, ec, eb⟩ rs (W.heap.size + 1) k _ (HRU0.out.below HB.out) HBK.out (by omega) hset').mono ?_
        rintro ex w20 ⟨vr, rfl, HVR, HBK2, HG⟩
        go_wp2_with fail
        have KE2 := Lib.hid (blk_grownM KE.out HG.out (by omega))
        have KB2 := Lib.hid (blk_grownM KBr.out HG.out (by omega))
        refine hK.out _ _ ?_ (fun hHeld => ?_)
        · exact ⟨cellB (block_below KE2.out (Below.refl _ _)) (i := 0) rfl, cellB (block_below KE2.out (Below.refl _ _)) (i := 1) rfl, cellB (block_below KE2.out (Below.refl _ _)) (i := 2) rfl, cellB (block_below KE2.out (Below.refl _ _)) (i := 3) rfl, cellB (block_below KE2.out (Below.refl _ _)) (i := 4) rfl, cellB (block_below KE2.out (Below.refl _ _)) (i := 5) rfl, cellB (block_below KE2.out (Below.refl _ _)) (i := 6) rfl, cellB (block_below KE2.out (Below.refl _ _)) (i := 7) rfl, cellB (block_below KE2.out (Below.refl _ _)) (i := 8) rfl, cellB (block_below KE2.out (Below.refl _ _)) (i := 9) rfl, cellB (block_below KE2.out (Below.refl _ _)) (i := 10) rfl, cellB (block_below KE2.out (Below.refl _ _)) (i := 11) rfl, cellB (block_below KE2.out (Below.refl _ _)) (i := 12) rfl, cellB (block_below KB2.out (Below.refl _ _)) (i := 0) rfl, cellB (block_below KB2.out (Below.refl _ _)) (i := 1) rfl, cellB (block_below KB2.out (Below.refl _ _)) (i := 2) rfl, cellB (block_below KB2.out (Below.refl _ _)) (i := 3) rfl, cellB (block_below KB2.out (Below.refl _ _)) (i := 4) rfl⟩
        clear hK K
        replace HO := Lib.hid (own_grownM HO.out HG.out (by omega))
        replace HB := Lib.hid (bel_grownM HB.out HG.out HB.out.size (by omega))
        replace HLE := Lib.hid (Nat.le_trans HLE.out HG.out.size)
        replace KE := KE2
        replace KBr := KB2
        replace HBK := HBK2
        clear KE2 KB2 HBK2 HG
        try simp only [Act.put, List.getElem_toArray, List.getElem_cons_succ, List.getElem_cons_zero, List.setIfInBounds_toArray, List.set_cons_zero, List.set_cons_succ]
        refine wpAnyH_ready (rs := [4]) (by kernel_rfl) (by simp) ?_
        refine AllReadyH.cons rfl (fun K hK => ?_) AllReadyH.nil
        go_simp
        refine (inst_any ⟨eo, ek, esv, et, ef, true, ey, em, ed, ew, ea, ec, eb⟩ (ofS et rs) vr _ (by exact HT.out.below HB.out) HVR.out HOKE.out).mono ?_
        rintro ex w21 ⟨tt, rfl, HIN, hb21⟩
        go_wp2_with fail
        refine hK.out _ _ ?_ (fun hHeld => ?_)
        · exact ⟨cellB (block_below KE.out hb21) (i := 0) rfl, cellB (block_below KE.out hb21) (i := 1) rfl, cellB (block_below KE.out hb21) (i := 2) rfl, cellB (block_below KE.out hb21) (i := 3) rfl, cellB (block_below KE.out hb21) (i := 4) rfl, cellB (block_below KE.out hb21) (i := 5) rfl, cellB (block_below KE.out hb21) (i := 6) rfl, cellB (block_below KE.out hb21) (i := 7) rfl, cellB (block_below KE.out hb21) (i := 8) rfl, cellB (block_below KE.out hb21) (i := 9) rfl, cellB (block_below KE.out hb21) (i := 10) rfl, cellB (block_below KE.out hb21) (i := 11) rfl, cellB (block_below KE.out hb21) (i := 12) rfl, cellB (block_below KBr.out hb21) (i := 0) rfl, cellB (block_below KBr.out hb21) (i := 1) rfl, cellB (block_below KBr.out hb21) (i := 2) rfl, cellB (block_below KBr.out hb21) (i := 3) rfl, cellB (block_below KBr.out hb21) (i := 4) rfl⟩
        clear hK K
        try simp only [Act.put, List.getElem_toArray, List.getElem_cons_succ, List.getElem_cons_zero, List.setIfInBounds_toArray, List.set_cons_zero, List.set_cons_succ]
        have HB := Lib.hid (bel_trans HB.out hb21)
        have KE := Lib.hid (block_below KE.out hb21)
        have KBr := Lib.hid (block_below KBr.out hb21)
        have HBK := Lib.hid (HBK.out.below hb21)
        have HO := Lib.hid (own_below17 HO.out hb21)
        have HLE := Lib.hid (Nat.le_trans HLE.out hb21.size)
        obtain ⟨t1, t2⟩ := inst_bd HOKE.out HIN.out
        refine wpAnyH_take (i := 5) (v := ?_) rfl (by kernel_rfl) (by kernel_rfl) (by kernel_rfl) (fun _ _ _ h => h) (Or.inl ⟨by rfl, ?_⟩) (by assumption) ?_
        rotate_left 1
        · (intro w hSw; (try dsimp only at hSw); first | (go_simp; done) | (go_simp; with_reducible rfl))
        try simp only [Act.put, List.getElem_toArray, List.getElem_cons_succ, List.getElem_cons_zero, List.setIfInBounds_toArray, List.set_cons_zero, List.set_cons_succ]
        refine wpAnyH_take (i := 6) (v := ?_) rfl (by kernel_rfl) (by kernel_rfl) (by kernel_rfl) (fun _ _ _ h => h) (Or.inl ⟨by rfl, ?_⟩) (by assumption) ?_
        rotate_left 1
        · (intro w hSw; (try dsimp only at hSw); first | (go_simp; done) | (go_simp; with_reducible rfl))
        try simp only [Act.put, List.getElem_toArray, List.getElem_cons_succ, List.getElem_cons_zero, List.setIfInBounds_toArray, List.set_cons_zero, List.set_cons_succ]
        refine wpAnyH_take (i := 7) (v := ?_) rfl (by kernel_rfl) (by kernel_rfl) (by kernel_rfl) (fun _ _ _ h => h) (Or.inl ⟨by rfl, ?_⟩) (by assumption) ?_
        rotate_left 1
        · (intro w hSw; (try dsimp only at hSw); first | (go_simp; done) | (go_simp; with_reducible rfl))
        try simp only [Act.put, List.getElem_toArray, List.getElem_cons_succ, List.getElem_cons_zero, List.setIfInBounds_toArray, List.set_cons_zero, List.set_cons_succ]
        refine wpAnyH_take (i := 8) (v := ?_) rfl (by kernel_rfl) (by kernel_rfl) (by kernel_rfl) (fun _ _ _ h => h) (Or.inl ⟨by rfl, ?_⟩) (by assumption) ?_
        rotate_left 1
        · (intro w hSw; (try dsimp only at hSw); first | (go_simp; done) | (go_simp; with_reducible rfl))
        try simp only [Act.put, List.getElem_toArray, List.getElem_cons_succ, List.getElem_cons_zero, List.setIfInBounds_toArray, List.set_cons_zero, List.set_cons_succ]
        refine wpAnyH_take (i := 9) (v := ?_) rfl (by kernel_rfl) (by kernel_rfl) (by kernel_rfl) (fun _ _ _ h => h) (Or.inl ⟨by rfl, ?_⟩) (by assumption) ?_
        rotate_left 1
        · (intro w hSw; (try dsimp only at hSw); first | (go_simp; done) | (go_simp; with_reducible rfl))
        try simp only [Act.put, List.getElem_toArray, List.getElem_cons_succ, List.getElem_cons_zero, List.setIfInBounds_toArray, List.set_cons_zero, List.set_cons_succ]
        refine wpAnyH_done (by kernel_rfl) ?_ _
        clear hHeld
        rcases Int.lt_or_le st tt with hst | hst
        · have hst1 : ¬ tt ≤ st := by omega
          have hst2 : decide (tt ≤ st) = false := by simp; omega
          have HS := Lib.hid (spJ_more HK.out hmore HEK.out HIN.out hst)
          have hbe2 := bel_alloc w21 (.cells #[.int .i64 st, .int .i64 tt, .int .i64 (k : Int)] 26)
          have HO := Lib.hid (own_below17 HO.out hbe2)
          have hle := Nat.le_trans HLE.out hbe2.size
          go_wp2_with (at_builtin; refine wpList_append_own _ rfl (.tmp 60) (.tmp 65) 22 rfl wb.heap.size 26 i0 (.agg #[.int .i64 0, .int .i64 0, .int .i64 0]) 3 24 Tryd.underlying22 HI.out.1 HI.out.2.1 HI.out.2.2.1 HI.out.2.2.2 rfl (by decide) _ _ _ rfl HO.out ⟨w21.heap.size, 0, none⟩ 1 1 [.int .i64 st, .int .i64 tt, .int .i64 (k : Int)] rfl rfl (World.news_of_block (heap_alloc_new _ _)) (by intro u hu; simp at hu; rcases hu with rfl | rfl | rfl <;> rfl) (by unfold maxLen; omega) (by omega) hle ?_; intro v1 w3 hown3 hgrow3 hnil3)
          have hrow : ∀ q, Value.ownBlock _ = some q → wb.heap.size ≤ q := fun q hq => (HO.out.lt q hq).1
          go_round
          case rel => exact ⟨k + 1, tt, acc ++ [⟨st, tt, (k : Int)⟩], _, by omega, by go_num, rfl, rfl, by omega, by omega, by rw [_root_.List.length_append, hacc]; rfl, Lib.hid (Below.grown (bel_trans HB.out hbe2) hgrow3 (by have := HB.out.size; have := hbe2.size; omega) (fun q hq => by have := hrow q hq; omega)), Lib.hid (Nat.le_trans hle hgrow3.size), Lib.hid ((hgrow3.block _ (bk2m (block_below KBr.out hbe2)) (fun e => by have := hrow _ e.symm; omega)).trans (block_below KBr.out hbe2)), Lib.hid ((HBK.out.below hbe2).grownO hgrow3 (fun q hq => by obtain ⟨p1, cur, p2⟩ := own_typ HO.out q hq; exact ⟨by omega, _, cur, p2, by decide⟩)), Lib.hid (by rw [flatSp_app, _root_.List.length_append]; exact hown3), HS⟩
          case measure => simp [intOf]; omega
        · have hst2 : decide (tt ≤ st) = true := by simp; omega
          have HW := Lib.hid (spJ_no HM.out HK.out hmore HEK.out HIN.out t1 hst)
          go_wp2_with fail
          go_ret2
          exact ⟨.inr ⟨HW.out, rfl⟩, HB.out⟩
    · obtain rfl : k = m := by omega
      have HF := Lib.hid (HK.out.2 rfl)
      go_wp2_with fail
      go_ret2
      obtain ⟨ts, q1, q2, q3, q4⟩ := HF.out
      exact ⟨.inl ⟨_, ts, by rw [← HM.out]; exact q1, q2, q3, rfl, by rw [← q4]; exact RdSp.own HO.out⟩, HB.out⟩
end Go.Proofs.YtdppmeeobpbfnaaDoor
