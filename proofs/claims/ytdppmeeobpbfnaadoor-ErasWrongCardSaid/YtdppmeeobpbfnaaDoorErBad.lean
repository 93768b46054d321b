/-
  eras.Spans where it refuses at once: an index below 0, and a first era whose end is missing.
-/
import Derived.Test.YtdppmeeobpbfnaaDoorErSpG
namespace Go.Proofs.YtdppmeeobpbfnaaDoor
open Go.RowKit Cv
set_option linter.unusedVariables false
set_option linter.unusedSimpArgs false

set_option maxRecDepth 100000 in
set_option maxHeartbeats 2000000 in
theorem spansNeg_any (A : Option Addr) (n cap : Nat) (ra la sa : Option Addr) (rn rc ln lc sn sc : Nat) (z : Int) (W : World) (hz : z < 0) :
    Calls Tryd.prog 13 #[.agg #[.slice ra rn rc, .slice A n cap, .slice la ln lc, .slice sa sn sc], .int .i64 z] W fun e w' => e = .returned (.tuple #[.slice none 0 0, .int .i64 3]) ∧ Below W.heap.size W w' := by
  have h2 : decide (z < 0) = true := by simp; omega
  go_enter Tryd.func13, Tryd.ntmps13
  go_wp2_with fail
  go_ret2
  exact ⟨rfl, bel_alloc _ _⟩


set_option maxRecDepth 100000 in
set_option maxHeartbeats 1000000 in
theorem baseBad0 (off save : Int) (st fm : ByteArray) (v : Value) (W : World) : Calls Tryd.prog 35 #[.agg #[.int .i64 off, .int .i64 0, .int .i64 save, .string st, .string fm, .bool false, .int .i64 0, .int .i64 0, .int .i64 0, .int .i64 0, .int .i64 0, .int .i64 0, .int .i64 0], v] W fun e w' => e = .returned (.int .i64 0) ∧ Below W.heap.size W w' := by
  go_enter Tryd.func35, Tryd.ntmps35
  go_wp2_with fail
  go_ret
  exact ⟨rfl, bel_alloc _ _⟩
set_option maxRecDepth 100000 in
set_option maxHeartbeats 4000000 in
theorem instBad0 (off save : Int) (st fm : ByteArray) (v : Value) (W : World) (hT : Tabs W) (o1 : -604799 ≤ off) (o2 : off ≤ 604799) (v1 : -604799 ≤ save) (v2 : save ≤ 604799) :
    Calls Tryd.prog 22 #[.agg #[.int .i64 off, .int .i64 0, .int .i64 save, .string st, .string fm, .bool false, .int .i64 0, .int .i64 0, .int .i64 0, .int .i64 0, .int .i64 0, .int .i64 0, .int .i64 0], v] W fun e w' => e = .returned (.tuple #[.int .i64 0, .int .i64 4]) ∧ Below W.heap.size W w' := by
  have HQ := Lib.hid (untC_none (y := 0) (m := 0) (k := 0) (w := 0) (d := 0) (sec := 0) (base := 0) (least := 0) (by decide) (by decide))
  have HN := Lib.hid (untN_no (is := false) (y := 0) (m := 0) (k := 0) (w := 0) (d := 0) (sec := 0) (base := 0) (least := 0) (by rw [HQ.out]; decide))
  have HT := Lib.hid (hT.alloc (.cells #[.int .i64 off, .int .i64 0, .int .i64 save, .string st, .string fm, .bool false, .int .i64 0, .int .i64 0, .int .i64 0, .int .i64 0, .int .i64 0, .int .i64 0, .int .i64 0] 60))
  have HB0 := Lib.hid (bel_alloc W (.cells #[.int .i64 off, .int .i64 0, .int .i64 save, .string st, .string fm, .bool false, .int .i64 0, .int .i64 0, .int .i64 0, .int .i64 0, .int .i64 0, .int .i64 0, .int .i64 0] 60))
  have HK0 := Lib.hid (heap_alloc_new W (.cells #[.int .i64 off, .int .i64 0, .int .i64 save, .string st, .string fm, .bool false, .int .i64 0, .int .i64 0, .int .i64 0, .int .i64 0, .int .i64 0, .int .i64 0, .int .i64 0] 60))
  clear hT
  go_enter Tryd.func22, Tryd.ntmps22
  go_wp2_with fail
  refine (within_any off _ o1 o2).mono ?_
  intro e w' hq; obtain ⟨rfl, rfl⟩ := (fun _ _ h => h) _ _ hq; clear hq
  go_wp2_with fail
  go_region_held3 (fun w' => w'.cell? ⟨W.heap.size, 0, none⟩ = some (.int .i64 off) ∧ w'.cell? ⟨W.heap.size, 1, none⟩ = some (.int .i64 0) ∧ w'.cell? ⟨W.heap.size, 2, none⟩ = some (.int .i64 save) ∧ w'.cell? ⟨W.heap.size, 3, none⟩ = some (.string st) ∧ w'.cell? ⟨W.heap.size, 4, none⟩ = some (.string fm) ∧ w'.cell? ⟨W.heap.size, 5, none⟩ = some (.bool false) ∧ w'.cell? ⟨W.heap.size, 6, none⟩ = some (.int .i64 0) ∧ w'.cell? ⟨W.heap.size, 7, none⟩ = some (.int .i64 0) ∧ w'.cell? ⟨W.heap.size, 8, none⟩ = some (.int .i64 0) ∧ w'.cell? ⟨W.heap.size, 9, none⟩ = some (.int .i64 0) ∧ w'.cell? ⟨W.heap.size, 10, none⟩ = some (.int .i64 0) ∧ w'.cell? ⟨W.heap.size, 11, none⟩ = some (.int .i64 0) ∧ w'.cell? ⟨W.heap.size, 12, none⟩ = some (.int .i64 0))
    (first | exact cells13 (by exact HK0.out) | exact cells13 (block_below (by exact HK0.out) hb3) | exact cells13 (block_below (block_below (by exact HK0.out) hb3) hb4))
    (first
     | (go_at_call 35; refine (baseBad0 off save st fm v _).mono ?_; rintro e w3 ⟨rfl, hb3⟩)
     | (go_at_call 34; refine (untNom_any false 0 0 0 0 0 0 0 0 _ (by exact Tabs.below (by exact HT.out) hb3) (by decide) (by decide)).mono ?_; intro e w4 hq; obtain ⟨rfl, hb4⟩ := NomU.to HN.out HQ.out _ _ hq; clear hq))
  have HB4 := Lib.hid (bel_trans (bel_trans (Below.drew HB0.out) hb3) hb4)
  clear hb3 hb4
  go_wp2_with fail
  go_ret2
  exact ⟨rfl, HB4.out⟩

set_option maxRecDepth 100000 in
set_option maxHeartbeats 1000000 in
theorem baseBad1 (off save : Int) (st fm : ByteArray) (v : Value) (W : World) : Calls Tryd.prog 35 #[.agg #[.int .i64 off, .int .i64 1, .int .i64 save, .string st, .string fm, .bool false, .int .i64 0, .int .i64 0, .int .i64 0, .int .i64 0, .int .i64 0, .int .i64 0, .int .i64 0], v] W fun e w' => e = .returned (.int .i64 0) ∧ Below W.heap.size W w' := by
  go_enter Tryd.func35, Tryd.ntmps35
  go_wp2_with fail
  go_ret
  exact ⟨rfl, bel_alloc _ _⟩
set_option maxRecDepth 100000 in
set_option maxHeartbeats 4000000 in
theorem instBad1 (off save : Int) (st fm : ByteArray) (v : Value) (W : World) (hT : Tabs W) (o1 : -604799 ≤ off) (o2 : off ≤ 604799) (v1 : -604799 ≤ save) (v2 : save ≤ 604799) :
    Calls Tryd.prog 22 #[.agg #[.int .i64 off, .int .i64 1, .int .i64 save, .string st, .string fm, .bool false, .int .i64 0, .int .i64 0, .int .i64 0, .int .i64 0, .int .i64 0, .int .i64 0, .int .i64 0], v] W fun e w' => e = .returned (.tuple #[.int .i64 0, .int .i64 4]) ∧ Below W.heap.size W w' := by
  have HQ := Lib.hid (untC_none (y := 0) (m := 0) (k := 0) (w := 0) (d := 0) (sec := 0) (base := 0) (least := 0) (by decide) (by decide))
  have HN := Lib.hid (untN_no (is := false) (y := 0) (m := 0) (k := 0) (w := 0) (d := 0) (sec := 0) (base := 0) (least := 0) (by rw [HQ.out]; decide))
  have HT := Lib.hid (hT.alloc (.cells #[.int .i64 off, .int .i64 1, .int .i64 save, .string st, .string fm, .bool false, .int .i64 0, .int .i64 0, .int .i64 0, .int .i64 0, .int .i64 0, .int .i64 0, .int .i64 0] 60))
  have HB0 := Lib.hid (bel_alloc W (.cells #[.int .i64 off, .int .i64 1, .int .i64 save, .string st, .string fm, .bool false, .int .i64 0, .int .i64 0, .int .i64 0, .int .i64 0, .int .i64 0, .int .i64 0, .int .i64 0] 60))
  have HK0 := Lib.hid (heap_alloc_new W (.cells #[.int .i64 off, .int .i64 1, .int .i64 save, .string st, .string fm, .bool false, .int .i64 0, .int .i64 0, .int .i64 0, .int .i64 0, .int .i64 0, .int .i64 0, .int .i64 0] 60))
  clear hT
  go_enter Tryd.func22, Tryd.ntmps22
  go_wp2_with fail
  refine (within_any off _ o1 o2).mono ?_
  intro e w' hq; obtain ⟨rfl, rfl⟩ := (fun _ _ h => h) _ _ hq; clear hq
  go_wp2_with fail
  refine (within_any save _ v1 v2).mono ?_
  intro e w' hq; obtain ⟨rfl, rfl⟩ := (fun _ _ h => h) _ _ hq; clear hq
  go_wp2_with fail
  go_region_held3 (fun w' => w'.cell? ⟨W.heap.size, 0, none⟩ = some (.int .i64 off) ∧ w'.cell? ⟨W.heap.size, 1, none⟩ = some (.int .i64 1) ∧ w'.cell? ⟨W.heap.size, 2, none⟩ = some (.int .i64 save) ∧ w'.cell? ⟨W.heap.size, 3, none⟩ = some (.string st) ∧ w'.cell? ⟨W.heap.size, 4, none⟩ = some (.string fm) ∧ w'.cell? ⟨W.heap.size, 5, none⟩ = some (.bool false) ∧ w'.cell? ⟨W.heap.size, 6, none⟩ = some (.int .i64 0) ∧ w'.cell? ⟨W.heap.size, 7, none⟩ = some (.int .i64 0) ∧ w'.cell? ⟨W.heap.size, 8, none⟩ = some (.int .i64 0) ∧ w'.cell? ⟨W.heap.size, 9, none⟩ = some (.int .i64 0) ∧ w'.cell? ⟨W.heap.size, 10, none⟩ = some (.int .i64 0) ∧ w'.cell? ⟨W.heap.size, 11, none⟩ = some (.int .i64 0) ∧ w'.cell? ⟨W.heap.size, 12, none⟩ = some (.int .i64 0))
    (first | exact cells13 (by exact HK0.out) | exact cells13 (block_below (by exact HK0.out) hb3) | exact cells13 (block_below (block_below (by exact HK0.out) hb3) hb4))
    (first
     | (go_at_call 35; refine (baseBad1 off save st fm v _).mono ?_; rintro e w3 ⟨rfl, hb3⟩)
     | (go_at_call 34; refine (untNom_any false 0 0 0 0 0 0 0 0 _ (by exact Tabs.below (by exact HT.out) hb3) (by decide) (by decide)).mono ?_; intro e w4 hq; obtain ⟨rfl, hb4⟩ := NomU.to HN.out HQ.out _ _ hq; clear hq))
  have HB4 := Lib.hid (bel_trans (bel_trans (Below.drew HB0.out) hb3) hb4)
  clear hb3 hb4
  go_wp2_with fail
  go_ret2
  exact ⟨rfl, HB4.out⟩

/-- an era without an end, of no set -/
theorem instBad_any (off ek save : Int) (st fm : ByteArray) (v : Value) (W : World) (hT : Tabs W) (hk : ek = 0 ∨ ek = 1) (o1 : -604799 ≤ off) (o2 : off ≤ 604799) (v1 : -604799 ≤ save) (v2 : save ≤ 604799) :
    Calls Tryd.prog 22 #[.agg #[.int .i64 off, .int .i64 ek, .int .i64 save, .string st, .string fm, .bool false, .int .i64 0, .int .i64 0, .int .i64 0, .int .i64 0, .int .i64 0, .int .i64 0, .int .i64 0], v] W fun e w' => e = .returned (.tuple #[.int .i64 0, .int .i64 4]) ∧ Below W.heap.size W w' := by
  rcases hk with rfl | rfl
  · exact instBad0 off save st fm v W hT o1 o2 v1 v2
  · exact instBad1 off save st fm v W hT o1 o2 v1 v2

set_option maxRecDepth 100000 in
set_option maxHeartbeats 16000000 in
theorem spansFirst_any (A : Option Addr) (n cap zi : Nat) (ra la sa : Option Addr) (rn rc ln lc sn sc : Nat) (zs : _root_.List (ByteArray × _root_.List Er)) (nm : ByteArray) (es : _root_.List Er) (off ek save : Int) (st fm : ByteArray) (W : World) (hT : Tabs W) (hZ : RdZo (.slice A n cap) zs W) (hz : zs[zi]? = some (nm, es)) (hn : n ≤ 1000) (hne : es.length ≤ 100) (hn0 : 2 ≤ es.length)
    (he : es[0]? = some ⟨off, ek, save, st, fm, false, 0, 0, 0, 0, 0, 0, 0⟩) (hek : ek = 0 ∨ ek = 1) (o1 : -604799 ≤ off) (o2 : off ≤ 604799) (v1 : -604799 ≤ save) (v2 : save ≤ 604799) :
    Calls Tryd.prog 13 #[.agg #[.slice ra rn rc, .slice A n cap, .slice la ln lc, .slice sa sn sc], .int .i64 (zi : Int)] W fun e w' => e = .returned (.tuple #[.slice none 0 0, .int .i64 4]) ∧ Below W.heap.size W w' := by
  have HT := Lib.hid hT
  have hzn : zi < n := by
    obtain ⟨a, c, h1, h2⟩ := hZ
    injection h1 with h3 h4 h5
    rw [h4]; exact (_root_.List.getElem?_eq_some_iff.1 hz).1
  have hb0 : Below W.heap.size W (((W.alloc (.cells #[.slice ra rn rc, .slice A n cap, .slice la ln lc, .slice sa sn sc] 41)).alloc (.map #[] 0)).alloc (.cells #[.slice ra rn rc, .slice A n cap, .slice la ln lc, .slice sa sn sc, .map (some (W.heap.size + 1))] 80)) := bel_trans (bel_trans (bel_alloc W _) (bel_alloc _ _)) (bel_alloc _ _)
  have HB := Lib.hid hb0
  have KS := Lib.hid (show (((W.alloc (.cells #[.slice ra rn rc, .slice A n cap, .slice la ln lc, .slice sa sn sc] 41)).alloc (.map #[] 0)).alloc (.cells #[.slice ra rn rc, .slice A n cap, .slice la ln lc, .slice sa sn sc, .map (some (W.heap.size + 1))] 80)).heap[W.heap.size]? = some (.cells #[.slice ra rn rc, .slice A n cap, .slice la ln lc, .slice sa sn sc] 41) from alo (alo (aln (by simp))))
  have KB := Lib.hid (show (((W.alloc (.cells #[.slice ra rn rc, .slice A n cap, .slice la ln lc, .slice sa sn sc] 41)).alloc (.map #[] 0)).alloc (.cells #[.slice ra rn rc, .slice A n cap, .slice la ln lc, .slice sa sn sc, .map (some (W.heap.size + 1))] 80)).heap[W.heap.size + 1 + 1]? = some (.cells #[.slice ra rn rc, .slice A n cap, .slice la ln lc, .slice sa sn sc, .map (some (W.heap.size + 1))] 80) from aln (by simp))
  have h1 : ¬ (zi : Int) < 0 := by omega
  have h2 : decide ((n : Int) ≤ (zi : Int)) = false := by simp; omega
  have h3 : (0 : Int) ≤ (zi : Int) := by omega
  have h4 : (zi : Int) < (n : Int) := by omega
  obtain ⟨g, of_, vz, rfl, z0, z1, hE⟩ : ∃ g off vz, A = some ⟨g, off, none⟩ ∧ W.cell? ⟨g, off + zi * 2, none⟩ = some (.string nm) ∧ W.cell? ⟨g, off + zi * 2 + 1, none⟩ = some vz ∧ RdEr vz es W := by
    obtain ⟨a, c, q1, q2⟩ := hZ
    injection q1 with q3 q4 q5
    subst q3
    exact q2 zi _ hz
  obtain ⟨Ae, ce, rfl⟩ := hE.sl
  have HE0 := Lib.hid hE
  have y1 := cell_below hb0 z1
  obtain ⟨m, hm⟩ : ∃ m, m = es.length := ⟨_, rfl⟩
  rw [← hm] at HE0 hne y1 hn0
  have HE1 := Lib.hid he
  clear hT hZ hz hb0 z0 z1 hE hm he
  have hmm := @run_makeMap Tryd.prog
  have x0 := cellB KS.out (i := 0) rfl
  have x1 := cellB KS.out (i := 1) rfl
  have x2 := cellB KS.out (i := 2) rfl
  have x3 := cellB KS.out (i := 3) rfl
  go_enter Tryd.func13, Tryd.ntmps13
  go_wp2_with fail
  go_quiet (fail)
  clear x0 x1 x2 x3 y1 KS
  have hbd := bel_drew (Below.refl (((W.alloc (.cells #[.slice ra rn rc, .slice (some ⟨g, of_, none⟩) n cap, .slice la ln lc, .slice sa sn sc] 41)).alloc (.map #[] 0)).alloc (.cells #[.slice ra rn rc, .slice (some ⟨g, of_, none⟩) n cap, .slice la ln lc, .slice sa sn sc, .map (some (W.heap.size + 1))] 80)).heap.size _) nq
  have HBW := Lib.hid (bel_trans HB.out hbd)
  have KB := Lib.hid (block_below KB.out hbd)
  obtain ⟨wb, hwb⟩ : ∃ wb : World, wb = (((W.alloc (.cells #[.slice ra rn rc, .slice (some ⟨g, of_, none⟩) n cap, .slice la ln lc, .slice sa sn sc] 41)).alloc (.map #[] 0)).alloc (.cells #[.slice ra rn rc, .slice (some ⟨g, of_, none⟩) n cap, .slice la ln lc, .slice sa sn sc, .map (some (W.heap.size + 1))] 80)).drewN nq := ⟨_, rfl⟩
  rw [← hwb] at HBW KB ⊢
  clear hwb hbd HB
  have hw1 : IntKind.i64.wrap ((m : Int) - 1) = (m : Int) - 1 := IntWalk.i64_in _ (by omega)
  go_wp2_with fail
  go_loopw [35] (fun iv wr => iv = .int .i64 0 ∧ wr = wb) (fun _ _ => 0)
  case atStart => exact ⟨rfl, by trivial⟩
  case round =>
    obtain ⟨rfl, hwr⟩ := hrel
    subst hwr
    obtain ⟨ge, oe, rfl, hrg⟩ := (HE0.out.below HBW.out).at_ HE1.out
    obtain ⟨c0, c1, c2, c3, c4, c5, c6, c7, c8, c9, c10, c11, c12⟩ := range13 hrg
    dsimp only at c0 c1 c2 c3 c4 c5 c6 c7 c8 c9 c10 c11 c12
    simp only [Nat.zero_mul, Nat.add_zero] at c0 c1 c2 c3 c4 c5 c6 c7 c8 c9 c10 c11 c12
    have hk1 : (0 : Int) < (m : Int) := by omega
    have hc1 : (0 : Int) < (m : Int) - 1 := by omega
    have hc2 : decide ((0 : Int) < (m : Int) - 1) = true := decide_eq_true hc1
    have hc3 : (1 : Int) < (m : Int) := by omega
    have hbe := bel_alloc wr (.cells #[.int .i64 off, .int .i64 ek, .int .i64 save, .string st, .string fm, .bool false, .int .i64 0, .int .i64 0, .int .i64 0, .int .i64 0, .int .i64 0, .int .i64 0, .int .i64 0] 60)
    have KE := Lib.hid (heap_alloc_new wr (.cells #[.int .i64 off, .int .i64 ek, .int .i64 save, .string st, .string fm, .bool false, .int .i64 0, .int .i64 0, .int .i64 0, .int .i64 0, .int .i64 0, .int .i64 0, .int .i64 0] 60))
    have HB := Lib.hid (bel_trans HBW.out hbe)
    have KBr := Lib.hid (block_below KB.out hbe)
    clear hbe hrg
    go_wp2_with fail
    clear c0 c1 c2 c3 c4 c5 c6 c7 c8 c9 c10 c11 c12
    have hbd : Below (wr.alloc (.cells #[.int .i64 off, .int .i64 ek, .int .i64 save, .string st, .string fm, .bool false, .int .i64 0, .int .i64 0, .int .i64 0, .int .i64 0, .int .i64 0, .int .i64 0, .int .i64 0] 60)).heap.size (wr.alloc (.cells #[.int .i64 off, .int .i64 ek, .int .i64 save, .string st, .string fm, .bool false, .int .i64 0, .int .i64 0, .int .i64 0, .int .i64 0, .int .i64 0, .int .i64 0, .int .i64 0] 60)) (wr.alloc (.cells #[.int .i64 off, .int .i64 ek, .int .i64 save, .string st, .string fm, .bool false, .int .i64 0, .int .i64 0, .int .i64 0, .int .i64 0, .int .i64 0, .int .i64 0, .int .i64 0] 60)).drew := Below.drew (Below.refl _ _)
    have HB := Lib.hid (bel_trans HB.out hbd)
    have KE := Lib.hid (block_below KE.out hbd)
    have KBr := Lib.hid (block_below KBr.out hbd)
    clear hbd
    go_wp2_with fail
    refine wp_region_held_drew (S := (fun w' => w'.cell? ⟨wr.heap.size, 0, none⟩ = some (.int .i64 off) ∧ w'.cell? ⟨wr.heap.size, 1, none⟩ = some (.int .i64 ek) ∧ w'.cell? ⟨wr.heap.size, 2, none⟩ = some (.int .i64 save) ∧ w'.cell? ⟨wr.heap.size, 3, none⟩ = some (.string st) ∧ w'.cell? ⟨wr.heap.size, 4, none⟩ = some (.string fm) ∧ w'.cell? ⟨wr.heap.size, 5, none⟩ = some (.bool false) ∧ w'.cell? ⟨wr.heap.size, 6, none⟩ = some (.int .i64 0) ∧ w'.cell? ⟨wr.heap.size, 7, none⟩ = some (.int .i64 0) ∧ w'.cell? ⟨wr.heap.size, 8, none⟩ = some (.int .i64 0) ∧ w'.cell? ⟨wr.heap.size, 9, none⟩ = some (.int .i64 0) ∧ w'.cell? ⟨wr.heap.size, 10, none⟩ = some (.int .i64 0) ∧ w'.cell? ⟨wr.heap.size, 11, none⟩ = some (.int .i64 0) ∧ w'.cell? ⟨wr.heap.size, 12, none⟩ = some (.int .i64 0) ∧ w'.cell? ⟨W.heap.size + 1 + 1, 0, none⟩ = some (.slice ra rn rc) ∧ w'.cell? ⟨W.heap.size + 1 + 1, 1, none⟩ = some (.slice (some ⟨g, of_, none⟩) n cap) ∧ w'.cell? ⟨W.heap.size + 1 + 1, 2, none⟩ = some (.slice la ln lc) ∧ w'.cell? ⟨W.heap.size + 1 + 1, 3, none⟩ = some (.slice sa sn sc) ∧ w'.cell? ⟨W.heap.size + 1 + 1, 4, none⟩ = some (.map (some (W.heap.size + 1))))) (by kernel_rfl) (by exact ⟨cellB KE.out (i := 0) rfl, cellB KE.out (i := 1) rfl, cellB KE.out (i := 2) rfl, cellB KE.out (i := 3) rfl, cellB KE.out (i := 4) rfl, cellB KE.out (i := 5) rfl, cellB KE.out (i := 6) rfl, cellB KE.out (i := 7) rfl, cellB KE.out (i := 8) rfl, cellB KE.out (i := 9) rfl, cellB KE.out (i := 10) rfl, cellB KE.out (i := 11) rfl, cellB KE.out (i := 12) rfl, cellB KBr.out (i := 0) rfl, cellB KBr.out (i := 1) rfl, cellB KBr.out (i := 2) rfl, cellB KBr.out (i := 3) rfl, cellB KBr.out (i := 4) rfl⟩) (fun hHeld => ?_)
    refine wpAnyH_take (i := 0) (v := ?_) rfl (by kernel_rfl) (by kernel_rfl) (by kernel_rfl) (fun _ _ _ h => h) (Or.inl ⟨by rfl, ?_⟩) (by assumption) ?_
    rotate_left 1
    · (intro w hSw; (try dsimp only at hSw); first | (go_simp; done) | (go_simp; with_reducible rfl))
    try simp only [Act.put, List.getElem_toArray, List.getElem_cons_succ, List.getElem_cons_zero, List.setIfInBounds_toArray, List.set_cons_zero, List.set_cons_succ]
    refine wpAnyH_take (i := 1) (v := ?_) rfl (by kernel_rfl) (by kernel_rfl) (by kernel_rfl) (fun _ _ _ h => h) (Or.inl ⟨by rfl, ?_⟩) (by assumption) ?_
    rotate_left 1
    · (intro w hSw; (try dsimp only at hSw); first | (go_simp; done) | (go_simp; with_reducible rfl))
    try simp only [Act.put, List.getElem_toArray, List.getElem_cons_succ, List.getElem_cons_zero, List.setIfInBounds_toArray, List.set_cons_zero, List.set_cons_succ]
    refine wpAnyH_take (i := 2) (v := ?_) rfl (by kernel_rfl) (by kernel_rfl) (by kernel_rfl) (fun _ _ _ h => h) (Or.inl ⟨by rfl, ?_⟩) (by assumption) ?_
    rotate_left 1
    · (intro w hSw; (try dsimp only at hSw); first | (go_simp; done) | (go_simp; with_reducible rfl))
    try simp only [Act.put, List.getElem_toArray, List.getElem_cons_succ, List.getElem_cons_zero, List.setIfInBounds_toArray, List.set_cons_zero, List.set_cons_succ]
    refine wpAnyH_ready (rs := [3]) (by kernel_rfl) (by simp) ?_
    refine AllReadyH.cons rfl (fun K hK => ?_) AllReadyH.nil
    go_simp
    refine (rulesN_any (.slice ra rn rc) (.slice (some ⟨g, of_, none⟩) n cap) (.slice la ln lc) (.slice sa sn sc) (.map (some (W.heap.size + 1))) off ek save st fm false 0 0 0 0 0 0 0 _ (by omega)).mono ?_
    rintro ex w20 ⟨rfl, hb20⟩
    go_wp2_with fail
    refine hK.out _ _ ?_ (fun hHeld => ?_)
    · exact ⟨cellB (block_below KE.out hb20) (i := 0) rfl, cellB (block_below KE.out hb20) (i := 1) rfl, cellB (block_below KE.out hb20) (i := 2) rfl, cellB (block_below KE.out hb20) (i := 3) rfl, cellB (block_below KE.out hb20) (i := 4) rfl, cellB (block_below KE.out hb20) (i := 5) rfl, cellB (block_below KE.out hb20) (i := 6) rfl, cellB (block_below KE.out hb20) (i := 7) rfl, cellB (block_below KE.out hb20) (i := 8) rfl, cellB (block_below KE.out hb20) (i := 9) rfl, cellB (block_below KE.out hb20) (i := 10) rfl, cellB (block_below KE.out hb20) (i := 11) rfl, cellB (block_below KE.out hb20) (i := 12) rfl, cellB (block_below KBr.out hb20) (i := 0) rfl, cellB (block_below KBr.out hb20) (i := 1) rfl, cellB (block_below KBr.out hb20) (i := 2) rfl, cellB (block_below KBr.out hb20) (i := 3) rfl, cellB (block_below KBr.out hb20) (i := 4) rfl⟩
    clear hK K
    have HB := Lib.hid (bel_trans HB.out hb20)
    have KE := Lib.hid (block_below KE.out hb20)
    have KBr := Lib.hid (block_below KBr.out hb20)
    clear hb20
    try simp only [Act.put, List.getElem_toArray, List.getElem_cons_succ, List.getElem_cons_zero, List.setIfInBounds_toArray, List.set_cons_zero, List.set_cons_succ]
    refine wpAnyH_ready (rs := [4]) (by kernel_rfl) (by simp) ?_
    refine AllReadyH.cons rfl (fun K hK => ?_) AllReadyH.nil
    go_simp
    refine (instBad_any off ek save st fm _ _ (by exact HT.out.below HB.out) hek o1 o2 v1 v2).mono ?_
    rintro ex w21 ⟨rfl, hb21⟩
    go_wp2_with fail
    refine hK.out _ _ ?_ (fun hHeld => ?_)
    · exact ⟨cellB (block_below KE.out hb21) (i := 0) rfl, cellB (block_below KE.out hb21) (i := 1) rfl, cellB (block_below KE.out hb21) (i := 2) rfl, cellB (block_below KE.out hb21) (i := 3) rfl, cellB (block_below KE.out hb21) (i := 4) rfl, cellB (block_below KE.out hb21) (i := 5) rfl, cellB (block_below KE.out hb21) (i := 6) rfl, cellB (block_below KE.out hb21) (i := 7) rfl, cellB (block_below KE.out hb21) (i := 8) rfl, cellB (block_below KE.out hb21) (i := 9) rfl, cellB (block_below KE.out hb21) (i := 10) rfl, cellB (block_below KE.out hb21) (i := 11) rfl, cellB (block_below KE.out hb21) (i := 12) rfl, cellB (block_below KBr.out hb21) (i := 0) rfl, cellB (block_below KBr.out hb21) (i := 1) rfl, cellB (block_below KBr.out hb21) (i := 2) rfl, cellB (block_below KBr.out hb21) (i := 3) rfl, cellB (block_below KBr.out hb21) (i := 4) rfl⟩
    clear hK K
    try simp only [Act.put, List.getElem_toArray, List.getElem_cons_succ, List.getElem_cons_zero, List.setIfInBounds_toArray, List.set_cons_zero, List.set_cons_succ]
    have HB := Lib.hid (bel_trans HB.out hb21)
    clear hb21
    refine wpAnyH_take (i := 5) (v := ?_) rfl (by kernel_rfl) (by kernel_rfl) (by kernel_rfl) (fun _ _ _ h => h) (Or.inl ⟨by rfl, ?_⟩) (by assumption) ?_
    rotate_left 1
    · (intro w hSw; (try dsimp only at hSw); first | (go_simp; done) | (go_simp; with_reducible rfl))
    try simp only [Act.put, List.getElem_toArray, List.getElem_cons_succ, List.getElem_cons_zero, List.setIfInBounds_toArray, List.set_cons_zero, List.set_cons_succ]
    refine wpAnyH_take (i := 6) (v := ?_) rfl (by kernel_rfl) (by kernel_rfl) (by kernel_rfl) (fun _ _ _ h => h) (Or.inl ⟨by rfl, ?_⟩) (by assumption) ?_
    rotate_left 1
    · (intro w hSw; (try dsimp only at hSw); first | (go_simp; done) | (go_simp; with_reducible rfl))
    try simp only [Act.put, List.getElem_toArray, List.getElem_cons_succ, List.getElem_cons_zero, List.setIfInBounds_toArray, List.set_cons_zero, List.set_cons_succ]
    refine wpAnyH_take (i := 7) (v := ?_) rfl (by kernel_rfl) (by kernel_rfl) (by kernel_rfl) (fun _ _ _ h => h) (Or.inl ⟨by rfl, ?_⟩) (by assumption) ?_
    rotate_left 1
    · (intro w hSw; (try dsimp only at hSw); first | (go_simp; done) | (go_simp; with_reducible rfl))
    try simp only [Act.put, List.getElem_toArray, List.getElem_cons_succ, List.getElem_cons_zero, List.setIfInBounds_toArray, List.set_cons_zero, List.set_cons_succ]
    refine wpAnyH_take (i := 8) (v := ?_) rfl (by kernel_rfl) (by kernel_rfl) (by kernel_rfl) (fun _ _ _ h => h) (Or.inl ⟨by rfl, ?_⟩) (by assumption) ?_
    rotate_left 1
    · (intro w hSw; (try dsimp only at hSw); first | (go_simp; done) | (go_simp; with_reducible rfl))
    try simp only [Act.put, List.getElem_toArray, List.getElem_cons_succ, List.getElem_cons_zero, List.setIfInBounds_toArray, List.set_cons_zero, List.set_cons_succ]
    refine wpAnyH_take (i := 9) (v := ?_) rfl (by kernel_rfl) (by kernel_rfl) (by kernel_rfl) (fun _ _ _ h => h) (Or.inl ⟨by rfl, ?_⟩) (by assumption) ?_
    rotate_left 1
    · (intro w hSw; (try dsimp only at hSw); first | (go_simp; done) | (go_simp; with_reducible rfl))
    try simp only [Act.put, List.getElem_toArray, List.getElem_cons_succ, List.getElem_cons_zero, List.setIfInBounds_toArray, List.set_cons_zero, List.set_cons_succ]
    refine wpAnyH_done (by kernel_rfl) ?_ _
    clear hHeld
    go_wp2_with fail
    go_ret2
    exact ⟨rfl, HB.out⟩
end Go.Proofs.YtdppmeeobpbfnaaDoor
