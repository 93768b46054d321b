/-
  The contracts of the closures of events.Before and events.After: what they find at one rule.
-/
import Derived.Test.YtdppmeeobpbfnaaDoorEvOn
import Derived.IntWalk
namespace Go.Proofs.YtdppmeeobpbfnaaDoor
open Go.RowKit Cv
set_option linter.unusedVariables false
set_option linter.unusedSimpArgs false

namespace Cv
/-- the last event of one rule before a nominal time; the first one behind it -/
def LookB (bs : Int) (r : Ru) (N k : Int) : Option Ev → Prop
  | none => ∀ z, ¬ (Has r z ∧ nomOf bs r z < N)
  | some e => e.rule = k ∧ Has r e.year ∧ e.nom = nomOf bs r e.year ∧ e.nom < N ∧ ∀ z, Has r z → nomOf bs r z < N → z ≤ e.year
def LookA (bs : Int) (r : Ru) (N k : Int) : Option Ev → Prop
  | none => ∀ z, ¬ (Has r z ∧ N < nomOf bs r z)
  | some e => e.rule = k ∧ Has r e.year ∧ e.nom = nomOf bs r e.year ∧ N < e.nom ∧ ∀ z, Has r z → N < nomOf bs r z → e.year ≤ z
theorem wrap_fit (x : Int) : -9223372036854775808 ≤ wrap64 x ∧ wrap64 x ≤ 9223372036854775807 := by unfold wrap64; omega
theorem evV_no {rs : _root_.List Ru} {k : Nat} {y : Int} {r : Ru} (h : rs[k]? = some r) (hn : ¬ Has r y) : evV (evOn rs k y) = .tuple #[.agg #[.int .i64 0, .int .i64 0, .int .i64 0], .bool false] := by rw [evOn_no h hn]; rfl
theorem evV_yes {rs : _root_.List Ru} {k : Nat} {y m : Int} {r : Ru} (h : rs[k]? = some r) (hn : Has r y) (hm : nomOf (baseL rs) r y = m) : evV (evOn rs k y) = .tuple #[.agg #[.int .i64 y, .int .i64 k, .int .i64 m], .bool true] := by rw [evOn_yes h hn, hm]; rfl
def LookR (p : Option Ev → Prop) (W : World) (e : Ending) (w' : World) : Prop := ∃ o, Hid (p o) ∧ e = .returned (evV o) ∧ Below W.heap.size W w'
theorem LookR.none_ {p : Option Ev → Prop} {W w' : World} (h : p none) (hb : Below W.heap.size W w') : LookR p W (.returned (.tuple #[.agg #[.int .i64 0, .int .i64 0, .int .i64 0], .bool false])) w' := ⟨none, h, rfl, hb⟩
theorem LookR.some_ {p : Option Ev → Prop} {y i n : Int} {W w' : World} (h : p (some ⟨y, i, n⟩)) (hb : Below W.heap.size W w') : LookR p W (.returned (.tuple #[.agg #[.int .i64 y, .int .i64 i, .int .i64 n], .bool true])) w' := ⟨some ⟨y, i, n⟩, h, rfl, hb⟩
end Cv

set_option maxRecDepth 100000 in
set_option maxHeartbeats 2000000 in
theorem bef1_no (rs : _root_.List Ru) (k n g off cap bl bq bn : Nat) (N q : Int) (na : ByteArray) (fr ut mo kk w d sec base save : Int) (le : ByteArray) (W : World) (HT : Hid (Tabs W)) (H : Hid (Rul (.slice (some ⟨g, off, none⟩) n cap) rs W)) (hn : n ≤ 1000) (hkn : k < n)
    (HR : Hid (rs[k]? = some ⟨na, fr, ut, mo, kk, w, d, sec, base, save, le⟩)) (hrg : W.rangeAt g (off + k * 11) (Ru.arr ⟨na, fr, ut, mo, kk, w, d, sec, base, save, le⟩).toList) (hl : W.cell? ⟨bl, 0, none⟩ = some (.slice (some ⟨g, off, none⟩) n cap)) (hq : W.cell? ⟨bq, 0, none⟩ = some (.int .i64 q)) (hnn : W.cell? ⟨bn, 0, none⟩ = some (.int .i64 N))
    (HNN : Hid (YearOf N q)) (hN1 : -9223372036854775808 ≤ N) (hN2 : N ≤ 9223372036854775807) (hm : lastY ⟨na, fr, ut, mo, kk, w, d, sec, base, save, le⟩ < -2000000000) :
    Calls Tryd.prog 62 #[.int .i64 (k : Int), .pointer (some ⟨bl, 0, none⟩), .pointer (some ⟨bq, 0, none⟩), .pointer (some ⟨bn, 0, none⟩)] W (LookR (LookB (baseL rs) ⟨na, fr, ut, mo, kk, w, d, sec, base, save, le⟩ N k) W) := by
  have HRG := Lib.hid hrg
  have HLC := Lib.hid hl
  have HQC := Lib.hid hq
  have HNC := Lib.hid hnn
  have hq1 := HNN.out.lo
  have hq2 := HNN.out.hi
  obtain ⟨hbb1, hbb2⟩ := baseL_bd rs
  have HBB := Lib.hid (And.intro hbb1 hbb2)
  have HB0 := Lib.hid (show Below W.heap.size W (W.alloc (.cells #[.int .i64 0, .int .i64 0, .int .i64 0] 117)) from bel_alloc _ _)
  have HZ0 := Lib.hid (show (W.alloc (.cells #[.int .i64 0, .int .i64 0, .int .i64 0] 117)).heap[W.heap.size]? = some (.cells #[.int .i64 0, .int .i64 0, .int .i64 0] 117) from heap_alloc_new _ _)
  have hl0 := cell_below HB0.out hl
  have hq0 := cell_below HB0.out hq
  obtain ⟨e0, e1, e2, e3, e4, e5, e6, e7, e8, e9, e10⟩ := range11 (range_below HB0.out hrg)
  dsimp only at e0 e1 e2 e3 e4 e5 e6 e7 e8 e9 e10
  clear hrg hl hq hnn hbb1 hbb2
  obtain ⟨ly, hly⟩ : ∃ ly, ly = lastY ⟨na, fr, ut, mo, kk, w, d, sec, base, save, le⟩ := ⟨_, rfl⟩
  have HLY := Lib.hid hly.symm
  have HNO : Hid (∀ z, ¬ Has ⟨na, fr, ut, mo, kk, w, d, sec, base, save, le⟩ z) := by
    show ∀ z, ¬ Has ⟨na, fr, ut, mo, kk, w, d, sec, base, save, le⟩ z
    intro z hz
    have h1 := hz.1
    have h2 := hz.2.1
    have h3 : -2000000000 ≤ firstY ⟨na, fr, ut, mo, kk, w, d, sec, base, save, le⟩ := by unfold firstY; omega
    omega
  rw [← hly] at hm
  clear hly
  go_enter Tryd.func62, Tryd.ntmps62
  go_wp2_with fail
  have hw2 : IntKind.i64.wrap (q + 2) = q + 2 := IntWalk.i64_in _ (by omega)
  first
  | (go_region_held3 (fun w' => w'.cell? ⟨bl, 0, none⟩ = some (.slice (some ⟨g, off, none⟩) n cap) ∧ w'.cell? ⟨bq, 0, none⟩ = some (.int .i64 q) ∧ w'.cell? ⟨g, off + k * 11, none⟩ = some (.string na) ∧ w'.cell? ⟨g, off + k * 11 + 1, none⟩ = some (.int .i64 fr) ∧ w'.cell? ⟨g, off + k * 11 + 2, none⟩ = some (.int .i64 ut) ∧ w'.cell? ⟨g, off + k * 11 + 3, none⟩ = some (.int .i64 mo) ∧ w'.cell? ⟨g, off + k * 11 + 4, none⟩ = some (.int .i64 kk) ∧ w'.cell? ⟨g, off + k * 11 + 5, none⟩ = some (.int .i64 w) ∧ w'.cell? ⟨g, off + k * 11 + 6, none⟩ = some (.int .i64 d) ∧ w'.cell? ⟨g, off + k * 11 + 7, none⟩ = some (.int .i64 sec) ∧ w'.cell? ⟨g, off + k * 11 + 8, none⟩ = some (.int .i64 base) ∧ w'.cell? ⟨g, off + k * 11 + 9, none⟩ = some (.int .i64 save) ∧ w'.cell? ⟨g, off + k * 11 + 10, none⟩ = some (.string le)) (first | exact ⟨cell_below (Below.drew HB0.out) HLC.out, cell_below (Below.drew HB0.out) HQC.out, range11 (range_below (Below.drew HB0.out) HRG.out)⟩ | exact ⟨cell_below HB1.out HLC.out, cell_below HB1.out HQC.out, range11 (range_below HB1.out HRG.out)⟩)
      (first
       | (go_at_call 63; refine (lastC_any na fr ut mo kk w d sec base save le _).mono ?_; rintro e w1 ⟨rfl, hb1⟩; have HB1 := Lib.hid (bel_trans (Below.drew HB0.out) hb1); have HZ1 := Lib.hid (block_below (A := (W.alloc (.cells #[.int .i64 0, .int .i64 0, .int .i64 0] 117)).drew) HZ0.out hb1); clear hb1; rw [HLY.out])))
  | fail
  clear e0 e1 e2 e3 e4 e5 e6 e7 e8 e9 e10 hl0 hq0 hw2
  go_wp2_with fail
  go_loopw [19] (fun s wr => ∃ (j : Nat) (wq : World), j ≤ 20 ∧ s = .int .i64 (j : Int) ∧ wr = wq ∧ Hid (Below W.heap.size W wq) ∧ Hid (wq.heap[W.heap.size]? = some (.cells #[.int .i64 0, .int .i64 0, .int .i64 0] 117))) (fun s _ => 20 - (intOf s).toNat)
  case atStart => exact ⟨0, _, by omega, rfl, rfl, HB1, HZ1⟩
  case round =>
    obtain ⟨j, wq, hj, rfl, rfl, HBq, HZq⟩ := hrel
    by_cases hlt : j < 20
    · have l0 := cell_below HBq.out HLC.out
      go_wp2_with fail
      refine (evOn_any (.slice (some ⟨g, off, none⟩) n cap) rs k _ _ (by exact HT.out.below HBq.out) (by exact H.out.below HBq.out) ?_ ?_).mono ?_
      · first | exact (wrap_fit _).1 | omega
      · first | exact (wrap_fit _).2 | omega
      intro e w2 hq; obtain ⟨rfl, hb2⟩ := EvR.to (evV_no HR.out (HNO.out _)) _ _ hq; clear hq
      have HB2 := Lib.hid (bel_trans HBq.out hb2)
      have HZ2 := Lib.hid (block_below HZq.out hb2)
      clear hb2
      go_wp2_with fail
      go_round
      case rel => exact ⟨j + 1, _, by omega, by go_num, rfl, Lib.hid (bel_trans HB2.out (bel_alloc _ _)), Lib.hid (block_below HZ2.out (bel_alloc _ _))⟩
      case measure => simp [intOf]; omega
    · obtain rfl : j = 20 := by omega
      have y0 := cellB HZq.out (i := 0) rfl
      have y1 := cellB HZq.out (i := 1) rfl
      have y2 := cellB HZq.out (i := 2) rfl
      have f0 := frzB HZq.out 0
      have f1 := frzB HZq.out 1
      have f2 := frzB HZq.out 2
      go_wp2_with fail
      refine bodyPost_ret (res_cell_tmp rfl _ _ _ _ _ _ _ rfl (set3c HZq.out) Tryd.underlying117 rfl (by kernel_rfl)) rfl ?_
      exact LookR.none_ (fun z hz => HNO.out z hz.1) (bel_setCells (o := 0) (l := [.int .i64 0, .int .i64 0, .int .i64 0]) HBq.out (Nat.le_refl _))

set_option maxRecDepth 100000 in
set_option maxHeartbeats 2000000 in
theorem bef1_hi (rs : _root_.List Ru) (k n g off cap bl bq bn : Nat) (N q : Int) (na : ByteArray) (fr ut mo kk w d sec base save : Int) (le : ByteArray) (W : World) (HT : Hid (Tabs W)) (H : Hid (Rul (.slice (some ⟨g, off, none⟩) n cap) rs W)) (hn : n ≤ 1000) (hkn : k < n)
    (HR : Hid (rs[k]? = some ⟨na, fr, ut, mo, kk, w, d, sec, base, save, le⟩)) (hrg : W.rangeAt g (off + k * 11) (Ru.arr ⟨na, fr, ut, mo, kk, w, d, sec, base, save, le⟩).toList) (hl : W.cell? ⟨bl, 0, none⟩ = some (.slice (some ⟨g, off, none⟩) n cap)) (hq : W.cell? ⟨bq, 0, none⟩ = some (.int .i64 q)) (hnn : W.cell? ⟨bn, 0, none⟩ = some (.int .i64 N))
    (HNN : Hid (YearOf N q)) (hN1 : -9223372036854775808 ≤ N) (hN2 : N ≤ 9223372036854775807) (hm : q + 2 < lastY ⟨na, fr, ut, mo, kk, w, d, sec, base, save, le⟩) :
    Calls Tryd.prog 62 #[.int .i64 (k : Int), .pointer (some ⟨bl, 0, none⟩), .pointer (some ⟨bq, 0, none⟩), .pointer (some ⟨bn, 0, none⟩)] W (LookR (LookB (baseL rs) ⟨na, fr, ut, mo, kk, w, d, sec, base, save, le⟩ N k) W) := by
  have HRG := Lib.hid hrg
  have HLC := Lib.hid hl
  have HQC := Lib.hid hq
  have HNC := Lib.hid hnn
  have hq1 := HNN.out.lo
  have hq2 := HNN.out.hi
  obtain ⟨hbb1, hbb2⟩ := baseL_bd rs
  have HBB := Lib.hid (And.intro hbb1 hbb2)
  have HB0 := Lib.hid (show Below W.heap.size W (W.alloc (.cells #[.int .i64 0, .int .i64 0, .int .i64 0] 117)) from bel_alloc _ _)
  have HZ0 := Lib.hid (show (W.alloc (.cells #[.int .i64 0, .int .i64 0, .int .i64 0] 117)).heap[W.heap.size]? = some (.cells #[.int .i64 0, .int .i64 0, .int .i64 0] 117) from heap_alloc_new _ _)
  have hl0 := cell_below HB0.out hl
  have hq0 := cell_below HB0.out hq
  obtain ⟨e0, e1, e2, e3, e4, e5, e6, e7, e8, e9, e10⟩ := range11 (range_below HB0.out hrg)
  dsimp only at e0 e1 e2 e3 e4 e5 e6 e7 e8 e9 e10
  clear hrg hl hq hnn hbb1 hbb2
  obtain ⟨ly, hly⟩ : ∃ ly, ly = lastY ⟨na, fr, ut, mo, kk, w, d, sec, base, save, le⟩ := ⟨_, rfl⟩
  have HLY := Lib.hid hly.symm
  have HY := Lib.hid (show min (lastY ⟨na, fr, ut, mo, kk, w, d, sec, base, save, le⟩) (q + 2) = q + 2 by omega)
  rw [← hly] at hm
  clear hly
  go_enter Tryd.func62, Tryd.ntmps62
  go_wp2_with fail
  have hw2 : IntKind.i64.wrap (q + 2) = q + 2 := IntWalk.i64_in _ (by omega)
  first
  | (go_region_held3 (fun w' => w'.cell? ⟨bl, 0, none⟩ = some (.slice (some ⟨g, off, none⟩) n cap) ∧ w'.cell? ⟨bq, 0, none⟩ = some (.int .i64 q) ∧ w'.cell? ⟨g, off + k * 11, none⟩ = some (.string na) ∧ w'.cell? ⟨g, off + k * 11 + 1, none⟩ = some (.int .i64 fr) ∧ w'.cell? ⟨g, off + k * 11 + 2, none⟩ = some (.int .i64 ut) ∧ w'.cell? ⟨g, off + k * 11 + 3, none⟩ = some (.int .i64 mo) ∧ w'.cell? ⟨g, off + k * 11 + 4, none⟩ = some (.int .i64 kk) ∧ w'.cell? ⟨g, off + k * 11 + 5, none⟩ = some (.int .i64 w) ∧ w'.cell? ⟨g, off + k * 11 + 6, none⟩ = some (.int .i64 d) ∧ w'.cell? ⟨g, off + k * 11 + 7, none⟩ = some (.int .i64 sec) ∧ w'.cell? ⟨g, off + k * 11 + 8, none⟩ = some (.int .i64 base) ∧ w'.cell? ⟨g, off + k * 11 + 9, none⟩ = some (.int .i64 save) ∧ w'.cell? ⟨g, off + k * 11 + 10, none⟩ = some (.string le)) (first | exact ⟨cell_below (Below.drew HB0.out) HLC.out, cell_below (Below.drew HB0.out) HQC.out, range11 (range_below (Below.drew HB0.out) HRG.out)⟩ | exact ⟨cell_below HB1.out HLC.out, cell_below HB1.out HQC.out, range11 (range_below HB1.out HRG.out)⟩)
      (first
       | (go_at_call 63; refine (lastC_any na fr ut mo kk w d sec base save le _).mono ?_; rintro e w1 ⟨rfl, hb1⟩; have HB1 := Lib.hid (bel_trans (Below.drew HB0.out) hb1); have HZ1 := Lib.hid (block_below (A := (W.alloc (.cells #[.int .i64 0, .int .i64 0, .int .i64 0] 117)).drew) HZ0.out hb1); clear hb1; rw [HLY.out])))
  | fail
  clear e0 e1 e2 e3 e4 e5 e6 e7 e8 e9 e10 hl0 hq0 hw2
  go_wp2_with fail
  go_loopw [19] (fun s wr => ∃ (j : Nat) (wq : World), j ≤ 20 ∧ s = .int .i64 (j : Int) ∧ wr = wq ∧ Hid (Below W.heap.size W wq) ∧ Hid (wq.heap[W.heap.size]? = some (.cells #[.int .i64 0, .int .i64 0, .int .i64 0] 117)) ∧ Hid (∀ i : Int, 0 ≤ i → i < j → ¬ (Has ⟨na, fr, ut, mo, kk, w, d, sec, base, save, le⟩ ((q + 2) - i) ∧ nomOf (baseL rs) ⟨na, fr, ut, mo, kk, w, d, sec, base, save, le⟩ ((q + 2) - i) < N))) (fun s _ => 20 - (intOf s).toNat)
  case atStart => exact ⟨0, _, by omega, rfl, rfl, HB1, HZ1, Lib.hid (fun i h1 h2 => by omega)⟩
  case round =>
    obtain ⟨j, wq, hj, rfl, rfl, HBq, HZq, HQ⟩ := hrel
    by_cases hlt : j < 20
    · have l0 := cell_below HBq.out HLC.out
      by_cases hh : Has ⟨na, fr, ut, mo, kk, w, d, sec, base, save, le⟩ ((q + 2) - (j : Int))
      · obtain ⟨m, hm⟩ : ∃ m, nomOf (baseL rs) ⟨na, fr, ut, mo, kk, w, d, sec, base, save, le⟩ ((q + 2) - (j : Int)) = m := ⟨_, rfl⟩
        have HH := Lib.hid hh
        have HM := Lib.hid hm
        clear hh hm
        by_cases hmn : m < N
        · have HMN := Lib.hid hmn
          go_wp2_with fail
          refine (evOn_any (.slice (some ⟨g, off, none⟩) n cap) rs k _ _ (by exact HT.out.below HBq.out) (by exact H.out.below HBq.out) ?_ ?_).mono ?_
          · omega
          · omega
          intro e w2 hq; obtain ⟨rfl, hb2⟩ := EvR.to (evV_yes HR.out HH.out HM.out) _ _ hq; clear hq
          have HB2 := Lib.hid (bel_trans HBq.out hb2)
          have HZ2 := Lib.hid (block_below HZq.out hb2)
          have ha0 : ∀ ob, (w2.alloc ob).cell? ⟨W.heap.size, 0, none⟩ = some (.int .i64 0) := fun ob => cell_below (bel_alloc w2 ob) (cellB HZ2.out (i := 0) rfl)
          have ha1 : ∀ ob, (w2.alloc ob).cell? ⟨W.heap.size, 1, none⟩ = some (.int .i64 0) := fun ob => cell_below (bel_alloc w2 ob) (cellB HZ2.out (i := 1) rfl)
          have ha2 : ∀ ob, (w2.alloc ob).cell? ⟨W.heap.size, 2, none⟩ = some (.int .i64 0) := fun ob => cell_below (bel_alloc w2 ob) (cellB HZ2.out (i := 2) rfl)
          have hf0 : ∀ ob, (w2.alloc ob).frozen? ⟨W.heap.size, 0, none⟩ = false := fun ob => frzB (block_below HZ2.out (bel_alloc w2 ob)) 0
          have hf1 : ∀ ob, (w2.alloc ob).frozen? ⟨W.heap.size, 1, none⟩ = false := fun ob => frzB (block_below HZ2.out (bel_alloc w2 ob)) 1
          have hf2 : ∀ ob, (w2.alloc ob).frozen? ⟨W.heap.size, 2, none⟩ = false := fun ob => frzB (block_below HZ2.out (bel_alloc w2 ob)) 2
          have hn0 : ∀ ob, (w2.alloc ob).cell? ⟨bn, 0, none⟩ = some (.int .i64 N) := fun ob => cell_below (bel_trans HB2.out (bel_alloc w2 ob)) HNC.out
          clear hb2
          go_wp2_with fail
          refine bodyPost_ret (res_cell_tmp rfl _ _ _ _ _ _ _ rfl (set3c (block_below HZ2.out (bel_alloc w2 _))) Tryd.underlying117 rfl (by kernel_rfl)) rfl ?_
          exact LookR.some_ ⟨rfl, HH.out, HM.out.symm, HMN.out, fun z hz hz2 => by
            have h9 := bef_some HBB.out.1 HBB.out.2 HNN.out (k := (j : Int)) (r := ⟨na, fr, ut, mo, kk, w, d, sec, base, save, le⟩) (by rw [HY.out]; exact ⟨HH.out, by rw [HM.out]; exact HMN.out⟩) (by rw [HY.out]; exact HQ.out) z hz hz2
            rw [HY.out] at h9; exact h9⟩ (bel_setCells (o := 0) (l := [.int .i64 _, .int .i64 k, .int .i64 m]) (bel_trans HB2.out (bel_alloc w2 _)) (Nat.le_refl _))
        · have hmn' : N ≤ m := by omega
          have HQ2 : Hid (∀ i : Int, 0 ≤ i → i < ((j + 1 : Nat) : Int) → ¬ (Has ⟨na, fr, ut, mo, kk, w, d, sec, base, save, le⟩ ((q + 2) - i) ∧ nomOf (baseL rs) ⟨na, fr, ut, mo, kk, w, d, sec, base, save, le⟩ ((q + 2) - i) < N)) := fun i h1 h2 h3 => by
            by_cases h4 : i < j
            · exact HQ.out i h1 h4 h3
            · obtain rfl : i = (j : Int) := by omega
              have h5 := h3.2
              rw [HM.out] at h5; omega
          go_wp2_with fail
          refine (evOn_any (.slice (some ⟨g, off, none⟩) n cap) rs k _ _ (by exact HT.out.below HBq.out) (by exact H.out.below HBq.out) ?_ ?_).mono ?_
          · omega
          · omega
          intro e w2 hq; obtain ⟨rfl, hb2⟩ := EvR.to (evV_yes HR.out HH.out HM.out) _ _ hq; clear hq
          have HB2 := Lib.hid (bel_trans HBq.out hb2)
          have HZ2 := Lib.hid (block_below HZq.out hb2)
          have hn0 : ∀ ob, (w2.alloc ob).cell? ⟨bn, 0, none⟩ = some (.int .i64 N) := fun ob => cell_below (bel_trans HB2.out (bel_alloc w2 ob)) HNC.out
          clear hb2
          go_wp2_with fail
          go_round
          case rel => exact ⟨j + 1, _, by omega, by go_num, rfl, Lib.hid (bel_trans HB2.out (bel_alloc _ _)), Lib.hid (block_below HZ2.out (bel_alloc _ _)), HQ2⟩
          case measure => simp [intOf]; omega
      · have HNH := Lib.hid hh
        have HQ2 : Hid (∀ i : Int, 0 ≤ i → i < ((j + 1 : Nat) : Int) → ¬ (Has ⟨na, fr, ut, mo, kk, w, d, sec, base, save, le⟩ ((q + 2) - i) ∧ nomOf (baseL rs) ⟨na, fr, ut, mo, kk, w, d, sec, base, save, le⟩ ((q + 2) - i) < N)) := fun i h1 h2 h3 => by
          by_cases h4 : i < j
          · exact HQ.out i h1 h4 h3
          · obtain rfl : i = (j : Int) := by omega
            exact HNH.out h3.1
        clear hh
        go_wp2_with fail
        refine (evOn_any (.slice (some ⟨g, off, none⟩) n cap) rs k _ _ (by exact HT.out.below HBq.out) (by exact H.out.below HBq.out) ?_ ?_).mono ?_
        · omega
        · omega
        intro e w2 hq; obtain ⟨rfl, hb2⟩ := EvR.to (evV_no HR.out HNH.out) _ _ hq; clear hq
        have HB2 := Lib.hid (bel_trans HBq.out hb2)
        have HZ2 := Lib.hid (block_below HZq.out hb2)
        clear hb2
        go_wp2_with fail
        go_round
        case rel => exact ⟨j + 1, _, by omega, by go_num, rfl, Lib.hid (bel_trans HB2.out (bel_alloc _ _)), Lib.hid (block_below HZ2.out (bel_alloc _ _)), HQ2⟩
        case measure => simp [intOf]; omega
    · obtain rfl : j = 20 := by omega
      have y0 := cellB HZq.out (i := 0) rfl
      have y1 := cellB HZq.out (i := 1) rfl
      have y2 := cellB HZq.out (i := 2) rfl
      have f0 := frzB HZq.out 0
      have f1 := frzB HZq.out 1
      have f2 := frzB HZq.out 2
      go_wp2_with fail
      refine bodyPost_ret (res_cell_tmp rfl _ _ _ _ _ _ _ rfl (set3c HZq.out) Tryd.underlying117 rfl (by kernel_rfl)) rfl ?_
      exact LookR.none_ (bef_none HBB.out.1 HBB.out.2 HNN.out (by rw [HY.out]; intro i h1 h2; exact HQ.out i h1 (by omega))) (bel_setCells (o := 0) (l := [.int .i64 0, .int .i64 0, .int .i64 0]) HBq.out (Nat.le_refl _))

set_option maxRecDepth 100000 in
set_option maxHeartbeats 2000000 in
theorem bef1_lo (rs : _root_.List Ru) (k n g off cap bl bq bn : Nat) (N q : Int) (na : ByteArray) (fr ut mo kk w d sec base save : Int) (le : ByteArray) (W : World) (HT : Hid (Tabs W)) (H : Hid (Rul (.slice (some ⟨g, off, none⟩) n cap) rs W)) (hn : n ≤ 1000) (hkn : k < n)
    (HR : Hid (rs[k]? = some ⟨na, fr, ut, mo, kk, w, d, sec, base, save, le⟩)) (hrg : W.rangeAt g (off + k * 11) (Ru.arr ⟨na, fr, ut, mo, kk, w, d, sec, base, save, le⟩).toList) (hl : W.cell? ⟨bl, 0, none⟩ = some (.slice (some ⟨g, off, none⟩) n cap)) (hq : W.cell? ⟨bq, 0, none⟩ = some (.int .i64 q)) (hnn : W.cell? ⟨bn, 0, none⟩ = some (.int .i64 N))
    (HNN : Hid (YearOf N q)) (hN1 : -9223372036854775808 ≤ N) (hN2 : N ≤ 9223372036854775807) (hm : lastY ⟨na, fr, ut, mo, kk, w, d, sec, base, save, le⟩ ≤ q + 2) (hm2 : -2000000000 ≤ lastY ⟨na, fr, ut, mo, kk, w, d, sec, base, save, le⟩) :
    Calls Tryd.prog 62 #[.int .i64 (k : Int), .pointer (some ⟨bl, 0, none⟩), .pointer (some ⟨bq, 0, none⟩), .pointer (some ⟨bn, 0, none⟩)] W (LookR (LookB (baseL rs) ⟨na, fr, ut, mo, kk, w, d, sec, base, save, le⟩ N k) W) := by
  have HRG := Lib.hid hrg
  have HLC := Lib.hid hl
  have HQC := Lib.hid hq
  have HNC := Lib.hid hnn
  have hq1 := HNN.out.lo
  have hq2 := HNN.out.hi
  obtain ⟨hbb1, hbb2⟩ := baseL_bd rs
  have HBB := Lib.hid (And.intro hbb1 hbb2)
  have HB0 := Lib.hid (show Below W.heap.size W (W.alloc (.cells #[.int .i64 0, .int .i64 0, .int .i64 0] 117)) from bel_alloc _ _)
  have HZ0 := Lib.hid (show (W.alloc (.cells #[.int .i64 0, .int .i64 0, .int .i64 0] 117)).heap[W.heap.size]? = some (.cells #[.int .i64 0, .int .i64 0, .int .i64 0] 117) from heap_alloc_new _ _)
  have hl0 := cell_below HB0.out hl
  have hq0 := cell_below HB0.out hq
  obtain ⟨e0, e1, e2, e3, e4, e5, e6, e7, e8, e9, e10⟩ := range11 (range_below HB0.out hrg)
  dsimp only at e0 e1 e2 e3 e4 e5 e6 e7 e8 e9 e10
  clear hrg hl hq hnn hbb1 hbb2
  obtain ⟨ly, hly⟩ : ∃ ly, ly = lastY ⟨na, fr, ut, mo, kk, w, d, sec, base, save, le⟩ := ⟨_, rfl⟩
  have HLY := Lib.hid hly.symm
  have hub : lastY ⟨na, fr, ut, mo, kk, w, d, sec, base, save, le⟩ ≤ 2000000000 := by unfold lastY; split <;> omega
  have HY := Lib.hid (show min (lastY ⟨na, fr, ut, mo, kk, w, d, sec, base, save, le⟩) (q + 2) = ly by omega)
  rw [← hly] at hm hm2 hub
  clear hly
  go_enter Tryd.func62, Tryd.ntmps62
  go_wp2_with fail
  have hw2 : IntKind.i64.wrap (q + 2) = q + 2 := IntWalk.i64_in _ (by omega)
  first
  | (go_region_held3 (fun w' => w'.cell? ⟨bl, 0, none⟩ = some (.slice (some ⟨g, off, none⟩) n cap) ∧ w'.cell? ⟨bq, 0, none⟩ = some (.int .i64 q) ∧ w'.cell? ⟨g, off + k * 11, none⟩ = some (.string na) ∧ w'.cell? ⟨g, off + k * 11 + 1, none⟩ = some (.int .i64 fr) ∧ w'.cell? ⟨g, off + k * 11 + 2, none⟩ = some (.int .i64 ut) ∧ w'.cell? ⟨g, off + k * 11 + 3, none⟩ = some (.int .i64 mo) ∧ w'.cell? ⟨g, off + k * 11 + 4, none⟩ = some (.int .i64 kk) ∧ w'.cell? ⟨g, off + k * 11 + 5, none⟩ = some (.int .i64 w) ∧ w'.cell? ⟨g, off + k * 11 + 6, none⟩ = some (.int .i64 d) ∧ w'.cell? ⟨g, off + k * 11 + 7, none⟩ = some (.int .i64 sec) ∧ w'.cell? ⟨g, off + k * 11 + 8, none⟩ = some (.int .i64 base) ∧ w'.cell? ⟨g, off + k * 11 + 9, none⟩ = some (.int .i64 save) ∧ w'.cell? ⟨g, off + k * 11 + 10, none⟩ = some (.string le)) (first | exact ⟨cell_below (Below.drew HB0.out) HLC.out, cell_below (Below.drew HB0.out) HQC.out, range11 (range_below (Below.drew HB0.out) HRG.out)⟩ | exact ⟨cell_below HB1.out HLC.out, cell_below HB1.out HQC.out, range11 (range_below HB1.out HRG.out)⟩)
      (first
       | (go_at_call 63; refine (lastC_any na fr ut mo kk w d sec base save le _).mono ?_; rintro e w1 ⟨rfl, hb1⟩; have HB1 := Lib.hid (bel_trans (Below.drew HB0.out) hb1); have HZ1 := Lib.hid (block_below (A := (W.alloc (.cells #[.int .i64 0, .int .i64 0, .int .i64 0] 117)).drew) HZ0.out hb1); clear hb1; rw [HLY.out])))
  | fail
  clear e0 e1 e2 e3 e4 e5 e6 e7 e8 e9 e10 hl0 hq0 hw2
  go_wp2_with fail
  go_loopw [19] (fun s wr => ∃ (j : Nat) (wq : World), j ≤ 20 ∧ s = .int .i64 (j : Int) ∧ wr = wq ∧ Hid (Below W.heap.size W wq) ∧ Hid (wq.heap[W.heap.size]? = some (.cells #[.int .i64 0, .int .i64 0, .int .i64 0] 117)) ∧ Hid (∀ i : Int, 0 ≤ i → i < j → ¬ (Has ⟨na, fr, ut, mo, kk, w, d, sec, base, save, le⟩ (ly - i) ∧ nomOf (baseL rs) ⟨na, fr, ut, mo, kk, w, d, sec, base, save, le⟩ (ly - i) < N))) (fun s _ => 20 - (intOf s).toNat)
  case atStart => exact ⟨0, _, by omega, rfl, rfl, HB1, HZ1, Lib.hid (fun i h1 h2 => by omega)⟩
  case round =>
    obtain ⟨j, wq, hj, rfl, rfl, HBq, HZq, HQ⟩ := hrel
    by_cases hlt : j < 20
    · have l0 := cell_below HBq.out HLC.out
      by_cases hh : Has ⟨na, fr, ut, mo, kk, w, d, sec, base, save, le⟩ (ly - (j : Int))
      · obtain ⟨m, hm⟩ : ∃ m, nomOf (baseL rs) ⟨na, fr, ut, mo, kk, w, d, sec, base, save, le⟩ (ly - (j : Int)) = m := ⟨_, rfl⟩
        have HH := Lib.hid hh
        have HM := Lib.hid hm
        clear hh hm
        by_cases hmn : m < N
        · have HMN := Lib.hid hmn
          go_wp2_with fail
          refine (evOn_any (.slice (some ⟨g, off, none⟩) n cap) rs k _ _ (by exact HT.out.below HBq.out) (by exact H.out.below HBq.out) ?_ ?_).mono ?_
          · omega
          · omega
          intro e w2 hq; obtain ⟨rfl, hb2⟩ := EvR.to (evV_yes HR.out HH.out HM.out) _ _ hq; clear hq
          have HB2 := Lib.hid (bel_trans HBq.out hb2)
          have HZ2 := Lib.hid (block_below HZq.out hb2)
          have ha0 : ∀ ob, (w2.alloc ob).cell? ⟨W.heap.size, 0, none⟩ = some (.int .i64 0) := fun ob => cell_below (bel_alloc w2 ob) (cellB HZ2.out (i := 0) rfl)
          have ha1 : ∀ ob, (w2.alloc ob).cell? ⟨W.heap.size, 1, none⟩ = some (.int .i64 0) := fun ob => cell_below (bel_alloc w2 ob) (cellB HZ2.out (i := 1) rfl)
          have ha2 : ∀ ob, (w2.alloc ob).cell? ⟨W.heap.size, 2, none⟩ = some (.int .i64 0) := fun ob => cell_below (bel_alloc w2 ob) (cellB HZ2.out (i := 2) rfl)
          have hf0 : ∀ ob, (w2.alloc ob).frozen? ⟨W.heap.size, 0, none⟩ = false := fun ob => frzB (block_below HZ2.out (bel_alloc w2 ob)) 0
          have hf1 : ∀ ob, (w2.alloc ob).frozen? ⟨W.heap.size, 1, none⟩ = false := fun ob => frzB (block_below HZ2.out (bel_alloc w2 ob)) 1
          have hf2 : ∀ ob, (w2.alloc ob).frozen? ⟨W.heap.size, 2, none⟩ = false := fun ob => frzB (block_below HZ2.out (bel_alloc w2 ob)) 2
          have hn0 : ∀ ob, (w2.alloc ob).cell? ⟨bn, 0, none⟩ = some (.int .i64 N) := fun ob => cell_below (bel_trans HB2.out (bel_alloc w2 ob)) HNC.out
          clear hb2
          go_wp2_with fail
          refine bodyPost_ret (res_cell_tmp rfl _ _ _ _ _ _ _ rfl (set3c (block_below HZ2.out (bel_alloc w2 _))) Tryd.underlying117 rfl (by kernel_rfl)) rfl ?_
          exact LookR.some_ ⟨rfl, HH.out, HM.out.symm, HMN.out, fun z hz hz2 => by
            have h9 := bef_some HBB.out.1 HBB.out.2 HNN.out (k := (j : Int)) (r := ⟨na, fr, ut, mo, kk, w, d, sec, base, save, le⟩) (by rw [HY.out]; exact ⟨HH.out, by rw [HM.out]; exact HMN.out⟩) (by rw [HY.out]; exact HQ.out) z hz hz2
            rw [HY.out] at h9; exact h9⟩ (bel_setCells (o := 0) (l := [.int .i64 _, .int .i64 k, .int .i64 m]) (bel_trans HB2.out (bel_alloc w2 _)) (Nat.le_refl _))
        · have hmn' : N ≤ m := by omega
          have HQ2 : Hid (∀ i : Int, 0 ≤ i → i < ((j + 1 : Nat) : Int) → ¬ (Has ⟨na, fr, ut, mo, kk, w, d, sec, base, save, le⟩ (ly - i) ∧ nomOf (baseL rs) ⟨na, fr, ut, mo, kk, w, d, sec, base, save, le⟩ (ly - i) < N)) := fun i h1 h2 h3 => by
            by_cases h4 : i < j
            · exact HQ.out i h1 h4 h3
            · obtain rfl : i = (j : Int) := by omega
              have h5 := h3.2
              rw [HM.out] at h5; omega
          go_wp2_with fail
          refine (evOn_any (.slice (some ⟨g, off, none⟩) n cap) rs k _ _ (by exact HT.out.below HBq.out) (by exact H.out.below HBq.out) ?_ ?_).mono ?_
          · omega
          · omega
          intro e w2 hq; obtain ⟨rfl, hb2⟩ := EvR.to (evV_yes HR.out HH.out HM.out) _ _ hq; clear hq
          have HB2 := Lib.hid (bel_trans HBq.out hb2)
          have HZ2 := Lib.hid (block_below HZq.out hb2)
          have hn0 : ∀ ob, (w2.alloc ob).cell? ⟨bn, 0, none⟩ = some (.int .i64 N) := fun ob => cell_below (bel_trans HB2.out (bel_alloc w2 ob)) HNC.out
          clear hb2
          go_wp2_with fail
          go_round
          case rel => exact ⟨j + 1, _, by omega, by go_num, rfl, Lib.hid (bel_trans HB2.out (bel_alloc _ _)), Lib.hid (block_below HZ2.out (bel_alloc _ _)), HQ2⟩
          case measure => simp [intOf]; omega
      · have HNH := Lib.hid hh
        have HQ2 : Hid (∀ i : Int, 0 ≤ i → i < ((j + 1 : Nat) : Int) → ¬ (Has ⟨na, fr, ut, mo, kk, w, d, sec, base, save, le⟩ (ly - i) ∧ nomOf (baseL rs) ⟨na, fr, ut, mo, kk, w, d, sec, base, save, le⟩ (ly - i) < N)) := fun i h1 h2 h3 => by
          by_cases h4 : i < j
          · exact HQ.out i h1 h4 h3
          · obtain rfl : i = (j : Int) := by omega
            exact HNH.out h3.1
        clear hh
        go_wp2_with fail
        refine (evOn_any (.slice (some ⟨g, off, none⟩) n cap) rs k _ _ (by exact HT.out.below HBq.out) (by exact H.out.below HBq.out) ?_ ?_).mono ?_
        · omega
        · omega
        intro e w2 hq; obtain ⟨rfl, hb2⟩ := EvR.to (evV_no HR.out HNH.out) _ _ hq; clear hq
        have HB2 := Lib.hid (bel_trans HBq.out hb2)
        have HZ2 := Lib.hid (block_below HZq.out hb2)
        clear hb2
        go_wp2_with fail
        go_round
        case rel => exact ⟨j + 1, _, by omega, by go_num, rfl, Lib.hid (bel_trans HB2.out (bel_alloc _ _)), Lib.hid (block_below HZ2.out (bel_alloc _ _)), HQ2⟩
        case measure => simp [intOf]; omega
    · obtain rfl : j = 20 := by omega
      have y0 := cellB HZq.out (i := 0) rfl
      have y1 := cellB HZq.out (i := 1) rfl
      have y2 := cellB HZq.out (i := 2) rfl
      have f0 := frzB HZq.out 0
      have f1 := frzB HZq.out 1
      have f2 := frzB HZq.out 2
      go_wp2_with fail
      refine bodyPost_ret (res_cell_tmp rfl _ _ _ _ _ _ _ rfl (set3c HZq.out) Tryd.underlying117 rfl (by kernel_rfl)) rfl ?_
      exact LookR.none_ (bef_none HBB.out.1 HBB.out.2 HNN.out (by rw [HY.out]; intro i h1 h2; exact HQ.out i h1 (by omega))) (bel_setCells (o := 0) (l := [.int .i64 0, .int .i64 0, .int .i64 0]) HBq.out (Nat.le_refl _))

set_option maxRecDepth 100000 in
theorem bef1_any (rs : _root_.List Ru) (k n g off cap bl bq bn : Nat) (N q : Int) (r : Ru) (W : World) (HT : Hid (Tabs W)) (H : Hid (Rul (.slice (some ⟨g, off, none⟩) n cap) rs W)) (hn : n ≤ 1000) (hkn : k < n)
    (HR : Hid (rs[k]? = some r)) (hrg : W.rangeAt g (off + k * 11) r.arr.toList) (hl : W.cell? ⟨bl, 0, none⟩ = some (.slice (some ⟨g, off, none⟩) n cap)) (hq : W.cell? ⟨bq, 0, none⟩ = some (.int .i64 q)) (hnn : W.cell? ⟨bn, 0, none⟩ = some (.int .i64 N))
    (HNN : Hid (YearOf N q)) (hN1 : -9223372036854775808 ≤ N) (hN2 : N ≤ 9223372036854775807) :
    Calls Tryd.prog 62 #[.int .i64 (k : Int), .pointer (some ⟨bl, 0, none⟩), .pointer (some ⟨bq, 0, none⟩), .pointer (some ⟨bn, 0, none⟩)] W (LookR (LookB (baseL rs) r N k) W) := by
  obtain ⟨na, fr, ut, mo, kk, w, d, sec, base, save, le⟩ := r
  by_cases h1 : lastY ⟨na, fr, ut, mo, kk, w, d, sec, base, save, le⟩ < -2000000000
  · exact bef1_no rs k n g off cap bl bq bn N q na fr ut mo kk w d sec base save le W HT H hn hkn HR hrg hl hq hnn HNN hN1 hN2 h1
  · by_cases h2 : q + 2 < lastY ⟨na, fr, ut, mo, kk, w, d, sec, base, save, le⟩
    · exact bef1_hi rs k n g off cap bl bq bn N q na fr ut mo kk w d sec base save le W HT H hn hkn HR hrg hl hq hnn HNN hN1 hN2 h2
    · exact bef1_lo rs k n g off cap bl bq bn N q na fr ut mo kk w d sec base save le W HT H hn hkn HR hrg hl hq hnn HNN hN1 hN2 (by omega) (by omega)

end Go.Proofs.YtdppmeeobpbfnaaDoor

