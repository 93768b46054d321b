/-
  The contract of events.On.
-/
import Derived.Test.YtdppmeeobpbfnaaDoorRuMem
import Derived.Test.YtdppmeeobpbfnaaDoorDayRef
namespace Go.Proofs.YtdppmeeobpbfnaaDoor
open Go.RowKit Cv
set_option linter.unusedVariables false
set_option linter.unusedSimpArgs false

namespace Cv
/-- an event, or none, as On's like hand it back -/
def evV : Option Ev → Value
  | none => .tuple #[.agg #[.int .i64 0, .int .i64 0, .int .i64 0], .bool false]
  | some e => .tuple #[.agg #[.int .i64 e.year, .int .i64 e.rule, .int .i64 e.nom], .bool true]
def EvR (o : Option Ev) (W : World) (e : Ending) (w' : World) : Prop := e = .returned (evV o) ∧ Below W.heap.size W w'
theorem EvR.none_ {o : Option Ev} {W w' : World} (h : o = none) (hb : Below W.heap.size W w') : EvR o W (.returned (.tuple #[.agg #[.int .i64 0, .int .i64 0, .int .i64 0], .bool false])) w' := by subst h; exact ⟨rfl, hb⟩
theorem EvR.some_ {o : Option Ev} {y i n : Int} {W w' : World} (h : o = some ⟨y, i, n⟩) (hb : Below W.heap.size W w') : EvR o W (.returned (.tuple #[.agg #[.int .i64 y, .int .i64 i, .int .i64 n], .bool true])) w' := by subst h; exact ⟨rfl, hb⟩
theorem EvR.to {o : Option Ev} {W : World} {v : Value} (h : evV o = v) : ∀ e w', EvR o W e w' → e = .returned v ∧ Below W.heap.size W w' := by
  rintro e w' ⟨rfl, hb⟩
  exact ⟨by rw [h], hb⟩
theorem res_cell_tmp {P : Program} {fn : Func} {p u : Tmp} {ty : TypeId} (h : fn.results = #[.cell p ty, .tmp u]) (tmps : Array Value) (w : World) (g : Nat) (t : TypeId) (cs : Array Value) (fr : Nat × Nat) (d : TypeDesc)
    (hp : tmps.getD p undef = .pointer (some ⟨g, 0, none⟩)) (hg : w.heap[g]? = some (.cells cs t fr))
    (hu : P.underlying ty = some d) (hd : (match d with | .struct _ | .array _ _ => true | _ => false) = true) (hi : (P.info? ty).map (·.size) = some cs.size) :
    (results fn tmps).run P w = .ok (.tuple #[.agg cs, tmps.getD u undef]) w := by
  have hp' : tmps[p]?.getD undef = .pointer (some ⟨g, 0, none⟩) := by simpa using hp
  simp [results, h, hp', asAddr, run_loadVar_row w g t ty cs fr d hg hu hd hi]
theorem evOn_out {rs : _root_.List Ru} {i y : Int} (h : i < 0 ∨ (rs.length : Int) ≤ i) : evOn rs i y = none := by
  unfold evOn ruleAt
  rcases h with h | h
  · rw [if_neg (by omega)]
  · rw [if_pos (by omega), _root_.List.getElem?_eq_none (by omega)]
theorem ruleAt_nat {rs : _root_.List Ru} {k : Nat} {r : Ru} (h : rs[k]? = some r) : ruleAt rs (k : Int) = some r := by
  unfold ruleAt
  rw [if_pos (by omega), show ((k : Int)).toNat = k by omega, h]
theorem evOn_no {rs : _root_.List Ru} {k : Nat} {y : Int} {r : Ru} (h : rs[k]? = some r) (hn : ¬ Has r y) : evOn rs k y = none := by
  unfold evOn
  rw [ruleAt_nat h]
  simp only
  rw [if_neg hn]
theorem evOn_yes {rs : _root_.List Ru} {k : Nat} {y : Int} {r : Ru} (h : rs[k]? = some r) (hn : Has r y) : evOn rs k y = some ⟨y, k, nomOf (baseL rs) r y⟩ := by
  unfold evOn
  rw [ruleAt_nat h]
  simp only
  rw [if_pos hn]
end Cv

theorem onC_any (y m k w d : Int) (W : World) (hT : Tabs W) (hy1 : -9223372036854775808 ≤ y) (hy2 : y ≤ 9223372036854775807) :
    Calls Tryd.prog 45 #[.int .i64 y, .int .i64 m, .agg #[.int .i64 k, .int .i64 w, .int .i64 d]] W (OnR y m k w d W) := on_any y m k w d W hT hy1 hy2


set_option maxRecDepth 100000 in
set_option maxHeartbeats 2000000 in
theorem evOn_t1 (rs : _root_.List Ru) (k n g off cap : Nat) (y : Int) (na : ByteArray) (fr ut mo kk w d sec base save : Int) (le : ByteArray) (W : World) (HT : Hid (Tabs W)) (H : Hid (Rul (.slice (some ⟨g, off, none⟩) n cap) rs W)) (HN : Hid (n = rs.length)) (hn : n ≤ 1000) (hkn : k < n)
    (HR : Hid (rs[k]? = some ⟨na, fr, ut, mo, kk, w, d, sec, base, save, le⟩)) (hrg : W.rangeAt g (off + k * 11) (Ru.arr ⟨na, fr, ut, mo, kk, w, d, sec, base, save, le⟩).toList) (hy1 : -9223372036854775808 ≤ y) (hy2 : y ≤ 9223372036854775807) (h1 : y < firstY ⟨na, fr, ut, mo, kk, w, d, sec, base, save, le⟩) :
    Calls Tryd.prog 64 #[.slice (some ⟨g, off, none⟩) n cap, .int .i64 (k : Int), .int .i64 y] W (EvR (evOn rs k y) W) := by
  obtain ⟨e0, e1, e2, e3, e4, e5, e6, e7, e8, e9, e10⟩ := range11 (range_below (bel_alloc W (.cells #[.int .i64 0, .int .i64 0, .int .i64 0] 117)) hrg)
  dsimp only at e0 e1 e2 e3 e4 e5 e6 e7 e8 e9 e10
  have HK0 := Lib.hid (show ((W.alloc (.cells #[.int .i64 0, .int .i64 0, .int .i64 0] 117)).alloc (.cells #[.string na, .int .i64 fr, .int .i64 ut, .int .i64 mo, .int .i64 kk, .int .i64 w, .int .i64 d, .int .i64 sec, .int .i64 base, .int .i64 save, .string le] 56)).heap[W.heap.size]? = some (.cells #[.int .i64 0, .int .i64 0, .int .i64 0] 117) from block_below (heap_alloc_new _ _) (bel_alloc _ _))
  have HK1 := Lib.hid (show ((W.alloc (.cells #[.int .i64 0, .int .i64 0, .int .i64 0] 117)).alloc (.cells #[.string na, .int .i64 fr, .int .i64 ut, .int .i64 mo, .int .i64 kk, .int .i64 w, .int .i64 d, .int .i64 sec, .int .i64 base, .int .i64 save, .string le] 56)).heap[W.heap.size + 1]? = some (.cells #[.string na, .int .i64 fr, .int .i64 ut, .int .i64 mo, .int .i64 kk, .int .i64 w, .int .i64 d, .int .i64 sec, .int .i64 base, .int .i64 save, .string le] 56) from by have := heap_alloc_new (W.alloc (.cells #[.int .i64 0, .int .i64 0, .int .i64 0] 117)) (.cells #[.string na, .int .i64 fr, .int .i64 ut, .int .i64 mo, .int .i64 kk, .int .i64 w, .int .i64 d, .int .i64 sec, .int .i64 base, .int .i64 save, .string le] 56); simpa using this)
  have HB0 := Lib.hid (show Below W.heap.size W ((W.alloc (.cells #[.int .i64 0, .int .i64 0, .int .i64 0] 117)).alloc (.cells #[.string na, .int .i64 fr, .int .i64 ut, .int .i64 mo, .int .i64 kk, .int .i64 w, .int .i64 d, .int .i64 sec, .int .i64 base, .int .i64 save, .string le] 56)) from bel_trans (bel_alloc _ _) (bel_alloc _ _))
  clear hrg
  have HO := Lib.hid (evOn_no (y := y) HR.out (fun h => by have := h.1; omega))
  have h1' : y < fr ∨ y < -2000000000 := by unfold firstY at h1; dsimp only at h1; omega
  clear h1 HK0 HK1 HB0
  by_cases hfr : fr < -2000000000
  all_goals
    go_enter Tryd.func64, Tryd.ntmps64
    go_wp2_with fail
    refine bodyPost_ret (res_cell_tmp rfl _ _ _ _ _ _ _ rfl (block_below (heap_alloc_new _ _) (bel_alloc _ _)) Tryd.underlying117 rfl (by kernel_rfl)) rfl ?_
    exact EvR.none_ HO.out (bel_trans (bel_alloc _ _) (bel_alloc _ _))

set_option maxRecDepth 100000 in
set_option maxHeartbeats 2000000 in
theorem evOn_t2 (rs : _root_.List Ru) (k n g off cap : Nat) (y : Int) (na : ByteArray) (fr ut mo kk w d sec base save : Int) (le : ByteArray) (W : World) (HT : Hid (Tabs W)) (H : Hid (Rul (.slice (some ⟨g, off, none⟩) n cap) rs W)) (HN : Hid (n = rs.length)) (hn : n ≤ 1000) (hkn : k < n)
    (HR : Hid (rs[k]? = some ⟨na, fr, ut, mo, kk, w, d, sec, base, save, le⟩)) (hrg : W.rangeAt g (off + k * 11) (Ru.arr ⟨na, fr, ut, mo, kk, w, d, sec, base, save, le⟩).toList) (hy1 : -9223372036854775808 ≤ y) (hy2 : y ≤ 9223372036854775807) (HF : Hid (firstY ⟨na, fr, ut, mo, kk, w, d, sec, base, save, le⟩ ≤ y)) (h2 : lastY ⟨na, fr, ut, mo, kk, w, d, sec, base, save, le⟩ < y) :
    Calls Tryd.prog 64 #[.slice (some ⟨g, off, none⟩) n cap, .int .i64 (k : Int), .int .i64 y] W (EvR (evOn rs k y) W) := by
  obtain ⟨e0, e1, e2, e3, e4, e5, e6, e7, e8, e9, e10⟩ := range11 (range_below (bel_alloc W (.cells #[.int .i64 0, .int .i64 0, .int .i64 0] 117)) hrg)
  dsimp only at e0 e1 e2 e3 e4 e5 e6 e7 e8 e9 e10
  have HK0 := Lib.hid (show ((W.alloc (.cells #[.int .i64 0, .int .i64 0, .int .i64 0] 117)).alloc (.cells #[.string na, .int .i64 fr, .int .i64 ut, .int .i64 mo, .int .i64 kk, .int .i64 w, .int .i64 d, .int .i64 sec, .int .i64 base, .int .i64 save, .string le] 56)).heap[W.heap.size]? = some (.cells #[.int .i64 0, .int .i64 0, .int .i64 0] 117) from block_below (heap_alloc_new _ _) (bel_alloc _ _))
  have HK1 := Lib.hid (show ((W.alloc (.cells #[.int .i64 0, .int .i64 0, .int .i64 0] 117)).alloc (.cells #[.string na, .int .i64 fr, .int .i64 ut, .int .i64 mo, .int .i64 kk, .int .i64 w, .int .i64 d, .int .i64 sec, .int .i64 base, .int .i64 save, .string le] 56)).heap[W.heap.size + 1]? = some (.cells #[.string na, .int .i64 fr, .int .i64 ut, .int .i64 mo, .int .i64 kk, .int .i64 w, .int .i64 d, .int .i64 sec, .int .i64 base, .int .i64 save, .string le] 56) from by have := heap_alloc_new (W.alloc (.cells #[.int .i64 0, .int .i64 0, .int .i64 0] 117)) (.cells #[.string na, .int .i64 fr, .int .i64 ut, .int .i64 mo, .int .i64 kk, .int .i64 w, .int .i64 d, .int .i64 sec, .int .i64 base, .int .i64 save, .string le] 56); simpa using this)
  have HB0 := Lib.hid (show Below W.heap.size W ((W.alloc (.cells #[.int .i64 0, .int .i64 0, .int .i64 0] 117)).alloc (.cells #[.string na, .int .i64 fr, .int .i64 ut, .int .i64 mo, .int .i64 kk, .int .i64 w, .int .i64 d, .int .i64 sec, .int .i64 base, .int .i64 save, .string le] 56)) from bel_trans (bel_alloc _ _) (bel_alloc _ _))
  clear hrg
  have h1a : fr ≤ y ∧ -2000000000 ≤ y := by have h1 := HF.out; unfold firstY at h1; dsimp only at h1; omega
  obtain ⟨h1b, h1c⟩ := h1a
  have HO := Lib.hid (evOn_no (y := y) HR.out (fun h => by have := h.2.1; omega))
  by_cases hfr : fr < -2000000000
  all_goals
    go_enter Tryd.func64, Tryd.ntmps64
    go_wp2_with fail
    ((with_reducible refine (lastC_any na fr ut mo kk w d sec base save le _).mono ?_); rintro e w1 ⟨rfl, hb1⟩)
    have HA1 := Lib.hid (block_below HK0.out hb1)
    have HC1 := Lib.hid (block_below HK1.out hb1)
    have HB1 := Lib.hid (bel_trans HB0.out hb1)
    clear hb1
    have y0 := cellB HA1.out (i := 0) rfl
    have y1 := cellB HA1.out (i := 1) rfl
    have y2 := cellB HA1.out (i := 2) rfl
    have f0 := frzB HA1.out 0
    have f1 := frzB HA1.out 1
    have f2 := frzB HA1.out 2
    go_wp2_with fail
    refine bodyPost_ret (res_cell_tmp rfl _ _ _ _ _ _ _ rfl (set3c HA1.out) Tryd.underlying117 rfl (by kernel_rfl)) rfl ?_
    exact EvR.none_ HO.out (bel_setCells (o := 0) (l := [.int .i64 0, .int .i64 0, .int .i64 0]) HB1.out (Nat.le_refl _))

set_option maxRecDepth 100000 in
set_option maxHeartbeats 2000000 in
theorem evOn_t3 (rs : _root_.List Ru) (k n g off cap : Nat) (y : Int) (na : ByteArray) (fr ut mo kk w d sec base save : Int) (le : ByteArray) (W : World) (HT : Hid (Tabs W)) (H : Hid (Rul (.slice (some ⟨g, off, none⟩) n cap) rs W)) (HN : Hid (n = rs.length)) (hn : n ≤ 1000) (hkn : k < n)
    (HR : Hid (rs[k]? = some ⟨na, fr, ut, mo, kk, w, d, sec, base, save, le⟩)) (hrg : W.rangeAt g (off + k * 11) (Ru.arr ⟨na, fr, ut, mo, kk, w, d, sec, base, save, le⟩).toList) (hy1 : -9223372036854775808 ≤ y) (hy2 : y ≤ 9223372036854775807) (HF : Hid (firstY ⟨na, fr, ut, mo, kk, w, d, sec, base, save, le⟩ ≤ y)) (HL : Hid (y ≤ lastY ⟨na, fr, ut, mo, kk, w, d, sec, base, save, le⟩)) (hc : ¬ clk sec base) :
    Calls Tryd.prog 64 #[.slice (some ⟨g, off, none⟩) n cap, .int .i64 (k : Int), .int .i64 y] W (EvR (evOn rs k y) W) := by
  obtain ⟨e0, e1, e2, e3, e4, e5, e6, e7, e8, e9, e10⟩ := range11 (range_below (bel_alloc W (.cells #[.int .i64 0, .int .i64 0, .int .i64 0] 117)) hrg)
  dsimp only at e0 e1 e2 e3 e4 e5 e6 e7 e8 e9 e10
  have HK0 := Lib.hid (show ((W.alloc (.cells #[.int .i64 0, .int .i64 0, .int .i64 0] 117)).alloc (.cells #[.string na, .int .i64 fr, .int .i64 ut, .int .i64 mo, .int .i64 kk, .int .i64 w, .int .i64 d, .int .i64 sec, .int .i64 base, .int .i64 save, .string le] 56)).heap[W.heap.size]? = some (.cells #[.int .i64 0, .int .i64 0, .int .i64 0] 117) from block_below (heap_alloc_new _ _) (bel_alloc _ _))
  have HK1 := Lib.hid (show ((W.alloc (.cells #[.int .i64 0, .int .i64 0, .int .i64 0] 117)).alloc (.cells #[.string na, .int .i64 fr, .int .i64 ut, .int .i64 mo, .int .i64 kk, .int .i64 w, .int .i64 d, .int .i64 sec, .int .i64 base, .int .i64 save, .string le] 56)).heap[W.heap.size + 1]? = some (.cells #[.string na, .int .i64 fr, .int .i64 ut, .int .i64 mo, .int .i64 kk, .int .i64 w, .int .i64 d, .int .i64 sec, .int .i64 base, .int .i64 save, .string le] 56) from by have := heap_alloc_new (W.alloc (.cells #[.int .i64 0, .int .i64 0, .int .i64 0] 117)) (.cells #[.string na, .int .i64 fr, .int .i64 ut, .int .i64 mo, .int .i64 kk, .int .i64 w, .int .i64 d, .int .i64 sec, .int .i64 base, .int .i64 save, .string le] 56); simpa using this)
  have HB0 := Lib.hid (show Below W.heap.size W ((W.alloc (.cells #[.int .i64 0, .int .i64 0, .int .i64 0] 117)).alloc (.cells #[.string na, .int .i64 fr, .int .i64 ut, .int .i64 mo, .int .i64 kk, .int .i64 w, .int .i64 d, .int .i64 sec, .int .i64 base, .int .i64 save, .string le] 56)) from bel_trans (bel_alloc _ _) (bel_alloc _ _))
  clear hrg
  have h1a : fr ≤ y ∧ -2000000000 ≤ y := by have h1 := HF.out; unfold firstY at h1; dsimp only at h1; omega
  obtain ⟨h1b, h1c⟩ := h1a
  have h2a := HL.out
  obtain ⟨ly, hly⟩ : ∃ ly, ly = lastY ⟨na, fr, ut, mo, kk, w, d, sec, base, save, le⟩ := ⟨_, rfl⟩
  rw [← hly] at h2a
  have HLY := Lib.hid hly.symm
  clear hly
  have HO := Lib.hid (evOn_no (y := y) HR.out (fun h => hc h.2.2.1))
  have HCK := Lib.hid (clkC_no hc)
  clear hc
  by_cases hfr : fr < -2000000000
  all_goals
    go_enter Tryd.func64, Tryd.ntmps64
    go_wp2_with fail
    ((with_reducible refine (lastC_any na fr ut mo kk w d sec base save le _).mono ?_); rintro e w1 ⟨rfl, hb1⟩)
    have HA1 := Lib.hid (block_below HK0.out hb1)
    have HC1 := Lib.hid (block_below HK1.out hb1)
    have HB1 := Lib.hid (bel_trans HB0.out hb1)
    clear hb1
    have c7 := cellB HC1.out (i := 7) rfl
    have c8 := cellB HC1.out (i := 8) rfl
    rw [HLY.out]
    go_wp2_with fail
    ((with_reducible refine (clock_any sec base _).mono ?_); rintro e w2 ⟨rfl, hb2⟩)
    rw [HCK.out]
    clear c7 c8
    have HA2 := Lib.hid (block_below HA1.out hb2)
    have HC2 := Lib.hid (block_below HC1.out hb2)
    have HB2 := Lib.hid (bel_trans HB1.out hb2)
    clear hb2
    have y0 := cellB HA2.out (i := 0) rfl
    have y1 := cellB HA2.out (i := 1) rfl
    have y2 := cellB HA2.out (i := 2) rfl
    have f0 := frzB HA2.out 0
    have f1 := frzB HA2.out 1
    have f2 := frzB HA2.out 2
    go_wp2_with fail
    refine bodyPost_ret (res_cell_tmp rfl _ _ _ _ _ _ _ rfl (set3c HA2.out) Tryd.underlying117 rfl (by kernel_rfl)) rfl ?_
    exact EvR.none_ HO.out (bel_setCells (o := 0) (l := [.int .i64 0, .int .i64 0, .int .i64 0]) HB2.out (Nat.le_refl _))

set_option maxRecDepth 100000 in
set_option maxHeartbeats 2000000 in
theorem evOn_t4 (rs : _root_.List Ru) (k n g off cap : Nat) (y : Int) (na : ByteArray) (fr ut mo kk w d sec base save : Int) (le : ByteArray) (W : World) (HT : Hid (Tabs W)) (H : Hid (Rul (.slice (some ⟨g, off, none⟩) n cap) rs W)) (HN : Hid (n = rs.length)) (hn : n ≤ 1000) (hkn : k < n)
    (HR : Hid (rs[k]? = some ⟨na, fr, ut, mo, kk, w, d, sec, base, save, le⟩)) (hrg : W.rangeAt g (off + k * 11) (Ru.arr ⟨na, fr, ut, mo, kk, w, d, sec, base, save, le⟩).toList) (hy1 : -9223372036854775808 ≤ y) (hy2 : y ≤ 9223372036854775807) (HF : Hid (firstY ⟨na, fr, ut, mo, kk, w, d, sec, base, save, le⟩ ≤ y)) (HL : Hid (y ≤ lastY ⟨na, fr, ut, mo, kk, w, d, sec, base, save, le⟩)) (hc : clk sec base) (x c : Int) (HX : Hid (on y mo kk w d = (x, c))) (hcode : c ≠ 0) :
    Calls Tryd.prog 64 #[.slice (some ⟨g, off, none⟩) n cap, .int .i64 (k : Int), .int .i64 y] W (EvR (evOn rs k y) W) := by
  obtain ⟨e0, e1, e2, e3, e4, e5, e6, e7, e8, e9, e10⟩ := range11 (range_below (bel_alloc W (.cells #[.int .i64 0, .int .i64 0, .int .i64 0] 117)) hrg)
  dsimp only at e0 e1 e2 e3 e4 e5 e6 e7 e8 e9 e10
  have HK0 := Lib.hid (show ((W.alloc (.cells #[.int .i64 0, .int .i64 0, .int .i64 0] 117)).alloc (.cells #[.string na, .int .i64 fr, .int .i64 ut, .int .i64 mo, .int .i64 kk, .int .i64 w, .int .i64 d, .int .i64 sec, .int .i64 base, .int .i64 save, .string le] 56)).heap[W.heap.size]? = some (.cells #[.int .i64 0, .int .i64 0, .int .i64 0] 117) from block_below (heap_alloc_new _ _) (bel_alloc _ _))
  have HK1 := Lib.hid (show ((W.alloc (.cells #[.int .i64 0, .int .i64 0, .int .i64 0] 117)).alloc (.cells #[.string na, .int .i64 fr, .int .i64 ut, .int .i64 mo, .int .i64 kk, .int .i64 w, .int .i64 d, .int .i64 sec, .int .i64 base, .int .i64 save, .string le] 56)).heap[W.heap.size + 1]? = some (.cells #[.string na, .int .i64 fr, .int .i64 ut, .int .i64 mo, .int .i64 kk, .int .i64 w, .int .i64 d, .int .i64 sec, .int .i64 base, .int .i64 save, .string le] 56) from by have := heap_alloc_new (W.alloc (.cells #[.int .i64 0, .int .i64 0, .int .i64 0] 117)) (.cells #[.string na, .int .i64 fr, .int .i64 ut, .int .i64 mo, .int .i64 kk, .int .i64 w, .int .i64 d, .int .i64 sec, .int .i64 base, .int .i64 save, .string le] 56); simpa using this)
  have HB0 := Lib.hid (show Below W.heap.size W ((W.alloc (.cells #[.int .i64 0, .int .i64 0, .int .i64 0] 117)).alloc (.cells #[.string na, .int .i64 fr, .int .i64 ut, .int .i64 mo, .int .i64 kk, .int .i64 w, .int .i64 d, .int .i64 sec, .int .i64 base, .int .i64 save, .string le] 56)) from bel_trans (bel_alloc _ _) (bel_alloc _ _))
  clear hrg
  have h1a : fr ≤ y ∧ -2000000000 ≤ y := by have h1 := HF.out; unfold firstY at h1; dsimp only at h1; omega
  obtain ⟨h1b, h1c⟩ := h1a
  have h2a := HL.out
  obtain ⟨ly, hly⟩ : ∃ ly, ly = lastY ⟨na, fr, ut, mo, kk, w, d, sec, base, save, le⟩ := ⟨_, rfl⟩
  rw [← hly] at h2a
  have HLY := Lib.hid hly.symm
  clear hly
  have HO := Lib.hid (evOn_no (y := y) HR.out (fun h => hcode (by have h3 : (on y mo kk w d).2 = 0 := h.2.2.2; rw [HX.out] at h3; exact h3)))
  have HCK := Lib.hid (clkC_yes hc)
  have hcb : (c != 0) = true := by simp [hcode]
  clear hc hcode
  by_cases hfr : fr < -2000000000
  all_goals
    go_enter Tryd.func64, Tryd.ntmps64
    go_wp2_with fail
    ((with_reducible refine (lastC_any na fr ut mo kk w d sec base save le _).mono ?_); rintro e w1 ⟨rfl, hb1⟩)
    have HA1 := Lib.hid (block_below HK0.out hb1)
    have HC1 := Lib.hid (block_below HK1.out hb1)
    have HB1 := Lib.hid (bel_trans HB0.out hb1)
    clear hb1
    have c3 := cellB HC1.out (i := 3) rfl
    have c4 := cellB HC1.out (i := 4) rfl
    have c5 := cellB HC1.out (i := 5) rfl
    have c6 := cellB HC1.out (i := 6) rfl
    have c7 := cellB HC1.out (i := 7) rfl
    have c8 := cellB HC1.out (i := 8) rfl
    rw [HLY.out]
    go_wp2_with fail
    ((with_reducible refine (clock_any sec base _).mono ?_); rintro e w2 ⟨rfl, hb2⟩)
    rw [HCK.out]
    clear c3 c4 c5 c6 c7 c8
    have HA2 := Lib.hid (block_below HA1.out hb2)
    have HC2 := Lib.hid (block_below HC1.out hb2)
    have HB2 := Lib.hid (bel_trans HB1.out hb2)
    clear hb2
    have c3 := cellB HC2.out (i := 3) rfl
    have c4 := cellB HC2.out (i := 4) rfl
    have c5 := cellB HC2.out (i := 5) rfl
    have c6 := cellB HC2.out (i := 6) rfl
    go_wp2_with fail
    ((with_reducible refine (onC_any y mo kk w d _ (by exact (HT.out.below HB2.out)) hy1 hy2).mono ?_); intro e w3 hq; obtain ⟨rfl, hb3⟩ := OnR.to HX.out _ _ hq; clear hq)
    clear c3 c4 c5 c6
    have HA3 := Lib.hid (block_below HA2.out hb3)
    have HC3 := Lib.hid (block_below HC2.out hb3)
    have HB3 := Lib.hid (bel_trans HB2.out hb3)
    clear hb3
    have y0 := cellB HA3.out (i := 0) rfl
    have y1 := cellB HA3.out (i := 1) rfl
    have y2 := cellB HA3.out (i := 2) rfl
    have f0 := frzB HA3.out 0
    have f1 := frzB HA3.out 1
    have f2 := frzB HA3.out 2
    go_wp2_with fail
    refine bodyPost_ret (res_cell_tmp rfl _ _ _ _ _ _ _ rfl (set3c HA3.out) Tryd.underlying117 rfl (by kernel_rfl)) rfl ?_
    exact EvR.none_ HO.out (bel_setCells (o := 0) (l := [.int .i64 0, .int .i64 0, .int .i64 0]) HB3.out (Nat.le_refl _))

set_option maxRecDepth 100000 in
set_option maxHeartbeats 2000000 in
theorem evOn_t5 (rs : _root_.List Ru) (k n g off cap : Nat) (y : Int) (na : ByteArray) (fr ut mo kk w d sec save : Int) (le : ByteArray) (W : World) (HT : Hid (Tabs W)) (H : Hid (Rul (.slice (some ⟨g, off, none⟩) n cap) rs W)) (HN : Hid (n = rs.length)) (hn : n ≤ 1000) (hkn : k < n)
    (HR : Hid (rs[k]? = some ⟨na, fr, ut, mo, kk, w, d, sec, 1, save, le⟩)) (hrg : W.rangeAt g (off + k * 11) (Ru.arr ⟨na, fr, ut, mo, kk, w, d, sec, 1, save, le⟩).toList) (hy1 : -9223372036854775808 ≤ y) (hy2 : y ≤ 9223372036854775807) (HF : Hid (firstY ⟨na, fr, ut, mo, kk, w, d, sec, 1, save, le⟩ ≤ y)) (HL : Hid (y ≤ lastY ⟨na, fr, ut, mo, kk, w, d, sec, 1, save, le⟩)) (hc : clk sec 1) (x : Int) (HX : Hid (on y mo kk w d = (x, 0))) :
    Calls Tryd.prog 64 #[.slice (some ⟨g, off, none⟩) n cap, .int .i64 (k : Int), .int .i64 y] W (EvR (evOn rs k y) W) := by
  obtain ⟨e0, e1, e2, e3, e4, e5, e6, e7, e8, e9, e10⟩ := range11 (range_below (bel_alloc W (.cells #[.int .i64 0, .int .i64 0, .int .i64 0] 117)) hrg)
  dsimp only at e0 e1 e2 e3 e4 e5 e6 e7 e8 e9 e10
  have HK0 := Lib.hid (show ((W.alloc (.cells #[.int .i64 0, .int .i64 0, .int .i64 0] 117)).alloc (.cells #[.string na, .int .i64 fr, .int .i64 ut, .int .i64 mo, .int .i64 kk, .int .i64 w, .int .i64 d, .int .i64 sec, .int .i64 1, .int .i64 save, .string le] 56)).heap[W.heap.size]? = some (.cells #[.int .i64 0, .int .i64 0, .int .i64 0] 117) from block_below (heap_alloc_new _ _) (bel_alloc _ _))
  have HK1 := Lib.hid (show ((W.alloc (.cells #[.int .i64 0, .int .i64 0, .int .i64 0] 117)).alloc (.cells #[.string na, .int .i64 fr, .int .i64 ut, .int .i64 mo, .int .i64 kk, .int .i64 w, .int .i64 d, .int .i64 sec, .int .i64 1, .int .i64 save, .string le] 56)).heap[W.heap.size + 1]? = some (.cells #[.string na, .int .i64 fr, .int .i64 ut, .int .i64 mo, .int .i64 kk, .int .i64 w, .int .i64 d, .int .i64 sec, .int .i64 1, .int .i64 save, .string le] 56) from by have := heap_alloc_new (W.alloc (.cells #[.int .i64 0, .int .i64 0, .int .i64 0] 117)) (.cells #[.string na, .int .i64 fr, .int .i64 ut, .int .i64 mo, .int .i64 kk, .int .i64 w, .int .i64 d, .int .i64 sec, .int .i64 1, .int .i64 save, .string le] 56); simpa using this)
  have HB0 := Lib.hid (show Below W.heap.size W ((W.alloc (.cells #[.int .i64 0, .int .i64 0, .int .i64 0] 117)).alloc (.cells #[.string na, .int .i64 fr, .int .i64 ut, .int .i64 mo, .int .i64 kk, .int .i64 w, .int .i64 d, .int .i64 sec, .int .i64 1, .int .i64 save, .string le] 56)) from bel_trans (bel_alloc _ _) (bel_alloc _ _))
  clear hrg
  have h1a : fr ≤ y ∧ -2000000000 ≤ y := by have h1 := HF.out; unfold firstY at h1; dsimp only at h1; omega
  obtain ⟨h1b, h1c⟩ := h1a
  have h2a := HL.out
  obtain ⟨ly, hly⟩ : ∃ ly, ly = lastY ⟨na, fr, ut, mo, kk, w, d, sec, 1, save, le⟩ := ⟨_, rfl⟩
  rw [← hly] at h2a
  have HLY := Lib.hid hly.symm
  clear hly
  have hh : Has ⟨na, fr, ut, mo, kk, w, d, sec, 1, save, le⟩ y := ⟨HF.out, HL.out, hc, by show (on y mo kk w d).2 = 0; rw [HX.out]⟩
  have hxb : -800000000100 ≤ x ∧ x ≤ 800000000100 := by
    obtain ⟨q1, q2, q3, q4, q5, q6, q7⟩ := on_ok (show (on y mo kk w d).2 = 0 by rw [HX.out])
    have q8 := anchor_year q2 q3 q4 q5
    have q9 : (on y mo kk w d).1 = x := by rw [HX.out]
    unfold inr at q1
    unfold fst at q8
    omega
  obtain ⟨hx1, hx2⟩ := hxb
  have HO : Hid (evOn rs k y = some ⟨y, k, 86400 * x + sec + baseL rs⟩) := by
    show _ = _
    rw [evOn_yes HR.out hh]
    unfold nomOf
    dsimp only
    rw [HX.out, if_pos rfl]
  have HCK := Lib.hid (clkC_yes hc)
  obtain ⟨hc1, hc2, hc3, hc4⟩ := hc
  have hl0 := leastL_le0 rs
  have hll := baseL_bd rs
  obtain ⟨hll1, hll2⟩ := hll
  obtain ⟨lb, hlb⟩ : ∃ lb, lb = baseL rs := ⟨_, rfl⟩
  rw [← hlb] at hll1 hll2
  have HLB := Lib.hid hlb.symm
  have HLM := Lib.hid (show max (leastL rs) (-10800) = lb by rw [hlb]; rfl)
  clear hh hlb
  by_cases hfr : fr < -2000000000 <;> by_cases hle : leastL rs < -10800
  all_goals
    go_enter Tryd.func64, Tryd.ntmps64
    go_wp2_with fail
    ((with_reducible refine (lastC_any na fr ut mo kk w d sec 1 save le _).mono ?_); rintro e w1 ⟨rfl, hb1⟩)
    have HA1 := Lib.hid (block_below HK0.out hb1)
    have HC1 := Lib.hid (block_below HK1.out hb1)
    have HB1 := Lib.hid (bel_trans HB0.out hb1)
    clear hb1
    have c3 := cellB HC1.out (i := 3) rfl
    have c4 := cellB HC1.out (i := 4) rfl
    have c5 := cellB HC1.out (i := 5) rfl
    have c6 := cellB HC1.out (i := 6) rfl
    have c7 := cellB HC1.out (i := 7) rfl
    have c8 := cellB HC1.out (i := 8) rfl
    rw [HLY.out]
    go_wp2_with fail
    ((with_reducible refine (clock_any sec 1 _).mono ?_); rintro e w2 ⟨rfl, hb2⟩)
    rw [HCK.out]
    clear c3 c4 c5 c6 c7 c8
    have HA2 := Lib.hid (block_below HA1.out hb2)
    have HC2 := Lib.hid (block_below HC1.out hb2)
    have HB2 := Lib.hid (bel_trans HB1.out hb2)
    clear hb2
    have c3 := cellB HC2.out (i := 3) rfl
    have c4 := cellB HC2.out (i := 4) rfl
    have c5 := cellB HC2.out (i := 5) rfl
    have c6 := cellB HC2.out (i := 6) rfl
    have c7 := cellB HC2.out (i := 7) rfl
    have c8 := cellB HC2.out (i := 8) rfl
    go_wp2_with fail
    ((with_reducible refine (onC_any y mo kk w d _ (by exact (HT.out.below HB2.out)) hy1 hy2).mono ?_); intro e w3 hq; obtain ⟨rfl, hb3⟩ := OnR.to HX.out _ _ hq; clear hq)
    clear c3 c4 c5 c6 c7 c8
    have HA3 := Lib.hid (block_below HA2.out hb3)
    have HC3 := Lib.hid (block_below HC2.out hb3)
    have HB3 := Lib.hid (bel_trans HB2.out hb3)
    clear hb3
    have c7 := cellB HC3.out (i := 7) rfl
    have c8 := cellB HC3.out (i := 8) rfl
    go_wp2_with fail
    ((with_reducible refine (least_any (.slice (some ⟨g, off, none⟩) n cap) rs _ (by exact H.out.below HB3.out)).mono ?_); rintro e w4 ⟨rfl, hb4⟩)
    clear c7 c8
    have HA4 := Lib.hid (block_below HA3.out hb4)
    have HC4 := Lib.hid (block_below HC3.out hb4)
    have HB4 := Lib.hid (bel_trans HB3.out hb4)
    clear hb4
    have y0 := cellB HA4.out (i := 0) rfl
    have y1 := cellB HA4.out (i := 1) rfl
    have y2 := cellB HA4.out (i := 2) rfl
    have f0 := frzB HA4.out 0
    have f1 := frzB HA4.out 1
    have f2 := frzB HA4.out 2
    go_wp2_with fail
    refine bodyPost_ret (res_cell_tmp rfl _ _ _ _ _ _ _ rfl (set3c HA4.out) Tryd.underlying117 rfl (by kernel_rfl)) rfl ?_
    exact EvR.some_ (by rw [HO.out]; exact congrArg (fun z => some (Ev.mk y k z)) (by have := HLM.out; have := HLB.out; omega)) (bel_setCells (o := 0) (l := [.int .i64 y, .int .i64 k, .int .i64 _]) HB4.out (Nat.le_refl _))

set_option maxRecDepth 100000 in
set_option maxHeartbeats 2000000 in
theorem evOn_t6 (rs : _root_.List Ru) (k n g off cap : Nat) (y : Int) (na : ByteArray) (fr ut mo kk w d sec base save : Int) (le : ByteArray) (W : World) (HT : Hid (Tabs W)) (H : Hid (Rul (.slice (some ⟨g, off, none⟩) n cap) rs W)) (HN : Hid (n = rs.length)) (hn : n ≤ 1000) (hkn : k < n)
    (HR : Hid (rs[k]? = some ⟨na, fr, ut, mo, kk, w, d, sec, base, save, le⟩)) (hrg : W.rangeAt g (off + k * 11) (Ru.arr ⟨na, fr, ut, mo, kk, w, d, sec, base, save, le⟩).toList) (hy1 : -9223372036854775808 ≤ y) (hy2 : y ≤ 9223372036854775807) (HF : Hid (firstY ⟨na, fr, ut, mo, kk, w, d, sec, base, save, le⟩ ≤ y)) (HL : Hid (y ≤ lastY ⟨na, fr, ut, mo, kk, w, d, sec, base, save, le⟩)) (hc : clk sec base) (x : Int) (HX : Hid (on y mo kk w d = (x, 0))) (hbs : base ≠ 1) :
    Calls Tryd.prog 64 #[.slice (some ⟨g, off, none⟩) n cap, .int .i64 (k : Int), .int .i64 y] W (EvR (evOn rs k y) W) := by
  obtain ⟨e0, e1, e2, e3, e4, e5, e6, e7, e8, e9, e10⟩ := range11 (range_below (bel_alloc W (.cells #[.int .i64 0, .int .i64 0, .int .i64 0] 117)) hrg)
  dsimp only at e0 e1 e2 e3 e4 e5 e6 e7 e8 e9 e10
  have HK0 := Lib.hid (show ((W.alloc (.cells #[.int .i64 0, .int .i64 0, .int .i64 0] 117)).alloc (.cells #[.string na, .int .i64 fr, .int .i64 ut, .int .i64 mo, .int .i64 kk, .int .i64 w, .int .i64 d, .int .i64 sec, .int .i64 base, .int .i64 save, .string le] 56)).heap[W.heap.size]? = some (.cells #[.int .i64 0, .int .i64 0, .int .i64 0] 117) from block_below (heap_alloc_new _ _) (bel_alloc _ _))
  have HK1 := Lib.hid (show ((W.alloc (.cells #[.int .i64 0, .int .i64 0, .int .i64 0] 117)).alloc (.cells #[.string na, .int .i64 fr, .int .i64 ut, .int .i64 mo, .int .i64 kk, .int .i64 w, .int .i64 d, .int .i64 sec, .int .i64 base, .int .i64 save, .string le] 56)).heap[W.heap.size + 1]? = some (.cells #[.string na, .int .i64 fr, .int .i64 ut, .int .i64 mo, .int .i64 kk, .int .i64 w, .int .i64 d, .int .i64 sec, .int .i64 base, .int .i64 save, .string le] 56) from by have := heap_alloc_new (W.alloc (.cells #[.int .i64 0, .int .i64 0, .int .i64 0] 117)) (.cells #[.string na, .int .i64 fr, .int .i64 ut, .int .i64 mo, .int .i64 kk, .int .i64 w, .int .i64 d, .int .i64 sec, .int .i64 base, .int .i64 save, .string le] 56); simpa using this)
  have HB0 := Lib.hid (show Below W.heap.size W ((W.alloc (.cells #[.int .i64 0, .int .i64 0, .int .i64 0] 117)).alloc (.cells #[.string na, .int .i64 fr, .int .i64 ut, .int .i64 mo, .int .i64 kk, .int .i64 w, .int .i64 d, .int .i64 sec, .int .i64 base, .int .i64 save, .string le] 56)) from bel_trans (bel_alloc _ _) (bel_alloc _ _))
  clear hrg
  have h1a : fr ≤ y ∧ -2000000000 ≤ y := by have h1 := HF.out; unfold firstY at h1; dsimp only at h1; omega
  obtain ⟨h1b, h1c⟩ := h1a
  have h2a := HL.out
  obtain ⟨ly, hly⟩ : ∃ ly, ly = lastY ⟨na, fr, ut, mo, kk, w, d, sec, base, save, le⟩ := ⟨_, rfl⟩
  rw [← hly] at h2a
  have HLY := Lib.hid hly.symm
  clear hly
  have hh : Has ⟨na, fr, ut, mo, kk, w, d, sec, base, save, le⟩ y := ⟨HF.out, HL.out, hc, by show (on y mo kk w d).2 = 0; rw [HX.out]⟩
  have hxb : -800000000100 ≤ x ∧ x ≤ 800000000100 := by
    obtain ⟨q1, q2, q3, q4, q5, q6, q7⟩ := on_ok (show (on y mo kk w d).2 = 0 by rw [HX.out])
    have q8 := anchor_year q2 q3 q4 q5
    have q9 : (on y mo kk w d).1 = x := by rw [HX.out]
    unfold inr at q1
    unfold fst at q8
    omega
  obtain ⟨hx1, hx2⟩ := hxb
  have HO : Hid (evOn rs k y = some ⟨y, k, 86400 * x + sec⟩) := by
    show _ = _
    rw [evOn_yes HR.out hh]
    unfold nomOf
    dsimp only
    rw [HX.out, if_neg hbs, Int.add_zero]
  have HCK := Lib.hid (clkC_yes hc)
  obtain ⟨hc1, hc2, hc3, hc4⟩ := hc
  have hbb : (base == 1) = false := by simp [hbs]
  clear hh hbs
  by_cases hfr : fr < -2000000000
  all_goals
    go_enter Tryd.func64, Tryd.ntmps64
    go_wp2_with fail
    ((with_reducible refine (lastC_any na fr ut mo kk w d sec base save le _).mono ?_); rintro e w1 ⟨rfl, hb1⟩)
    have HA1 := Lib.hid (block_below HK0.out hb1)
    have HC1 := Lib.hid (block_below HK1.out hb1)
    have HB1 := Lib.hid (bel_trans HB0.out hb1)
    clear hb1
    have c3 := cellB HC1.out (i := 3) rfl
    have c4 := cellB HC1.out (i := 4) rfl
    have c5 := cellB HC1.out (i := 5) rfl
    have c6 := cellB HC1.out (i := 6) rfl
    have c7 := cellB HC1.out (i := 7) rfl
    have c8 := cellB HC1.out (i := 8) rfl
    rw [HLY.out]
    go_wp2_with fail
    ((with_reducible refine (clock_any sec base _).mono ?_); rintro e w2 ⟨rfl, hb2⟩)
    rw [HCK.out]
    clear c3 c4 c5 c6 c7 c8
    have HA2 := Lib.hid (block_below HA1.out hb2)
    have HC2 := Lib.hid (block_below HC1.out hb2)
    have HB2 := Lib.hid (bel_trans HB1.out hb2)
    clear hb2
    have c3 := cellB HC2.out (i := 3) rfl
    have c4 := cellB HC2.out (i := 4) rfl
    have c5 := cellB HC2.out (i := 5) rfl
    have c6 := cellB HC2.out (i := 6) rfl
    have c7 := cellB HC2.out (i := 7) rfl
    have c8 := cellB HC2.out (i := 8) rfl
    go_wp2_with fail
    ((with_reducible refine (onC_any y mo kk w d _ (by exact (HT.out.below HB2.out)) hy1 hy2).mono ?_); intro e w3 hq; obtain ⟨rfl, hb3⟩ := OnR.to HX.out _ _ hq; clear hq)
    clear c3 c4 c5 c6 c7 c8
    have HA3 := Lib.hid (block_below HA2.out hb3)
    have HC3 := Lib.hid (block_below HC2.out hb3)
    have HB3 := Lib.hid (bel_trans HB2.out hb3)
    clear hb3
    have c7 := cellB HC3.out (i := 7) rfl
    have c8 := cellB HC3.out (i := 8) rfl
    have y0 := cellB HA3.out (i := 0) rfl
    have y1 := cellB HA3.out (i := 1) rfl
    have y2 := cellB HA3.out (i := 2) rfl
    have f0 := frzB HA3.out 0
    have f1 := frzB HA3.out 1
    have f2 := frzB HA3.out 2
    go_wp2_with fail
    refine bodyPost_ret (res_cell_tmp rfl _ _ _ _ _ _ _ rfl (set3c HA3.out) Tryd.underlying117 rfl (by kernel_rfl)) rfl ?_
    exact EvR.some_ (by rw [HO.out]) (bel_setCells (o := 0) (l := [.int .i64 y, .int .i64 k, .int .i64 _]) HB3.out (Nat.le_refl _))

set_option maxRecDepth 100000 in
set_option maxHeartbeats 2000000 in
theorem evOn_any (v : Value) (rs : _root_.List Ru) (i y : Int) (W : World) (hT : Tabs W) (h : Rul v rs W) (hy1 : -9223372036854775808 ≤ y) (hy2 : y ≤ 9223372036854775807) :
    Calls Tryd.prog 64 #[v, .int .i64 i, .int .i64 y] W (EvR (evOn rs i y) W) := by
  obtain ⟨A, cap, rfl⟩ := h.sl
  have H := Lib.hid h
  have HT := Lib.hid hT
  have hn := h.len
  clear h hT
  obtain ⟨n, hN⟩ : ∃ n, n = rs.length := ⟨_, rfl⟩
  rw [← hN] at hn H ⊢
  have HN := Lib.hid hN
  clear hN
  by_cases hi0 : i < 0
  · have HO := Lib.hid (evOn_out (rs := rs) (y := y) (.inl hi0))
    go_enter Tryd.func64, Tryd.ntmps64
    go_wp2_with fail
    refine bodyPost_ret (res_cell_tmp rfl _ _ _ _ _ _ _ rfl (heap_alloc_new _ _) Tryd.underlying117 rfl (by kernel_rfl)) rfl ?_
    exact EvR.none_ HO.out (bel_alloc _ _)
  · by_cases hin : (n : Int) ≤ i
    · have HO := Lib.hid (evOn_out (rs := rs) (y := y) (.inr (by rw [← HN.out]; exact hin)))
      go_enter Tryd.func64, Tryd.ntmps64
      go_wp2_with fail
      refine bodyPost_ret (res_cell_tmp rfl _ _ _ _ _ _ _ rfl (heap_alloc_new _ _) Tryd.underlying117 rfl (by kernel_rfl)) rfl ?_
      exact EvR.none_ HO.out (bel_alloc _ _)
    · obtain ⟨k, rfl⟩ : ∃ k : Nat, i = (k : Int) := ⟨i.toNat, by omega⟩
      have hkn : k < n := by omega
      obtain ⟨r, hr⟩ : ∃ r, rs[k]? = some r := by rw [_root_.List.getElem?_eq_getElem (by rw [← HN.out]; exact hkn)]; exact ⟨_, rfl⟩
      obtain ⟨g, off, rfl, hrg⟩ := H.out.at_ hr
      obtain ⟨na, fr, ut, mo, kk, w, d, sec, base, save, le⟩ := r
      by_cases h1 : y < firstY ⟨na, fr, ut, mo, kk, w, d, sec, base, save, le⟩
      · exact evOn_t1 rs k n g off cap y na fr ut mo kk w d sec base save le W HT H HN hn hkn hr hrg hy1 hy2 h1
      · have h1' : firstY ⟨na, fr, ut, mo, kk, w, d, sec, base, save, le⟩ ≤ y := by omega
        by_cases h2 : lastY ⟨na, fr, ut, mo, kk, w, d, sec, base, save, le⟩ < y
        · exact evOn_t2 rs k n g off cap y na fr ut mo kk w d sec base save le W HT H HN hn hkn hr hrg hy1 hy2 h1' h2
        · have h2' : y ≤ lastY ⟨na, fr, ut, mo, kk, w, d, sec, base, save, le⟩ := by omega
          by_cases hc : clk sec base
          · obtain ⟨x, c, hx⟩ : ∃ x c, on y mo kk w d = (x, c) := ⟨_, _, rfl⟩
            by_cases hcode : c = 0
            · subst hcode
              by_cases hbs : base = 1
              · subst hbs
                exact evOn_t5 rs k n g off cap y na fr ut mo kk w d sec save le W HT H HN hn hkn hr hrg hy1 hy2 h1' h2' hc x hx
              · exact evOn_t6 rs k n g off cap y na fr ut mo kk w d sec base save le W HT H HN hn hkn hr hrg hy1 hy2 h1' h2' hc x hx hbs
            · exact evOn_t4 rs k n g off cap y na fr ut mo kk w d sec base save le W HT H HN hn hkn hr hrg hy1 hy2 h1' h2' hc x c hx hcode
          · exact evOn_t3 rs k n g off cap y na fr ut mo kk w d sec base save le W HT H HN hn hkn hr hrg hy1 hy2 h1' h2' hc
end Go.Proofs.YtdppmeeobpbfnaaDoor

