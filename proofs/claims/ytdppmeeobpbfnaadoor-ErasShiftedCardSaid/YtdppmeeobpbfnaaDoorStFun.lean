/-
  The contracts of state.behind, state.base, state.Initial and state.Before.
-/
import Derived.Test.YtdppmeeobpbfnaaDoorStFst
import Derived.Test.YtdppmeeobpbfnaaDoorEvBA
namespace Go.Proofs.YtdppmeeobpbfnaaDoor
open Go.RowKit Cv
set_option linter.unusedVariables false
set_option linter.unusedSimpArgs false

namespace Cv
/-- a state -/
structure Sta where
  (save : Int) (le : ByteArray)
def staV (s : Sta) : Value := .agg #[.int .i64 s.save, .string s.le]
/-- the state behind an event -/
def behS (rs : _root_.List Ru) (e : Ev) : Sta := match ruleAt rs e.rule with
  | some r => ⟨r.save, r.le⟩
  | none => ⟨0, ⟨#[]⟩⟩
/-- the state before the first event -/
def initS (rs : _root_.List Ru) : Sta := match bestL rs true 0 (firstsL rs rs.length) with
  | none => ⟨0, ⟨#[]⟩⟩
  | some x => match bestL rs false (saveAt rs x.rule) (firstsL rs rs.length) with
    | some y => behS rs y
    | none => behS rs x
/-- the state, with the last event before a time -/
def befS (rs : _root_.List Ru) : Option Ev → Sta
  | some e => behS rs e
  | none => initS rs
/-- a call that returns a state -/
def StaR (s : Sta) (W : World) (e : Ending) (w' : World) : Prop := e = .returned (staV s) ∧ Below W.heap.size W w'
theorem StaR.to {s : Sta} {W : World} {v : Value} (h : staV s = v) : ∀ e w', StaR s W e w' → e = .returned v ∧ Below W.heap.size W w' := by
  rintro e w' ⟨rfl, hb⟩; exact ⟨by rw [h], hb⟩
def BefR (rs : _root_.List Ru) (N : Int) (W : World) (e : Ending) (w' : World) : Prop := ∃ o, Hid (BefIs rs N o) ∧ e = .returned (staV (befS rs o)) ∧ Below W.heap.size W w'
theorem res_cell_one {P : Program} {fn : Func} {p : Tmp} {ty : TypeId} (h : fn.results = #[.cell p ty]) (tmps : Array Value) (w : World) (g : Nat) (t : TypeId) (cs : Array Value) (fr : Nat × Nat) (d : TypeDesc)
    (hp : tmps.getD p undef = .pointer (some ⟨g, 0, none⟩)) (hg : w.heap[g]? = some (.cells cs t fr))
    (hu : P.underlying ty = some d) (hd : (match d with | .struct _ | .array _ _ => true | _ => false) = true) (hi : (P.info? ty).map (·.size) = some cs.size) :
    (results fn tmps).run P w = .ok (.agg cs) w := by
  have hp' : tmps[p]?.getD undef = .pointer (some ⟨g, 0, none⟩) := by simpa using hp
  simp [results, h, hp', asAddr, run_loadVar_row w g t ty cs fr d hg hu hd hi]
end Cv

set_option maxRecDepth 100000 in
set_option maxHeartbeats 4000000 in
theorem stBehind_any (v : Value) (rs : _root_.List Ru) (y i n : Int) (s : Sta) (W : World) (h : Rul v rs W) (hr : ∃ r, ruleAt rs i = some r) (hs : behS rs ⟨y, i, n⟩ = s) :
    Calls Tryd.prog 52 #[v, .agg #[.int .i64 y, .int .i64 i, .int .i64 n]] W (StaR s W) := by
  obtain ⟨A, cap, rfl⟩ := h.sl
  obtain ⟨r, hr⟩ := hr
  have hs2 : s = ⟨r.save, r.le⟩ := by rw [← hs]; unfold behS; rw [hr]
  subst hs2
  obtain ⟨k, rfl, hk1, hkl⟩ := ruleAt_ex hr
  obtain ⟨m, hm⟩ : ∃ m, m = rs.length := ⟨_, rfl⟩
  rw [← hm] at h hkl ⊢
  have hB := bel_alloc W (.cells #[.int .i64 y, .int .i64 (k : Int), .int .i64 n] 117)
  have hB2 := bel_trans hB (bel_alloc _ (.cells #[.int .i64 0, .string ⟨#[]⟩] 106))
  obtain ⟨g, off, rfl, hrg⟩ := (h.below hB2).at_ hk1
  obtain ⟨na, fr, ut, mo, kk, ww, dd, sec, base, save, le⟩ := r
  obtain ⟨_, _, _, _, _, _, _, _, _, a9, a10⟩ := range11 hrg
  dsimp only at a9 a10
  have hk0 : (0 : Int) ≤ (k : Int) := by omega
  have hk2 : (k : Int) < (m : Int) := by omega
  have HB := Lib.hid hB2
  clear hr hs hm hk1 h hrg hB hB2
  unfold StaR staV
  dsimp only
  go_enter Tryd.func52, Tryd.ntmps52
  go_wp2_with fail
  go_region
  go_wp2_with fail
  refine bodyPost_ret (res_cell_one rfl _ _ _ _ _ _ _ rfl (al_new (by simp)) Tryd.underlying106 rfl (by kernel_rfl)) rfl ?_
  exact ⟨rfl, Below.drew (bel_trans (bel_alloc _ _) (bel_alloc _ _))⟩

namespace Cv
theorem firstsL_ev {rs : _root_.List Ru} {e : Ev} {n : Nat} (h : e ∈ firstsL rs n) : IsEv rs e := by
  unfold firstsL at h
  obtain ⟨k, _, hk⟩ := _root_.List.mem_filterMap.1 h
  unfold firstEv at hk
  split at hk
  · exact (firstFrom_is hk).1
  · cases hk
theorem best_ev {rs : _root_.List Ru} {all : Bool} {but : Int} {n : Nat} {x : Ev} (h : bestL rs all but (firstsL rs n) = some x) : IsEv rs x := by
  have := bestL_is rs all but (firstsL rs n)
  rw [h] at this
  exact firstsL_ev this.1
theorem ev_rule {rs : _root_.List Ru} {x : Ev} (h : IsEv rs x) : ∃ r, ruleAt rs x.rule = some r := by
  obtain ⟨r, hr, _⟩ := h; exact ⟨r, hr⟩
theorem evV_some (y i n : Int) : evV (some ⟨y, i, n⟩) = .tuple #[.agg #[.int .i64 y, .int .i64 i, .int .i64 n], .bool true] := rfl
end Cv

set_option maxRecDepth 100000 in
set_option maxHeartbeats 4000000 in
theorem initial_any (v : Value) (rs : _root_.List Ru) (W : World) (hT : Tabs W) (h : Rul v rs W) (ht : Tame rs) :
    Calls Tryd.prog 53 #[v] W (StaR (initS rs) W) := by
  obtain ⟨A, cap, rfl⟩ := h.sl
  have HT := Lib.hid hT
  have HR := Lib.hid h
  have HM := Lib.hid ht
  obtain ⟨n, hn⟩ : ∃ n, n = rs.length := ⟨_, rfl⟩
  rw [← hn] at HR ⊢
  have HN := Lib.hid hn
  have HB0 := Lib.hid (bel_alloc W (.cells #[.int .i64 0, .string ⟨#[]⟩] 106))
  have K0 := Lib.hid (heap_alloc_new W (.cells #[.int .i64 0, .string ⟨#[]⟩] 106))
  clear hT h ht hn
  obtain ⟨s, hs⟩ : ∃ s, initS rs = s := ⟨_, rfl⟩
  rw [hs]
  have HS := Lib.hid hs
  clear hs
  unfold StaR staV
  go_enter Tryd.func53, Tryd.ntmps53
  go_wp2_with fail
  refine (first_any _ rs true 0 _ (by exact HT.out.below HB0.out) (by exact HR.out.below HB0.out) HM.out).mono ?_
  intro e w1 hq
  cases hb : bestL rs true 0 (firstsL rs rs.length) with
  | none =>
    obtain ⟨rfl, hb1⟩ := EvR.to (v := .tuple #[.agg #[.int .i64 0, .int .i64 0, .int .i64 0], .bool false]) (by rw [hb]; rfl) _ _ hq; clear hq
    have hs2 : (⟨0, ⟨#[]⟩⟩ : Sta) = s := by rw [← HS.out]; unfold initS; rw [hb]
    subst hs2
    have HB1 := Lib.hid (bel_trans HB0.out (bel_trans hb1 (bel_alloc w1 (.cells #[.int .i64 0, .int .i64 0, .int .i64 0] 117))))
    have K1 := Lib.hid (block_below K0.out (bel_trans hb1 (bel_alloc w1 (.cells #[.int .i64 0, .int .i64 0, .int .i64 0] 117))))
    clear hb hb1 HS
    have x0 := cellB K1.out (i := 0) rfl
    have x1 := cellB K1.out (i := 1) rfl
    have u0 := frzB K1.out 0
    have u1 := frzB K1.out 1
    go_wp2_with fail
    refine bodyPost_ret (res_cell_one rfl _ _ _ _ _ _ _ rfl (setcs (setcs K1.out rfl) rfl) Tryd.underlying106 rfl (by kernel_rfl)) rfl ?_
    exact ⟨rfl, (HB1.out.setCell (p := ⟨W.heap.size, 0, none⟩) (Nat.le_refl _) _).setCell (p := ⟨W.heap.size, 1, none⟩) (Nat.le_refl _) _⟩
  | some x =>
    obtain ⟨xy, xr, xn⟩ := x
    obtain ⟨rfl, hb1⟩ := EvR.to (v := .tuple #[.agg #[.int .i64 xy, .int .i64 xr, .int .i64 xn], .bool true]) (by rw [hb]; rfl) _ _ hq; clear hq
    obtain ⟨r, hr⟩ := ev_rule (best_ev hb)
    obtain ⟨k, hk, hk1, hkl⟩ := ruleAt_ex hr
    dsimp only at hk hr
    subst hk
    have HBE := Lib.hid hb
    have HB1 := Lib.hid (bel_trans HB0.out (bel_trans hb1 (bel_alloc w1 (.cells #[.int .i64 xy, .int .i64 (k : Int), .int .i64 xn] 117))))
    have K1 := Lib.hid (block_below K0.out (bel_trans hb1 (bel_alloc w1 (.cells #[.int .i64 xy, .int .i64 (k : Int), .int .i64 xn] 117))))
    have K2 := Lib.hid (heap_alloc_new w1 (.cells #[.int .i64 xy, .int .i64 (k : Int), .int .i64 xn] 117))
    clear hb hb1
    obtain ⟨g, off, rfl, hrg⟩ := (HR.out.below HB1.out).at_ hk1
    have HSA := Lib.hid (show saveAt rs (k : Int) = r.save by unfold saveAt; rw [hr])
    have HRU := Lib.hid hr
    obtain ⟨na, fr, ut, mo, kk, ww, dd, sec, base, save, le⟩ := r
    obtain ⟨_, _, _, _, _, _, _, _, _, a9, _⟩ := range11 hrg
    dsimp only at a9 HSA
    have hk0 : (0 : Int) ≤ (k : Int) := by omega
    have hk2 : (k : Int) < (n : Int) := by have := HN.out; omega
    have y0 := cellB K2.out (i := 0) rfl
    have y1 := cellB K2.out (i := 1) rfl
    have y2 := cellB K2.out (i := 2) rfl
    clear hrg hr hk1 hkl
    go_wp2_with fail
    clear a9 y0 y1 y2
    refine (first_any _ rs false save _ (by exact HT.out.below HB1.out) (by exact HR.out.below HB1.out) HM.out).mono ?_
    intro e w2 hq
    cases hb : bestL rs false save (firstsL rs rs.length) with
    | none =>
      obtain ⟨rfl, hb1⟩ := EvR.to (v := .tuple #[.agg #[.int .i64 0, .int .i64 0, .int .i64 0], .bool false]) (by rw [hb]; rfl) _ _ hq; clear hq
      have HS2 := Lib.hid (show behS rs ⟨xy, (k : Int), xn⟩ = s by rw [← HS.out]; unfold initS; rw [HBE.out]; simp only; rw [HSA.out, hb])
      have HB2 := Lib.hid (bel_trans hb1 (bel_alloc w2 (.cells #[.int .i64 0, .int .i64 0, .int .i64 0] 117)))
      have K1 := Lib.hid (block_below K1.out HB2.out)
      have K2 := Lib.hid (block_below K2.out HB2.out)
      have HB := Lib.hid (bel_trans HB1.out HB2.out)
      clear hb hb1
      have y0 := cellB K2.out (i := 0) rfl
      have y1 := cellB K2.out (i := 1) rfl
      have y2 := cellB K2.out (i := 2) rfl
      go_wp2_with fail
      refine (stBehind_any _ rs xy (k : Int) xn s _ (by exact HR.out.below HB.out) ⟨_, HRU.out⟩ HS2.out).mono ?_
      intro e w3 hq; obtain ⟨rfl, hb1⟩ := StaR.to (v := .agg #[.int .i64 s.save, .string s.le]) rfl _ _ hq; clear hq
      have HB := Lib.hid (bel_trans HB.out hb1)
      have K1 := Lib.hid (block_below K1.out hb1)
      clear hb1 y0 y1 y2
      have x0 := cellB K1.out (i := 0) rfl
      have x1 := cellB K1.out (i := 1) rfl
      have u0 := frzB K1.out 0
      have u1 := frzB K1.out 1
      go_wp2_with fail
      refine bodyPost_ret (res_cell_one rfl _ _ _ _ _ _ _ rfl (setcs (setcs K1.out rfl) rfl) Tryd.underlying106 rfl (by kernel_rfl)) rfl ?_
      exact ⟨rfl, (HB.out.setCell (p := ⟨W.heap.size, 0, none⟩) (Nat.le_refl _) _).setCell (p := ⟨W.heap.size, 1, none⟩) (Nat.le_refl _) _⟩
    | some z =>
      obtain ⟨zy, zr, zn⟩ := z
      obtain ⟨rfl, hb1⟩ := EvR.to (v := .tuple #[.agg #[.int .i64 zy, .int .i64 zr, .int .i64 zn], .bool true]) (by rw [hb]; rfl) _ _ hq; clear hq
      have HZR := Lib.hid (ev_rule (best_ev hb))
      have HS2 := Lib.hid (show behS rs ⟨zy, zr, zn⟩ = s by rw [← HS.out]; unfold initS; rw [HBE.out]; simp only; rw [HSA.out, hb])
      have HB2 := Lib.hid (bel_trans hb1 (bel_alloc w2 (.cells #[.int .i64 zy, .int .i64 zr, .int .i64 zn] 117)))
      have K1 := Lib.hid (block_below K1.out HB2.out)
      have K2 := Lib.hid (heap_alloc_new w2 (.cells #[.int .i64 zy, .int .i64 zr, .int .i64 zn] 117))
      have HB := Lib.hid (bel_trans HB1.out HB2.out)
      clear hb hb1
      have y0 := cellB K2.out (i := 0) rfl
      have y1 := cellB K2.out (i := 1) rfl
      have y2 := cellB K2.out (i := 2) rfl
      go_wp2_with fail
      refine (stBehind_any _ rs zy zr zn s _ (by exact HR.out.below HB.out) HZR.out HS2.out).mono ?_
      intro e w3 hq; obtain ⟨rfl, hb1⟩ := StaR.to (v := .agg #[.int .i64 s.save, .string s.le]) rfl _ _ hq; clear hq
      have HB := Lib.hid (bel_trans HB.out hb1)
      have K1 := Lib.hid (block_below K1.out hb1)
      clear hb1 y0 y1 y2
      have x0 := cellB K1.out (i := 0) rfl
      have x1 := cellB K1.out (i := 1) rfl
      have u0 := frzB K1.out 0
      have u1 := frzB K1.out 1
      go_wp2_with fail
      refine bodyPost_ret (res_cell_one rfl _ _ _ _ _ _ _ rfl (setcs (setcs K1.out rfl) rfl) Tryd.underlying106 rfl (by kernel_rfl)) rfl ?_
      exact ⟨rfl, (HB.out.setCell (p := ⟨W.heap.size, 0, none⟩) (Nat.le_refl _) _).setCell (p := ⟨W.heap.size, 1, none⟩) (Nat.le_refl _) _⟩

set_option maxRecDepth 100000 in
set_option maxHeartbeats 4000000 in
theorem stBefore_any (v : Value) (rs : _root_.List Ru) (N : Int) (W : World) (hT : Tabs W) (h : Rul v rs W) (ht : Tame rs) (hN1 : -9223372036854775808 ≤ N) (hN2 : N ≤ 9223372036854775807) :
    Calls Tryd.prog 44 #[v, .int .i64 N] W (BefR rs N W) := by
  obtain ⟨A, cap, rfl⟩ := h.sl
  have HT := Lib.hid hT
  have HR := Lib.hid h
  have HM := Lib.hid ht
  obtain ⟨n, hn⟩ : ∃ n, n = rs.length := ⟨_, rfl⟩
  rw [← hn] at HR ⊢
  have HB0 := Lib.hid (bel_alloc W (.cells #[.int .i64 0, .string ⟨#[]⟩] 106))
  have K0 := Lib.hid (heap_alloc_new W (.cells #[.int .i64 0, .string ⟨#[]⟩] 106))
  clear hT h ht hn
  go_enter Tryd.func44, Tryd.ntmps44
  go_wp2_with fail
  refine (evBefore_any _ rs N _ (by exact HT.out.below HB0.out) (by exact HR.out.below HB0.out) hN1 hN2).mono ?_
  intro e w1 hq; obtain ⟨o, ho, he, hb1⟩ := hq
  cases o with
  | none =>
    obtain rfl : e = .returned (.tuple #[.agg #[.int .i64 0, .int .i64 0, .int .i64 0], .bool false]) := he
    have HB := Lib.hid (bel_trans HB0.out (bel_trans hb1 (bel_alloc w1 (.cells #[.int .i64 0, .int .i64 0, .int .i64 0] 117))))
    have K1 := Lib.hid (block_below K0.out (bel_trans hb1 (bel_alloc w1 (.cells #[.int .i64 0, .int .i64 0, .int .i64 0] 117))))
    clear hb1
    go_wp2_with fail
    refine (initial_any _ rs _ (by exact HT.out.below HB.out) (by exact HR.out.below HB.out) HM.out).mono ?_
    intro e w3 hq; obtain ⟨rfl, hb1⟩ := StaR.to (v := .agg #[.int .i64 (initS rs).save, .string (initS rs).le]) rfl _ _ hq; clear hq
    have HB := Lib.hid (bel_trans HB.out hb1)
    have K1 := Lib.hid (block_below K1.out hb1)
    clear hb1
    have x0 := cellB K1.out (i := 0) rfl
    have x1 := cellB K1.out (i := 1) rfl
    have u0 := frzB K1.out 0
    have u1 := frzB K1.out 1
    go_wp2_with fail
    refine bodyPost_ret (res_cell_one rfl _ _ _ _ _ _ _ rfl (setcs (setcs K1.out rfl) rfl) Tryd.underlying106 rfl (by kernel_rfl)) rfl ?_
    exact ⟨none, ho, rfl, (HB.out.setCell (p := ⟨W.heap.size, 0, none⟩) (Nat.le_refl _) _).setCell (p := ⟨W.heap.size, 1, none⟩) (Nat.le_refl _) _⟩
  | some x =>
    obtain ⟨xy, xr, xn⟩ := x
    obtain rfl : e = .returned (.tuple #[.agg #[.int .i64 xy, .int .i64 xr, .int .i64 xn], .bool true]) := he
    have HZR := Lib.hid (ev_rule ho.out.1)
    have HB := Lib.hid (bel_trans HB0.out (bel_trans hb1 (bel_alloc w1 (.cells #[.int .i64 xy, .int .i64 xr, .int .i64 xn] 117))))
    have K1 := Lib.hid (block_below K0.out (bel_trans hb1 (bel_alloc w1 (.cells #[.int .i64 xy, .int .i64 xr, .int .i64 xn] 117))))
    have K2 := Lib.hid (heap_alloc_new w1 (.cells #[.int .i64 xy, .int .i64 xr, .int .i64 xn] 117))
    clear hb1
    have y0 := cellB K2.out (i := 0) rfl
    have y1 := cellB K2.out (i := 1) rfl
    have y2 := cellB K2.out (i := 2) rfl
    go_wp2_with fail
    refine (stBehind_any _ rs xy xr xn _ _ (by exact HR.out.below HB.out) HZR.out rfl).mono ?_
    intro e w3 hq; obtain ⟨rfl, hb1⟩ := StaR.to (v := .agg #[.int .i64 (behS rs ⟨xy, xr, xn⟩).save, .string (behS rs ⟨xy, xr, xn⟩).le]) rfl _ _ hq; clear hq
    have HB := Lib.hid (bel_trans HB.out hb1)
    have K1 := Lib.hid (block_below K1.out hb1)
    clear hb1 y0 y1 y2
    have x0 := cellB K1.out (i := 0) rfl
    have x1 := cellB K1.out (i := 1) rfl
    have u0 := frzB K1.out 0
    have u1 := frzB K1.out 1
    go_wp2_with fail
    refine bodyPost_ret (res_cell_one rfl _ _ _ _ _ _ _ rfl (setcs (setcs K1.out rfl) rfl) Tryd.underlying106 rfl (by kernel_rfl)) rfl ?_
    exact ⟨some ⟨xy, xr, xn⟩, ho, rfl, (HB.out.setCell (p := ⟨W.heap.size, 0, none⟩) (Nat.le_refl _) _).setCell (p := ⟨W.heap.size, 1, none⟩) (Nat.le_refl _) _⟩
end Go.Proofs.YtdppmeeobpbfnaaDoor
