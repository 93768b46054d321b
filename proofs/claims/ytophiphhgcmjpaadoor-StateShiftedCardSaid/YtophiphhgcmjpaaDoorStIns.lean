/-
  The contracts of checked.Add and checked.Sub where nothing leaves 64 bits, of state.base, of the function in state.Instant, and of state.Instant.
-/
import Derived.Test.YtophiphhgcmjpaaDoorStFun
import Derived.Laws.EntriesVeiled
namespace Go.Proofs.YtophiphhgcmjpaaDoor
open Go.RowKit Cv
set_option linter.unusedVariables false
set_option linter.unusedSimpArgs false

set_option maxHeartbeats 400000 in
theorem chkSub_any (a b : Int) (w : World) (ha1 : -4000000000000000000 ≤ a) (ha2 : a ≤ 4000000000000000000) (hb1 : -4000000000000000000 ≤ b) (hb2 : b ≤ 4000000000000000000) :
    Calls Tryd.prog 33 #[.int .i64 a, .int .i64 b] w fun e w' => e = .returned (.tuple #[.int .i64 (a - b), .bool true]) ∧ w = w' := by
  have hw : wrap64 (a - b) = a - b := by unfold wrap64; omega
  rcases Int.lt_trichotomy b 0 with h | h | h
  · have d1 : decide (a - b < a) = false := by simp; omega
    have d2 : decide (0 < b) = false := by simp; omega
    go_enter Tryd.func33, Tryd.ntmps33
    go_wp2
    go_ret2
    exact ⟨rfl, rfl⟩
  · subst h
    go_enter Tryd.func33, Tryd.ntmps33
    go_wp2
    go_ret2
    exact ⟨by simp, rfl⟩
  · have d1 : decide (a - b < a) = true := by simp; omega
    have d2 : decide (0 < b) = true := by simp; omega
    go_enter Tryd.func33, Tryd.ntmps33
    go_wp2
    go_ret2
    exact ⟨rfl, rfl⟩
set_option maxHeartbeats 400000 in
theorem chkAdd_any (a b : Int) (w : World) (ha1 : -4000000000000000000 ≤ a) (ha2 : a ≤ 4000000000000000000) (hb1 : 0 < b) (hb2 : b ≤ 4000000000000000000) :
    Calls Tryd.prog 29 #[.int .i64 a, .int .i64 b] w fun e w' => e = .returned (.tuple #[.int .i64 (a + b), .bool true]) ∧ w = w' := by
  have hw : wrap64 (a + b) = a + b := by unfold wrap64; omega
  have d1 : decide (a < a + b) = true := by simp; omega
  have d2 : decide (0 < b) = true := by simp; omega
  go_enter Tryd.func29, Tryd.ntmps29
  go_wp2
  go_ret2
  exact ⟨rfl, rfl⟩

set_option maxHeartbeats 1000000 in
theorem stBase_any (v : Value) (rs : _root_.List Ru) (W : World) (h : Rul v rs W) : Calls Tryd.prog 34 #[v] W fun e w' => e = .returned (.int .i64 (baseL rs)) ∧ Below W.heap.size W w' := by
  obtain ⟨A, cap, rfl⟩ := h.sl
  have H := Lib.hid h
  have hn := h.len
  clear h
  obtain ⟨n, hN⟩ : ∃ n, n = rs.length := ⟨_, rfl⟩
  rw [← hN] at hn ⊢
  have HN := Lib.hid hN
  clear hN
  go_enter Tryd.func34, Tryd.ntmps34
  go_wp2_with fail
  go_loopw [3, 8] (fun s i wr => ∃ (k : Nat) (wq : World), k ≤ n ∧ i = .int .i64 (k : Int) ∧ s = .int .i64 (leastL (rs.take k)) ∧ wr = wq ∧ Hid (Below W.heap.size W wq)) (fun _ i _ => n - (intOf i).toNat)
  case atStart => exact ⟨0, _, by omega, rfl, rfl, rfl, Lib.hid (Below.refl _ _)⟩
  case round =>
    obtain ⟨k, wq, hk, rfl, rfl, rfl, HB⟩ := hrel
    by_cases hlt : k < n
    · obtain ⟨r, hr⟩ : ∃ r, rs[k]? = some r := by rw [_root_.List.getElem?_eq_getElem (by rw [← HN.out]; exact hlt)]; exact ⟨_, rfl⟩
      obtain ⟨g, off, rfl, hrg⟩ := H.out.at_ hr
      obtain ⟨e0, e1, e2, e3, e4, e5, e6, e7, e8, e9, e10⟩ := range11 (range_below HB.out hrg)
      have HS := Lib.hid (leastL_take hr)
      clear hr hrg
      go_wp2_with fail
      go_round
      case rel => exact ⟨k + 1, _, by omega, by go_num, by rw [HS.out], rfl, Lib.hid (bel_trans HB.out (bel_alloc _ _))⟩
      case measure => simp [intOf] <;> omega
    · obtain rfl : k = n := by omega
      have HE := Lib.hid (show baseL rs = max (leastL (rs.take k)) (-10800) by unfold baseL; rw [HN.out, _root_.List.take_length])
      by_cases hm : leastL (rs.take k) ≤ -10800
      · have hmx : max (leastL (rs.take k)) (-10800) = -10800 := by omega
        go_wp2_with fail
        go_ret
        exact ⟨ret_i64 (by rw [HE.out]; omega), HB.out⟩
      · have hmx : max (leastL (rs.take k)) (-10800) = leastL (rs.take k) := by omega
        go_wp2_with fail
        go_ret
        exact ⟨ret_i64 (by rw [HE.out]; omega), HB.out⟩

set_option maxHeartbeats 1000000 in
theorem inst1_any (x t : Int) (bt bf : Nat) (w : World) (ht : w.heap[bt]? = some (.cells #[.int .i64 t] 2)) (hf : w.heap[bf]? = some (.cells #[.bool true] 4)) (hne : bt ≠ bf)
    (hx1 : -4000000000000000000 ≤ x) (hx2 : x ≤ 4000000000000000000) (ht1 : -4000000000000000000 ≤ t) (ht2 : t ≤ 4000000000000000000) :
    Calls Tryd.prog 32 #[.int .i64 x, .pointer (some ⟨bt, 0, none⟩), .pointer (some ⟨bf, 0, none⟩)] w fun e w' => e = .returned (.tuple #[]) ∧ w' = (w.setCell ⟨bt, 0, none⟩ (.int .i64 (t - x))).setCell ⟨bf, 0, none⟩ (.bool true) := by
  have a0 := cellB ht (i := 0) rfl
  have b0 := frzB ht 0
  have c0 := cellB hf (i := 0) rfl
  have d0 := frzB hf 0
  clear ht hf
  go_enter Tryd.func32, Tryd.ntmps32
  go_wp2_with fail
  refine (chkSub_any t x _ ht1 ht2 hx1 hx2).mono ?_
  rintro e w' ⟨rfl, rfl⟩
  go_wp2_with fail
  go_end0
  exact ⟨rfl, rfl⟩

theorem fieldSta (w : World) (a : Int) (s : ByteArray) : (Instr.field 39 (.agg #[.int .i64 a, .string s]) 0).run Tryd.prog w = .ok (.int .i64 a) w := by kernel_rfl
namespace Cv
/-- the instant of an event -/
def InstIs (rs : _root_.List Ru) (e : Ev) (off z : Int) : Prop := ∃ r, ruleAt rs e.rule = some r ∧ ((r.base = 0 ∧ ∃ o, BefIs rs e.nom o ∧ z = e.nom - (befS rs o).save - off) ∨ (r.base = 1 ∧ z = e.nom - baseL rs - off) ∨ (r.base ≠ 0 ∧ r.base ≠ 1 ∧ z = e.nom))
theorem InstIs.uniq {rs : _root_.List Ru} {e : Ev} {off z u : Int} (h : InstIs rs e off z) (k : InstIs rs e off u) : z = u := by
  obtain ⟨r, hr, h⟩ := h
  obtain ⟨s, hs, k⟩ := k
  rw [hr] at hs
  cases hs
  rcases h with ⟨h1, o, ho, hz⟩ | ⟨h1, hz⟩ | ⟨h1, h2, hz⟩ <;> rcases k with ⟨k1, p, hp, hu⟩ | ⟨k1, hu⟩ | ⟨k1, k2, hu⟩ <;> first | omega | skip
  obtain rfl := ho.uniq hp
  omega
def InstR (rs : _root_.List Ru) (x : Ev) (off : Int) (W : World) (e : Ending) (w' : World) : Prop := ∃ z, Hid (InstIs rs x off z) ∧ e = .returned (.int .i64 z) ∧ Below W.heap.size W w'
/-- saves that are modest -/
def SavOk (rs : _root_.List Ru) : Prop := ∀ r ∈ rs, -1000000000 ≤ r.save ∧ r.save ≤ 1000000000
theorem behS_bd {rs : _root_.List Ru} (h : SavOk rs) (e : Ev) : -1000000000 ≤ (behS rs e).save ∧ (behS rs e).save ≤ 1000000000 := by
  unfold behS
  split
  · rename_i r hr
    obtain ⟨k, _, hk, _⟩ := ruleAt_ex hr
    exact h r (_root_.List.mem_of_getElem? hk)
  · constructor <;> decide
theorem befS_bd {rs : _root_.List Ru} (h : SavOk rs) (o : Option Ev) : -1000000000 ≤ (befS rs o).save ∧ (befS rs o).save ≤ 1000000000 := by
  cases o with
  | some e => exact behS_bd h e
  | none =>
    show -1000000000 ≤ (initS rs).save ∧ (initS rs).save ≤ 1000000000
    unfold initS
    split
    · constructor <;> decide
    · split
      · exact behS_bd h _
      · exact behS_bd h _
end Cv

set_option maxRecDepth 100000 in
set_option maxHeartbeats 4000000 in
theorem instant_any (v : Value) (rs : _root_.List Ru) (y i n off : Int) (W : World) (hT : Tabs W) (h : Rul v rs W) (ht : Tame rs) (hsv : SavOk rs) (hr : ∃ r, ruleAt rs i = some r) (hn1 : -1000000000000000000 ≤ n) (hn2 : n ≤ 1000000000000000000) (ho1 : -1000000000000000000 ≤ off) (ho2 : off ≤ 1000000000000000000) :
    Calls Tryd.prog 17 #[v, .agg #[.int .i64 y, .int .i64 i, .int .i64 n], .int .i64 off] W (InstR rs ⟨y, i, n⟩ off W) := by
  obtain ⟨A, cap, rfl⟩ := h.sl
  obtain ⟨r, hr⟩ := hr
  obtain ⟨k, rfl, hk1, hkl⟩ := ruleAt_ex hr
  have HT := Lib.hid hT
  have HR := Lib.hid h
  have HM := Lib.hid ht
  have HV := Lib.hid hsv
  have HRU := Lib.hid hr
  obtain ⟨m, hm⟩ : ∃ m, m = rs.length := ⟨_, rfl⟩
  rw [← hm] at HR hkl ⊢
  have HB0 := Lib.hid (show Below W.heap.size W (((W.alloc (.cells #[.int .i64 y, .int .i64 (k : Int), .int .i64 n] 31)).alloc (.cells #[.int .i64 n] 2)).alloc (.cells #[.bool true] 4)) from bel_trans (bel_trans (bel_alloc W (.cells #[.int .i64 y, .int .i64 (k : Int), .int .i64 n] 31)) (bel_alloc _ _)) (bel_alloc _ _))
  have K4 := Lib.hid (show (((W.alloc (.cells #[.int .i64 y, .int .i64 (k : Int), .int .i64 n] 31)).alloc (.cells #[.int .i64 n] 2)).alloc (.cells #[.bool true] 4)).heap[W.heap.size]? = some (.cells #[.int .i64 y, .int .i64 (k : Int), .int .i64 n] 31) from al_old (al_old (al_new (by simp))))
  have K7 := Lib.hid (show (((W.alloc (.cells #[.int .i64 y, .int .i64 (k : Int), .int .i64 n] 31)).alloc (.cells #[.int .i64 n] 2)).alloc (.cells #[.bool true] 4)).heap[W.heap.size + 1]? = some (.cells #[.int .i64 n] 2) from al_old (al_new (by simp)))
  have K8 := Lib.hid (show (((W.alloc (.cells #[.int .i64 y, .int .i64 (k : Int), .int .i64 n] 31)).alloc (.cells #[.int .i64 n] 2)).alloc (.cells #[.bool true] 4)).heap[W.heap.size + 1 + 1]? = some (.cells #[.bool true] 4) from al_new (by simp))
  obtain ⟨g, of_, rfl, hrg⟩ := (HR.out.below HB0.out).at_ hk1
  obtain ⟨na, fr, ut, mo, kk, ww, dd, sec, base, save, le⟩ := r
  obtain ⟨_, _, _, _, _, _, _, _, a8, _, _⟩ := range11 hrg
  dsimp only at a8
  have hk0 : (0 : Int) ≤ (k : Int) := by omega
  have hk2 : (k : Int) < (m : Int) := by omega
  have hk3 : ¬ (k : Int) < 0 := by omega
  have hk4 : decide ((m : Int) ≤ (k : Int)) = false := by simp; omega
  clear hT h ht hsv hr hm hk1 hrg
  have hfs := fieldSta
  rcases (show base = 0 ∨ base = 1 ∨ (base ≠ 0 ∧ base ≠ 1) by omega) with rfl | rfl | ⟨hb0, hb1⟩
  · go_enter Tryd.func17, Tryd.ntmps17
    go_wp2_with fail
    refine (stBefore_any _ rs n _ (by exact HT.out.below HB0.out) (by exact HR.out.below HB0.out) HM.out (by omega) (by omega)).mono ?_
    intro e w1 hq; obtain ⟨o, ho, he, hb1⟩ := hq
    obtain ⟨hs1, hs2⟩ := befS_bd HV.out o
    obtain ⟨s, hs⟩ : ∃ s, s = befS rs o := ⟨_, rfl⟩
    rw [← hs] at hs1 hs2 he
    obtain ⟨sv, sl⟩ := s
    obtain rfl : e = .returned (.agg #[.int .i64 sv, .string sl]) := he
    have HS := Lib.hid hs
    dsimp only at hs1 hs2
    have HB1 := Lib.hid (bel_trans HB0.out hb1)
    have K7 := Lib.hid (block_below K7.out hb1)
    have K8 := Lib.hid (block_below K8.out hb1)
    clear hb1 hs a8
    go_wp2_with fail
    refine (inst1_any sv n (W.heap.size + 1) (W.heap.size + 1 + 1) _ K7.out K8.out (by omega) (by omega) (by omega) (by omega) (by omega)).mono ?_
    rintro e w2 ⟨rfl, rfl⟩
    have K7 := Lib.hid (setcs_far (c := W.heap.size + 1 + 1) (j := 0) (v := .bool true) (setcs (v := .int .i64 (n - sv)) (j := 0) K7.out rfl) (by omega))
    have K8 := Lib.hid (setcs (j := 0) (v := .bool true) (setcs_far (c := W.heap.size + 1) (j := 0) (v := .int .i64 (n - sv)) K8.out (by omega)) rfl)
    have HB2 := Lib.hid ((HB1.out.setCell (p := ⟨W.heap.size + 1, 0, none⟩) (by simp) (.int .i64 (n - sv))).setCell (p := ⟨W.heap.size + 1 + 1, 0, none⟩) (by simp; omega) (.bool true))
    go_wp2_with fail
    refine (inst1_any off (n - sv) (W.heap.size + 1) (W.heap.size + 1 + 1) _ K7.out K8.out (by omega) (by omega) (by omega) (by omega) (by omega)).mono ?_
    rintro e w2 ⟨rfl, rfl⟩
    have K7 := Lib.hid (setcs_far (c := W.heap.size + 1 + 1) (j := 0) (v := .bool true) (setcs (v := .int .i64 (n - sv - off)) (j := 0) K7.out rfl) (by omega))
    have K8 := Lib.hid (setcs (j := 0) (v := .bool true) (setcs_far (c := W.heap.size + 1) (j := 0) (v := .int .i64 (n - sv - off)) K8.out (by omega)) rfl)
    have HB3 := Lib.hid ((HB2.out.setCell (p := ⟨W.heap.size + 1, 0, none⟩) (by simp) (.int .i64 (n - sv - off))).setCell (p := ⟨W.heap.size + 1 + 1, 0, none⟩) (by simp; omega) (.bool true))
    have x0 := cellB K7.out (i := 0) rfl
    have z0 := cellB K8.out (i := 0) rfl
    go_wp2_with fail
    go_ret
    exact ⟨_, Lib.hid ⟨_, HRU.out, .inl ⟨rfl, o, ho.out, by rw [← HS.out]⟩⟩, rfl, HB3.out⟩
  · go_enter Tryd.func17, Tryd.ntmps17
    go_wp2_with fail
    refine (stBase_any _ rs _ (by exact HR.out.below HB0.out)).mono ?_
    rintro e w1 ⟨rfl, hb1⟩
    obtain ⟨hs1, hs2⟩ := baseL_bd rs
    obtain ⟨sv, hs⟩ : ∃ sv, sv = baseL rs := ⟨_, rfl⟩
    rw [← hs] at hs1 hs2 ⊢
    have HS := Lib.hid hs
    have HB1 := Lib.hid (bel_trans HB0.out hb1)
    have K7 := Lib.hid (block_below K7.out hb1)
    have K8 := Lib.hid (block_below K8.out hb1)
    clear hb1 hs a8
    go_wp2_with fail
    refine (inst1_any sv n (W.heap.size + 1) (W.heap.size + 1 + 1) _ K7.out K8.out (by omega) (by omega) (by omega) (by omega) (by omega)).mono ?_
    rintro e w2 ⟨rfl, rfl⟩
    have K7 := Lib.hid (setcs_far (c := W.heap.size + 1 + 1) (j := 0) (v := .bool true) (setcs (v := .int .i64 (n - sv)) (j := 0) K7.out rfl) (by omega))
    have K8 := Lib.hid (setcs (j := 0) (v := .bool true) (setcs_far (c := W.heap.size + 1) (j := 0) (v := .int .i64 (n - sv)) K8.out (by omega)) rfl)
    have HB2 := Lib.hid ((HB1.out.setCell (p := ⟨W.heap.size + 1, 0, none⟩) (by simp) (.int .i64 (n - sv))).setCell (p := ⟨W.heap.size + 1 + 1, 0, none⟩) (by simp; omega) (.bool true))
    go_wp2_with fail
    refine (inst1_any off (n - sv) (W.heap.size + 1) (W.heap.size + 1 + 1) _ K7.out K8.out (by omega) (by omega) (by omega) (by omega) (by omega)).mono ?_
    rintro e w2 ⟨rfl, rfl⟩
    have K7 := Lib.hid (setcs_far (c := W.heap.size + 1 + 1) (j := 0) (v := .bool true) (setcs (v := .int .i64 (n - sv - off)) (j := 0) K7.out rfl) (by omega))
    have K8 := Lib.hid (setcs (j := 0) (v := .bool true) (setcs_far (c := W.heap.size + 1) (j := 0) (v := .int .i64 (n - sv - off)) K8.out (by omega)) rfl)
    have HB3 := Lib.hid ((HB2.out.setCell (p := ⟨W.heap.size + 1, 0, none⟩) (by simp) (.int .i64 (n - sv - off))).setCell (p := ⟨W.heap.size + 1 + 1, 0, none⟩) (by simp; omega) (.bool true))
    have x0 := cellB K7.out (i := 0) rfl
    have z0 := cellB K8.out (i := 0) rfl
    go_wp2_with fail
    go_ret
    exact ⟨_, Lib.hid ⟨_, HRU.out, .inr (.inl ⟨rfl, by rw [← HS.out]⟩)⟩, rfl, HB3.out⟩
  · have hb2 : (base == 0) = false := by simp [hb0]
    have hb3 : (base == 1) = false := by simp [hb1]
    go_enter Tryd.func17, Tryd.ntmps17
    go_wp2_with fail
    go_ret
    exact ⟨n, Lib.hid ⟨_, HRU.out, .inr (.inr ⟨hb0, hb1, rfl⟩)⟩, rfl, HB0.out⟩
end Go.Proofs.YtophiphhgcmjpaaDoor
