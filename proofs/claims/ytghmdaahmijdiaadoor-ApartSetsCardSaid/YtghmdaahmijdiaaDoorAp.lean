/-
  The contracts of package apart: Check and Far.
-/
import Derived.Test.YtghmdaahmijdiaaDoorApM
import Derived.Test.YtghmdaahmijdiaaDoorEvEx
import Derived.Test.YtghmdaahmijdiaaDoorEvBA
namespace Go.Proofs.YtghmdaahmijdiaaDoor
open Go.RowKit Cv
set_option linter.unusedVariables false
set_option linter.unusedSimpArgs false

namespace Cv
/-- what Check answers -/
def chkV : Option Ev → Value
  | none => .tuple #[.agg #[.int .i64 0, .int .i64 0, .int .i64 0], .int .i64 0]
  | some e => .tuple #[.agg #[.int .i64 e.year, .int .i64 e.rule, .int .i64 e.nom], .int .i64 13]
def ChkR (rs : _root_.List Ru) (W : World) (e : Ending) (w' : World) : Prop := ∃ o, Hid (MinOf (Close rs) o) ∧ e = .returned (chkV o) ∧ Below W.heap.size W w'
theorem ChkR.none_ {rs : _root_.List Ru} {W w' : World} (h : MinOf (Close rs) none) (hb : Below W.heap.size W w') : ChkR rs W (.returned (.tuple #[.agg #[.int .i64 0, .int .i64 0, .int .i64 0], .int .i64 0])) w' := ⟨none, h, rfl, hb⟩
theorem ChkR.some_ {rs : _root_.List Ru} {y i n : Int} {W w' : World} (h : MinOf (Close rs) (some ⟨y, i, n⟩)) (hb : Below W.heap.size W w') : ChkR rs W (.returned (.tuple #[.agg #[.int .i64 y, .int .i64 i, .int .i64 n], .int .i64 13])) w' := ⟨some ⟨y, i, n⟩, h, rfl, hb⟩
theorem ChkR.to {rs : _root_.List Ru} {W : World} {o : Option Ev} {v : Value} (h : MinOf (Close rs) o) (hv : chkV o = v) : ∀ e w', ChkR rs W e w' → e = .returned v ∧ Below W.heap.size W w' := by
  rintro e w' ⟨p, hp, he, hb⟩
  obtain rfl := hp.out.uniq h
  exact ⟨by rw [he, hv], hb⟩
def FarR (rs : _root_.List Ru) (N : Int) (W : World) (e : Ending) (w' : World) : Prop := ∃ b : Bool, Hid (b = true ↔ FarIs rs N) ∧ e = .returned (.bool b) ∧ Below W.heap.size W w'
theorem FarR.yes {rs : _root_.List Ru} {N : Int} {W : World} (h : FarIs rs N) : ∀ e w', FarR rs N W e w' → e = .returned (.bool true) ∧ Below W.heap.size W w' := by
  rintro e w' ⟨b, hp, he, hb⟩
  obtain rfl := hp.out.2 h
  exact ⟨he, hb⟩
theorem FarR.no {rs : _root_.List Ru} {N : Int} {W : World} (h : ¬ FarIs rs N) : ∀ e w', FarR rs N W e w' → e = .returned (.bool false) ∧ Below W.heap.size W w' := by
  rintro e w' ⟨b, hp, he, hb⟩
  cases b with
  | true => exact (h (hp.out.1 rfl)).elim
  | false => exact ⟨he, hb⟩
theorem nom_fit {rs : _root_.List Ru} {e : Ev} (h : IsEv rs e) : -70000000000000000 ≤ e.nom ∧ e.nom ≤ 70000000000000000 := by
  obtain ⟨h3, h4, h5, h6⟩ := nom_year h
  have h7 := fst_far (e.year + 1) 2000000001 (by omega)
  have h8 := fst_far (-2000000000) e.year h5
  have h9 : fst 2000000001 ≤ 800000000000 := by decide
  have h10 : -800000000000 ≤ fst (-2000000000) := by decide
  omega
theorem gap_next {L : _root_.List Ev} {k : Nat} {a b : Ev} (h : ∀ (i : Nat) (a b : Ev), i < k → L[i]? = some a → L[i + 1]? = some b → 259200 ≤ b.nom - a.nom) (ha : L[k]? = some a) (hb : L[k + 1]? = some b) (hg : 259200 ≤ b.nom - a.nom) :
    ∀ (i : Nat) (a b : Ev), i < k + 1 → L[i]? = some a → L[i + 1]? = some b → 259200 ≤ b.nom - a.nom := fun i c d hi hc hd => by
  rcases Nat.lt_or_ge i k with h1 | h1
  · exact h i c d h1 hc hd
  · obtain rfl : i = k := by omega
    rw [ha] at hc
    rw [hb] at hd
    cases hc
    cases hd
    exact hg
end Cv

set_option maxRecDepth 100000 in
set_option maxHeartbeats 8000000 in
theorem apCheck_any (v : Value) (rs : _root_.List Ru) (W : World) (hT : Tabs W) (h : Rul v rs W) :
    Calls Tryd.prog 11 #[v] W (ChkR rs W) := by
  have HT := Lib.hid hT
  have H := Lib.hid h
  obtain ⟨A, cap, rfl⟩ := h.sl
  clear hT h
  go_enter Tryd.func11, Tryd.ntmps11
  go_wp2_with fail
  refine (evIn_any _ rs 1850 2550 _ (by exact HT.out.below (bel_alloc W _)) (by exact H.out.below (bel_alloc W _)) (by decide) (by decide) (by decide) (by decide)).mono ?_
  rintro e w1 ⟨hb, ⟨_, h2, _⟩ | ⟨_, V, L, hI, rfl, hO, hLL⟩⟩
  · omega
  obtain ⟨A2, cp, hV⟩ := (RdEv.own hO.out).sl
  subst hV
  have HB := Lib.hid (bel_trans (bel_alloc W _) hb)
  have HZ := Lib.hid (block_below (heap_alloc_new W _) hb)
  have HR := Lib.hid (RdEv.own hO.out)
  clear hb hO
  obtain ⟨n, hn⟩ : ∃ n, n = L.length := ⟨_, rfl⟩
  rw [← hn] at HR hLL ⊢
  have HN := Lib.hid hn
  clear hn
  rcases Nat.eq_zero_or_pos n with hz | hz
  · subst hz
    have HM := Lib.hid (close_none hI.out (fun i a b ha hb => by have := (_root_.List.getElem?_eq_some_iff.1 ha).1; have := HN.out; omega))
    have y0 := cellB HZ.out (i := 0) rfl
    have y1 := cellB HZ.out (i := 1) rfl
    have y2 := cellB HZ.out (i := 2) rfl
    have f0 := frzB HZ.out 0
    have f1 := frzB HZ.out 1
    have f2 := frzB HZ.out 2
    go_wp2_with fail
    go_loopw [20] (fun s wr => s = .int .i64 0 ∧ wr = w1) (fun _ _ => 0)
    case atStart => exact ⟨rfl, rfl⟩
    case round =>
      obtain ⟨rfl, rfl⟩ := hrel
      go_wp2_with fail
      refine bodyPost_ret (res_cell_tmp rfl _ _ _ _ _ _ _ rfl (set3c HZ.out) Tryd.underlying25 rfl (by kernel_rfl)) rfl ?_
      exact ChkR.none_ HM.out (bel_setCells (o := 0) (l := [.int .i64 0, .int .i64 0, .int .i64 0]) HB.out (Nat.le_refl _))
  · obtain ⟨m, rfl⟩ : ∃ m, n = m + 1 := ⟨n - 1, by omega⟩
    obtain ⟨n, hn⟩ : ∃ n, n = m + 1 := ⟨_, rfl⟩
    rw [← hn] at HR hLL HN ⊢
    have hm1 : IntKind.i64.wrap ((n : Int) - 1) = (m : Int) := by rw [show (n : Int) - 1 = (m : Int) by omega]; exact IntWalk.i64_in _ (by omega)
    have hm0 : (0 : Int) ≤ (m : Int) := by omega
    have HNM := Lib.hid hn
    clear hz hn
    go_wp2_with fail
    clear hm1
    go_loopw [20] (fun s wr => ∃ (k : Nat) (wq : World), k ≤ m ∧ s = .int .i64 (k : Int) ∧ wr = wq ∧ Hid (Below w1.heap.size w1 wq) ∧ Hid (∀ (i : Nat) (a b : Ev), i < k → L[i]? = some a → L[i + 1]? = some b → 259200 ≤ b.nom - a.nom)) (fun s _ => m - (intOf s).toNat)
    case atStart => exact ⟨0, _, by omega, rfl, rfl, Lib.hid (Below.refl _ _), Lib.hid (fun i a b hi => by omega)⟩
    case round =>
      obtain ⟨k, wq, hk, rfl, rfl, HBq, HG⟩ := hrel
      by_cases hlt : k < m
      · have hnm := HNM.out
        have hnl := HN.out
        obtain ⟨a, ha⟩ : ∃ a, L[k]? = some a := ⟨_, _root_.List.getElem?_eq_getElem (by omega)⟩
        obtain ⟨b, hb⟩ : ∃ b, L[k + 1]? = some b := ⟨_, _root_.List.getElem?_eq_getElem (by omega)⟩
        have HRq := Lib.hid (RdEv.below HR.out HBq.out)
        obtain ⟨g, off, rfl, a0, a1, a2⟩ := HRq.out.at_ ha
        obtain ⟨g', off', hgg, b0, b1, b2⟩ := HRq.out.at_ hb
        obtain ⟨rfl, rfl⟩ : g = g' ∧ off = off' := by injection hgg with h1; injection h1 with h1 h2; exact ⟨h1, h2⟩
        clear hgg
        obtain ⟨h1, h2⟩ := nom_fit ((hI.out.2 a).1 (_root_.List.mem_of_getElem? ha)).1
        obtain ⟨h3, h4⟩ := nom_fit ((hI.out.2 b).1 (_root_.List.mem_of_getElem? hb)).1
        obtain ⟨k1, hk1⟩ : ∃ k1, k1 = k + 1 := ⟨_, rfl⟩
        rw [← hk1] at b0 b1 b2
        have HK1 := Lib.hid hk1
        have hw1 : IntKind.i64.wrap ((k : Int) + 1) = (k1 : Int) := by rw [show (k : Int) + 1 = (k1 : Int) by omega]; exact IntWalk.i64_in _ (by omega)
        have hq1 : (0 : Int) ≤ (k1 : Int) := by omega
        have hq2 : (k1 : Int) < (n : Int) := by omega
        have hq3 : (k : Int) < (n : Int) := by omega
        have HA := Lib.hid ha
        have HBB := Lib.hid hb
        obtain ⟨ay, ar, an⟩ := a
        obtain ⟨bY, bR, bN⟩ := b
        dsimp only at a0 a1 a2 b0 b1 b2 h1 h2 h3 h4
        have HZq := Lib.hid (block_below HZ.out HBq.out)
        clear hnm hnl hk1 ha hb
        by_cases hg : bN - an < 259200
        · have HM := Lib.hid (close_some hI.out HG.out HA.out (by exact HBB.out) hg)
          go_wp2_with fail
          go_quiet (fail)
          have y0 := cellB HZq.out (i := 0) rfl
          have y1 := cellB HZq.out (i := 1) rfl
          have y2 := cellB HZq.out (i := 2) rfl
          have f0 := frzB HZq.out 0
          have f1 := frzB HZq.out 1
          have f2 := frzB HZq.out 2
          go_wp2_with fail
          refine bodyPost_ret (res_cell_tmp rfl _ _ _ _ _ _ _ rfl (set3c HZq.out) Tryd.underlying25 rfl (by kernel_rfl)) rfl ?_
          exact ChkR.some_ HM.out (bel_setCells (o := 0) (l := [.int .i64 bY, .int .i64 bR, .int .i64 bN]) (bel_drew (bel_trans HB.out HBq.out) _) (Nat.le_refl _))
        · have HG2 := Lib.hid (gap_next HG.out HA.out HBB.out (by dsimp only; omega))
          go_wp2_with fail
          go_quiet (fail)
          clear hw1
          go_wp2_with fail
          go_round
          case rel => exact ⟨k + 1, _, by omega, by go_num, rfl, Lib.hid (bel_drew HBq.out _), HG2⟩
          case measure => simp [intOf]; omega
      · obtain rfl : m = k := by omega
        have HM := Lib.hid (close_none hI.out (fun i a b ha hb => HG.out i a b (by have := (_root_.List.getElem?_eq_some_iff.1 hb).1; have := HN.out; have := HNM.out; omega) ha hb))
        have HZq := Lib.hid (block_below HZ.out HBq.out)
        have y0 := cellB HZq.out (i := 0) rfl
        have y1 := cellB HZq.out (i := 1) rfl
        have y2 := cellB HZq.out (i := 2) rfl
        have f0 := frzB HZq.out 0
        have f1 := frzB HZq.out 1
        have f2 := frzB HZq.out 2
        go_wp2_with fail
        refine bodyPost_ret (res_cell_tmp rfl _ _ _ _ _ _ _ rfl (set3c HZq.out) Tryd.underlying25 rfl (by kernel_rfl)) rfl ?_
        exact ChkR.none_ HM.out (bel_setCells (o := 0) (l := [.int .i64 0, .int .i64 0, .int .i64 0]) (bel_trans HB.out HBq.out) (Nat.le_refl _))

set_option maxRecDepth 100000 in
set_option maxHeartbeats 4000000 in
theorem apFar_any (v : Value) (rs : _root_.List Ru) (N : Int) (W : World) (hT : Tabs W) (h : Rul v rs W) (hN1 : -9223372036854775808 ≤ N) (hN2 : N ≤ 9223372036854775807) :
    Calls Tryd.prog 13 #[v, .int .i64 N] W (FarR rs N W) := by
  have HT := Lib.hid hT
  have H := Lib.hid h
  obtain ⟨A, cap, rfl⟩ := h.sl
  clear hT h
  obtain ⟨c, hc⟩ : ∃ c, c = cl N := ⟨_, rfl⟩
  have hcb : -1152921504606846976 ≤ c ∧ c ≤ 1152921504606846976 := by rw [hc]; unfold cl; omega
  obtain ⟨hc1, hc2⟩ := hcb
  have HC := Lib.hid hc
  go_enter Tryd.func13, Tryd.ntmps13
  go_upto_region 1 with fail
  go_cut [1] (fun s w' => s = .int .i64 c ∧ w' = W)
  case first =>
    go_wp2_with fail
    go_meet
    case rel => exact ⟨by rw [hc]; rfl, rfl⟩
  case rest =>
    obtain ⟨rfl, hw⟩ := hcut
    have hw := hw.symm
    subst hw
    clear hc
    go_wp2_with fail
    refine (evAfter_any _ rs (c - 259200) _ (by exact HT.out) (by exact H.out) (by omega) (by omega)).mono ?_
    rintro e w1 ⟨o, hp, he, hb⟩
    rw [HC.out] at hp
    cases o with
    | none =>
      have he' : e = .returned (.tuple #[.agg #[.int .i64 0, .int .i64 0, .int .i64 0], .bool false]) := he
      clear he
      subst he'
      have HB := Lib.hid (bel_trans hb (bel_alloc w1 (.cells #[.int .i64 0, .int .i64 0, .int .i64 0] 25)))
      clear hb
      have HF := Lib.hid (far_none hp.out)
      go_wp2_with fail
      go_ret
      exact ⟨true, Lib.hid ⟨fun _ => HF.out, fun _ => rfl⟩, rfl, HB.out⟩
    | some x =>
      obtain ⟨xy, xr, xn⟩ := x
      have he' : e = .returned (.tuple #[.agg #[.int .i64 xy, .int .i64 xr, .int .i64 xn], .bool true]) := he
      clear he
      subst he'
      have HB := Lib.hid (bel_trans hb (bel_alloc w1 (.cells #[.int .i64 xy, .int .i64 xr, .int .i64 xn] 25)))
      have HE := Lib.hid (heap_alloc_new w1 (.cells #[.int .i64 xy, .int .i64 xr, .int .i64 xn] 25))
      clear hb
      have HF := Lib.hid (far_some hp.out)
      obtain ⟨h1, h2⟩ := nom_fit hp.out.1
      dsimp only at h1 h2
      have e2 := cellB HE.out (i := 2) rfl
      by_cases hg : 259200 ≤ xn - c
      · go_wp2_with fail
        go_ret
        exact ⟨true, Lib.hid ⟨fun _ => HF.out.2 (by rw [← HC.out]; exact hg), fun _ => rfl⟩, by simp [hg], HB.out⟩
      · go_wp2_with fail
        go_ret
        exact ⟨false, Lib.hid ⟨fun h => by simp at h, fun h => by have h2 := HF.out.1 h; rw [← HC.out] at h2; omega⟩, by simp [hg], HB.out⟩
end Go.Proofs.YtghmdaahmijdiaaDoor
