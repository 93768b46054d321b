/-
  Spans in memory; slices.Clone and slices.Equal at spans; eras.Find and the document's Find.
-/
import Derived.Test.YtdppmeeobpbfnaaDoorRuArg
import Derived.Test.YtdppmeeobpbfnaaDoorEvOn
import Derived.Laws.StructEq
import Derived.WalkSpells
import Derived.WalkLawsBesides
import Derived.OwnWalk
import Derived.Laws.OwnMore
import Derived.Laws.AppendOwnNone
import Derived.Laws.AppendOwn
namespace Go.Proofs.YtdppmeeobpbfnaaDoor
open Go.RowKit Cv
set_option linter.unusedVariables false
set_option linter.unusedSimpArgs false

set_option maxHeartbeats 1000000 in
theorem eqSp (w : World) (x y z a b c : Int) : (binOp .eql 26 (.agg #[.int .i64 x, .int .i64 y, .int .i64 z]) (.agg #[.int .i64 a, .int .i64 b, .int .i64 c])).run Tryd.prog w = .ok (.bool (x == a && y == b && z == c)) w := by
  have u3 := Tryd.underlying3
  have a3 := Tryd.isAgg3
  have z3 := Tryd.sizeOf3
  have u2 := Tryd.underlying2
  have a2 := Tryd.isAgg2
  have z2 := Tryd.sizeOf2
  have hS : Tryd.prog.underlying 26 = some (.struct (Tryd.prog.fieldsOf 26)) := by kernel_rfl
  have hp : Tryd.prog.stoodInHeld 26 = false := by kernel_rfl
  rw [run_eql_struct, show (10000 : Nat) = 9999 + 1 from rfl, run_equalIn_agg w 9999 26 _ _ hS hp]
  simp only [Program.fieldsOf, Tryd.underlying26]
  go_simp
  by_cases h1 : x = a <;> by_cases h2 : y = b <;> by_cases h3 : z = c <;> simp [h1, h2, h3]

set_option maxHeartbeats 1000000 in
theorem neSp (w : World) (x y z a b c : Int) : (binOp .neq 26 (.agg #[.int .i64 x, .int .i64 y, .int .i64 z]) (.agg #[.int .i64 a, .int .i64 b, .int .i64 c])).run Tryd.prog w = .ok (.bool (!(x == a && y == b && z == c))) w := by
  have u3 := Tryd.underlying3
  have a3 := Tryd.isAgg3
  have z3 := Tryd.sizeOf3
  have u2 := Tryd.underlying2
  have a2 := Tryd.isAgg2
  have z2 := Tryd.sizeOf2
  have hS : Tryd.prog.underlying 26 = some (.struct (Tryd.prog.fieldsOf 26)) := by kernel_rfl
  have hp : Tryd.prog.stoodInHeld 26 = false := by kernel_rfl
  rw [run_neq_struct, show (10000 : Nat) = 9999 + 1 from rfl, run_equalIn_agg w 9999 26 _ _ hS hp]
  simp only [Program.fieldsOf, Tryd.underlying26]
  go_simp
  by_cases h1 : x = a <;> by_cases h2 : y = b <;> by_cases h3 : z = c <;> simp [h1, h2, h3]

namespace Cv
/-- a span -/
structure Sp where
  (st en er : Int)
  deriving DecidableEq
def Sp.enc (s : Sp) : _root_.List Value := [.int .i64 s.st, .int .i64 s.en, .int .i64 s.er]
def flatSp (l : _root_.List Sp) : _root_.List Value := l.flatMap Sp.enc
theorem flatSp_len (l : _root_.List Sp) : (flatSp l).length = l.length * 3 := by
  induction l with
  | nil => rfl
  | cons a l ih =>
    show (a.enc ++ flatSp l).length = _
    rw [_root_.List.length_append, ih, _root_.List.length_cons]
    show 3 + _ = _
    omega
theorem flatSp_at (l : _root_.List Sp) : ∀ (i j : Nat) (e : Sp), l[i]? = some e → j < 3 → (flatSp l)[i * 3 + j]? = e.enc[j]? := by
  induction l with
  | nil => intro i j e h; simp at h
  | cons a l ih =>
    intro i j e h hj
    show (a.enc ++ flatSp l)[i * 3 + j]? = _
    have hl : a.enc.length = 3 := rfl
    cases i with
    | zero =>
      simp at h; subst h
      rw [_root_.List.getElem?_append_left (by omega)]; congr 1; omega
    | succ i =>
      rw [_root_.List.getElem?_append_right (by omega), hl, show (i + 1) * 3 + j - 3 = i * 3 + j by omega]
      exact ih i j e (by simpa using h) hj
theorem flatSp_one (l : _root_.List Sp) : ∀ u ∈ flatSp l, u.oneCell' = true := by
  intro u hu
  obtain ⟨r, _, hr⟩ := _root_.List.mem_flatMap.1 hu
  simp [Sp.enc] at hr
  rcases hr with rfl | rfl | rfl <;> rfl
/-- v reads as the spans l -/
def RdSp (v : Value) (l : _root_.List Sp) (w : World) : Prop :=
  ∃ (A : Option Addr) (cap : Nat), v = .slice A l.length cap ∧ ∀ (i : Nat) (e : Sp), l[i]? = some e → ∃ g off, A = some ⟨g, off, none⟩ ∧ w.rangeAt g (off + i * 3) e.enc
theorem RdSp.below {v : Value} {l : _root_.List Sp} {A B : World} (h : RdSp v l A) (hb : Below A.heap.size A B) : RdSp v l B := by
  obtain ⟨a, c, h1, h4⟩ := h
  exact ⟨a, c, h1, fun i r hr => by obtain ⟨g, off, e, k⟩ := h4 i r hr; exact ⟨g, off, e, range_below hb k⟩⟩
theorem RdSp.own {base : Nat} {t : TypeId} {v : Value} {l : _root_.List Sp} {w : World} (h : w.ownsRow base t 3 v l.length (flatSp l)) : RdSp v l w := by
  have h' := h
  obtain ⟨hl, ⟨rfl, h0⟩ | ⟨g, cap, cur, rfl, _⟩⟩ := h
  · have : l = [] := _root_.List.length_eq_zero_iff.1 h0
    subst this
    exact ⟨none, 0, rfl, fun i e he => by simp at he⟩
  · refine ⟨some ⟨g, 0, none⟩, cap, rfl, fun i e he => ⟨g, 0, rfl, fun j u hu => ?_⟩⟩
    have hj : j < 3 := (_root_.List.getElem?_eq_some_iff.1 hu).1
    have hi : i < l.length := (_root_.List.getElem?_eq_some_iff.1 he).1
    rw [Nat.zero_add, h'.cellAt (i * 3 + j) (by omega), flatSp_at l i j e he hj]; exact hu
theorem RdSp.sl {v : Value} {l : _root_.List Sp} {w : World} (h : RdSp v l w) : ∃ (A : Option Addr) (cap : Nat), v = .slice A l.length cap := by
  obtain ⟨a, c, h1, _⟩ := h; exact ⟨a, c, h1⟩
theorem RdSp.at_ {A : Option Addr} {n cap i : Nat} {l : _root_.List Sp} {w : World} {e : Sp} (h : RdSp (.slice A n cap) l w) (hr : l[i]? = some e) : ∃ g off, A = some ⟨g, off, none⟩ ∧ w.cell? ⟨g, off + i * 3, none⟩ = some (.int .i64 e.st) ∧ w.cell? ⟨g, off + i * 3 + 1, none⟩ = some (.int .i64 e.en) ∧ w.cell? ⟨g, off + i * 3 + 2, none⟩ = some (.int .i64 e.er) := by
  obtain ⟨a, c, h1, h4⟩ := h
  injection h1 with e1 e2 e3
  subst e1
  obtain ⟨g, off, h5, h6⟩ := h4 i e hr
  exact ⟨g, off, h5, h6 0 _ rfl, h6 1 _ rfl, h6 2 _ rfl⟩
theorem RdSp.block {w : World} {b : Nat} {t : TypeId} {cs : Array Value} {l : _root_.List Sp} (h : w.heap[b]? = some (.cells cs t)) (hc : cs.toList = flatSp l) : RdSp (.slice (some ⟨b, 0, none⟩) l.length l.length) l w := by
  refine ⟨_, _, rfl, fun i e he => ⟨b, 0, rfl, fun j u hu => ?_⟩⟩
  have hj : j < 3 := (_root_.List.getElem?_eq_some_iff.1 hu).1
  refine cellB h ?_
  rw [← Array.getElem?_toList, hc, Nat.zero_add, flatSp_at l i j e he hj]; exact hu
theorem RdSp.news {ad : Addr} {n cap : Nat} {l : _root_.List Sp} {w : World} (h : RdSp (.slice (some ad) n cap) l w) : ∀ j u, (flatSp l)[j]? = some u → w.cell? (ad.add j) = some u := by
  intro j u hu
  have hj : j < l.length * 3 := by rw [← flatSp_len]; exact (_root_.List.getElem?_eq_some_iff.1 hu).1
  have hi : j / 3 < l.length := by omega
  obtain ⟨r, hr⟩ : ∃ r, l[j / 3]? = some r := by rw [_root_.List.getElem?_eq_getElem hi]; exact ⟨_, rfl⟩
  obtain ⟨a, c, h1, h4⟩ := h
  injection h1 with q1 q2 q3
  subst q1
  obtain ⟨g, off, e, hrg⟩ := h4 _ r hr
  cases e
  have e1 : j = j / 3 * 3 + j % 3 := by omega
  rw [e1, flatSp_at l (j / 3) (j % 3) r hr (by omega)] at hu
  have := hrg (j % 3) u hu
  have e2 : (⟨g, off, none⟩ : Addr).add j = ⟨g, off + j / 3 * 3 + j % 3, none⟩ := by
    rw [Addr.add_mid]
    congr 1
    omega
  rw [e2]
  exact this
/-- whether a span has an instant -/
def hitS (t : Int) (s : Sp) : Prop := s.st ≤ t ∧ t < s.en
instance (t : Int) (s : Sp) : Decidable (hitS t s) := by unfold hitS; exact inferInstance
/-- what Find answers -/
def FindIs (l : _root_.List Sp) (t : Int) : Option Sp → Prop
  | none => ∀ (i : Nat) (e : Sp), l[i]? = some e → ¬ hitS t e
  | some s => ∃ k : Nat, l[k]? = some s ∧ hitS t s ∧ ∀ (i : Nat) (e : Sp), i < k → l[i]? = some e → ¬ hitS t e
theorem FindIs.uniq {l : _root_.List Sp} {t : Int} {a b : Option Sp} (h : FindIs l t a) (k : FindIs l t b) : a = b := by
  cases a with
  | none =>
    cases b with
    | none => rfl
    | some s => obtain ⟨i, h1, h2, _⟩ := k; exact (h i s h1 h2).elim
  | some s =>
    cases b with
    | none => obtain ⟨i, h1, h2, _⟩ := h; exact (k i s h1 h2).elim
    | some q =>
      obtain ⟨i, h1, h2, h3⟩ := h
      obtain ⟨j, k1, k2, k3⟩ := k
      rcases Nat.lt_trichotomy i j with hl | hl | hl
      · exact (k3 i s hl h1 h2).elim
      · subst hl; rw [h1] at k1; exact k1
      · exact (h3 j q hl k1 k2).elim
def spV : Option Sp → Value
  | none => .tuple #[.agg #[.int .i64 0, .int .i64 0, .int .i64 0], .bool false]
  | some s => .tuple #[.agg #[.int .i64 s.st, .int .i64 s.en, .int .i64 s.er], .bool true]
def FindR (l : _root_.List Sp) (t : Int) (W : World) (e : Ending) (w' : World) : Prop := ∃ o, Hid (FindIs l t o) ∧ e = .returned (spV o) ∧ Below W.heap.size W w'
theorem FindR.to {l : _root_.List Sp} {t : Int} {o : Option Sp} {W : World} {v : Value} (h : FindIs l t o) (hv : spV o = v) : ∀ e w', FindR l t W e w' → e = .returned v ∧ Below W.heap.size W w' := by
  rintro e w' ⟨p, hp, he, hb⟩
  obtain rfl := hp.out.uniq h
  exact ⟨by rw [he, hv], hb⟩
/-- what IndexFunc answers -/
def IdxR (l : _root_.List Sp) (t : Int) (W : World) (e : Ending) (w' : World) : Prop := ∃ i : Int, Hid ((i = -1 ∧ FindIs l t none) ∨ ∃ (k : Nat) (s : Sp), i = (k : Int) ∧ l[k]? = some s ∧ FindIs l t (some s)) ∧ e = .returned (.int .i64 i) ∧ Below W.heap.size W w'
end Cv

theorem infoSp : (Tryd.prog.info? 26).map (fun i => (i.zero, i.size, i.bytes)) = some (some (.agg #[.int .i64 0, .int .i64 0, .int .i64 0]), 3, 24) := by kernel_rfl

set_option maxRecDepth 100000 in
set_option maxHeartbeats 2000000 in
theorem equalSp_any (u v : Value) (l : _root_.List Sp) (W : World) (hu : RdSp u l W) (hv : RdSp v l W) (hl : l.length ≤ 100000000) : Calls Tryd.prog 11 #[u, v] W fun e w' => e = .returned (.bool true) ∧ Below W.heap.size W w' := by
  obtain ⟨A, c1, rfl⟩ := hu.sl
  obtain ⟨B, c2, rfl⟩ := hv.sl
  have HU := Lib.hid hu
  have HV := Lib.hid hv
  clear hu hv
  obtain ⟨n, hN⟩ : ∃ n, n = l.length := ⟨_, rfl⟩
  rw [← hN] at hl HU HV ⊢
  have HN := Lib.hid hN
  clear hN
  have hne := neSp
  go_enter Tryd.func11, Tryd.ntmps11
  go_wp2_with fail
  go_loopw [13] (fun s wr => ∃ (k : Nat) (wq : World), k ≤ n ∧ s = .int .i64 (k : Int) ∧ wr = wq ∧ Hid (Below W.heap.size W wq)) (fun s _ => n - (intOf s).toNat)
  case atStart => exact ⟨0, _, by omega, rfl, rfl, Lib.hid (Below.refl _ _)⟩
  case round =>
    obtain ⟨k, wq, hk, rfl, rfl, HB⟩ := hrel
    by_cases hlt : k < n
    · obtain ⟨e, he⟩ : ∃ e, l[k]? = some e := by rw [_root_.List.getElem?_eq_getElem (by rw [← HN.out]; exact hlt)]; exact ⟨_, rfl⟩
      obtain ⟨g1, o1, rfl, a0, a1, a2⟩ := (HU.out.below HB.out).at_ he
      obtain ⟨g2, o2, rfl, b0, b1, b2⟩ := (HV.out.below HB.out).at_ he
      have hk0 : (0 : Int) ≤ (k : Int) := by omega
      have hk1 : (k : Int) < (n : Int) := by omega
      clear he
      go_wp2_with fail
      go_quiet (fail)
      have HB2 := Lib.hid (bel_drew HB.out nq)
      clear a0 a1 a2 b0 b1 b2
      go_wp2_with fail
      go_round
      case rel => exact ⟨k + 1, _, by omega, by go_num, rfl, HB2⟩
      case measure => simp [intOf]; omega
    · obtain rfl : k = n := by omega
      go_wp2_with fail
      go_ret
      exact ⟨rfl, HB.out⟩

set_option maxRecDepth 100000 in
set_option maxHeartbeats 2000000 in
/-- a clone of spans -/
theorem cloneSp_any (v : Value) (l : _root_.List Sp) (W : World) (h : RdSp v l W) (hl : l.length ≤ 100) :
    Calls Tryd.prog 8 #[v] W fun e w' => ∃ v', e = .returned v' ∧ RdSp v' l w' ∧ Below W.heap.size W w' := by
  obtain ⟨A, cap, rfl⟩ := h.sl
  have H := Lib.hid h
  clear h
  obtain ⟨n, hN⟩ : ∃ n, n = l.length := ⟨_, rfl⟩
  rw [← hN] at hl H ⊢
  have HN := Lib.hid hN
  clear hN
  obtain ⟨i0, hi, hz0, hzs, hzb⟩ := info_parts infoSp
  have hq : ∀ (w : World) (a : Option Addr) (n c n' c' : Nat), (binOp .eql 22 (.slice a n c) (.slice none n' c')).run Tryd.prog w = .ok (.bool a.isNone) w := fun w a n c n' c' => Lib.run_eql_slice_nil w _ _ a n c n' c' Tryd.underlying22
  cases A with
  | none =>
    have hx : l = [] := by
      cases l with
      | nil => rfl
      | cons r l => obtain ⟨g, off, e, _⟩ := H.out.at_ (i := 0) rfl; cases e
    subst hx
    go_enter Tryd.func8, Tryd.ntmps8
    go_wp2_with fail
    go_ret
    exact ⟨_, rfl, ⟨none, 0, rfl, fun i r hr => by simp at hr⟩, Below.refl _ _⟩
  | some ad =>
    go_enter Tryd.func8, Tryd.ntmps8
    go_wp2_with (at_builtin; refine wpList_append_own _ rfl (.tmp 5) (.tmp 6) 22 rfl W.heap.size 26 i0 (.agg #[.int .i64 0, .int .i64 0, .int .i64 0]) 3 24 Tryd.underlying22 hi hz0 hzs hzb rfl (by decide) _ 0 [] rfl (World.ownsRow_made W #[] 0 (Nat.le_refl _) (by decide) (by simp)) ad n cap (flatSp l) rfl (by rw [flatSp_len, HN.out]) (fun j u hu => cell_below (bel_alloc W _) (H.out.news j u hu)) (flatSp_one l) (by unfold maxLen; omega) (by omega) (by simp) ?_; intro v1 w1 hown1 hgrow1 hnil1)
    go_ret
    refine ⟨_, rfl, RdSp.own (by have h1 := hown1; rw [Nat.zero_add, HN.out] at h1; simpa using h1), ?_⟩
    exact Below.grown (bel_alloc W _) hgrow1 (by simp) (fun k hk => (World.ownsRow_made W #[] 0 (e := 26) (size := 3) (Nat.le_refl W.heap.size) (by decide) (by simp)).lt k (by exact hk) |>.1)

set_option maxRecDepth 100000 in
set_option maxHeartbeats 1000000 in
theorem hit_any (x y z t : Int) (B : Nat) (W : World) (hB : W.cell? ⟨B, 0, none⟩ = some (.int .i64 t)) :
    Calls Tryd.prog 18 (#[.agg #[.int .i64 x, .int .i64 y, .int .i64 z]] ++ #[.pointer (some ⟨B, 0, none⟩)]) W fun e w' => e = .returned (.bool (decide (hitS t ⟨x, y, z⟩))) ∧ Below W.heap.size W w' := by
  have HB := Lib.hid (bel_alloc W (.cells #[.int .i64 x, .int .i64 y, .int .i64 z] 26))
  have c := cell_below HB.out hB
  clear hB
  by_cases h1 : x ≤ t
  · have d1 : decide (x ≤ t) = true := by simp [h1]
    have HV := Lib.hid (show decide (t < y) = decide (hitS t ⟨x, y, z⟩) by unfold hitS; simp [h1])
    go_enter Tryd.func18, Tryd.ntmps18
    go_wp2_with fail
    go_ret
    exact ⟨congrArg (fun b => Ending.returned (.bool b)) HV.out, HB.out⟩
  · have d1 : decide (x ≤ t) = false := by simp [h1]
    have HV := Lib.hid (show false = decide (hitS t ⟨x, y, z⟩) by unfold hitS; simp [h1])
    go_enter Tryd.func18, Tryd.ntmps18
    go_wp2_with fail
    go_ret
    exact ⟨congrArg (fun b => Ending.returned (.bool b)) HV.out, HB.out⟩
theorem cf_hit (args : Array Value) (w : World) : (callFunc 18 args).run Tryd.prog w = .ok (.enter 18 args) w := by rfl

set_option maxRecDepth 100000 in
set_option maxHeartbeats 2000000 in
theorem idx_any (v : Value) (l : _root_.List Sp) (t : Int) (B : Nat) (W : World) (h : RdSp v l W) (hl : l.length ≤ 100) (hB : W.cell? ⟨B, 0, none⟩ = some (.int .i64 t)) :
    Calls Tryd.prog 17 #[v, .func (.func 18) #[] #[.pointer (some ⟨B, 0, none⟩)]] W (IdxR l t W) := by
  obtain ⟨A, cap, rfl⟩ := h.sl
  have H := Lib.hid h
  have HC := Lib.hid hB
  clear h hB
  obtain ⟨n, hN⟩ : ∃ n, n = l.length := ⟨_, rfl⟩
  rw [← hN] at hl H ⊢
  have HN := Lib.hid hN
  clear hN
  have hcf := cf_hit
  go_enter Tryd.func17, Tryd.ntmps17
  go_wp2_with fail
  go_loopw [8] (fun s wr => ∃ (k : Nat) (wq : World), k ≤ n ∧ s = .int .i64 (k : Int) ∧ wr = wq ∧ Hid (Below W.heap.size W wq) ∧ Hid (∀ (i : Nat) (e : Sp), i < k → l[i]? = some e → ¬ hitS t e)) (fun s _ => n - (intOf s).toNat)
  case atStart => exact ⟨0, _, by omega, rfl, rfl, Lib.hid (Below.refl _ _), Lib.hid (fun i e hi => by omega)⟩
  case round =>
    obtain ⟨k, wq, hk, rfl, rfl, HB, HK⟩ := hrel
    by_cases hlt : k < n
    · obtain ⟨e, he⟩ : ∃ e, l[k]? = some e := by rw [_root_.List.getElem?_eq_getElem (by rw [← HN.out]; exact hlt)]; exact ⟨_, rfl⟩
      have HE := Lib.hid he
      obtain ⟨g1, o1, rfl, a0, a1, a2⟩ := (H.out.below HB.out).at_ he
      have hk0 : (0 : Int) ≤ (k : Int) := by omega
      have hk1 : (k : Int) < (n : Int) := by omega
      obtain ⟨ex, ey, ez⟩ := e
      dsimp only at a0 a1 a2
      clear he
      go_wp2_with fail
      refine (hit_any ex ey ez t B _ (cell_below HB.out HC.out)).mono ?_
      rintro e w2 ⟨rfl, hb⟩
      have HB := Lib.hid (bel_trans HB.out hb)
      clear hb a0 a1 a2
      by_cases hh : hitS t ⟨ex, ey, ez⟩
      · have hd : decide (hitS t ⟨ex, ey, ez⟩) = true := by simp [hh]
        have HR := Lib.hid (show FindIs l t (some ⟨ex, ey, ez⟩) from ⟨k, HE.out, hh, HK.out⟩)
        rw [hd]
        clear hh hd
        go_wp2_with fail
        go_ret
        exact ⟨(k : Int), Lib.hid (.inr ⟨k, _, rfl, HE.out, HR.out⟩), rfl, HB.out⟩
      · have hd : decide (hitS t ⟨ex, ey, ez⟩) = false := by simp [hh]
        have HK2 := Lib.hid (show ∀ (i : Nat) (e : Sp), i < k + 1 → l[i]? = some e → ¬ hitS t e from fun i e hi hie => by
          rcases Nat.lt_or_ge i k with h3 | h3
          · exact HK.out i e h3 hie
          · obtain rfl : i = k := by omega
            rw [HE.out] at hie; cases hie; exact hh)
        rw [hd]
        clear hh hd
        go_wp2_with fail
        go_round
        case rel => exact ⟨k + 1, _, by omega, by go_num, rfl, HB, HK2⟩
        case measure => simp [intOf]; omega
    · obtain rfl : k = n := by omega
      go_wp2_with fail
      go_ret
      exact ⟨-1, Lib.hid (.inl ⟨rfl, fun i e hi => HK.out i e (by rw [HN.out]; exact (_root_.List.getElem?_eq_some_iff.1 hi).1) hi⟩), rfl, HB.out⟩

set_option maxRecDepth 100000 in
set_option maxHeartbeats 2000000 in
theorem find_any (v : Value) (l : _root_.List Sp) (t : Int) (W : World) (h : RdSp v l W) (hl : l.length ≤ 100) :
    Calls Tryd.prog 9 #[v, .int .i64 t] W (FindR l t W) := by
  obtain ⟨A, cap, rfl⟩ := h.sl
  have HB := Lib.hid (show Below W.heap.size W ((W.alloc (.cells #[.int .i64 t] 2)).alloc (.cells #[.int .i64 0, .int .i64 0, .int .i64 0] 26)) from bel_trans (bel_alloc W _) (bel_alloc _ _))
  have KT := Lib.hid (show ((W.alloc (.cells #[.int .i64 t] 2)).alloc (.cells #[.int .i64 0, .int .i64 0, .int .i64 0] 26)).heap[W.heap.size]? = some (.cells #[.int .i64 t] 2) from block_below (heap_alloc_new W _) (bel_alloc _ _))
  have KZ := Lib.hid (show ((W.alloc (.cells #[.int .i64 t] 2)).alloc (.cells #[.int .i64 0, .int .i64 0, .int .i64 0] 26)).heap[W.heap.size + 1]? = some (.cells #[.int .i64 0, .int .i64 0, .int .i64 0] 26) from heap_alloc2_new W _ _)
  have H := Lib.hid (h.below HB.out)
  clear h
  obtain ⟨n, hN⟩ : ∃ n, n = l.length := ⟨_, rfl⟩
  rw [← hN] at H ⊢
  have HN := Lib.hid hN
  have hn : n ≤ 100 := by omega
  clear hN
  go_enter Tryd.func9, Tryd.ntmps9
  go_wp2_with fail
  refine (idx_any _ l t W.heap.size _ (by exact H.out) hl (cellB KT.out (i := 0) rfl)).mono ?_
  rintro e w1 ⟨i, hi, rfl, hb⟩
  have HB := Lib.hid (bel_trans HB.out hb)
  have KZ := Lib.hid (block_below KZ.out hb)
  have H := Lib.hid (H.out.below hb)
  have HI := hi
  clear hb hi hl
  have x0 := cellB KZ.out (i := 0) rfl
  have x1 := cellB KZ.out (i := 1) rfl
  have x2 := cellB KZ.out (i := 2) rfl
  have u0 := frzB KZ.out 0
  have u1 := frzB KZ.out 1
  have u2 := frzB KZ.out 2
  rcases HI.out with ⟨rfl, hf⟩ | ⟨k, s, rfl, hs, hf⟩
  · have HF := Lib.hid hf
    clear hf
    go_wp2_with fail
    refine bodyPost_ret (res_cell_tmp rfl _ _ _ _ _ _ _ rfl (set3c KZ.out) Tryd.underlying26 rfl (by kernel_rfl)) rfl ?_
    exact ⟨none, HF, rfl, bel_setCells (o := 0) (l := [.int .i64 0, .int .i64 0, .int .i64 0]) HB.out (Nat.le_succ _)⟩
  · have HF := Lib.hid hf
    obtain ⟨g, of_, rfl, a0, a1, a2⟩ := H.out.at_ hs
    obtain ⟨sx, sy, sz⟩ := s
    dsimp only at a0 a1 a2
    have hk0 : (0 : Int) ≤ (k : Int) := by omega
    have hk1 : (k : Int) < (n : Int) := by have := (_root_.List.getElem?_eq_some_iff.1 hs).1; have := HN.out; omega
    have hk3 : ¬ (k : Int) < 0 := by omega
    clear hf hs
    go_wp2_with fail
    refine bodyPost_ret (res_cell_tmp rfl _ _ _ _ _ _ _ rfl (set3c KZ.out) Tryd.underlying26 rfl (by kernel_rfl)) rfl ?_
    exact ⟨some ⟨sx, sy, sz⟩, HF, rfl, bel_setCells (o := 0) (l := [.int .i64 sx, .int .i64 sy, .int .i64 sz]) HB.out (Nat.le_succ _)⟩

set_option maxRecDepth 100000 in
set_option maxHeartbeats 2000000 in
theorem refFind_any (v : Value) (l : _root_.List Sp) (t : Int) (W : World) (h : RdSp v l W) (hl : l.length ≤ 100) :
    Calls Tryd.prog 10 #[v, .int .i64 t] W (FindR l t W) := by
  obtain ⟨A, cap, rfl⟩ := h.sl
  have H0 := Lib.hid h
  clear h
  obtain ⟨n, hN⟩ : ∃ n, n = l.length := ⟨_, rfl⟩
  rw [← hN] at hl H0 ⊢
  have HN := Lib.hid hN
  clear hN
  go_enter Tryd.func10, Tryd.ntmps10
  go_wp2_with fail
  go_loopw [6] (fun s wr => ∃ (k : Nat) (wq : World), k ≤ n ∧ s = .int .i64 (k : Int) ∧ wr = wq ∧ Hid (Below W.heap.size W wq) ∧ Hid (wq.heap[W.heap.size]? = some (.cells #[.int .i64 0, .int .i64 0, .int .i64 0] 26)) ∧ Hid (∀ (i : Nat) (e : Sp), i < k → l[i]? = some e → ¬ hitS t e)) (fun s _ => n - (intOf s).toNat)
  case atStart => exact ⟨0, _, by omega, rfl, rfl, Lib.hid (bel_alloc _ _), Lib.hid (heap_alloc_new _ _), Lib.hid (fun i e hi => by omega)⟩
  case round =>
    obtain ⟨k, wq, hk, rfl, rfl, HB, KZ, HK⟩ := hrel
    have x0 := cellB KZ.out (i := 0) rfl
    have x1 := cellB KZ.out (i := 1) rfl
    have x2 := cellB KZ.out (i := 2) rfl
    have u0 := frzB KZ.out 0
    have u1 := frzB KZ.out 1
    have u2 := frzB KZ.out 2
    by_cases hlt : k < n
    · obtain ⟨e, he⟩ : ∃ e, l[k]? = some e := by rw [_root_.List.getElem?_eq_getElem (by rw [← HN.out]; exact hlt)]; exact ⟨_, rfl⟩
      have HE := Lib.hid he
      obtain ⟨g1, o1, rfl, a0, a1, a2⟩ := (H0.out.below HB.out).at_ he
      have hk0 : (0 : Int) ≤ (k : Int) := by omega
      have hk1 : (k : Int) < (n : Int) := by omega
      obtain ⟨ex, ey, ez⟩ := e
      dsimp only at a0 a1 a2
      clear he
      by_cases hh : hitS t ⟨ex, ey, ez⟩
      · have HR := Lib.hid (show FindIs l t (some ⟨ex, ey, ez⟩) from ⟨k, HE.out, hh, HK.out⟩)
        obtain ⟨h1, h2⟩ := hh
        dsimp only at h1 h2
        go_wp2_with fail
        refine bodyPost_ret (res_cell_tmp rfl _ _ _ _ _ _ _ rfl (set3c KZ.out) Tryd.underlying26 rfl (by kernel_rfl)) rfl ?_
        exact ⟨some ⟨ex, ey, ez⟩, HR, rfl, bel_setCells (o := 0) (l := [.int .i64 ex, .int .i64 ey, .int .i64 ez]) HB.out (Nat.le_refl _)⟩
      · have HK2 := Lib.hid (show ∀ (i : Nat) (e : Sp), i < k + 1 → l[i]? = some e → ¬ hitS t e from fun i e hi hie => by
          rcases Nat.lt_or_ge i k with h3 | h3
          · exact HK.out i e h3 hie
          · obtain rfl : i = k := by omega
            rw [HE.out] at hie; cases hie; exact hh)
        rcases (show ex ≤ t ∧ ¬ t < ey ∨ ¬ ex ≤ t by unfold hitS at hh; dsimp only at hh; omega) with ⟨h1, h2⟩ | h1
        · have d2 : decide (t < ey) = false := by simp [h2]
          clear hh
          go_wp2_with fail
          go_round
          case rel => exact ⟨k + 1, _, by omega, by go_num, rfl, HB, KZ, HK2⟩
          case measure => simp [intOf]; omega
        · have d1 : decide (ex ≤ t) = false := by simp [h1]
          clear hh
          go_wp2_with fail
          go_round
          case rel => exact ⟨k + 1, _, by omega, by go_num, rfl, HB, KZ, HK2⟩
          case measure => simp [intOf]; omega
    · obtain rfl : k = n := by omega
      go_wp2_with fail
      refine bodyPost_ret (res_cell_tmp rfl _ _ _ _ _ _ _ rfl (set3c KZ.out) Tryd.underlying26 rfl (by kernel_rfl)) rfl ?_
      exact ⟨none, Lib.hid (fun i e hi => HK.out i e (by rw [HN.out]; exact (_root_.List.getElem?_eq_some_iff.1 hi).1) hi), rfl, bel_setCells (o := 0) (l := [.int .i64 0, .int .i64 0, .int .i64 0]) HB.out (Nat.le_refl _)⟩
end Go.Proofs.YtdppmeeobpbfnaaDoor
