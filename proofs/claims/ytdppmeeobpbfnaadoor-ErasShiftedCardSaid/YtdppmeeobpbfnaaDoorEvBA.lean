/-
  The contracts of events.Before and events.After.
-/
import Derived.Test.YtdppmeeobpbfnaaDoorEvBest
namespace Go.Proofs.YtdppmeeobpbfnaaDoor
open Go.RowKit Cv
set_option linter.unusedVariables false
set_option linter.unusedSimpArgs false

namespace Cv
/-- what is looked up at the rule with an index -/
def AtB (rs : _root_.List Ru) (N : Int) (k : Nat) (o : Option Ev) : Prop := ∃ r, rs[k]? = some r ∧ LookB (baseL rs) r N k o
def AtA (rs : _root_.List Ru) (N : Int) (k : Nat) (o : Option Ev) : Prop := ∃ r, rs[k]? = some r ∧ LookA (baseL rs) r N k o
theorem ruleAt_ex {rs : _root_.List Ru} {i : Int} {r : Ru} (h : ruleAt rs i = some r) : ∃ k : Nat, i = k ∧ rs[k]? = some r ∧ k < rs.length := by
  unfold ruleAt at h
  split at h
  · exact ⟨i.toNat, by omega, h, (_root_.List.getElem?_eq_some_iff.1 h).1⟩
  · cases h
theorem is_of {rs : _root_.List Ru} {k : Nat} {r : Ru} {e : Ev} (hr : rs[k]? = some r) (h1 : e.rule = k) (h2 : Has r e.year) (h3 : e.nom = nomOf (baseL rs) r e.year) : IsEv rs e := ⟨r, by rw [h1]; exact ruleAt_nat hr, h2, h3⟩
theorem befIs_of {rs : _root_.List Ru} {N : Int} {o : Option Ev} (h : BestK (AtB rs N) (fun a b => b.lt a) rs.length o) : BefIs rs N o := by
  cases o with
  | none =>
    rintro e ⟨r, hr, hh, hn⟩ hlt
    obtain ⟨k, hk, hr', hl⟩ := ruleAt_ex hr
    obtain ⟨r2, h2, h3⟩ := h k hl
    rw [hr'] at h2
    obtain rfl := Option.some.inj h2
    exact h3 e.year ⟨hh, by rw [← hn]; exact hlt⟩
  | some x =>
    obtain ⟨⟨j, hj, rx, hrx, x1, x2, x3, x4, x5⟩, hb⟩ := h
    refine ⟨is_of hrx x1 x2 x3, x4, ?_⟩
    rintro e ⟨r, hr, hh, hn⟩ hlt hxe
    obtain ⟨k, hk, hr', hl⟩ := ruleAt_ex hr
    obtain ⟨oi, ⟨r2, h2, h3⟩, h4⟩ := hb k hl
    rw [hr'] at h2
    obtain rfl := Option.some.inj h2
    cases oi with
    | none => exact h3 e.year ⟨hh, by rw [← hn]; exact hlt⟩
    | some y =>
      obtain ⟨y1, y2, y3, y4, y5⟩ := h3
      refine h4 y rfl ?_
      have hle := y5 e.year hh (by rw [← hn]; exact hlt)
      by_cases he : e.year = y.year
      · have : e = y := by
          obtain ⟨a, b, c⟩ := e
          obtain ⟨a', b', c'⟩ := y
          simp only at he hk y1 hn y3 hh
          subst he
          rw [Ev.mk.injEq]
          exact ⟨rfl, by omega, by omega⟩
        rw [← this]; exact hxe
      · have hg := nom_gap (bs := baseL rs) hh y2 (by omega)
        refine Ev.lt_trans hxe (.inl ?_)
        omega
theorem aftIs_of {rs : _root_.List Ru} {N : Int} {o : Option Ev} (h : BestK (AtA rs N) (fun a b => a.lt b) rs.length o) : AftIs rs N o := by
  cases o with
  | none =>
    rintro e ⟨r, hr, hh, hn⟩ hlt
    obtain ⟨k, hk, hr', hl⟩ := ruleAt_ex hr
    obtain ⟨r2, h2, h3⟩ := h k hl
    rw [hr'] at h2
    obtain rfl := Option.some.inj h2
    exact h3 e.year ⟨hh, by rw [← hn]; exact hlt⟩
  | some x =>
    obtain ⟨⟨j, hj, rx, hrx, x1, x2, x3, x4, x5⟩, hb⟩ := h
    refine ⟨is_of hrx x1 x2 x3, x4, ?_⟩
    rintro e ⟨r, hr, hh, hn⟩ hlt hxe
    obtain ⟨k, hk, hr', hl⟩ := ruleAt_ex hr
    obtain ⟨oi, ⟨r2, h2, h3⟩, h4⟩ := hb k hl
    rw [hr'] at h2
    obtain rfl := Option.some.inj h2
    cases oi with
    | none => exact h3 e.year ⟨hh, by rw [← hn]; exact hlt⟩
    | some y =>
      obtain ⟨y1, y2, y3, y4, y5⟩ := h3
      refine h4 y rfl ?_
      have hle := y5 e.year hh (by rw [← hn]; exact hlt)
      by_cases he : e.year = y.year
      · have : e = y := by
          obtain ⟨a, b, c⟩ := e
          obtain ⟨a', b', c'⟩ := y
          simp only at he hk y1 hn y3 hh
          subst he
          rw [Ev.mk.injEq]
          exact ⟨rfl, by omega, by omega⟩
        rw [← this]; exact hxe
      · have hg := nom_gap (bs := baseL rs) y2 hh (by omega)
        refine Ev.lt_trans (.inl ?_) hxe
        omega
theorem YearR.of {t : Int} {w : World} : ∀ e w', YearR t w e w' → ∃ q, Hid (YearOf t q) ∧ e = .returned (.int .i64 q) ∧ ∃ n, w' = w.drewN n := by
  rintro e w' ⟨y, m, d, hd, rfl, hw⟩
  exact ⟨_, Lib.hid (YearOf.mk' hd.out _ rfl), rfl, hw⟩
end Cv

theorem cf_bef1 (args : Array Value) (w : World) : (callFunc 62 args).run Tryd.prog w = .ok (.enter 62 args) w := by rfl

theorem cf_bef2 (args : Array Value) (w : World) : (callFunc 65 args).run Tryd.prog w = .ok (.enter 65 args) w := by rfl

theorem cf_order (args : Array Value) (w : World) : (callFunc 66 args).run Tryd.prog w = .ok (.enter 66 args) w := by rfl

theorem heap_alloc_at {w : World} {o : Obj} {b : Nat} (h : w.heap.size = b) : (w.alloc o).heap[b]? = some o := by subst h; exact heap_alloc_new w o
theorem bel_drew_block {w : World} {b : Nat} {o : Obj} (h : w.heap[b]? = some o) (n : Nat) : (w.drewN n).heap[b]? = some o := h

theorem bef1_fam (rs : _root_.List Ru) (N q : Int) (A : Option Addr) (n cap bl bq bn : Nat) (W : World) (hT : Tabs W) (H : Rul (.slice A n cap) rs W) (HN : n = rs.length) (hn : n ≤ 1000) (hl : W.cell? ⟨bl, 0, none⟩ = some (.slice A n cap)) (hq : W.cell? ⟨bq, 0, none⟩ = some (.int .i64 q)) (hnc : W.cell? ⟨bn, 0, none⟩ = some (.int .i64 N))
    (HQ : Hid (YearOf N q)) (hN1 : -9223372036854775808 ≤ N) (hN2 : N ≤ 9223372036854775807) (k : Nat) (V : World) (hk : k < n) (hb : Below W.heap.size W V) :
    Calls Tryd.prog 62 (#[.int .i64 (k : Int)] ++ #[.pointer (some ⟨bl, 0, none⟩), .pointer (some ⟨bq, 0, none⟩), .pointer (some ⟨bn, 0, none⟩)]) V (LookR (AtB rs N k) V) := by
  obtain ⟨r, hr⟩ : ∃ r, rs[k]? = some r := by rw [_root_.List.getElem?_eq_getElem (by rw [← HN]; exact hk)]; exact ⟨_, rfl⟩
  have hH := H.below hb
  obtain ⟨g, off, rfl, hrg⟩ := hH.at_ hr
  exact (bef1_any rs k n g off cap bl bq bn N q r V (Lib.hid (hT.below hb)) (Lib.hid hH) hn hk (Lib.hid hr) hrg (cell_below hb hl) (cell_below hb hq) (cell_below hb hnc) HQ hN1 hN2).mono fun e w' ⟨o, h1, h2, h3⟩ => ⟨o, Lib.hid ⟨r, hr, h1.out⟩, h2, h3⟩

set_option maxRecDepth 100000 in
set_option maxHeartbeats 2000000 in
theorem evBefore_any (v : Value) (rs : _root_.List Ru) (N : Int) (W : World) (hT : Tabs W) (h : Rul v rs W) (hN1 : -9223372036854775808 ≤ N) (hN2 : N ≤ 9223372036854775807) :
    Calls Tryd.prog 51 #[v, .int .i64 N] W (LookR (BefIs rs N) W) := by
  obtain ⟨A, cap, rfl⟩ := h.sl
  have H := Lib.hid h
  have HT := Lib.hid hT
  have hn := h.len
  clear h hT
  obtain ⟨n, hN⟩ : ∃ n, n = rs.length := ⟨_, rfl⟩
  rw [← hN] at hn H ⊢
  have HN := Lib.hid hN
  clear hN
  have hmf : ∀ (fn : Fn) (first cap : Array Value) (w : World), (Instr.makeFunc fn first cap).run Tryd.prog w = .ok (.func fn first cap) w := fun _ _ _ _ => rfl
  have HB0 := Lib.hid (show Below W.heap.size W (((W.alloc (.cells #[.slice A n cap] 36)).alloc (.cells #[.int .i64 N] 2)).alloc (.cells #[.int .i64 0, .int .i64 0, .int .i64 0] 117)) from bel_trans (bel_trans (bel_alloc _ _) (bel_alloc _ _)) (bel_alloc _ _))
  go_enter Tryd.func51, Tryd.ntmps51
  go_wp2_with fail
  refine (year_any N _ (by exact (HT.out.below HB0.out).1) hN1 hN2).mono ?_
  intro e w1 hq; obtain ⟨q, HQ, rfl, nd, rfl⟩ := YearR.of _ _ hq; clear hq
  have HBX := Lib.hid (show Below W.heap.size W (((((W.alloc (.cells #[.slice A n cap] 36)).alloc (.cells #[.int .i64 N] 2)).alloc (.cells #[.int .i64 0, .int .i64 0, .int .i64 0] 117)).drewN nd).alloc (.cells #[.int .i64 q] 2)) from bel_trans (bel_drew HB0.out nd) (bel_alloc _ _))
  have HL := Lib.hid (show (((((W.alloc (.cells #[.slice A n cap] 36)).alloc (.cells #[.int .i64 N] 2)).alloc (.cells #[.int .i64 0, .int .i64 0, .int .i64 0] 117)).drewN nd).alloc (.cells #[.int .i64 q] 2)).cell? ⟨W.heap.size, 0, none⟩ = some (.slice A n cap) from cell_below (bel_trans (bel_drew (bel_trans (bel_alloc _ _) (bel_alloc _ _)) nd) (bel_alloc _ _)) (cellB (heap_alloc_new W _) rfl))
  have HNC := Lib.hid (show (((((W.alloc (.cells #[.slice A n cap] 36)).alloc (.cells #[.int .i64 N] 2)).alloc (.cells #[.int .i64 0, .int .i64 0, .int .i64 0] 117)).drewN nd).alloc (.cells #[.int .i64 q] 2)).cell? ⟨W.heap.size + 1, 0, none⟩ = some (.int .i64 N) from cell_below (bel_trans (bel_drew (bel_alloc _ _) nd) (bel_alloc _ _)) (cellB (heap_alloc2_new W _ _) rfl))
  have HZ := Lib.hid (show (((((W.alloc (.cells #[.slice A n cap] 36)).alloc (.cells #[.int .i64 N] 2)).alloc (.cells #[.int .i64 0, .int .i64 0, .int .i64 0] 117)).drewN nd).alloc (.cells #[.int .i64 q] 2)).heap[W.heap.size + 1 + 1]? = some (.cells #[.int .i64 0, .int .i64 0, .int .i64 0] 117) from block_below (bel_drew_block (heap_alloc3_new W _ _ _) nd) (bel_alloc _ _))
  have HQC := Lib.hid (show (((((W.alloc (.cells #[.slice A n cap] 36)).alloc (.cells #[.int .i64 N] 2)).alloc (.cells #[.int .i64 0, .int .i64 0, .int .i64 0] 117)).drewN nd).alloc (.cells #[.int .i64 q] 2)).cell? ⟨W.heap.size + 1 + 1 + 1, 0, none⟩ = some (.int .i64 q) from cellB (heap_alloc_at (by simp)) rfl)
  have HF := Lib.hid (bef1_fam rs N q A n cap W.heap.size (W.heap.size + 1 + 1 + 1) (W.heap.size + 1) _ (HT.out.below HBX.out) (H.out.below HBX.out) HN.out hn HL.out HQC.out HNC.out HQ hN1 hN2)
  go_wp2_with fail
  refine (best_any A n cap 62 65 #[.pointer (some ⟨W.heap.size, 0, none⟩), .pointer (some ⟨W.heap.size + 1 + 1 + 1, 0, none⟩), .pointer (some ⟨W.heap.size + 1, 0, none⟩)] (AtB rs N) (fun a b => b.lt a) _ hn cf_bef1 cf_bef2 (fun a b c h k => Ev.lt_trans k h) (fun a => Ev.lt_irrefl a) HF.out (fun a b V => (bef2_any a b V).mono fun e w' h => ⟨⟨_, Lib.hid (ordI_lt b a), h.1⟩, h.2⟩)).mono ?_
  rintro e w2 ⟨o, hp, he, hb2⟩
  have HZ2 := Lib.hid (block_below HZ.out hb2)
  have HB2 := Lib.hid (bel_trans HBX.out hb2)
  have HP := Lib.hid (befIs_of (by rw [← HN.out]; exact hp.out))
  clear hb2 HF
  cases o with
  | none =>
    have he' : e = .returned (.tuple #[.agg #[.int .i64 0, .int .i64 0, .int .i64 0], .bool false]) := he
    clear he
    subst he'
    have z0 := cellB HZ2.out (i := 0) rfl
    have z1 := cellB HZ2.out (i := 1) rfl
    have z2 := cellB HZ2.out (i := 2) rfl
    have g0 := frzB HZ2.out 0
    have g1 := frzB HZ2.out 1
    have g2 := frzB HZ2.out 2
    go_wp2_with fail
    refine bodyPost_ret (res_cell_tmp rfl _ _ _ _ _ _ _ rfl (set3c HZ2.out) Tryd.underlying117 rfl (by kernel_rfl)) rfl ?_
    exact LookR.none_ HP.out (bel_setCells (o := 0) (l := [.int .i64 0, .int .i64 0, .int .i64 0]) HB2.out (by omega))
  | some x =>
    obtain ⟨xy, xr, xn⟩ := x
    have he' : e = .returned (.tuple #[.agg #[.int .i64 xy, .int .i64 xr, .int .i64 xn], .bool true]) := he
    clear he
    subst he'
    have z0 := cellB HZ2.out (i := 0) rfl
    have z1 := cellB HZ2.out (i := 1) rfl
    have z2 := cellB HZ2.out (i := 2) rfl
    have g0 := frzB HZ2.out 0
    have g1 := frzB HZ2.out 1
    have g2 := frzB HZ2.out 2
    go_wp2_with fail
    refine bodyPost_ret (res_cell_tmp rfl _ _ _ _ _ _ _ rfl (set3c HZ2.out) Tryd.underlying117 rfl (by kernel_rfl)) rfl ?_
    exact LookR.some_ HP.out (bel_setCells (o := 0) (l := [.int .i64 xy, .int .i64 xr, .int .i64 xn]) HB2.out (by omega))

end Go.Proofs.YtdppmeeobpbfnaaDoor
