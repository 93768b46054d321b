/-
  A source that came in as an argument, and the contract of the law package's function Few.
-/
import Derived.Test.YtdlmlcgmonkdfaaShfArg
import Derived.Test.YtdlmlcgmonkdfaaShfCopy
namespace Go.Proofs.Ytdlmlcgmonkdfaa
open Go.RowKit Sh Go.ChangeShapes Go.WideShapes Go.Deep
set_option linter.unusedVariables false
set_option linter.unusedSimpArgs false

namespace Sh
def Sou.fits (s : Sou) : Prop := (∀ r ∈ s.rs, r.fits) ∧ ∀ z ∈ s.zs, ∀ e ∈ z.es, e.fits
/-- the lengths of the zones' rows -/
def RawZ (A : Option Addr) (ms : _root_.List Nat) (W : World) : Prop := ∀ i k, ms[i]? = some k → ∃ g off a c, A = some ⟨g, off, none⟩ ∧ W.cell? ⟨g, off + i * 2 + 1, none⟩ = some (.slice a k c)
theorem RawZ.below {A : Option Addr} {ms : _root_.List Nat} {V W : World} (h : RawZ A ms V) (hb : Below V.heap.size V W) : RawZ A ms W := fun i k hk => by
  obtain ⟨g, off, a, c, h1, h2⟩ := h i k hk
  exact ⟨g, off, a, c, h1, cell_below hb h2⟩
end Sh

section
variable {H : Type} {enc : TypeId × Value → H} {W : World} {base : Nat} {hd : Bool}
theorem rrow_of {fuel : Nat} {v : Value} {x : DataW H × List MemPlace} (hf : DataW.trod enc Try.prog W base (fun _ => true) hd fuel 22 [v] = some x) :
    ∃ (A : Option Addr) (n cap : Nat), v = .slice A n cap ∧ n ≤ maxLen ∧ (n ≤ 1000 → ∃ rs : _root_.List Ru, rs.length = n ∧ (∀ r ∈ rs, r.fits) ∧ Rd 11 (.slice A n cap) n (flatR rs) W) := by
  obtain ⟨A, n, cap, rfl, hm, h⟩ := row_of Try.underlying22 cellsRule (by decide) hf
  refine ⟨A, n, cap, rfl, hm, fun hn => ?_⟩
  rcases h with ⟨rfl, rfl⟩ | ⟨g, off, rfl, h⟩
  · exact ⟨[], rfl, fun r hr => (by simp at hr), rd_zero rfl⟩
  · have key : ∀ i, i < n → ∃ r : Ru, r.fits ∧ ∀ j u, r.arr.toList[j]? = some u → W.cell? ⟨g, off + (i * 11 + j), none⟩ = some u := fun i hi => by
      obtain ⟨cs, f, y, hl, hc, ht⟩ := h i hi
      obtain ⟨r, rfl, hfit⟩ := rule_cells ht
      exact ⟨r, hfit, hc⟩
    obtain ⟨rs, hrl, hp⟩ := list_ex _ n key
    refine ⟨rs, hrl, fun r hr => ?_, ?_⟩
    · obtain ⟨i, hi⟩ := _root_.List.mem_iff_getElem?.1 hr
      exact (hp i r hi).1
    · refine rd_mk (by rw [flatR_len, hrl]) hn (flatR_one _) (by decide) fun i j u hi hj hu => ?_
      have hr := _root_.List.getElem?_eq_getElem (l := rs) (i := i) (by omega)
      rw [flatR_at rs i j _ hr hj] at hu
      exact (hp i _ hr).2 j u hu
theorem erow_of {fuel : Nat} {v : Value} {x : DataW H × List MemPlace} (hf : DataW.trod enc Try.prog W base (fun _ => true) hd fuel 46 [v] = some x) :
    ∃ (A : Option Addr) (n cap : Nat), v = .slice A n cap ∧ n ≤ maxLen ∧ (n ≤ 1000 → ∃ rs : _root_.List Er, rs.length = n ∧ (∀ r ∈ rs, r.fits) ∧ Rd 13 (.slice A n cap) n (flatE rs) W) := by
  obtain ⟨A, n, cap, rfl, hm, h⟩ := row_of Try.underlying46 cellsEra (by decide) hf
  refine ⟨A, n, cap, rfl, hm, fun hn => ?_⟩
  rcases h with ⟨rfl, rfl⟩ | ⟨g, off, rfl, h⟩
  · exact ⟨[], rfl, fun r hr => (by simp at hr), rd_zero rfl⟩
  · have key : ∀ i, i < n → ∃ r : Er, r.fits ∧ ∀ j u, r.arr.toList[j]? = some u → W.cell? ⟨g, off + (i * 13 + j), none⟩ = some u := fun i hi => by
      obtain ⟨cs, f, y, hl, hc, ht⟩ := h i hi
      obtain ⟨r, rfl, hfit⟩ := era_cells ht
      exact ⟨r, hfit, hc⟩
    obtain ⟨rs, hrl, hp⟩ := list_ex _ n key
    refine ⟨rs, hrl, fun r hr => ?_, ?_⟩
    · obtain ⟨i, hi⟩ := _root_.List.mem_iff_getElem?.1 hr
      exact (hp i r hi).1
    · refine rd_mk (by rw [flatE_len, hrl]) hn (flatE_one _) (by decide) fun i j u hi hj hu => ?_
      have hr := _root_.List.getElem?_eq_getElem (l := rs) (i := i) (by omega)
      rw [flatE_at rs i j _ hr hj] at hu
      exact (hp i _ hr).2 j u hu
theorem nrow_of {fuel : Nat} {v : Value} {x : DataW H × List MemPlace} (hf : DataW.trod enc Try.prog W base (fun _ => true) hd fuel 25 [v] = some x) :
    ∃ (A : Option Addr) (n cap : Nat), v = .slice A n cap ∧ n ≤ maxLen ∧ (n ≤ 1000 → ∃ rs : _root_.List ByteArray, rs.length = n ∧ Rd 1 (.slice A n cap) n (flatN rs) W) := by
  obtain ⟨A, n, cap, rfl, hm, h⟩ := row_of Try.underlying25 cellsStr (by decide) hf
  refine ⟨A, n, cap, rfl, hm, fun hn => ?_⟩
  rcases h with ⟨rfl, rfl⟩ | ⟨g, off, rfl, h⟩
  · exact ⟨[], rfl, rd_zero rfl⟩
  · have key : ∀ i, i < n → ∃ r : ByteArray, W.cell? ⟨g, off + i, none⟩ = some (.string r) := fun i hi => by
      obtain ⟨cs, f, y, hl, hc, ht⟩ := h i hi
      match cs, hl with
      | [c0], _ =>
        obtain ⟨na, e0, _, s0⟩ := DataW.trod_string Try.underlying9 ht
        simp only [List.cons.injEq, and_true] at e0
        subst e0
        exact ⟨na, by have := hc 0 _ rfl; simpa using this⟩
    obtain ⟨rs, hrl, hp⟩ := list_ex _ n key
    refine ⟨rs, hrl, rd_mk (by unfold flatN; rw [_root_.List.length_map, hrl]; omega) hn (fun u hu => ?_) (by decide) fun i j u hi hj hu => ?_⟩
    · unfold flatN at hu
      obtain ⟨q, _, rfl⟩ := _root_.List.mem_map.1 hu
      rfl
    · obtain rfl : j = 0 := by omega
      unfold flatN at hu
      rw [_root_.List.getElem?_map] at hu
      obtain ⟨q, hq, rfl⟩ := Option.map_eq_some_iff.1 hu
      rw [show i * 1 + 0 = i by omega] at hq ⊢
      exact hp i q hq
theorem lrow_of {fuel : Nat} {v : Value} {x : DataW H × List MemPlace} (hf : DataW.trod enc Try.prog W base (fun _ => true) hd fuel 24 [v] = some x) :
    ∃ (A : Option Addr) (n cap : Nat), v = .slice A n cap ∧ n ≤ maxLen ∧ (n ≤ 1000 → ∃ rs : _root_.List (ByteArray × ByteArray), rs.length = n ∧ Rd 2 (.slice A n cap) n (flatL rs) W) := by
  obtain ⟨A, n, cap, rfl, hm, h⟩ := row_of Try.underlying24 cellsLink (by decide) hf
  refine ⟨A, n, cap, rfl, hm, fun hn => ?_⟩
  rcases h with ⟨rfl, rfl⟩ | ⟨g, off, rfl, h⟩
  · exact ⟨[], rfl, rd_zero rfl⟩
  · have key : ∀ i, i < n → ∃ r : ByteArray × ByteArray, ∀ j u, ([.string r.1, .string r.2] : _root_.List Value)[j]? = some u → W.cell? ⟨g, off + (i * 2 + j), none⟩ = some u := fun i hi => by
      obtain ⟨cs, f, y, hl, hc, ht⟩ := h i hi
      match cs, hl with
      | [c0, c1], _ =>
        obtain ⟨n0, y0, t0⟩ := part_of Try.underlying54 ht 0 _ rfl
        obtain ⟨n1, y1, t1⟩ := part_of Try.underlying54 ht 1 _ rfl
        simp only [List.getElem_toArray, List.getElem_cons_succ, List.getElem_cons_zero, cellsStr] at t0 t1
        simp only [List.drop_succ_cons, List.drop_zero, List.take_succ_cons, List.take_zero] at t0 t1
        obtain ⟨na, e0, _, s0⟩ := DataW.trod_string Try.underlying9 t0
        obtain ⟨nb, e1, _, s1⟩ := DataW.trod_string Try.underlying9 t1
        simp only [List.cons.injEq, and_true] at e0 e1
        subst e0 e1
        exact ⟨(na, nb), hc⟩
    obtain ⟨rs, hrl, hp⟩ := list_ex _ n key
    have hll : (flatL rs).length = rs.length * 2 := by
      clear hrl hp
      unfold flatL
      induction rs with
      | nil => rfl
      | cons r rs ih => rw [_root_.List.flatMap_cons, _root_.List.length_append, ih]; show 2 + rs.length * 2 = (rs.length + 1) * 2; omega
    refine ⟨rs, hrl, rd_mk (by rw [hll, hrl]) hn (fun u hu => ?_) (by decide) fun i j u hi hj hu => ?_⟩
    · unfold flatL at hu
      obtain ⟨q, _, hq⟩ := _root_.List.mem_flatMap.1 hu
      simp at hq
      rcases hq with rfl | rfl <;> rfl
    · have hr := _root_.List.getElem?_eq_getElem (l := rs) (i := i) (by omega)
      rw [flatL_at rs i j _ hr hj] at hu
      exact hp i _ hr j u hu
theorem zrow_of {fuel : Nat} {v : Value} {x : DataW H × List MemPlace} (hf : DataW.trod enc Try.prog W base (fun _ => true) hd fuel 23 [v] = some x) :
    ∃ (A : Option Addr) (n cap : Nat) (ms : _root_.List Nat), v = .slice A n cap ∧ n ≤ maxLen ∧ ms.length = n ∧ (∀ k ∈ ms, k ≤ maxLen) ∧ RawZ A ms W ∧ (n ≤ 1000 → (∀ k ∈ ms, k ≤ 1000) → ∃ zs : _root_.List Zn, zs.length = n ∧ (∀ z ∈ zs, ∀ e ∈ z.es, e.fits) ∧ RdZ (.slice A n cap) zs W) := by
  obtain ⟨A, n, cap, rfl, hm, h⟩ := row_of Try.underlying23 cellsZone (by decide) hf
  rcases h with ⟨rfl, rfl⟩ | ⟨g, off, rfl, h⟩
  · exact ⟨A, 0, 0, [], rfl, hm, rfl, fun k hk => (by simp at hk), fun i k hk => (by simp at hk), fun _ _ => ⟨[], rfl, fun z hz => (by simp at hz), [], rfl, rd_zero rfl, fun i z hz => (by simp at hz)⟩⟩
  · have key : ∀ i, i < n → ∃ r : ByteArray × Option Addr × Nat × Nat, (∀ j u, ([.string r.1, .slice r.2.1 r.2.2.1 r.2.2.2] : _root_.List Value)[j]? = some u → W.cell? ⟨g, off + (i * 2 + j), none⟩ = some u) ∧ r.2.2.1 ≤ maxLen ∧ (r.2.2.1 ≤ 1000 → ∃ es : _root_.List Er, es.length = r.2.2.1 ∧ (∀ e ∈ es, e.fits) ∧ Rd 13 (.slice r.2.1 r.2.2.1 r.2.2.2) r.2.2.1 (flatE es) W) := fun i hi => by
      obtain ⟨cs, f, y, hl, hc, ht⟩ := h i hi
      match cs, hl with
      | [c0, c1], _ =>
        obtain ⟨n0, y0, t0⟩ := part_of Try.underlying48 ht 0 _ rfl
        obtain ⟨n1, y1, t1⟩ := part_of Try.underlying48 ht 1 _ rfl
        simp only [List.getElem_toArray, List.getElem_cons_succ, List.getElem_cons_zero, cellsStr, cellsEs] at t0 t1
        simp only [List.drop_succ_cons, List.drop_zero, List.take_succ_cons, List.take_zero] at t0 t1
        obtain ⟨na, e0, _, s0⟩ := DataW.trod_string Try.underlying9 t0
        obtain ⟨a, k, c, rfl, hk, hes⟩ := erow_of t1
        simp only [List.cons.injEq, and_true] at e0
        subst e0
        exact ⟨(na, a, k, c), hc, hk, hes⟩
    obtain ⟨xs, hxl, hp⟩ := list_ex _ n key
    refine ⟨some ⟨g, off, none⟩, n, cap, xs.map fun x => x.2.2.1, rfl, hm, by simp [hxl], fun k hk => ?_, fun i k hk => ?_, fun hn hms => ?_⟩
    · obtain ⟨x, hx, rfl⟩ := _root_.List.mem_map.1 hk
      obtain ⟨i, hi⟩ := _root_.List.mem_iff_getElem?.1 hx
      exact (hp i x hi).2.1
    · rw [_root_.List.getElem?_map] at hk
      obtain ⟨x, hx, rfl⟩ := Option.map_eq_some_iff.1 hk
      exact ⟨g, off, _, _, rfl, by rw [Nat.add_assoc]; exact (hp i x hx).1 1 _ rfl⟩
    · have key2 : ∀ i, i < n → ∃ z : Zn, ∃ x, xs[i]? = some x ∧ z.na = x.1 ∧ z.es.length = x.2.2.1 ∧ (∀ e ∈ z.es, e.fits) ∧ Rd 13 (.slice x.2.1 x.2.2.1 x.2.2.2) x.2.2.1 (flatE z.es) W := fun i hi => by
        have hx := _root_.List.getElem?_eq_getElem (l := xs) (i := i) (by omega)
        obtain ⟨es, h1, h2, h3⟩ := (hp i _ hx).2.2 (hms _ (_root_.List.mem_map.2 ⟨_, _root_.List.mem_of_getElem? hx, rfl⟩))
        exact ⟨⟨xs[i].1, es⟩, _, hx, rfl, h1, h2, h3⟩
      obtain ⟨zs, hzl, hq⟩ := list_ex _ n key2
      refine ⟨zs, hzl, fun z hz => ?_, xs.map fun x => (x.1, .slice x.2.1 x.2.2.1 x.2.2.2), by simp [hxl, hzl], ?_, fun i z hz => ?_⟩
      · obtain ⟨i, hi⟩ := _root_.List.mem_iff_getElem?.1 hz
        obtain ⟨x, _, _, _, h4, _⟩ := hq i z hi
        exact h4
      · rw [hzl]
        refine rd_mk (by rw [flatZ_len]; simp [hxl]) hn (flatZ_one _ fun p hpm => ?_) (by decide) fun i j u hi hj hu => ?_
        · obtain ⟨x, _, rfl⟩ := _root_.List.mem_map.1 hpm
          rfl
        · have hx := _root_.List.getElem?_eq_getElem (l := xs) (i := i) (by omega)
          rw [flatZ_at _ i j (xs[i].1, .slice xs[i].2.1 xs[i].2.2.1 xs[i].2.2.2) (by rw [_root_.List.getElem?_map, hx]; rfl) hj] at hu
          exact (hp i _ hx).1 j u hu
      · obtain ⟨x, h1, h2, h3, h4, h5⟩ := hq i z hz
        exact ⟨_, by rw [_root_.List.getElem?_map, h1]; rfl, h2.symm, by rw [h3]; exact h5⟩
/-- a source, opened -/
theorem source_of {v : Value} {d : DataW H} {p : List MemPlace} (hv : Value.okWide Try.prog W .any base 27 v) (h : DataW.Trod enc Try.prog W 0 (fun _ => true) hd 27 v d p) :
    ∃ (A1 A2 A3 A4 : Option Addr) (n1 n2 n3 n4 c1 c2 c3 c4 : Nat) (ms : _root_.List Nat), v = .agg #[.slice A1 n1 c1, .slice A2 n2 c2, .slice A3 n3 c3, .slice A4 n4 c4] ∧ (n1 ≤ maxLen ∧ n2 ≤ maxLen ∧ n3 ≤ maxLen ∧ n4 ≤ maxLen) ∧ ms.length = n2 ∧ (∀ k ∈ ms, k ≤ maxLen) ∧ RawZ A2 ms W ∧
      (n1 ≤ 40 → n2 ≤ 10 → n3 ≤ 40 → n4 ≤ 40 → (∀ k ∈ ms, k ≤ 20) → ∃ s : Sou, s.rs.length = n1 ∧ s.zs.length = n2 ∧ s.ls.length = n3 ∧ s.ns.length = n4 ∧ s.fits ∧ RdS (.slice A1 n1 c1) (.slice A2 n2 c2) (.slice A3 n3 c3) (.slice A4 n4 c4) s W) := by
  obtain ⟨cs, rfl, _⟩ := okWide_struct Try.underlying27 hv
  obtain ⟨fuel, hf⟩ := h
  obtain ⟨cl⟩ := cs
  have hf' : DataW.trod enc Try.prog W 0 (fun _ => true) hd fuel 27 cl = some (d, p) := hf
  have hl : cl.length = 4 := by
    obtain ⟨_, _, _, _, hl, _⟩ := DataW.trod_struct Try.underlying27 hf'
    rw [hl, cellsSource]
  match cl, hl with
  | [k0, k1, k2, k3], _ =>
    obtain ⟨m0, y0, t0⟩ := part_of Try.underlying27 hf' 0 _ rfl
    obtain ⟨m1, y1, t1⟩ := part_of Try.underlying27 hf' 1 _ rfl
    obtain ⟨m2, y2, t2⟩ := part_of Try.underlying27 hf' 2 _ rfl
    obtain ⟨m3, y3, t3⟩ := part_of Try.underlying27 hf' 3 _ rfl
    simp only [List.getElem_toArray, List.getElem_cons_succ, List.getElem_cons_zero, cellsRs, cellsZs, cellsLs, cellsNs] at t0 t1 t2 t3
    simp only [List.drop_succ_cons, List.drop_zero, List.take_succ_cons, List.take_zero] at t0 t1 t2 t3
    obtain ⟨A1, n1, c1, rfl, b1, h1⟩ := rrow_of t0
    obtain ⟨A2, n2, c2, ms, rfl, b2, hml, bm, hraw, h2⟩ := zrow_of t1
    obtain ⟨A3, n3, c3, rfl, b3, h3⟩ := lrow_of t2
    obtain ⟨A4, n4, c4, rfl, b4, h4⟩ := nrow_of t3
    refine ⟨A1, A2, A3, A4, n1, n2, n3, n4, c1, c2, c3, c4, ms, rfl, ⟨b1, b2, b3, b4⟩, hml, bm, hraw, fun l1 l2 l3 l4 l5 => ?_⟩
    obtain ⟨rs, e1, f1, r1⟩ := h1 (by omega)
    obtain ⟨zs, e2, f2, r2⟩ := h2 (by omega) (fun k hk => by have := l5 k hk; omega)
    obtain ⟨ls, e3, r3⟩ := h3 (by omega)
    obtain ⟨ns, e4, r4⟩ := h4 (by omega)
    exact ⟨⟨rs, zs, ls, ns⟩, e1, e2, e3, e4, ⟨f1, f2⟩, by rw [← e1] at r1; rw [← e3] at r3; rw [← e4] at r4; rw [← e1, ← e3, ← e4]; exact ⟨r1, r2, r3, r4⟩⟩
end

namespace Sh
/-- what Few answers -/
def FewQ (n1 n2 n3 n4 : Nat) (ms : _root_.List Nat) (W : World) (e : Ending) (w' : World) : Prop := ∃ b, e = .returned (.bool b) ∧ Hid (b = true → n1 ≤ 40 ∧ n2 ≤ 10 ∧ n3 ≤ 40 ∧ n4 ≤ 40 ∧ ∀ k ∈ ms, k ≤ 20) ∧ Below W.heap.size W w'
theorem FewQ.no {n1 n2 n3 n4 : Nat} {ms : _root_.List Nat} {W w' : World} (hb : Below W.heap.size W w') : FewQ n1 n2 n3 n4 ms W (.returned (.bool false)) w' := ⟨false, rfl, Lib.hid (fun h => by simp at h), hb⟩
end Sh

set_option maxRecDepth 100000 in
set_option maxHeartbeats 4000000 in
theorem few_any (A1 A2 A3 A4 : Option Addr) (n1 n2 n3 n4 c1 c2 c3 c4 : Nat) (ms : _root_.List Nat) (W : World) (hb : n1 ≤ maxLen ∧ n2 ≤ maxLen ∧ n3 ≤ maxLen ∧ n4 ≤ maxLen) (hml : ms.length = n2) (hbm : ∀ k ∈ ms, k ≤ maxLen) (hraw : RawZ A2 ms W) :
    Calls Try.prog 9 #[.agg #[.slice A1 n1 c1, .slice A2 n2 c2, .slice A3 n3 c3, .slice A4 n4 c4]] W fun e w' => FewQ n1 n2 n3 n4 ms W e w' := by
  have HR := Lib.hid hraw
  have HM := Lib.hid hbm
  have HL := Lib.hid hml
  obtain ⟨b1, b2, b3, b4⟩ := hb
  unfold maxLen at b1 b2 b3 b4
  clear hraw hbm hml
  go_enter Try.func9, Try.ntmps9
  by_cases h1 : (40 : Int) < (n1 : Int)
  · go_wp2_with fail
    go_ret
    exact FewQ.no (bel_alloc _ _)
  have g1 : (n1 : Int) ≤ 40 := by omega
  by_cases h2 : (10 : Int) < (n2 : Int)
  · go_wp2_with fail
    go_ret
    exact FewQ.no (bel_alloc _ _)
  have g2 : (n2 : Int) ≤ 10 := by omega
  by_cases h3 : (40 : Int) < (n3 : Int)
  · go_wp2_with fail
    go_ret
    exact FewQ.no (bel_alloc _ _)
  have g3 : (n3 : Int) ≤ 40 := by omega
  by_cases h4 : (40 : Int) < (n4 : Int)
  · go_wp2_with fail
    go_ret
    exact FewQ.no (bel_alloc _ _)
  have g4 : (n4 : Int) ≤ 40 := by omega
  have HB0 := Lib.hid (bel_alloc W (.cells #[.slice A1 n1 c1, .slice A2 n2 c2, .slice A3 n3 c3, .slice A4 n4 c4] 27))
  have HC0 := Lib.hid (heap_alloc_new W (.cells #[.slice A1 n1 c1, .slice A2 n2 c2, .slice A3 n3 c3, .slice A4 n4 c4] 27))
  go_wp2_with fail
  go_loopw [3] (fun s wr => ∃ (k : Nat), k ≤ n2 ∧ s = .int .i64 (k : Int) ∧ wr = W.alloc (.cells #[.slice A1 n1 c1, .slice A2 n2 c2, .slice A3 n3 c3, .slice A4 n4 c4] 27) ∧ Hid (∀ (j v : Nat), j < k → ms[j]? = some v → v ≤ 20)) (fun s _ => n2 - (intOf s).toNat)
  case atStart => exact ⟨0, by omega, rfl, rfl, Lib.hid fun j v hj => absurd hj (Nat.not_lt_zero _)⟩
  case round =>
    obtain ⟨k, hk, rfl, rfl, HK⟩ := hrel
    have x1 := cellB HC0.out (i := 1) rfl
    by_cases hlt : k < n2
    · obtain ⟨m, hm⟩ : ∃ m, ms[k]? = some m := by rw [_root_.List.getElem?_eq_getElem (by rw [HL.out]; exact hlt)]; exact ⟨_, rfl⟩
      obtain ⟨g, off, a, c, rfl, hcell⟩ := (HR.out.below HB0.out) k m hm
      have hmx : (m : Int) ≤ maxLen := by have := HM.out m (_root_.List.mem_of_getElem? hm); exact_mod_cast this
      unfold maxLen at hmx
      have HMM := Lib.hid hm
      have hi0 : (0 : Int) ≤ (k : Int) := by omega
      have hi1 : (k : Int) < (n2 : Int) := by omega
      clear hm
      by_cases hm20 : (20 : Int) < (m : Int)
      · go_wp2_with fail
        go_ret
        exact FewQ.no HB0.out
      have hm21 : (m : Int) ≤ 20 := by omega
      go_wp2_with fail
      go_round
      case rel =>
        refine ⟨k + 1, by omega, by go_num, trivial, Lib.hid fun j v hj hv => ?_⟩
        by_cases hjk : j = k
        · subst hjk
          rw [HMM.out] at hv
          obtain rfl := Option.some.inj hv
          omega
        · exact HK.out j v (by omega) hv
      case measure => simp [intOf]; omega
    · obtain rfl : k = n2 := by omega
      go_wp2_with fail
      go_ret
      refine ⟨true, rfl, Lib.hid fun _ => ⟨by omega, by omega, by omega, by omega, fun v hv => ?_⟩, HB0.out⟩
      obtain ⟨j, hj⟩ := _root_.List.mem_iff_getElem?.1 hv
      have := (_root_.List.getElem?_eq_some_iff.1 hj).1
      exact HK.out j v (by rw [HL.out] at this; omega) hj
end Go.Proofs.Ytdlmlcgmonkdfaa
