/-
  A source by numbers (analemmalaw23.Draft) that came in as an argument.
  The source of a draft (analemmalaw23.Draft.Made) in plain words: its rules, its zones; zones of the call's own in memory.
-/
import Derived.Test.YtdppmeeobpbfnaaDoorErSpG
import Derived.Test.YtdppmeeobpbfnaaDoorErMkB
import Derived.Test.YtdppmeeobpbfnaaDoorDrArg
import Derived.Test.YtdppmeeobpbfnaaDoorDrSetV
namespace Go.Proofs.YtdppmeeobpbfnaaDoor
open Go.RowKit Cv Go.ChangeShapes Go.WideShapes Go.Deep
set_option linter.unusedVariables false
set_option linter.unusedSimpArgs false

namespace Cv
/-- an era by numbers -/
structure De where
  (k s f y d b o a : Int)
def De.arr (x : De) : Array Value := #[.int .u8 x.k, .int .u8 x.s, .int .u8 x.f, .int .u8 x.y, .int .u8 x.d, .int .u8 x.b, .int .i8 x.o, .int .i8 x.a]
def De.ok (x : De) : Prop := (0 ≤ x.k ∧ x.k ≤ 255) ∧ (0 ≤ x.s ∧ x.s ≤ 255) ∧ (0 ≤ x.f ∧ x.f ≤ 255) ∧ (0 ≤ x.y ∧ x.y ≤ 255) ∧ (0 ≤ x.d ∧ x.d ≤ 255) ∧ (0 ≤ x.b ∧ x.b ≤ 255) ∧ (-128 ≤ x.o ∧ x.o ≤ 127) ∧ (-128 ≤ x.a ∧ x.a ≤ 127)
/-- v reads as n eras by numbers, of which l are the first four -/
def RdDe (v : Value) (n : Nat) (l : _root_.List De) (w : World) : Prop :=
  ∃ (A : Option Addr) (c : Nat), v = .slice A n c ∧ n ≤ c ∧ c ≤ maxLen ∧ l.length = min n 4 ∧ ∀ (i : Nat) (x : De), l[i]? = some x → x.ok ∧ ∃ g off, A = some ⟨g, off, none⟩ ∧ w.rangeAt g (off + i * 8) x.arr.toList
theorem RdDe.below {v : Value} {n : Nat} {l : _root_.List De} {A B : World} (h : RdDe v n l A) (hb : Below A.heap.size A B) : RdDe v n l B := by
  obtain ⟨a, c, h1, h2, h3, h4, h5⟩ := h
  exact ⟨a, c, h1, h2, h3, h4, fun i x hx => by obtain ⟨k, g, off, e, r⟩ := h5 i x hx; exact ⟨k, g, off, e, range_below hb r⟩⟩
def RdDz (v : Value) (n : Nat) (l : _root_.List (Nat × _root_.List De)) (w : World) : Prop :=
  ∃ (A : Option Addr) (c : Nat), v = .slice A n c ∧ n ≤ c ∧ c ≤ maxLen ∧ l.length = min n 3 ∧ ∀ (i : Nat) (x : Nat × _root_.List De), l[i]? = some x → ∃ g off u, A = some ⟨g, off, none⟩ ∧ w.cell? ⟨g, off + i, none⟩ = some u ∧ RdDe u x.1 x.2 w
theorem RdDz.below {v : Value} {n : Nat} {l : _root_.List (Nat × _root_.List De)} {A B : World} (h : RdDz v n l A) (hb : Below A.heap.size A B) : RdDz v n l B := by
  obtain ⟨a, c, h1, h2, h3, h4, h5⟩ := h
  exact ⟨a, c, h1, h2, h3, h4, fun i x hx => by obtain ⟨g, off, u, e, k, r⟩ := h5 i x hx; exact ⟨g, off, u, e, cell_below hb k, r.below hb⟩⟩
def RdDs (v : Value) (n : Nat) (l : _root_.List (_root_.List Int)) (w : World) : Prop :=
  ∃ (A : Option Addr) (c : Nat), v = .slice A n c ∧ n ≤ c ∧ c ≤ maxLen ∧ l.length = min n 3 ∧ ∀ (i : Nat) (x : _root_.List Int), l[i]? = some x → ∃ g off u, A = some ⟨g, off, none⟩ ∧ w.cell? ⟨g, off + i, none⟩ = some u ∧ Drf u x w
theorem RdDs.below {v : Value} {n : Nat} {l : _root_.List (_root_.List Int)} {A B : World} (h : RdDs v n l A) (hb : Below A.heap.size A B) : RdDs v n l B := by
  obtain ⟨a, c, h1, h2, h3, h4, h5⟩ := h
  exact ⟨a, c, h1, h2, h3, h4, fun i x hx => by obtain ⟨g, off, u, e, k, r⟩ := h5 i x hx; exact ⟨g, off, u, e, cell_below hb k, r.below hb⟩⟩
def RdDl (v : Value) (n : Nat) (l : _root_.List Int) (w : World) : Prop :=
  ∃ (A : Option Addr) (c : Nat), v = .slice A n c ∧ n ≤ c ∧ c ≤ maxLen ∧ l.length = min n 4 ∧ ∀ (i : Nat) (x : Int), l[i]? = some x → (0 ≤ x ∧ x ≤ 255) ∧ ∃ g off, A = some ⟨g, off, none⟩ ∧ w.cell? ⟨g, off + i, none⟩ = some (.int .u8 x)
theorem RdDl.below {v : Value} {n : Nat} {l : _root_.List Int} {A B : World} (h : RdDl v n l A) (hb : Below A.heap.size A B) : RdDl v n l B := by
  obtain ⟨a, c, h1, h2, h3, h4, h5⟩ := h
  exact ⟨a, c, h1, h2, h3, h4, fun i x hx => by obtain ⟨k, g, off, e, r⟩ := h5 i x hx; exact ⟨k, g, off, e, cell_below hb r⟩⟩
end Cv

theorem cellsDe : Tryd.prog.cellsOf 74 = 8 := by kernel_rfl
theorem cellsDes : Tryd.prog.cellsOf 71 = 1 := by kernel_rfl
theorem cellsD17 : Tryd.prog.cellsOf 68 = 1 := by kernel_rfl
theorem cellsI8 : Tryd.prog.cellsOf 72 = 1 := by kernel_rfl
theorem cellsD23 : Tryd.prog.cellsOf 35 = 3 := by kernel_rfl
theorem cellsSs : Tryd.prog.cellsOf 31 = 1 := by kernel_rfl
theorem cellsZz : Tryd.prog.cellsOf 32 = 1 := by kernel_rfl
theorem cellsLl : Tryd.prog.cellsOf 33 = 1 := by kernel_rfl
theorem i8_bd {n : Int} (h : (Lit.int .i8 n).wf = true) : -128 ≤ n ∧ n ≤ 127 := by
  simp only [Lit.wf, IntKind.min, IntKind.max, IntKind.signed, IntKind.bits, Bool.and_eq_true, decide_eq_true_eq, if_true] at h
  omega

section
variable {H : Type} {enc : TypeId × Value → H} {W : World} {base : Nat} {sp : Nat → Bool} {hd : Bool}
set_option maxRecDepth 100000 in
theorem rowg_of {t e : TypeId} {k fuel : Nat} {v : Value} {x : DataW H × List MemPlace} (ht : Tryd.prog.underlying t = some (.slice e)) (hk : Tryd.prog.cellsOf e = k) (hk0 : 0 < k) (hf : DataW.trod enc Tryd.prog W base sp hd fuel t [v] = some x) :
    ∃ (A : Option Addr) (n cap : Nat), v = .slice A n cap ∧ n ≤ cap ∧ cap ≤ maxLen ∧ ∀ i, i < n → ∃ (g off : Nat) (cs : _root_.List Value) (f : Nat) (y : DataW H × List MemPlace), A = some ⟨g, off, none⟩ ∧ cs.length = k ∧ (∀ j u, cs[j]? = some u → W.cell? ⟨g, off + (i * k + j), none⟩ = some u) ∧ DataW.trod enc Tryd.prog W base sp hd f e cs = some y := by
  rcases open_slice ht hf with ⟨hc, _⟩ | ⟨a, len, cap, m, fu, D, Pl, hc, _, hlc, hcm, hm, _, hel⟩
  · simp at hc
    subst hc
    exact ⟨none, 0, 0, rfl, Nat.le_refl _, by unfold maxLen; omega, fun i hi => by omega⟩
  · simp at hc
    subst hc
    have hmn : len ≤ m := by rw [hm]; split <;> omega
    refine ⟨some a, len, cap, rfl, hlc, hcm, fun i hi => ?_⟩
    rw [hk] at hel
    have hsp : ∃ g off, a = ⟨g, off, none⟩ := by
      obtain ⟨cs0, hc0, ht0⟩ := hel 0 (by omega)
      obtain ⟨_, hl0, hat⟩ := World.cells?_some hc0
      have h1 := hat 0 (by omega)
      rw [_root_.List.getElem?_eq_getElem (by omega), Nat.zero_mul] at h1
      have e : (a.add 0).add 0 = a := by simp [Addr.add]
      rw [e] at h1
      exact spot_none h1
    obtain ⟨g, off, rfl⟩ := hsp
    obtain ⟨cs, hc, ht2⟩ := hel i (by omega)
    obtain ⟨_, hl, hat⟩ := World.cells?_some hc
    refine ⟨g, off, cs, fu, _, rfl, hl, fun j u hu => ?_, ht2⟩
    have hj : j < k := by rw [← hl]; exact (_root_.List.getElem?_eq_some_iff.1 hu).1
    rw [← hu, ← hat j hj, Addr.add_mid, Addr.add_mid, Nat.add_assoc]
set_option maxRecDepth 100000 in
theorem de_cells {fuel : Nat} {cs : _root_.List Value} {x : DataW H × List MemPlace} (h : DataW.trod enc Tryd.prog W base sp hd fuel 74 cs = some x) : ∃ r : De, cs = r.arr.toList ∧ r.ok := by
  have hl : cs.length = 8 := by
    obtain ⟨_, _, _, _, hl, _⟩ := DataW.trod_struct Tryd.underlying74 h
    rw [hl, cellsDe]
  match cs, hl with
  | [c0, c1, c2, c3, c4, c5, c6, c7], _ =>
    obtain ⟨n0, y0, t0⟩ := part_of Tryd.underlying74 h 0 _ rfl
    obtain ⟨n1, y1, t1⟩ := part_of Tryd.underlying74 h 1 _ rfl
    obtain ⟨n2, y2, t2⟩ := part_of Tryd.underlying74 h 2 _ rfl
    obtain ⟨n3, y3, t3⟩ := part_of Tryd.underlying74 h 3 _ rfl
    obtain ⟨n4, y4, t4⟩ := part_of Tryd.underlying74 h 4 _ rfl
    obtain ⟨n5, y5, t5⟩ := part_of Tryd.underlying74 h 5 _ rfl
    obtain ⟨n6, y6, t6⟩ := part_of Tryd.underlying74 h 6 _ rfl
    obtain ⟨n7, y7, t7⟩ := part_of Tryd.underlying74 h 7 _ rfl
    simp only [List.getElem_toArray, List.getElem_cons_succ, List.getElem_cons_zero, cellsU8, cellsI8] at t0 t1 t2 t3 t4 t5 t6 t7
    simp only [List.drop_succ_cons, List.drop_zero, List.take_succ_cons, List.take_zero] at t0 t1 t2 t3 t4 t5 t6 t7
    obtain ⟨b0, e0, _, w0⟩ := DataW.trod_int Tryd.underlying5 t0
    obtain ⟨b1, e1, _, w1⟩ := DataW.trod_int Tryd.underlying5 t1
    obtain ⟨b2, e2, _, w2⟩ := DataW.trod_int Tryd.underlying5 t2
    obtain ⟨b3, e3, _, w3⟩ := DataW.trod_int Tryd.underlying5 t3
    obtain ⟨b4, e4, _, w4⟩ := DataW.trod_int Tryd.underlying5 t4
    obtain ⟨b5, e5, _, w5⟩ := DataW.trod_int Tryd.underlying5 t5
    obtain ⟨b6, e6, _, w6⟩ := DataW.trod_int Tryd.underlying72 t6
    obtain ⟨b7, e7, _, w7⟩ := DataW.trod_int Tryd.underlying72 t7
    simp only [List.cons.injEq, and_true] at e0 e1 e2 e3 e4 e5 e6 e7
    subst e0 e1 e2 e3 e4 e5 e6 e7
    exact ⟨⟨b0, b1, b2, b3, b4, b5, b6, b7⟩, rfl, u8_bd w0, u8_bd w1, u8_bd w2, u8_bd w3, u8_bd w4, u8_bd w5, i8_bd w6, i8_bd w7⟩
set_option maxRecDepth 100000 in
theorem des_of {fuel : Nat} {v : Value} {x : DataW H × List MemPlace} (hf : DataW.trod enc Tryd.prog W base sp hd fuel 71 [v] = some x) : ∃ n l, RdDe v n l W := by
  obtain ⟨A, n, cap, rfl, h1, h2, h3⟩ := rowg_of Tryd.underlying71 cellsDe (by decide) hf
  have key : ∀ i, i < min n 4 → ∃ r : De, r.ok ∧ ∃ g off, A = some ⟨g, off, none⟩ ∧ W.rangeAt g (off + i * 8) r.arr.toList := fun i hi => by
    obtain ⟨g, off, cs, f, y, hA, hl, hc, ht⟩ := h3 i (by omega)
    obtain ⟨r, rfl, hr⟩ := de_cells ht
    exact ⟨r, hr, g, off, hA, fun j u hu => by rw [Nat.add_assoc]; exact hc j u hu⟩
  obtain ⟨l, hl, hp⟩ := list_ex _ _ key
  exact ⟨n, l, A, cap, rfl, h1, h2, hl, hp⟩
set_option maxRecDepth 100000 in
theorem dzs_of {fuel : Nat} {v : Value} {x : DataW H × List MemPlace} (hf : DataW.trod enc Tryd.prog W base sp hd fuel 32 [v] = some x) : ∃ n l, RdDz v n l W := by
  obtain ⟨A, n, cap, rfl, h1, h2, h3⟩ := rowg_of Tryd.underlying32 cellsDes (by decide) hf
  have key : ∀ i, i < min n 3 → ∃ r : Nat × _root_.List De, ∃ g off u, A = some ⟨g, off, none⟩ ∧ W.cell? ⟨g, off + i, none⟩ = some u ∧ RdDe u r.1 r.2 W := fun i hi => by
    obtain ⟨g, off, cs, f, y, hA, hl, hc, ht⟩ := h3 i (by omega)
    match cs, hl with
    | [u], _ =>
      obtain ⟨m, l, hr⟩ := des_of ht
      exact ⟨(m, l), g, off, u, hA, by have := hc 0 _ rfl; simpa using this, hr⟩
  obtain ⟨l, hl, hp⟩ := list_ex _ _ key
  exact ⟨n, l, A, cap, rfl, h1, h2, hl, hp⟩
set_option maxRecDepth 100000 in
theorem d17_of {fuel : Nat} {v : Value} {x : DataW H × List MemPlace} (hf : DataW.trod enc Tryd.prog W base sp hd fuel 68 [v] = some x) : ∃ bs : _root_.List Int, Drf v bs W := by
  obtain ⟨A, n, cap, rfl, h1, h2, h3⟩ := rowg_of Tryd.underlying68 cellsU8 (by decide) hf
  have key : ∀ i, i < n → ∃ b : Int, (0 ≤ b ∧ b ≤ 255) ∧ ∃ g off, A = some ⟨g, off, none⟩ ∧ W.cell? ⟨g, off + i, none⟩ = some (.int .u8 b) := fun i hi => by
    obtain ⟨g, off, cs, f, y, hA, hl, hc, ht⟩ := h3 i (by omega)
    match cs, hl with
    | [u], _ =>
      obtain ⟨b, e0, _, w0⟩ := DataW.trod_int Tryd.underlying5 ht
      simp only [List.cons.injEq, and_true] at e0
      subst e0
      exact ⟨b, u8_bd w0, g, off, hA, by have := hc 0 _ rfl; simpa using this⟩
  obtain ⟨l, hl, hp⟩ := list_ex _ _ key
  subst hl
  refine ⟨l, A, cap, rfl, by omega, fun b hb => ?_, fun i b hb => ?_⟩
  · obtain ⟨i, hi⟩ := _root_.List.mem_iff_getElem?.1 hb
    exact (hp i b hi).1
  · exact (hp i b hb).2
set_option maxRecDepth 100000 in
theorem dss_of {fuel : Nat} {v : Value} {x : DataW H × List MemPlace} (hf : DataW.trod enc Tryd.prog W base sp hd fuel 31 [v] = some x) : ∃ n l, RdDs v n l W := by
  obtain ⟨A, n, cap, rfl, h1, h2, h3⟩ := rowg_of Tryd.underlying31 cellsD17 (by decide) hf
  have key : ∀ i, i < min n 3 → ∃ r : _root_.List Int, ∃ g off u, A = some ⟨g, off, none⟩ ∧ W.cell? ⟨g, off + i, none⟩ = some u ∧ Drf u r W := fun i hi => by
    obtain ⟨g, off, cs, f, y, hA, hl, hc, ht⟩ := h3 i (by omega)
    match cs, hl with
    | [u], _ =>
      obtain ⟨bs, hr⟩ := d17_of ht
      exact ⟨bs, g, off, u, hA, by have := hc 0 _ rfl; simpa using this, hr⟩
  obtain ⟨l, hl, hp⟩ := list_ex _ _ key
  exact ⟨n, l, A, cap, rfl, h1, h2, hl, hp⟩
set_option maxRecDepth 100000 in
theorem dls_of {fuel : Nat} {v : Value} {x : DataW H × List MemPlace} (hf : DataW.trod enc Tryd.prog W base sp hd fuel 33 [v] = some x) : ∃ n l, RdDl v n l W := by
  obtain ⟨A, n, cap, rfl, h1, h2, h3⟩ := rowg_of Tryd.underlying33 cellsU8 (by decide) hf
  have key : ∀ i, i < min n 4 → ∃ b : Int, (0 ≤ b ∧ b ≤ 255) ∧ ∃ g off, A = some ⟨g, off, none⟩ ∧ W.cell? ⟨g, off + i, none⟩ = some (.int .u8 b) := fun i hi => by
    obtain ⟨g, off, cs, f, y, hA, hl, hc, ht⟩ := h3 i (by omega)
    match cs, hl with
    | [u], _ =>
      obtain ⟨b, e0, _, w0⟩ := DataW.trod_int Tryd.underlying5 ht
      simp only [List.cons.injEq, and_true] at e0
      subst e0
      exact ⟨b, u8_bd w0, g, off, hA, by have := hc 0 _ rfl; simpa using this⟩
  obtain ⟨l, hl, hp⟩ := list_ex _ _ key
  exact ⟨n, l, A, cap, rfl, h1, h2, hl, hp⟩
set_option maxRecDepth 100000 in
/-- a source by numbers, opened -/
theorem draft23_of {v : Value} {d : DataW H} {p : List MemPlace} (hv : Value.okWide Tryd.prog W .any base 35 v) (h : DataW.Trod enc Tryd.prog W 0 sp hd 35 v d p) :
    ∃ (v1 v2 v3 : Value) (n1 n2 n3 : Nat) (sl : _root_.List (_root_.List Int)) (zl : _root_.List (Nat × _root_.List De)) (ll : _root_.List Int), v = .agg #[v1, v2, v3] ∧ RdDs v1 n1 sl W ∧ RdDz v2 n2 zl W ∧ RdDl v3 n3 ll W := by
  obtain ⟨cs, rfl, _⟩ := okWide_struct Tryd.underlying35 hv
  obtain ⟨fuel, hf⟩ := h
  obtain ⟨cl⟩ := cs
  have hf' : DataW.trod enc Tryd.prog W 0 sp hd fuel 35 cl = some (d, p) := hf
  have hl : cl.length = 3 := by
    obtain ⟨_, _, _, _, hl, _⟩ := DataW.trod_struct Tryd.underlying35 hf'
    rw [hl, cellsD23]
  match cl, hl with
  | [k0, k1, k2], _ =>
    obtain ⟨m0, y0, t0⟩ := part_of Tryd.underlying35 hf' 0 _ rfl
    obtain ⟨m1, y1, t1⟩ := part_of Tryd.underlying35 hf' 1 _ rfl
    obtain ⟨m2, y2, t2⟩ := part_of Tryd.underlying35 hf' 2 _ rfl
    simp only [List.getElem_toArray, List.getElem_cons_succ, List.getElem_cons_zero, cellsSs, cellsZz, cellsLl] at t0 t1 t2
    simp only [List.drop_succ_cons, List.drop_zero, List.take_succ_cons, List.take_zero] at t0 t1 t2
    obtain ⟨n1, sl, h1⟩ := dss_of t0
    obtain ⟨n2, zl, h2⟩ := dzs_of t1
    obtain ⟨n3, ll, h3⟩ := dls_of t2
    exact ⟨k0, k1, k2, n1, n2, n3, sl, zl, ll, rfl, h1, h2, h3⟩
end
end Go.Proofs.YtdppmeeobpbfnaaDoor
namespace Go.Proofs.YtdppmeeobpbfnaaDoor
open Go.RowKit Cv
set_option linter.unusedVariables false
set_option linter.unusedSimpArgs false

namespace Cv
def nmR (i : Nat) : ByteArray := ⟨#[82]⟩ ++ digS i
def nmA (i : Nat) : ByteArray := ⟨#[65, 114, 101, 97, 47, 90]⟩ ++ digS i
/-- the rules of the first sets -/
def RulesV (dl : _root_.List (_root_.List Int)) (k : Nat) (rs : _root_.List Ru) : Prop :=
  ∃ L : _root_.List (_root_.List Ru), L.length = k ∧ rs = L.flatten ∧ ∀ (i : Nat) (r : _root_.List Ru), L[i]? = some r → ∃ (d : _root_.List Int) (sv : Int) (rs0 : _root_.List Ru), dl[i]? = some d ∧ MadeV d sv rs0 ∧ r = rs0.map (fun q => { q with na := nmR i }) ∧ MadeP sv r ∧ 2 ≤ r.length ∧ r.length ≤ 5
theorem rulesV_nil (dl : _root_.List (_root_.List Int)) : RulesV dl 0 [] := ⟨[], rfl, rfl, fun i r h => by simp at h⟩
theorem RulesV.snoc {dl : _root_.List (_root_.List Int)} {k : Nat} {rs r : _root_.List Ru} {d : _root_.List Int} {sv : Int} {rs0 : _root_.List Ru} (h : RulesV dl k rs) (hd : dl[k]? = some d) (hv : MadeV d sv rs0) (he : r = rs0.map (fun q => { q with na := nmR k })) (hp : MadeP sv r) (h2 : 2 ≤ r.length) (h5 : r.length ≤ 5) : RulesV dl (k + 1) (rs ++ r) := by
  obtain ⟨L, hl, hf, ha⟩ := h
  refine ⟨L ++ [r], by simp [hl], by rw [hf]; simp, fun i q hq => ?_⟩
  by_cases hi : i < k
  · rw [_root_.List.getElem?_append_left (by omega)] at hq
    exact ha i q hq
  · have := (_root_.List.getElem?_eq_some_iff.1 hq).1
    rw [_root_.List.length_append] at this
    simp at this
    obtain rfl : i = k := by omega
    rw [_root_.List.getElem?_append_right (by omega), hl, Nat.sub_self] at hq
    simp at hq
    subst hq
    exact ⟨d, sv, rs0, hd, hv, he, hp, h2, h5⟩
theorem RulesV.len {dl : _root_.List (_root_.List Int)} {k : Nat} {rs : _root_.List Ru} (h : RulesV dl k rs) : rs.length ≤ 5 * k := by
  obtain ⟨L, hl, hf, ha⟩ := h
  subst hl hf
  have key : ∀ (M : _root_.List (_root_.List Ru)), (∀ r ∈ M, r.length ≤ 5) → M.flatten.length ≤ 5 * M.length := by
    intro M
    induction M with
    | nil => intro _; simp
    | cons a q ih =>
      intro hm
      have h1 := hm a (by simp)
      have h2 := ih (fun r hr => hm r (by simp [hr]))
      simp only [_root_.List.flatten_cons, _root_.List.length_append, _root_.List.length_cons]
      omega
  refine key L (fun r hr => ?_)
  obtain ⟨i, hi⟩ := _root_.List.mem_iff_getElem?.1 hr
  obtain ⟨_, _, _, _, _, _, _, _, h5⟩ := ha i r hi
  exact h5
theorem RulesV.fits {dl : _root_.List (_root_.List Int)} {k : Nat} {rs : _root_.List Ru} (h : RulesV dl k rs) : ∀ r ∈ rs, r.fits := by
  obtain ⟨L, hl, hf, ha⟩ := h
  subst hf
  intro r hr
  obtain ⟨l, hl1, hl2⟩ := _root_.List.mem_flatten.1 hr
  obtain ⟨i, hi⟩ := _root_.List.mem_iff_getElem?.1 hl1
  obtain ⟨_, _, _, _, _, _, hp, _, _⟩ := ha i l hi
  exact (hp.each r hl2).ok.fits
theorem RulesV.uniq {dl : _root_.List (_root_.List Int)} {k : Nat} {rs rs' : _root_.List Ru} (h : RulesV dl k rs) (h' : RulesV dl k rs') : rs = rs' := by
  obtain ⟨L, hl, hf, ha⟩ := h
  obtain ⟨M, gl, gf, ga⟩ := h'
  have : L = M := by
    apply _root_.List.ext_getElem? 
    intro i
    by_cases hi : i < k
    · have e1 := _root_.List.getElem?_eq_getElem (l := L) (i := i) (by omega)
      have e2 := _root_.List.getElem?_eq_getElem (l := M) (i := i) (by omega)
      obtain ⟨d, sv, rs0, q1, q2, q3, _⟩ := ha i _ e1
      obtain ⟨d', sv', rs0', p1, p2, p3, _⟩ := ga i _ e2
      rw [q1] at p1
      obtain rfl := Option.some.inj p1
      obtain ⟨_, rfl⟩ := q2.uniq p2
      rw [e1, e2, q3, p3]
    · rw [_root_.List.getElem?_eq_none (by omega), _root_.List.getElem?_eq_none (by omega)]
  rw [hf, gf, this]
/-- an era by numbers -/
def De0 : De := ⟨0, 0, 0, 0, 0, 0, 0, 0⟩
def De.er (x : De) (first end_ : Bool) (sets year : Int) : Er :=
  ⟨900 * x.o.tmod 48, kq first x.k, svq (kq first x.k) x.s, stq (kq first x.k) x.s sets, fmtS (x.f % 6), end_, if end_ = true then year else 0, if end_ = true then 1 else 0,
    if end_ = true then (if 200 ≤ x.d then 3 else 1) else 0, if end_ = true ∧ 200 ≤ x.d then x.d % 7 else 0, if end_ = true then (if 200 ≤ x.d then 8 else 1 + x.d % 20) else 0, if end_ = true then 900 * (24 + x.a.tmod 24) else 0, if end_ = true then x.b % 3 else 0⟩
theorem De.er_arr (x : De) (first end_ : Bool) (sets year : Int) : (x.er first end_ sets year).arr = eraA x.k x.s x.f x.d x.b x.o x.a first end_ sets year := rfl
/-- the year ahead of an era's -/
def yrs (l : _root_.List De) : Nat → Int
  | 0 => 1904
  | k + 1 => yrs l k + (1 + (l.getD k De0).y % 30)
theorem yrs_bd (l : _root_.List De) : ∀ k : Nat, 1904 + (k : Int) ≤ yrs l k ∧ yrs l k ≤ 1904 + 30 * (k : Int) := by
  intro k
  induction k with
  | zero => simp [yrs]
  | succ k ih =>
    unfold yrs
    push_cast
    have := Int.emod_nonneg (l.getD k De0).y (show (30 : Int) ≠ 0 by decide)
    have := Int.emod_lt_of_pos (l.getD k De0).y (show (0 : Int) < 30 by decide)
    omega
def erAt (S : Int) (l : _root_.List De) (k : Nat) : Er := (l.getD k De0).er (decide (k = 0)) (decide (k + 1 < l.length)) S (yrs l (k + 1))
def ersUp (S : Int) (l : _root_.List De) (n : Nat) : _root_.List Er := (_root_.List.range n).map (erAt S l)
theorem ersUp_len (S : Int) (l : _root_.List De) (n : Nat) : (ersUp S l n).length = n := by unfold ersUp; simp
theorem ersUp_succ (S : Int) (l : _root_.List De) (n : Nat) : ersUp S l (n + 1) = ersUp S l n ++ [erAt S l n] := by unfold ersUp; rw [_root_.List.range_succ, _root_.List.map_append]; rfl
theorem ersUp_get {S : Int} {l : _root_.List De} {n i : Nat} (h : i < n) : (ersUp S l n)[i]? = some (erAt S l i) := by unfold ersUp; rw [_root_.List.getElem?_map, _root_.List.getElem?_range h]; rfl
def ersL (S : Int) (l : _root_.List De) : _root_.List Er := ersUp S l l.length
/-- the eras of a zone by numbers: at least one -/
def normE (l : _root_.List De) : _root_.List De := if l = [] then [De0] else l
def normZ (l : _root_.List (_root_.List De)) : _root_.List (_root_.List De) := (if l = [] then [[]] else l).map normE
def zonesUp (S : Int) (zl : _root_.List (_root_.List De)) (n : Nat) : _root_.List (ByteArray × _root_.List Er) := (_root_.List.range n).map fun i => (nmA i, ersL S (zl.getD i []))
theorem zonesUp_len (S : Int) (l : _root_.List (_root_.List De)) (n : Nat) : (zonesUp S l n).length = n := by unfold zonesUp; simp
theorem zonesUp_succ (S : Int) (l : _root_.List (_root_.List De)) (n : Nat) : zonesUp S l (n + 1) = zonesUp S l n ++ [(nmA n, ersL S (l.getD n []))] := by unfold zonesUp; rw [_root_.List.range_succ, _root_.List.map_append]; rfl
theorem zonesUp_get {S : Int} {l : _root_.List (_root_.List De)} {n i : Nat} (h : i < n) : (zonesUp S l n)[i]? = some (nmA i, ersL S (l.getD i [])) := by unfold zonesUp; rw [_root_.List.getElem?_map, _root_.List.getElem?_range h]; rfl
/-- the cells of eras, of zones -/
def flatEr (es : _root_.List Er) : _root_.List Value := es.flatMap fun e => e.arr.toList
theorem flatEr_app (l k : _root_.List Er) : flatEr (l ++ k) = flatEr l ++ flatEr k := by unfold flatEr; rw [_root_.List.flatMap_append]
theorem flatEr_len (es : _root_.List Er) : (flatEr es).length = es.length * 13 := by
  induction es with
  | nil => rfl
  | cons a l ih =>
    show (a.arr.toList ++ flatEr l).length = _
    rw [_root_.List.length_append, ih, _root_.List.length_cons]
    show 13 + _ = _
    omega
theorem flatEr_get : ∀ (es : _root_.List Er) (i : Nat) (e : Er), es[i]? = some e → ∀ j, j < 13 → (flatEr es)[i * 13 + j]? = e.arr.toList[j]? := by
  intro rs
  induction rs with
  | nil => intro i r h; simp at h
  | cons a l ih =>
    intro i r h j hj
    show (a.arr.toList ++ flatEr l)[i * 13 + j]? = _
    have hal : a.arr.toList.length = 13 := rfl
    cases i with
    | zero =>
      simp at h; subst h
      rw [_root_.List.getElem?_append_left (by rw [hal]; omega)]; congr 1; omega
    | succ i =>
      rw [_root_.List.getElem?_append_right (by rw [hal]; omega), hal, show (i + 1) * 13 + j - 13 = i * 13 + j by omega]
      exact ih i r (by simpa using h) j hj
def flatZo (ps : _root_.List (ByteArray × Value)) : _root_.List Value := ps.flatMap fun p => [.string p.1, p.2]
theorem flatZo_app (l k : _root_.List (ByteArray × Value)) : flatZo (l ++ k) = flatZo l ++ flatZo k := by unfold flatZo; rw [_root_.List.flatMap_append]
theorem flatZo_len (ps : _root_.List (ByteArray × Value)) : (flatZo ps).length = ps.length * 2 := by
  induction ps with
  | nil => rfl
  | cons a l ih =>
    show ([.string a.1, a.2] ++ flatZo l : _root_.List Value).length = (l.length + 1) * 2
    rw [_root_.List.length_append, ih]
    show 2 + _ = _
    omega
theorem flatZo_get : ∀ (ps : _root_.List (ByteArray × Value)) (i : Nat) (p : ByteArray × Value), ps[i]? = some p → ∀ j, j < 2 → (flatZo ps)[i * 2 + j]? = ([.string p.1, p.2] : _root_.List Value)[j]? := by
  intro rs
  induction rs with
  | nil => intro i r h; simp at h
  | cons a l ih =>
    intro i r h j hj
    show ([.string a.1, a.2] ++ flatZo l : _root_.List Value)[i * 2 + j]? = _
    have hal : ([.string a.1, a.2] : _root_.List Value).length = 2 := rfl
    cases i with
    | zero =>
      simp at h; subst h
      rw [_root_.List.getElem?_append_left (by rw [hal]; omega)]; congr 1; omega
    | succ i =>
      rw [_root_.List.getElem?_append_right (by rw [hal]; omega), hal, show (i + 1) * 2 + j - 2 = i * 2 + j by omega]
      exact ih i r (by simpa using h) j hj
/-- zones of the call's own, the rows of their eras in blocks of their own -/
def OwnZp (base : Nat) (v : Value) (zs : _root_.List (ByteArray × _root_.List Er)) (ps : _root_.List (ByteArray × Value)) (w : World) : Prop :=
  ps.length = zs.length ∧ w.ownsRow base 45 2 v zs.length (flatZo ps) ∧
  (∀ (i : Nat) (z : ByteArray × _root_.List Er), zs[i]? = some z → ∃ p, ps[i]? = some p ∧ p.1 = z.1 ∧ w.ownsRow base 60 13 p.2 z.2.length (flatEr z.2)) ∧
  ∀ (j k : Nat) (p q : ByteArray × Value) (b : Nat), j ≠ k → ps[j]? = some p → ps[k]? = some q → p.2.ownBlock = some b → q.2.ownBlock ≠ some b
theorem OwnZp.below {base : Nat} {v : Value} {zs : _root_.List (ByteArray × _root_.List Er)} {ps : _root_.List (ByteArray × Value)} {A B : World} (h : OwnZp base v zs ps A) (hb : Below A.heap.size A B) : OwnZp base v zs ps B := by
  obtain ⟨h1, h2, h3, h4⟩ := h
  exact ⟨h1, own_below17 h2 hb, fun i z hz => by obtain ⟨p, q1, q2, q3⟩ := h3 i z hz; exact ⟨p, q1, q2, own_below17 q3 hb⟩, h4⟩
theorem rdEr_own {w : World} {base : Nat} {v : Value} {es : _root_.List Er} (h : w.ownsRow base 60 13 v es.length (flatEr es)) : RdEr v es w := by
  rcases h.2 with ⟨rfl, h0⟩ | ⟨g, c, cur, rfl, hg, hh, hc1, hc2, hc3, hc4⟩
  · obtain rfl : es = [] := List.eq_nil_of_length_eq_zero h0
    exact ⟨none, 0, rfl, fun i r hr => by simp at hr⟩
  · refine ⟨some ⟨g, 0, none⟩, c, rfl, fun i r hr => ⟨g, 0, rfl, fun j u hu => ?_⟩⟩
    have hj : j < 13 := (_root_.List.getElem?_eq_some_iff.1 hu).1
    have hi : i < es.length := (_root_.List.getElem?_eq_some_iff.1 hr).1
    have h1 := h.cellAt (i * 13 + j) (by omega)
    rw [flatEr_get es i r hr j hj, hu] at h1
    show w.cell? ⟨g, 0 + i * 13 + j, none⟩ = some u
    rw [Nat.zero_add]
    exact h1
theorem OwnZp.rd {base : Nat} {v : Value} {zs : _root_.List (ByteArray × _root_.List Er)} {ps : _root_.List (ByteArray × Value)} {w : World} (h : OwnZp base v zs ps w) : RdZo v zs w := by
  obtain ⟨h1, h2, h3, h4⟩ := h
  have h2' := h2
  rcases h2.2 with ⟨rfl, h0⟩ | ⟨g, c, cur, rfl, hg, hh, hc1, hc2, hc3, hc4⟩
  · obtain rfl : zs = [] := List.eq_nil_of_length_eq_zero h0
    exact ⟨none, 0, rfl, fun i r hr => by simp at hr⟩
  · refine ⟨some ⟨g, 0, none⟩, c, rfl, fun i z hz => ?_⟩
    obtain ⟨p, p1, p2, p3⟩ := h3 i z hz
    have hi : i < zs.length := (_root_.List.getElem?_eq_some_iff.1 hz).1
    have c0 := h2'.cellAt (i * 2) (by omega)
    have c1 := h2'.cellAt (i * 2 + 1) (by omega)
    have g0 := flatZo_get ps i p p1 0 (by omega)
    rw [Nat.add_zero] at g0
    rw [g0] at c0
    rw [flatZo_get ps i p p1 1 (by omega)] at c1
    exact ⟨g, 0, p.2, rfl, by rw [Nat.zero_add, ← p2]; exact c0, by rw [Nat.zero_add]; exact c1, rdEr_own p3⟩
/-- what Made returns -/
def SrcR (dl : _root_.List (_root_.List Int)) (zl : _root_.List (_root_.List De)) (W : World) (e : Ending) (w' : World) : Prop :=
  ∃ (rv zv : Value) (la : Option Addr) (ln lc : Nat) (rs : _root_.List Ru) (ps : _root_.List (ByteArray × Value)), e = .returned (.agg #[rv, zv, .slice la ln lc, .slice none 0 0]) ∧ RulesV dl dl.length rs ∧
    w'.ownsRow W.heap.size 56 11 rv rs.length (flatRu rs) ∧ OwnZp W.heap.size zv (zonesUp (dl.length : Int) zl zl.length) ps w' ∧ Below W.heap.size W w'
end Cv
end Go.Proofs.YtdppmeeobpbfnaaDoor
