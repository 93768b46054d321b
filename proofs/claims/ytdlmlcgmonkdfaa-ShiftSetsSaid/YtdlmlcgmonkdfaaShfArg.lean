/-
  Sources that came in as arguments.
-/
import Derived.Test.YtdlmlcgmonkdfaaShfSame
import Derived.Test.YtdlmlcgmonkdfaaRows
import Derived.ProofKit
import Derived.OpenShut
import Derived.ChangeArms
import Derived.Deep.Slices
namespace Go.Proofs.Ytdlmlcgmonkdfaa
open Go.RowKit Sh Go.ChangeShapes Go.WideShapes Go.Deep
set_option linter.unusedVariables false
set_option linter.unusedSimpArgs false

namespace Sh
def I64 (n : Int) : Prop := -9223372036854775808 ≤ n ∧ n ≤ 9223372036854775807
def Ru.fits (r : Ru) : Prop := I64 r.sec ∧ I64 r.save
def Er.fits (e : Er) : Prop := I64 e.sec ∧ I64 e.off
theorem fit_of {n : Int} (h : (Lit.int .i64 n).wf = true) : I64 n := by
  simp only [Lit.wf, IntKind.min, IntKind.max, IntKind.signed, IntKind.bits, Bool.and_eq_true, decide_eq_true_eq, if_true] at h
  unfold I64
  omega
theorem spot_none {w : World} {a : Addr} {v : Value} (h : w.cell? a = some v) : ∃ g off, a = ⟨g, off, none⟩ := by
  obtain ⟨g, off, s⟩ := a
  cases s with
  | none => exact ⟨g, off, rfl⟩
  | some s =>
    unfold World.cell? at h
    split at h <;> simp at h
theorem list_ex {α : Type} (p : Nat → α → Prop) : ∀ n : Nat, (∀ i, i < n → ∃ x, p i x) → ∃ l : _root_.List α, l.length = n ∧ ∀ i x, l[i]? = some x → p i x := by
  intro n
  induction n with
  | zero => exact fun _ => ⟨[], rfl, fun i x h => by simp at h⟩
  | succ n ih =>
    intro h
    obtain ⟨l, hl, hp⟩ := ih fun i hi => h i (by omega)
    obtain ⟨x, hx⟩ := h n (by omega)
    refine ⟨l ++ [x], by simp [hl], fun i y hy => ?_⟩
    by_cases hi : i < n
    · rw [_root_.List.getElem?_append_left (by omega)] at hy
      exact hp i y hy
    · rw [_root_.List.getElem?_append_right (by omega), hl] at hy
      have : i - n = 0 := by
        have := (_root_.List.getElem?_eq_some_iff.1 hy).1
        simp at this; omega
      rw [this] at hy
      simp at hy
      subst hy
      obtain rfl : i = n := by omega
      exact hx
theorem rd_mk {size n g off cap : Nat} {xs : _root_.List Value} {w : World} (hl : xs.length = n * size) (hn : n ≤ 1000) (ho : ∀ u ∈ xs, u.oneCell' = true) (hs : 0 < size)
    (h : ∀ i j u, i < n → j < size → xs[i * size + j]? = some u → w.cell? ⟨g, off + (i * size + j), none⟩ = some u) : Rd size (.slice (some ⟨g, off, none⟩) n cap) n xs w := by
  refine ⟨hl, hn, ho, .inr ⟨g, off, cap, rfl, fun J u hu => ?_⟩⟩
  have hJ := (_root_.List.getElem?_eq_some_iff.1 hu).1
  have e : J = J / size * size + J % size := (Nat.div_add_mod' J size).symm
  rw [e] at hu ⊢
  refine h _ _ _ ?_ (Nat.mod_lt _ hs) hu
  rw [hl] at hJ
  exact Nat.div_lt_of_lt_mul (by rw [Nat.mul_comm]; exact hJ)
theorem rd_zero {size cap : Nat} {A : Option Addr} {w : World} (hc : cap = 0) : Rd size (.slice A 0 cap) 0 [] w := by
  subst hc
  exact ⟨by simp, by omega, fun u hu => by simp at hu, .inl ⟨A, rfl, rfl⟩⟩
end Sh

theorem cellsInt : Try.prog.cellsOf 3 = 1 := by kernel_rfl
theorem cellsInt64 : Try.prog.cellsOf 2 = 1 := by kernel_rfl
theorem cellsBool : Try.prog.cellsOf 4 = 1 := by kernel_rfl
theorem cellsStr : Try.prog.cellsOf 9 = 1 := by kernel_rfl
theorem cellsDay : Try.prog.cellsOf 40 = 3 := by kernel_rfl
theorem cellsClock : Try.prog.cellsOf 42 = 2 := by kernel_rfl
theorem cellsUntil : Try.prog.cellsOf 50 = 8 := by kernel_rfl
theorem cellsRule : Try.prog.cellsOf 44 = 11 := by kernel_rfl
theorem cellsEra : Try.prog.cellsOf 52 = 13 := by kernel_rfl
theorem cellsZone : Try.prog.cellsOf 48 = 2 := by kernel_rfl
theorem cellsLink : Try.prog.cellsOf 54 = 2 := by kernel_rfl
theorem cellsSource : Try.prog.cellsOf 27 = 4 := by kernel_rfl
theorem cellsRs : Try.prog.cellsOf 22 = 1 := by kernel_rfl
theorem cellsEs : Try.prog.cellsOf 46 = 1 := by kernel_rfl
theorem cellsZs : Try.prog.cellsOf 23 = 1 := by kernel_rfl
theorem cellsLs : Try.prog.cellsOf 24 = 1 := by kernel_rfl
theorem cellsNs : Try.prog.cellsOf 25 = 1 := by kernel_rfl

section
variable {H : Type} {enc : TypeId × Value → H} {W : World} {base : Nat} {hd : Bool}
/-- a part of a struct, by the field's number -/
theorem part_of {t : TypeId} {fs : Array Field} {fuel : Nat} {cs : _root_.List Value} {x : DataW H × List MemPlace} (ht : Try.prog.underlying t = some (.struct fs)) (h : DataW.trod enc Try.prog W base (fun _ => true) hd fuel t cs = some x) (i : Nat) (f : Field) (hf : fs[i]? = some f) :
    ∃ n y, DataW.trod enc Try.prog W base (fun _ => true) hd n f.type ((cs.drop f.offset).take (Try.prog.cellsOf f.type)) = some y := by
  obtain ⟨xs, n, _, _, _, hxl, hg⟩ := DataW.trod_struct ht h
  have hi : i < fs.size := (Array.getElem?_eq_some_iff.1 hf).1
  have h1 := hg i f hf
  rw [List.getElem?_eq_getElem (by omega)] at h1
  exact ⟨n, _, h1⟩
theorem bool_trod {t : TypeId} {fuel : Nat} {v : Value} {x : DataW H × List MemPlace} (ht : Try.prog.underlying t = some .bool) (h : DataW.trod enc Try.prog W base (fun _ => true) hd fuel t [v] = some x) : ∃ b, v = .bool b := by
  cases fuel with
  | zero => simp [DataW.trod] at h
  | succ n =>
    simp only [DataW.trod, ht] at h
    cases v <;> simp_all
set_option maxRecDepth 100000 in
theorem rule_cells {fuel : Nat} {cs : _root_.List Value} {x : DataW H × List MemPlace} (h : DataW.trod enc Try.prog W base (fun _ => true) hd fuel 44 cs = some x) : ∃ r : Ru, cs = r.arr.toList ∧ r.fits := by
  have hl : cs.length = 11 := by
    obtain ⟨_, _, _, _, hl, _⟩ := DataW.trod_struct Try.underlying44 h
    rw [hl, cellsRule]
  match cs, hl with
  | [c0, c1, c2, c3, c4, c5, c6, c7, c8, c9, c10], _ =>
    obtain ⟨n0, y0, t0⟩ := part_of Try.underlying44 h 0 _ rfl
    obtain ⟨n1, y1, t1⟩ := part_of Try.underlying44 h 1 _ rfl
    obtain ⟨n2, y2, t2⟩ := part_of Try.underlying44 h 2 _ rfl
    obtain ⟨n3, y3, t3⟩ := part_of Try.underlying44 h 3 _ rfl
    obtain ⟨n4, y4, t4⟩ := part_of Try.underlying44 h 4 _ rfl
    obtain ⟨n5, y5, t5⟩ := part_of Try.underlying44 h 5 _ rfl
    obtain ⟨n6, y6, t6⟩ := part_of Try.underlying44 h 6 _ rfl
    obtain ⟨n7, y7, t7⟩ := part_of Try.underlying44 h 7 _ rfl
    simp only [List.getElem_toArray, List.getElem_cons_succ, List.getElem_cons_zero, cellsInt, cellsInt64, cellsStr, cellsDay, cellsClock] at t0 t1 t2 t3 t4 t5 t6 t7
    simp only [List.drop_succ_cons, List.drop_zero, List.take_succ_cons, List.take_zero] at t0 t1 t2 t3 t4 t5 t6 t7
    obtain ⟨na, e0, _, s0⟩ := DataW.trod_string Try.underlying9 t0
    obtain ⟨fr, e1, _, w1⟩ := DataW.trod_int Try.underlying3 t1
    obtain ⟨ut, e2, _, w2⟩ := DataW.trod_int Try.underlying3 t2
    obtain ⟨mo, e3, _, w3⟩ := DataW.trod_int Try.underlying3 t3
    obtain ⟨save, e6, _, w6⟩ := DataW.trod_int Try.underlying2 t6
    obtain ⟨le, e7, _, s7⟩ := DataW.trod_string Try.underlying9 t7
    obtain ⟨m0, z0, u0⟩ := part_of Try.underlying40 t4 0 _ rfl
    obtain ⟨m1, z1, u1⟩ := part_of Try.underlying40 t4 1 _ rfl
    obtain ⟨m2, z2, u2⟩ := part_of Try.underlying40 t4 2 _ rfl
    obtain ⟨p0, q0, v0⟩ := part_of Try.underlying42 t5 0 _ rfl
    obtain ⟨p1, q1, v1⟩ := part_of Try.underlying42 t5 1 _ rfl
    simp only [List.getElem_toArray, List.getElem_cons_succ, List.getElem_cons_zero, cellsInt, cellsInt64] at u0 u1 u2 v0 v1
    simp only [List.drop_succ_cons, List.drop_zero, List.take_succ_cons, List.take_zero] at u0 u1 u2 v0 v1
    obtain ⟨kk, f0, _, x0⟩ := DataW.trod_int Try.underlying3 u0
    obtain ⟨w, f1, _, x1⟩ := DataW.trod_int Try.underlying3 u1
    obtain ⟨d, f2, _, x2⟩ := DataW.trod_int Try.underlying3 u2
    obtain ⟨sec, g0, _, x3⟩ := DataW.trod_int Try.underlying2 v0
    obtain ⟨bs, g1, _, x4⟩ := DataW.trod_int Try.underlying3 v1
    simp only [List.cons.injEq, and_true] at e0 e1 e2 e3 e6 e7 f0 f1 f2 g0 g1
    subst e0 e1 e2 e3 e6 e7 f0 f1 f2 g0 g1
    exact ⟨⟨na, fr, ut, mo, kk, w, d, sec, bs, save, le⟩, rfl, ⟨fit_of x3, fit_of w6⟩⟩
set_option maxRecDepth 100000 in
theorem era_cells {fuel : Nat} {cs : _root_.List Value} {x : DataW H × List MemPlace} (h : DataW.trod enc Try.prog W base (fun _ => true) hd fuel 52 cs = some x) : ∃ r : Er, cs = r.arr.toList ∧ r.fits := by
  have hl : cs.length = 13 := by
    obtain ⟨_, _, _, _, hl, _⟩ := DataW.trod_struct Try.underlying52 h
    rw [hl, cellsEra]
  match cs, hl with
  | [c0, c1, c2, c3, c4, c5, c6, c7, c8, c9, c10, c11, c12], _ =>
    obtain ⟨n0, y0, t0⟩ := part_of Try.underlying52 h 0 _ rfl
    obtain ⟨n1, y1, t1⟩ := part_of Try.underlying52 h 1 _ rfl
    obtain ⟨n2, y2, t2⟩ := part_of Try.underlying52 h 2 _ rfl
    obtain ⟨n3, y3, t3⟩ := part_of Try.underlying52 h 3 _ rfl
    obtain ⟨n4, y4, t4⟩ := part_of Try.underlying52 h 4 _ rfl
    obtain ⟨n5, y5, t5⟩ := part_of Try.underlying52 h 5 _ rfl
    simp only [List.getElem_toArray, List.getElem_cons_succ, List.getElem_cons_zero, cellsInt, cellsInt64, cellsStr, cellsUntil] at t0 t1 t2 t3 t4 t5
    simp only [List.drop_succ_cons, List.drop_zero, List.take_succ_cons, List.take_zero] at t0 t1 t2 t3 t4 t5
    obtain ⟨off, e0, _, w0⟩ := DataW.trod_int Try.underlying2 t0
    obtain ⟨kind, e1, _, w1⟩ := DataW.trod_int Try.underlying3 t1
    obtain ⟨save, e2, _, w2⟩ := DataW.trod_int Try.underlying2 t2
    obtain ⟨set, e3, _, s3⟩ := DataW.trod_string Try.underlying9 t3
    obtain ⟨fm, e4, _, s4⟩ := DataW.trod_string Try.underlying9 t4
    obtain ⟨m0, z0, u0⟩ := part_of Try.underlying50 t5 0 _ rfl
    obtain ⟨m1, z1, u1⟩ := part_of Try.underlying50 t5 1 _ rfl
    obtain ⟨m2, z2, u2⟩ := part_of Try.underlying50 t5 2 _ rfl
    obtain ⟨m3, z3, u3⟩ := part_of Try.underlying50 t5 3 _ rfl
    obtain ⟨m4, z4, u4⟩ := part_of Try.underlying50 t5 4 _ rfl
    simp only [List.getElem_toArray, List.getElem_cons_succ, List.getElem_cons_zero, cellsInt, cellsInt64, cellsBool, cellsDay, cellsClock] at u0 u1 u2 u3 u4
    simp only [List.drop_succ_cons, List.drop_zero, List.take_succ_cons, List.take_zero] at u0 u1 u2 u3 u4
    obtain ⟨is, f5⟩ := bool_trod Try.underlying4 u0
    obtain ⟨yr, f6, _, x6⟩ := DataW.trod_int Try.underlying3 u1
    obtain ⟨mo, f7, _, x7⟩ := DataW.trod_int Try.underlying3 u2
    obtain ⟨p0, q0, v0⟩ := part_of Try.underlying40 u3 0 _ rfl
    obtain ⟨p1, q1, v1⟩ := part_of Try.underlying40 u3 1 _ rfl
    obtain ⟨p2, q2, v2⟩ := part_of Try.underlying40 u3 2 _ rfl
    obtain ⟨p3, q3, v3⟩ := part_of Try.underlying42 u4 0 _ rfl
    obtain ⟨p4, q4, v4⟩ := part_of Try.underlying42 u4 1 _ rfl
    simp only [List.getElem_toArray, List.getElem_cons_succ, List.getElem_cons_zero, cellsInt, cellsInt64] at v0 v1 v2 v3 v4
    simp only [List.drop_succ_cons, List.drop_zero, List.take_succ_cons, List.take_zero] at v0 v1 v2 v3 v4
    obtain ⟨kk, f8, _, x8⟩ := DataW.trod_int Try.underlying3 v0
    obtain ⟨w, f9, _, x9⟩ := DataW.trod_int Try.underlying3 v1
    obtain ⟨d, f10, _, x10⟩ := DataW.trod_int Try.underlying3 v2
    obtain ⟨sec, f11, _, x11⟩ := DataW.trod_int Try.underlying2 v3
    obtain ⟨bs, f12, _, x12⟩ := DataW.trod_int Try.underlying3 v4
    simp only [List.cons.injEq, and_true] at e0 e1 e2 e3 e4 f6 f7 f8 f9 f10 f11 f12
    subst e0 e1 e2 e3 e4 f5 f6 f7 f8 f9 f10 f11 f12
    exact ⟨⟨off, kind, save, set, fm, is, yr, mo, kk, w, d, sec, bs⟩, rfl, ⟨fit_of x11, fit_of w0⟩⟩
/-- a slice's rows -/
theorem row_of {t e : TypeId} {k fuel : Nat} {v : Value} {x : DataW H × List MemPlace} (ht : Try.prog.underlying t = some (.slice e)) (hk : Try.prog.cellsOf e = k) (hk0 : 0 < k) (hf : DataW.trod enc Try.prog W base (fun _ => true) hd fuel t [v] = some x) :
    ∃ (A : Option Addr) (n cap : Nat), v = .slice A n cap ∧ n ≤ maxLen ∧ ((n = 0 ∧ cap = 0) ∨ ∃ g off, A = some ⟨g, off, none⟩ ∧ ∀ i, i < n → ∃ (cs : _root_.List Value) (f : Nat) (y : DataW H × List MemPlace), cs.length = k ∧ (∀ j u, cs[j]? = some u → W.cell? ⟨g, off + (i * k + j), none⟩ = some u) ∧ DataW.trod enc Try.prog W base (fun _ => true) hd f e cs = some y) := by
  rcases open_slice ht hf with ⟨hc, _⟩ | ⟨a, len, cap, m, fu, D, Pl, hc, _, hlc, hcm, hm, _, hel⟩
  · simp at hc
    subst hc
    exact ⟨none, 0, 0, rfl, by unfold maxLen; omega, .inl ⟨rfl, rfl⟩⟩
  · simp at hc
    subst hc
    have hm' : m = cap := by rw [hm]; simp
    subst hm'
    refine ⟨some a, len, m, rfl, by omega, ?_⟩
    by_cases h0 : m = 0
    · exact .inl ⟨by omega, h0⟩
    right
    rw [hk] at hel
    have hsp : ∃ g off, a = ⟨g, off, none⟩ := by
      obtain ⟨cs0, hc0, ht0⟩ := hel 0 (by omega)
      obtain ⟨_, hl0, hat⟩ := World.cells?_some hc0
      have h1 := hat 0 (by omega)
      rw [_root_.List.getElem?_eq_getElem (by omega), Nat.zero_mul] at h1
      have e : (a.add 0).add 0 = a := by simp [Addr.add]
      rw [e] at h1
      exact spot_none h1
    obtain ⟨g, off, rfl⟩ := hsp
    refine ⟨g, off, rfl, fun i hi => ?_⟩
    obtain ⟨cs, hc, ht2⟩ := hel i (by omega)
    obtain ⟨_, hl, hat⟩ := World.cells?_some hc
    refine ⟨cs, fu, _, hl, fun j u hu => ?_, ht2⟩
    have hj : j < k := by rw [← hl]; exact (_root_.List.getElem?_eq_some_iff.1 hu).1
    rw [← hu, ← hat j hj, Addr.add_mid, Addr.add_mid, Nat.add_assoc]
end
end Go.Proofs.Ytdlmlcgmonkdfaa
