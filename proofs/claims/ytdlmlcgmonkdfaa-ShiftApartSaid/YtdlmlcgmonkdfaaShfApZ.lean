/-
  The names of a source that came in as an argument are within the reach.
-/
import Derived.Test.YtdlmlcgmonkdfaaShfApM
import Derived.SizedLaws
namespace Go.Proofs.Ytdlmlcgmonkdfaa
open Go.RowKit Sh Go.ChangeShapes Go.WideShapes Go.Deep
set_option linter.unusedVariables false
set_option linter.unusedSimpArgs false

section
variable {H : Type} {enc : TypeId × Value → H} {W : World} {base : Nat} {hd : Bool}
/-- every weight of a datum is within the reach -/
def Wt (t : TypeId) (x : DataW H × List MemPlace) : Prop := ∀ k ∈ x.1.weights Try.prog t, k ≤ reachBytes
theorem part_ofw {t : TypeId} {fs : Array Field} {fuel : Nat} {cs : _root_.List Value} {x : DataW H × List MemPlace} (ht : Try.prog.underlying t = some (.struct fs)) (h : DataW.trod enc Try.prog W base (fun _ => true) hd fuel t cs = some x) (hw : Wt t x) (i : Nat) (f : Field) (hf : fs[i]? = some f) :
    ∃ n y, DataW.trod enc Try.prog W base (fun _ => true) hd n f.type ((cs.drop f.offset).take (Try.prog.cellsOf f.type)) = some y ∧ Wt f.type y := by
  obtain ⟨xs, n, _, hx, _, hxl, hg⟩ := DataW.trod_struct ht h
  have hi : i < fs.size := (Array.getElem?_eq_some_iff.1 hf).1
  have h1 := hg i f hf
  have hxi : xs[i]? = some xs[i] := _root_.List.getElem?_eq_getElem (by omega)
  rw [hxi] at h1
  refine ⟨n, _, h1, fun k hk => hw k ?_⟩
  rw [hx]
  simp only [DataW.weights, ht]
  refine DataW.weights_mem_each (j := i) (t := f.type) (d := xs[i].1) ?_ ?_ k hk
  · rw [_root_.List.getElem?_map, Array.getElem?_toList, hf]; rfl
  · rw [_root_.List.getElem?_map, hxi]; rfl
theorem weights_all {e : TypeId} {k : Nat} {d : DataW H} : ∀ {l : _root_.List (DataW H)}, d ∈ l → k ∈ d.weights Try.prog e → k ∈ DataW.weightsAll Try.prog e l := by
  intro l
  induction l with
  | nil => intro h; simp at h
  | cons a r ih =>
    intro h hk
    simp only [DataW.weightsAll, _root_.List.mem_append]
    rcases _root_.List.mem_cons.1 h with rfl | h
    · exact .inl hk
    · exact .inr (ih h hk)
theorem row_ofw {t e : TypeId} {k fuel : Nat} {A : Option Addr} {n cap : Nat} {x : DataW H × List MemPlace} (ht : Try.prog.underlying t = some (.slice e)) (hk : Try.prog.cellsOf e = k) (hk0 : 0 < k) (hf : DataW.trod enc Try.prog W base (fun _ => true) hd fuel t [.slice A n cap] = some x) (hw : Wt t x) :
    ∀ i, i < n → ∃ (g off : Nat) (cs : _root_.List Value) (f : Nat) (y : DataW H × List MemPlace), A = some ⟨g, off, none⟩ ∧ cs.length = k ∧ (∀ j u, cs[j]? = some u → W.cell? ⟨g, off + (i * k + j), none⟩ = some u) ∧ DataW.trod enc Try.prog W base (fun _ => true) hd f e cs = some y ∧ Wt e y := by
  intro i hi
  rcases open_slice ht hf with ⟨hc, _⟩ | ⟨a, len, cap', m, fu, D, Pl, hc, _, hlc, hcm, hm, hx, hel⟩
  · simp at hc; omega
  · simp at hc
    obtain ⟨rfl, rfl, rfl⟩ := hc
    have hm' : m = cap := by rw [hm]; simp
    subst hm'
    obtain ⟨cs, hcs, hty⟩ := hel i (by omega)
    rw [hk] at hcs
    obtain ⟨_, hl, hat⟩ := World.cells?_some hcs
    have hsp : ∃ g off, a = ⟨g, off, none⟩ := by
      obtain ⟨cs0, hc0, ht0⟩ := hel 0 (by omega)
      rw [hk] at hc0
      obtain ⟨_, hl0, hat0⟩ := World.cells?_some hc0
      have h1 := hat0 0 (by omega)
      rw [_root_.List.getElem?_eq_getElem (by omega), Nat.zero_mul] at h1
      have e : (a.add 0).add 0 = a := by simp [Addr.add]
      rw [e] at h1
      exact spot_none h1
    obtain ⟨g, off, rfl⟩ := hsp
    refine ⟨g, off, cs, fu, _, rfl, hl, fun j u hu => ?_, hty, fun k' hk' => hw k' ?_⟩
    · have hj : j < k := by rw [← hl]; exact (_root_.List.getElem?_eq_some_iff.1 hu).1
      rw [← hu, ← hat j hj, Addr.add_mid, Addr.add_mid, Nat.add_assoc]
    · rw [hx]
      simp only [DataW.weights, ht]
      refine _root_.List.mem_cons_of_mem _ (_root_.List.mem_append_left _ (weights_all ?_ hk'))
      exact _root_.List.mem_map.2 ⟨i, _root_.List.mem_range.2 hi, rfl⟩
theorem str_w {fuel : Nat} {u : Value} {x : DataW H × List MemPlace} (h : DataW.trod enc Try.prog W base (fun _ => true) hd fuel 9 [u] = some x) (hw : Wt 9 x) : ∃ s : ByteArray, u = .string s ∧ s.size ≤ RR := by
  obtain ⟨s, e0, hx, _⟩ := DataW.trod_string Try.underlying9 h
  simp only [_root_.List.cons.injEq, and_true] at e0
  subst e0
  refine ⟨s, rfl, ?_⟩
  have := hw s.data.toList.length (by rw [hx]; simp [DataW.weights])
  rw [Array.length_toList] at this
  exact this
theorem short_of {A1 A2 A3 A4 : Option Addr} {n1 n2 n3 n4 c1 c2 c3 c4 : Nat} {d : DataW H} {p : List MemPlace} (h : DataW.Trod enc Try.prog W 0 (fun _ => true) hd 27 (.agg #[.slice A1 n1 c1, .slice A2 n2 c2, .slice A3 n3 c3, .slice A4 n4 c4]) d p)
    (hz : ∀ x ∈ DataW.weights Try.prog 27 d, x ≤ reachBytes) (s : Sou) (hS : RdS (.slice A1 n1 c1) (.slice A2 n2 c2) (.slice A3 n3 c3) (.slice A4 n4 c4) s W) : s.short := by
  obtain ⟨fuel, hf⟩ := h
  have hf' : DataW.trod enc Try.prog W 0 (fun _ => true) hd fuel 27 [.slice A1 n1 c1, .slice A2 n2 c2, .slice A3 n3 c3, .slice A4 n4 c4] = some (d, p) := hf
  obtain ⟨m1, y1, t1, z1⟩ := part_ofw Try.underlying27 hf' hz 1 _ rfl
  obtain ⟨m2, y2, t2, z2⟩ := part_ofw Try.underlying27 hf' hz 2 _ rfl
  obtain ⟨m3, y3, t3, z3⟩ := part_ofw Try.underlying27 hf' hz 3 _ rfl
  simp only [List.getElem_toArray, List.getElem_cons_succ, List.getElem_cons_zero, cellsZs, cellsLs, cellsNs] at t1 t2 t3 z1 z2 z3
  simp only [List.drop_succ_cons, List.drop_zero, List.take_succ_cons, List.take_zero] at t1 t2 t3
  refine ⟨fun z hzm => ?_, fun q hq => ?_, fun q hq => ?_⟩
  · obtain ⟨i, hi⟩ := _root_.List.mem_iff_getElem?.1 hzm
    obtain ⟨g, off, cap, a, c, e, k0, k1, _⟩ := hS.2.1.at_ hi
    simp only [Value.slice.injEq] at e
    obtain ⟨e1, e2, _⟩ := e
    obtain ⟨g', off', cs, f, y, e3, hl, hc, ht, hwt⟩ := row_ofw Try.underlying23 cellsZone (by decide) t1 z1 i (by have := (_root_.List.getElem?_eq_some_iff.1 hi).1; omega)
    rw [e1] at e3
    simp at e3
    obtain ⟨rfl, rfl⟩ := e3
    match cs, hl with
    | [u0, u1], _ =>
      obtain ⟨n0, y0, t0, w0⟩ := part_ofw Try.underlying48 ht hwt 0 _ rfl
      simp only [List.getElem_toArray, List.getElem_cons_succ, List.getElem_cons_zero, cellsStr] at t0 w0
      simp only [List.drop_succ_cons, List.drop_zero, List.take_succ_cons, List.take_zero] at t0
      obtain ⟨st, rfl, hsz⟩ := str_w t0 w0
      have h0 := hc 0 _ rfl
      rw [Nat.add_zero, k0] at h0
      simp at h0
      rw [h0]; exact hsz
  · obtain ⟨i, hi⟩ := _root_.List.mem_iff_getElem?.1 hq
    obtain ⟨g, off, cap, e, k0, k1⟩ := hS.2.2.1.atL hi
    simp only [Value.slice.injEq] at e
    obtain ⟨e1, e2, _⟩ := e
    obtain ⟨g', off', cs, f, y, e3, hl, hc, ht, hwt⟩ := row_ofw Try.underlying24 cellsLink (by decide) t2 z2 i (by have := (_root_.List.getElem?_eq_some_iff.1 hi).1; omega)
    rw [e1] at e3
    simp at e3
    obtain ⟨rfl, rfl⟩ := e3
    match cs, hl with
    | [u0, u1], _ =>
      obtain ⟨n0, y0, t0, w0⟩ := part_ofw Try.underlying54 ht hwt 1 _ rfl
      simp only [List.getElem_toArray, List.getElem_cons_succ, List.getElem_cons_zero, cellsStr] at t0 w0
      simp only [List.drop_succ_cons, List.drop_zero, List.take_succ_cons, List.take_zero] at t0
      obtain ⟨st, rfl, hsz⟩ := str_w t0 w0
      have h0 := hc 1 _ rfl
      rw [← Nat.add_assoc, k1] at h0
      simp at h0
      rw [h0]; exact hsz
  · obtain ⟨i, hi⟩ := _root_.List.mem_iff_getElem?.1 hq
    obtain ⟨g, off, cap, e, k0⟩ := hS.2.2.2.atN hi
    simp only [Value.slice.injEq] at e
    obtain ⟨e1, e2, _⟩ := e
    obtain ⟨g', off', cs, f, y, e3, hl, hc, ht, hwt⟩ := row_ofw Try.underlying25 cellsStr (by decide) t3 z3 i (by have := (_root_.List.getElem?_eq_some_iff.1 hi).1; omega)
    rw [e1] at e3
    simp at e3
    obtain ⟨rfl, rfl⟩ := e3
    match cs, hl with
    | [u0], _ =>
      obtain ⟨st, rfl, hsz⟩ := str_w ht hwt
      have h0 := hc 0 _ rfl
      rw [show off + (i * 1 + 0) = off + i by omega, k0] at h0
      simp at h0
      rw [h0]; exact hsz
end
end Go.Proofs.Ytdlmlcgmonkdfaa
