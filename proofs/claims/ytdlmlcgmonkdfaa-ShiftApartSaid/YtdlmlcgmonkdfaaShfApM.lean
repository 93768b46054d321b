/-
  What a caller may do with sources of its own: rows whose cells are of a kind, and the stores that keep them so.
-/
import Derived.Test.YtdlmlcgmonkdfaaShfLawM
namespace Go.Proofs.Ytdlmlcgmonkdfaa
open Go.RowKit Sh
set_option linter.unusedVariables false
set_option linter.unusedSimpArgs false

namespace Sh
/-- v is a row of n elements of so many cells each, in a block from lo on, behind none of hi: each of its cells is of a kind -/
def Row (lo hi : Nat) (t : TypeId) (size : Nat) (v : Value) (n : Nat) (P : Nat → Value → Prop) (w : World) : Prop :=
  n ≤ 1000 ∧ ((v = .slice none 0 0 ∧ n = 0) ∨ ∃ (g cap : Nat) (cur : Array Value), v = .slice (some ⟨g, 0, none⟩) n cap ∧ lo ≤ g ∧ g < hi ∧ w.heap[g]? = some (.cells cur t) ∧ n * size ≤ cur.size ∧ ∀ j u, j < n * size → cur[j]? = some u → P j u)
theorem Row.of {base size n : Nat} {t : TypeId} {v : Value} {xs : _root_.List Value} {w : World} {P : Nat → Value → Prop} (h : Own base t size v n xs w) (hP : ∀ j u, xs[j]? = some u → P j u) : Row base w.heap.size t size v n P w := by
  obtain ⟨ho, hn, _⟩ := h
  refine ⟨hn, ?_⟩
  have ho' := ho
  obtain ⟨hl, h0 | ⟨g, cap, cur, rfl, hb, hc, hcap, hsz, hx⟩⟩ := ho
  · exact .inl h0
  · refine .inr ⟨g, cap, cur, rfl, hb, bk2 hc, hc, ?_, fun j u hj hu => ?_⟩
    · apply Nat.le_of_not_lt
      intro hlt
      have h1 := ho'.cellAt cur.size hlt
      rw [_root_.List.getElem?_eq_getElem (by omega)] at h1
      unfold World.cell? at h1
      rw [hc] at h1
      simp at h1
    · refine hP j u ?_
      rw [← ho'.cellAt j hj]
      exact cellB hc hu
theorem Row.sl {lo hi size n : Nat} {t : TypeId} {v : Value} {P : Nat → Value → Prop} {w : World} (h : Row lo hi t size v n P w) : ∃ (a : Option Addr) (c : Nat), v = .slice a n c := by
  obtain ⟨_, ⟨rfl, rfl⟩ | ⟨g, cap, cur, rfl, _⟩⟩ := h
  · exact ⟨none, 0, rfl⟩
  · exact ⟨_, _, rfl⟩
theorem Row.below {lo hi size n : Nat} {t : TypeId} {v : Value} {P : Nat → Value → Prop} {A B : World} (h : Row lo hi t size v n P A) (hb : Below A.heap.size A B) : Row lo hi t size v n P B := by
  obtain ⟨hn, h0 | ⟨g, cap, cur, rfl, h1, h2, h3, h4⟩⟩ := h
  · exact ⟨hn, .inl h0⟩
  · exact ⟨hn, .inr ⟨g, cap, cur, rfl, h1, h2, block_below h3 hb, h4⟩⟩
theorem Row.far {lo hi size n b o : Nat} {t : TypeId} {v u : Value} {P : Nat → Value → Prop} {w : World} (h : Row lo hi t size v n P w) (hb : b < lo ∨ hi ≤ b) : Row lo hi t size v n P (w.setCell ⟨b, o, none⟩ u) := by
  obtain ⟨hn, h0 | ⟨g, cap, cur, rfl, h1, h2, h3, h4⟩⟩ := h
  · exact ⟨hn, .inl h0⟩
  · exact ⟨hn, .inr ⟨g, cap, cur, rfl, h1, h2, blk_setCell h3 (by omega), h4⟩⟩
theorem Row.oth {lo hi size n b o : Nat} {t tb : TypeId} {v u : Value} {cb : Array Value} {P : Nat → Value → Prop} {w : World} (h : Row lo hi t size v n P w) (hb : w.heap[b]? = some (.cells cb tb)) (ht : tb ≠ t) : Row lo hi t size v n P (w.setCell ⟨b, o, none⟩ u) := by
  obtain ⟨hn, h0 | ⟨g, cap, cur, rfl, h1, h2, h3, h4⟩⟩ := h
  · exact ⟨hn, .inl h0⟩
  · refine ⟨hn, .inr ⟨g, cap, cur, rfl, h1, h2, blk_setCell h3 (fun e => ?_), h4⟩⟩
    rw [e, hb] at h3
    simp at h3
    exact ht h3.2
/-- a store of a cell of the kind keeps the row, wherever it goes -/
theorem Row.same {lo hi size n b o : Nat} {t : TypeId} {v u : Value} {P Q : Nat → Value → Prop} {w : World} (h : Row lo hi t size v n P w) (hu : Q o u) (hPQ : ∀ j x, P j x → Q j x) : Row lo hi t size v n Q (w.setCell ⟨b, o, none⟩ u) := by
  obtain ⟨hn, h0 | ⟨g, cap, cur, rfl, h1, h2, h3, h4, h5⟩⟩ := h
  · exact ⟨hn, .inl h0⟩
  · by_cases hg : g = b
    · subst hg
      refine ⟨hn, .inr ⟨g, cap, _, rfl, h1, h2, setc h3, by simpa using h4, fun j x hj hx => ?_⟩⟩
      rw [Array.getElem?_setIfInBounds] at hx
      split at hx
      · rename_i e
        subst e
        split at hx
        · simp at hx; subst hx; exact hu
        · simp at hx
      · exact hPQ _ _ (h5 j x hj hx)
    · exact ⟨hn, .inr ⟨g, cap, cur, rfl, h1, h2, blk_setCell h3 hg, h4, fun j x hj hx => hPQ _ _ (h5 j x hj hx)⟩⟩
theorem Row.weak {lo hi size n : Nat} {t : TypeId} {v : Value} {P Q : Nat → Value → Prop} {w : World} (h : Row lo hi t size v n P w) (hPQ : ∀ j x, P j x → Q j x) : Row lo hi t size v n Q w := by
  obtain ⟨hn, h0 | ⟨g, cap, cur, rfl, h1, h2, h3, h4, h5⟩⟩ := h
  · exact ⟨hn, .inl h0⟩
  · exact ⟨hn, .inr ⟨g, cap, cur, rfl, h1, h2, h3, h4, fun j x hj hx => hPQ _ _ (h5 j x hj hx)⟩⟩
/-- a cell of the row -/
theorem Row.cell {lo hi size n o : Nat} {t : TypeId} {v : Value} {P : Nat → Value → Prop} {w : World} (h : Row lo hi t size v n P w) (ho : o < n * size) : ∃ (g cap : Nat) (cur : Array Value) (u : Value), v = .slice (some ⟨g, 0, none⟩) n cap ∧ lo ≤ g ∧ g < hi ∧ w.heap[g]? = some (.cells cur t) ∧ w.cell? ⟨g, o, none⟩ = some u ∧ w.frozen? ⟨g, o, none⟩ = false ∧ P o u := by
  obtain ⟨hn, ⟨_, h0⟩ | ⟨g, cap, cur, rfl, h1, h2, h3, h4, h5⟩⟩ := h
  · subst h0; simp at ho
  · have hu : cur[o]? = some cur[o] := Array.getElem?_eq_getElem (by omega)
    exact ⟨g, cap, cur, cur[o], rfl, h1, h2, h3, cellB h3 hu, frzB h3 o, h5 o _ ho hu⟩
def RR : Nat := 140737488351232
/-- rules: the saves are numbers -/
def PR (j : Nat) (u : Value) : Prop := j % 11 = 9 → ∃ k, u = .int .i64 k
/-- eras: the offsets are numbers -/
def PE (j : Nat) (u : Value) : Prop := j % 13 = 0 → ∃ k, u = .int .i64 k
/-- zones: names, from the k-th on within the reach; rows -/
def PZ (us : _root_.List Value) (k j : Nat) (u : Value) : Prop := (j % 2 = 0 → ∃ s : ByteArray, u = .string s ∧ (k ≤ j / 2 → s.size ≤ RR)) ∧ (j % 2 = 1 → us[j / 2]? = some u)
/-- links: the second names -/
def PL (k j : Nat) (u : Value) : Prop := j % 2 = 1 → ∃ s : ByteArray, u = .string s ∧ (k ≤ j / 2 → s.size ≤ RR)
/-- shifts: names -/
def PN (k j : Nat) (u : Value) : Prop := ∃ s : ByteArray, u = .string s ∧ (k ≤ j → s.size ≤ RR)
/-- a source of the caller's own, whose names from the kz-th zone, the kl-th link, the kn-th shift on are within the reach -/
structure Sro (lo hi : Nat) (x1 x2 x3 x4 : Value) (n1 n2 n3 n4 : Nat) (us : _root_.List Value) (kz kl kn : Nat) (w : World) : Prop where
  r : Row lo hi 44 11 x1 n1 PR w
  z : Row lo hi 48 2 x2 n2 (PZ us kz) w
  l : Row lo hi 54 2 x3 n3 (PL kl) w
  n : Row lo hi 9 1 x4 n4 (PN kn) w
  ul : us.length = n2
  e : ∀ (i : Nat) (u : Value), us[i]? = some u → ∃ m, Row lo hi 52 13 u m PE w
theorem Sro.below {lo hi n1 n2 n3 n4 kz kl kn : Nat} {x1 x2 x3 x4 : Value} {us : _root_.List Value} {A B : World} (h : Sro lo hi x1 x2 x3 x4 n1 n2 n3 n4 us kz kl kn A) (hb : Below A.heap.size A B) : Sro lo hi x1 x2 x3 x4 n1 n2 n3 n4 us kz kl kn B :=
  ⟨h.r.below hb, h.z.below hb, h.l.below hb, h.n.below hb, h.ul, fun i u hu => (by obtain ⟨m, hm⟩ := h.e i u hu; exact ⟨m, hm.below hb⟩)⟩
theorem Sro.far {lo hi n1 n2 n3 n4 kz kl kn b o : Nat} {x1 x2 x3 x4 u : Value} {us : _root_.List Value} {w : World} (h : Sro lo hi x1 x2 x3 x4 n1 n2 n3 n4 us kz kl kn w) (hb : b < lo ∨ hi ≤ b) : Sro lo hi x1 x2 x3 x4 n1 n2 n3 n4 us kz kl kn (w.setCell ⟨b, o, none⟩ u) :=
  ⟨h.r.far hb, h.z.far hb, h.l.far hb, h.n.far hb, h.ul, fun i u hu => (by obtain ⟨m, hm⟩ := h.e i u hu; exact ⟨m, hm.far hb⟩)⟩
theorem Sro.rule {lo hi n1 n2 n3 n4 kz kl kn b o : Nat} {x1 x2 x3 x4 : Value} {us : _root_.List Value} {w : World} {cur : Array Value} (h : Sro lo hi x1 x2 x3 x4 n1 n2 n3 n4 us kz kl kn w) (hb : w.heap[b]? = some (.cells cur 44)) (k : Int) : Sro lo hi x1 x2 x3 x4 n1 n2 n3 n4 us kz kl kn (w.setCell ⟨b, o, none⟩ (.int .i64 k)) :=
  ⟨h.r.same (fun _ => ⟨k, rfl⟩) (fun _ _ h => h), h.z.oth hb (by decide), h.l.oth hb (by decide), h.n.oth hb (by decide), h.ul, fun i u hu => (by obtain ⟨m, hm⟩ := h.e i u hu; exact ⟨m, hm.oth hb (by decide)⟩)⟩
theorem Sro.era {lo hi n1 n2 n3 n4 kz kl kn b o : Nat} {x1 x2 x3 x4 : Value} {us : _root_.List Value} {w : World} {cur : Array Value} (h : Sro lo hi x1 x2 x3 x4 n1 n2 n3 n4 us kz kl kn w) (hb : w.heap[b]? = some (.cells cur 52)) (k : Int) : Sro lo hi x1 x2 x3 x4 n1 n2 n3 n4 us kz kl kn (w.setCell ⟨b, o, none⟩ (.int .i64 k)) :=
  ⟨h.r.oth hb (by decide), h.z.oth hb (by decide), h.l.oth hb (by decide), h.n.oth hb (by decide), h.ul, fun i u hu => (by obtain ⟨m, hm⟩ := h.e i u hu; exact ⟨m, hm.same (fun _ => ⟨k, rfl⟩) (fun _ _ h => h)⟩)⟩
theorem Sro.zone {lo hi n1 n2 n3 n4 kz kl kn b : Nat} {x1 x2 x3 x4 : Value} {us : _root_.List Value} {w : World} {cur : Array Value} (h : Sro lo hi x1 x2 x3 x4 n1 n2 n3 n4 us kz kl kn w) (hb : w.heap[b]? = some (.cells cur 48)) (s : ByteArray) : Sro lo hi x1 x2 x3 x4 n1 n2 n3 n4 us (kz + 1) kl kn (w.setCell ⟨b, kz * 2, none⟩ (.string s)) :=
  ⟨h.r.oth hb (by decide), h.z.same ⟨fun _ => ⟨s, rfl, fun h => (by omega)⟩, fun h => (by omega)⟩ (fun j x hx => ⟨fun hj => (by obtain ⟨s, h1, h2⟩ := hx.1 hj; exact ⟨s, h1, fun h => h2 (by omega)⟩), hx.2⟩), h.l.oth hb (by decide), h.n.oth hb (by decide), h.ul, fun i u hu => (by obtain ⟨m, hm⟩ := h.e i u hu; exact ⟨m, hm.oth hb (by decide)⟩)⟩
theorem Sro.link {lo hi n1 n2 n3 n4 kz kl kn b : Nat} {x1 x2 x3 x4 : Value} {us : _root_.List Value} {w : World} {cur : Array Value} (h : Sro lo hi x1 x2 x3 x4 n1 n2 n3 n4 us kz kl kn w) (hb : w.heap[b]? = some (.cells cur 54)) (s : ByteArray) : Sro lo hi x1 x2 x3 x4 n1 n2 n3 n4 us kz (kl + 1) kn (w.setCell ⟨b, kl * 2 + 1, none⟩ (.string s)) :=
  ⟨h.r.oth hb (by decide), h.z.oth hb (by decide), h.l.same (fun _ => ⟨s, rfl, fun h => (by omega)⟩) (fun j x hx hj => (by obtain ⟨s, h1, h2⟩ := hx hj; exact ⟨s, h1, fun h => h2 (by omega)⟩)), h.n.oth hb (by decide), h.ul, fun i u hu => (by obtain ⟨m, hm⟩ := h.e i u hu; exact ⟨m, hm.oth hb (by decide)⟩)⟩
theorem Sro.shift {lo hi n1 n2 n3 n4 kz kl kn b : Nat} {x1 x2 x3 x4 : Value} {us : _root_.List Value} {w : World} {cur : Array Value} (h : Sro lo hi x1 x2 x3 x4 n1 n2 n3 n4 us kz kl kn w) (hb : w.heap[b]? = some (.cells cur 9)) (s : ByteArray) : Sro lo hi x1 x2 x3 x4 n1 n2 n3 n4 us kz kl (kn + 1) (w.setCell ⟨b, kn, none⟩ (.string s)) :=
  ⟨h.r.oth hb (by decide), h.z.oth hb (by decide), h.l.oth hb (by decide), h.n.same ⟨s, rfl, fun h => (by omega)⟩ (fun j x hx => (by obtain ⟨s, h1, h2⟩ := hx; exact ⟨s, h1, fun h => h2 (by omega)⟩)), h.ul, fun i u hu => (by obtain ⟨m, hm⟩ := h.e i u hu; exact ⟨m, hm.oth hb (by decide)⟩)⟩
/-- names within the reach -/
def Sou.short (s : Sou) : Prop := (∀ z ∈ s.zs, z.na.size ≤ RR) ∧ (∀ p ∈ s.ls, p.2.size ≤ RR) ∧ ∀ q ∈ s.ns, q.size ≤ RR
theorem pr_flat (rs : _root_.List Ru) : ∀ j u, (flatR rs)[j]? = some u → PR j u := fun j u hu h9 => by
  have hj := (_root_.List.getElem?_eq_some_iff.1 hu).1
  rw [flatR_len] at hj
  have hr : rs[j / 11]? = some rs[j / 11] := _root_.List.getElem?_eq_getElem (by omega)
  rw [show j = j / 11 * 11 + 9 by omega, flatR_at rs (j / 11) 9 _ hr (by decide)] at hu
  exact ⟨_, (Option.some.inj hu).symm⟩
theorem pe_flat (rs : _root_.List Er) : ∀ j u, (flatE rs)[j]? = some u → PE j u := fun j u hu h9 => by
  have hj := (_root_.List.getElem?_eq_some_iff.1 hu).1
  rw [flatE_len] at hj
  have hr : rs[j / 13]? = some rs[j / 13] := _root_.List.getElem?_eq_getElem (by omega)
  rw [show j = j / 13 * 13 + 0 by omega, flatE_at rs (j / 13) 0 _ hr (by decide)] at hu
  exact ⟨_, (Option.some.inj hu).symm⟩
theorem flatL_len (ls : _root_.List (ByteArray × ByteArray)) : (flatL ls).length = ls.length * 2 := by
  unfold flatL
  induction ls with
  | nil => rfl
  | cons r rs ih => rw [_root_.List.flatMap_cons, _root_.List.length_append, ih]; show 2 + rs.length * 2 = (rs.length + 1) * 2; omega
theorem Sro.of {base : Nat} {v1 v2 v3 v4 : Value} {s : Sou} {w : World} (h : OwnS base v1 v2 v3 v4 s w) (hs : s.short) : ∃ us, Sro base w.heap.size v1 v2 v3 v4 s.rs.length s.zs.length s.ls.length s.ns.length us 0 0 0 w := by
  obtain ⟨hr, ⟨ps, hpl, hz, hp, _⟩, hl, hn⟩ := h
  refine ⟨ps.map (·.2), Row.of hr (pr_flat _), Row.of hz fun j u hu => ⟨fun h0 => ?_, fun h1 => ?_⟩, Row.of hl fun j u hu h1 => ?_, Row.of hn fun j u hu => ?_, by simp [hpl], fun i u hu => ?_⟩
  · have hj := (_root_.List.getElem?_eq_some_iff.1 hu).1
    rw [flatZ_len] at hj
    have hpj : ps[j / 2]? = some ps[j / 2] := _root_.List.getElem?_eq_getElem (by omega)
    rw [show j = j / 2 * 2 + 0 by omega, flatZ_at ps (j / 2) 0 _ hpj (by decide)] at hu
    have hzj : s.zs[j / 2]? = some s.zs[j / 2] := _root_.List.getElem?_eq_getElem (by omega)
    obtain ⟨p, h2, h3, _⟩ := hp _ _ hzj
    rw [hpj] at h2
    obtain rfl := Option.some.inj h2
    refine ⟨_, (Option.some.inj hu).symm, fun _ => ?_⟩
    rw [h3]
    exact hs.1 _ (_root_.List.mem_of_getElem? hzj)
  · have hj := (_root_.List.getElem?_eq_some_iff.1 hu).1
    rw [flatZ_len] at hj
    have hpj : ps[j / 2]? = some ps[j / 2] := _root_.List.getElem?_eq_getElem (by omega)
    have hu' := hu
    rw [show j = j / 2 * 2 + 1 by omega, flatZ_at ps (j / 2) 1 _ hpj (by decide)] at hu'
    rw [_root_.List.getElem?_map, hpj]
    exact hu'
  · have hj := (_root_.List.getElem?_eq_some_iff.1 hu).1
    rw [flatL_len] at hj
    have hr : s.ls[j / 2]? = some s.ls[j / 2] := _root_.List.getElem?_eq_getElem (by omega)
    rw [show j = j / 2 * 2 + 1 by omega, flatL_at s.ls (j / 2) 1 _ hr (by decide)] at hu
    exact ⟨_, (Option.some.inj hu).symm, fun _ => hs.2.1 _ (_root_.List.mem_of_getElem? hr)⟩
  · unfold flatN at hu
    rw [_root_.List.getElem?_map] at hu
    obtain ⟨q, hq, rfl⟩ := Option.map_eq_some_iff.1 hu
    exact ⟨q, rfl, fun _ => hs.2.2 _ (_root_.List.mem_of_getElem? hq)⟩
  · rw [_root_.List.getElem?_map] at hu
    obtain ⟨p, hpi, rfl⟩ := Option.map_eq_some_iff.1 hu
    have hi := (_root_.List.getElem?_eq_some_iff.1 hpi).1
    have hzi : s.zs[i]? = some s.zs[i] := _root_.List.getElem?_eq_getElem (by omega)
    obtain ⟨p', h2, _, h3⟩ := hp _ _ hzi
    rw [hpi] at h2
    obtain rfl := Option.some.inj h2
    exact ⟨_, Row.of h3 (pe_flat _)⟩
theorem row_nil {lo hi size : Nat} {t : TypeId} {P : Nat → Value → Prop} {w : World} : Row lo hi t size (.slice none 0 0) 0 P w := ⟨by omega, .inl ⟨rfl, rfl⟩⟩
theorem Sro.rules {base : Nat} {v : Value} {rs : _root_.List Ru} {w : World} (h : Own base 44 11 v rs.length (flatR rs) w) : Sro base w.heap.size v (.slice none 0 0) (.slice none 0 0) (.slice none 0 0) rs.length 0 0 0 [] 0 0 0 w :=
  ⟨Row.of h (pr_flat _), row_nil, row_nil, row_nil, rfl, fun i u hu => (by simp at hu)⟩
theorem Sro.none {lo hi : Nat} {w : World} : Sro lo hi (.slice none 0 0) (.slice none 0 0) (.slice none 0 0) (.slice none 0 0) 0 0 0 0 [] 0 0 0 w :=
  ⟨row_nil, row_nil, row_nil, row_nil, rfl, fun i u hu => (by simp at hu)⟩
end Sh
end Go.Proofs.Ytdlmlcgmonkdfaa
