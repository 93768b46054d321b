/-
  The reference's Check (chapter 18).
-/
import Derived.Test.YtghmdaahmijdiaaDoorApExpl
namespace Go.Proofs.YtghmdaahmijdiaaDoor
open Go.RowKit Cv
set_option linter.unusedVariables false
set_option linter.unusedSimpArgs false

namespace Cv
/-- close, and of the years that were looked at -/
def PC (rs : _root_.List Ru) (k : Nat) (e : Ev) : Prop := Close rs e ∧ e.year < 1850 + (k : Int)
/-- .. and the first ones of a year -/
def PIc (rs : _root_.List Ru) (k i : Nat) (e : Ev) : Prop := Close rs e ∧ (e.year < 1850 + (k : Int) ∨ e ∈ (yearEvs rs (1850 + (k : Int)) rs.length).take i)
theorem mem_yearX {rs : _root_.List Ru} {k : Nat} {e : Ev} : e ∈ (yearEvs rs (1850 + (k : Int)) rs.length) ↔ (IsEv rs e ∧ e.year = 1850 + (k : Int)) := by
  rw [mem_year]
  constructor
  · rintro ⟨h1, h2, _⟩; exact ⟨h1, h2⟩
  · rintro ⟨h1, h2⟩
    obtain ⟨r, hr, hh⟩ := h1
    obtain ⟨j, hj, _, hl⟩ := ruleAt_ex hr
    exact ⟨⟨r, hr, hh⟩, h2, by omega⟩
theorem pc_zero (rs : _root_.List Ru) : MinOf (PC rs 0) none := fun e he => by
  have h1 := he.1.1.2.1
  have h2 := he.2
  omega
theorem pc_start {rs : _root_.List Ru} {k : Nat} {o : Option Ev} (h : MinOf (PC rs k) o) : MinOf (PIc rs k 0) o :=
  h.congr fun e => by unfold PC PIc; simp
theorem pc_end {rs : _root_.List Ru} {k i : Nat} {o : Option Ev} (hi : i = (yearEvs rs (1850 + (k : Int)) rs.length).length) (h : MinOf (PIc rs k i) o) : MinOf (PC rs (k + 1)) o :=
  h.congr fun e => by
    unfold PC PIc
    rw [hi, _root_.List.take_length, mem_yearX]
    constructor
    · rintro ⟨h1, h2⟩; exact ⟨h1, by rcases h2 with h2 | h2 <;> omega⟩
    · rintro ⟨h1, h2⟩
      refine ⟨h1, ?_⟩
      rcases Int.lt_or_le e.year (1850 + (k : Int)) with h3 | h3
      · exact .inl h3
      · exact .inr ⟨h1.1.1, by omega⟩
theorem pc_last {rs : _root_.List Ru} {o : Option Ev} (h : MinOf (PC rs 701) o) : MinOf (Close rs) o :=
  h.congr fun e => ⟨fun h => h.1, fun h => ⟨h, by have := h.1.2.2; omega⟩⟩
theorem pi_iff {rs : _root_.List Ru} {k i : Nat} {x : Ev} (hx : (yearEvs rs (1850 + (k : Int)) rs.length)[i]? = some x) (e : Ev) : PIc rs k (i + 1) e ↔ (PIc rs k i e ∨ (e = x ∧ Close rs x)) := by
  unfold PIc
  rw [_root_.List.take_add_one, hx]
  simp only [Option.toList_some, _root_.List.mem_append, _root_.List.mem_singleton]
  constructor
  · rintro ⟨h1, h2 | h2 | h2⟩
    · exact .inl ⟨h1, .inl h2⟩
    · exact .inl ⟨h1, .inr h2⟩
    · exact .inr ⟨h2, by rw [← h2]; exact h1⟩
  · rintro (⟨h1, h2 | h2⟩ | ⟨h2, h1⟩)
    · exact ⟨h1, .inl h2⟩
    · exact ⟨h1, .inr (.inl h2)⟩
    · exact ⟨by rw [h2]; exact h1, .inr (.inr h2)⟩
theorem pi_skip {rs : _root_.List Ru} {k i : Nat} {x : Ev} {o : Option Ev} (hx : (yearEvs rs (1850 + (k : Int)) rs.length)[i]? = some x) (h : MinOf (PIc rs k i) o) (hn : ¬ Close rs x) : MinOf (PIc rs k (i + 1)) o :=
  h.congr fun e => by rw [pi_iff hx]; exact ⟨.inl, fun h => h.elim id (fun h => (hn h.2).elim)⟩
theorem pi_or {rs : _root_.List Ru} {k i : Nat} {x : Ev} (hx : (yearEvs rs (1850 + (k : Int)) rs.length)[i]? = some x) (hc : Close rs x) (e : Ev) : (PIc rs k i e ∨ e = x) ↔ PIc rs k (i + 1) e := by
  rw [pi_iff hx]
  exact ⟨fun h => h.imp id (fun h => ⟨h, hc⟩), fun h => h.imp id (fun h => h.1)⟩
theorem pi_first {rs : _root_.List Ru} {k i : Nat} {x : Ev} (hx : (yearEvs rs (1850 + (k : Int)) rs.length)[i]? = some x) (hc : Close rs x) (h : MinOf (PIc rs k i) none) : MinOf (PIc rs k (i + 1)) (some x) := h.first.congr (pi_or hx hc)
theorem pi_new {rs : _root_.List Ru} {k i : Nat} {x y : Ev} (hx : (yearEvs rs (1850 + (k : Int)) rs.length)[i]? = some x) (hc : Close rs x) (h : MinOf (PIc rs k i) (some y)) (hl : x.lt y) : MinOf (PIc rs k (i + 1)) (some x) := (h.new hl).congr (pi_or hx hc)
theorem pi_old {rs : _root_.List Ru} {k i : Nat} {x y : Ev} (hx : (yearEvs rs (1850 + (k : Int)) rs.length)[i]? = some x) (hc : Close rs x) (h : MinOf (PIc rs k i) (some y)) (hl : ¬ x.lt y) : MinOf (PIc rs k (i + 1)) (some y) := (h.old hl).congr (pi_or hx hc)
/-- an event of a year is close, if one of its year or of a neighbouring year says so -/
theorem close_iff {rs : _root_.List Ru} {k : Nat} {x : Ev} (hk : k < 701) (hx : x ∈ (yearEvs rs (1850 + (k : Int)) rs.length)) : Close rs x ↔ (CloseIn (yearEvs rs (1850 + (k : Int)) rs.length) x ∨ (∃ p : Nat, p + 1 = k ∧ CloseIn (yearEvs rs (1850 + (p : Int)) rs.length) x) ∨ (k + 1 < 701 ∧ CloseIn (yearEvs rs (1850 + ((k + 1 : Nat) : Int)) rs.length) x)) := by
  obtain ⟨he, hy⟩ := mem_yearX.1 hx
  constructor
  · rintro ⟨_, d, ⟨hd, h1, h2⟩, hl, hn⟩
    have h3 := close_year he hd hl hn
    rcases (show d.year = 1850 + (k : Int) ∨ d.year = 1850 + (k : Int) - 1 ∨ d.year = 1850 + (k : Int) + 1 by omega) with h | h | h
    · exact .inl ⟨d, mem_yearX.2 ⟨hd, h⟩, hl, hn⟩
    · refine .inr (.inl ⟨k - 1, by omega, d, mem_yearX.2 ⟨hd, by omega⟩, hl, hn⟩)
    · exact .inr (.inr ⟨by omega, d, mem_yearX.2 ⟨hd, by omega⟩, hl, hn⟩)
  · have hX : IsX rs x := ⟨he, by omega, by omega⟩
    rintro (⟨d, hd, hl, hn⟩ | ⟨p, hp, d, hd, hl, hn⟩ | ⟨hk1, d, hd, hl, hn⟩)
    · obtain ⟨h1, h2⟩ := mem_yearX.1 hd
      exact ⟨hX, d, ⟨h1, by omega, by omega⟩, hl, hn⟩
    · obtain ⟨h1, h2⟩ := mem_yearX.1 hd
      exact ⟨hX, d, ⟨h1, by omega, by omega⟩, hl, hn⟩
    · obtain ⟨h1, h2⟩ := mem_yearX.1 hd
      exact ⟨hX, d, ⟨h1, by omega, by omega⟩, hl, hn⟩
theorem bool_of (p : Prop) : ∃ b : Bool, b = true ↔ p := by
  by_cases h : p
  · exact ⟨true, fun _ => h, fun _ => rfl⟩
  · exact ⟨false, fun h => (by cases h), fun k => (h k).elim⟩
theorem year_fit {rs : _root_.List Ru} {y : Int} {n : Nat} : ∀ d ∈ yearEvs rs y n, -70000000000000000 ≤ d.nom ∧ d.nom ≤ 70000000000000000 := fun d hd => nom_fit (mem_year.1 hd).1
theorem year_len {rs : _root_.List Ru} (h : rs.length ≤ 1000) (y : Int) : (yearEvs rs y rs.length).length ≤ 1000 := Nat.le_trans (yearEvs_len rs y rs.length) h
end Cv


namespace Cv
theorem there3y {V : World} {b : Nat} {t : TypeId} {x y z : Value} (h : V.heap[b]? = some (.cells #[x, y, z] t)) : V.there b 0 3 := by
  intro j hj
  have e : j = 0 ∨ j = 1 ∨ j = 2 := by omega
  rcases e with rfl | rfl | rfl
  · exact ⟨by rw [cellB h (i := 0) rfl]; rfl, frzB h _⟩
  · exact ⟨by rw [cellB h (i := 1) rfl]; rfl, frzB h _⟩
  · exact ⟨by rw [cellB h (i := 2) rfl]; rfl, frzB h _⟩
theorem row_cell {w : World} {b n i : Nat} {t : TypeId} {f : Nat → Value} {v : Value} (h : w.rowIs b t n f) (hi : i < n) (hv : f i = v) : w.cell? ⟨b, i, none⟩ = some v := by rw [← hv]; exact h.cell hi
end Cv

set_option maxRecDepth 100000 in
set_option maxHeartbeats 32000000 in
theorem refCheck18_any (a : Value) (rs : _root_.List Ru) (W : World) (h : Rul a rs W) : Calls Tryd.prog 12 #[a] W (ChkR rs W) := by
  obtain ⟨A, cap, rfl⟩ := h.sl
  have H := Lib.hid h
  have HLEN := Lib.hid h.len
  clear h
  go_enter Tryd.func12, Tryd.ntmps12
  go_wp2_with fail
  refine (explicit_any _ rs _ (by exact H.out.below (bel_alloc W (.cells #[.int .i64 0, .int .i64 0, .int .i64 0] 25)))).mono ?_
  rintro e w2 ⟨V, rfl, HRW0, HV, hb2⟩
  have HZ0 := Lib.hid (block_below (heap_alloc_new W (.cells #[.int .i64 0, .int .i64 0, .int .i64 0] 25)) hb2)
  have HB0 := Lib.hid (bel_trans (bel_alloc W (.cells #[.int .i64 0, .int .i64 0, .int .i64 0] 25)) hb2)
  obtain ⟨B, hB⟩ : ∃ B, B = W.heap.size + 1 := ⟨_, rfl⟩
  have hB2 : (W.alloc (.cells #[.int .i64 0, .int .i64 0, .int .i64 0] 25)).heap.size = B := by rw [hB]; simp
  rw [hB2] at HRW0
  have HBZ := Lib.hid (show W.heap.size < w2.heap.size from (Array.getElem?_eq_some_iff.1 HZ0.out).1)
  have HLTB := Lib.hid HRW0.out.lt
  go_simp
  rw [← hB]
  clear hB hB2 hb2
  go_wp2_with fail
  go_loopw [6, 7] (fun f y wr => ∃ (k : Nat) (wq : World), k ≤ 701 ∧ y = .int .i64 (k : Int) ∧ wr = wq ∧ Hid (Below w2.heap.size w2 wq) ∧ (((f = .bool false) ∧ Hid (wq.heap[w2.heap.size]? = some (.cells #[.int .i64 0, .int .i64 0, .int .i64 0] 25)) ∧ Hid (MinOf (PC rs k) none)) ∨ (∃ ey er en : Int, f = .bool true ∧ Hid (wq.heap[w2.heap.size]? = some (.cells #[.int .i64 ey, .int .i64 er, .int .i64 en] 25)) ∧ Hid (MinOf (PC rs k) (some ⟨ey, er, en⟩))))) (fun _ y _ => 701 - (intOf y).toNat)
  case atStart => exact ⟨0, _, by omega, rfl, rfl, Lib.hid (bel_alloc _ _), .inl ⟨rfl, Lib.hid (heap_alloc_new _ _), Lib.hid (pc_zero rs)⟩⟩
  case round =>
    obtain ⟨k, wq, hk, rfl, rfl, HB, hst⟩ := hrel
    have HST := Lib.hid hst
    clear hst
    by_cases hkm : k < 701
    · have hk0 : (0 : Int) ≤ (k : Int) := by omega
      have hk1 : (k : Int) < 701 := by omega
      obtain ⟨Ak, ck, hVk⟩ := (HV.out k hkm).sl
      obtain ⟨nk, hnk⟩ : ∃ nk, nk = (yearEvs rs (1850 + (k : Int)) rs.length).length := ⟨_, rfl⟩
      rw [← hnk] at hVk
      have HVk := Lib.hid hVk
      have HNK := Lib.hid hnk
      have HUk0 := Lib.hid (show RdEv (.slice Ak nk ck) (yearEvs rs (1850 + (k : Int)) rs.length) w2 by rw [← hVk]; exact HV.out k hkm)
      have hnl : nk ≤ 1000 := by rw [hnk]; exact year_len HLEN.out _
      clear hVk hnk
      go_wp2_with fail
      go_loopw [6, 8] (fun f i wx => ∃ (j : Nat) (wz : World), j ≤ nk ∧ i = .int .i64 (j : Int) ∧ wx = wz ∧ Hid (Below w2.heap.size w2 wz) ∧ (((f = .bool false) ∧ Hid (wz.heap[w2.heap.size]? = some (.cells #[.int .i64 0, .int .i64 0, .int .i64 0] 25)) ∧ Hid (MinOf (PIc rs k j) none)) ∨ (∃ ey er en : Int, f = .bool true ∧ Hid (wz.heap[w2.heap.size]? = some (.cells #[.int .i64 ey, .int .i64 er, .int .i64 en] 25)) ∧ Hid (MinOf (PIc rs k j) (some ⟨ey, er, en⟩))))) (fun _ i _ => nk - (intOf i).toNat)
      case atStart =>
        have hst := HST.out
        refine ⟨0, _, by omega, rfl, rfl, HB, ?_⟩
        rcases hst with ⟨h1, h2, h3⟩ | ⟨ey, er, en, h1, h2, h3⟩
        · exact .inl ⟨h1, h2, Lib.hid (pc_start h3.out)⟩
        · exact .inr ⟨ey, er, en, h1, h2, Lib.hid (pc_start h3.out)⟩
      case round =>
        clear HST HB
        obtain ⟨j, wz, hj, rfl, rfl, HB, hst⟩ := hrel
        have HST := Lib.hid hst
        clear hst
        have HRW1 := Lib.hid (row_below HRW0.out HB.out)
        have cBk := row_cell HRW1.out hkm HVk.out
        by_cases hjn : j < nk
        · obtain ⟨x, hx⟩ : ∃ x, (yearEvs rs (1850 + (k : Int)) rs.length)[j]? = some x := ⟨_, _root_.List.getElem?_eq_getElem (by rw [← HNK.out]; exact hjn)⟩
          obtain ⟨g, off, rfl, a0, a1, a2⟩ := (HUk0.out.below HB.out).at_ hx
          have HX := Lib.hid hx
          have HMEM := Lib.hid (_root_.List.mem_of_getElem? hx)
          obtain ⟨hx1, hx2⟩ := year_fit x HMEM.out
          obtain ⟨xy, xr, xn⟩ := x
          dsimp only at a0 a1 a2 hx1 hx2
          have hj0 : (0 : Int) ≤ (j : Int) := by omega
          have hj1 : (j : Int) < (nk : Int) := by omega
          clear hx
          obtain ⟨nr, hnr⟩ := bool_of (Close rs ⟨xy, xr, xn⟩)
          have HNR := Lib.hid hnr
          clear hnr
          go_upto_region 11 with fail
          clear a0 a1 a2 cBk
          have HB9 := Lib.hid (bel_trans HB.out (bel_alloc wr (.cells #[.int .i64 xy, .int .i64 xr, .int .i64 xn] 25)))
          have HRW := Lib.hid (show (wr.alloc (.cells #[.int .i64 xy, .int .i64 xr, .int .i64 xn] 25)).drew.rowIs B 42 701 V from (row_below HRW0.out HB9.out).drew)
          have HE9 := Lib.hid (show (wr.alloc (.cells #[.int .i64 xy, .int .i64 xr, .int .i64 xn] 25)).drew.heap[wr.heap.size]? = some (.cells #[.int .i64 xy, .int .i64 xr, .int .i64 xn] 25) from heap_alloc_new wr (.cells #[.int .i64 xy, .int .i64 xr, .int .i64 xn] 25))
          have HUk := Lib.hid (show RdEv (.slice (some ⟨g, off, none⟩) nk ck) (yearEvs rs (1850 + (k : Int)) rs.length) (wr.alloc (.cells #[.int .i64 xy, .int .i64 xr, .int .i64 xn] 25)).drew from HUk0.out.below (Below.drew HB9.out))
          have HST9 := Lib.hid (show (((u6 = .bool false) ∧ Hid ((wr.alloc (.cells #[.int .i64 xy, .int .i64 xr, .int .i64 xn] 25)).heap[w2.heap.size]? = some (.cells #[.int .i64 0, .int .i64 0, .int .i64 0] 25)) ∧ Hid (MinOf (PIc rs k j) none)) ∨ (∃ ey er en : Int, u6 = .bool true ∧ Hid ((wr.alloc (.cells #[.int .i64 xy, .int .i64 xr, .int .i64 xn] 25)).heap[w2.heap.size]? = some (.cells #[.int .i64 ey, .int .i64 er, .int .i64 en] 25)) ∧ Hid (MinOf (PIc rs k j) (some ⟨ey, er, en⟩)))) from by
            rcases HST.out with ⟨h1, h2, h3⟩ | ⟨ey, er, en, h1, h2, h3⟩
            · exact .inl ⟨h1, Lib.hid (block_below h2.out (bel_alloc wr (.cells #[.int .i64 xy, .int .i64 xr, .int .i64 xn] 25))), h3⟩
            · exact .inr ⟨ey, er, en, h1, Lib.hid (block_below h2.out (bel_alloc wr (.cells #[.int .i64 xy, .int .i64 xr, .int .i64 xn] 25))), h3⟩)
          go_cut [10] (fun s w' => s = .bool nr ∧ Hid (Below (wr.alloc (.cells #[.int .i64 xy, .int .i64 xr, .int .i64 xn] 25)).drew.heap.size (wr.alloc (.cells #[.int .i64 xy, .int .i64 xr, .int .i64 xn] 25)).drew w'))
          case first =>
            obtain ⟨c0, hc0⟩ := bool_of (CloseIn (yearEvs rs (1850 + (k : Int)) rs.length) ⟨xy, xr, xn⟩)
            cases c0 with
            | true =>
              have HCk := Lib.hid (hc0.1 rfl)
              have HRES := Lib.hid (show true = nr from (HNR.out.2 ((close_iff hkm HMEM.out).2 (.inl HCk.out))).symm)
              clear hc0
              go_wp2_with fail
              refine wp_region_held_drew (S := (fun w' => w'.cell? ⟨wr.heap.size, 0, none⟩ = some (.int .i64 xy) ∧ w'.cell? ⟨wr.heap.size, 1, none⟩ = some (.int .i64 xr) ∧ w'.cell? ⟨wr.heap.size, 2, none⟩ = some (.int .i64 xn) ∧ w'.cell? ⟨B, k, none⟩ = some (.slice (some ⟨g, off, none⟩) nk ck))) (by kernel_rfl) (by exact ⟨cellB HE9.out (i := 0) rfl, cellB HE9.out (i := 1) rfl, cellB HE9.out (i := 2) rfl, row_cell HRW.out hkm HVk.out⟩) (fun hHeld => ?_)
              refine wpAnyH_take (i := 0) (v := ?_) rfl (by kernel_rfl) (by kernel_rfl) (by kernel_rfl) (fun _ _ _ h => h) (Or.inl ⟨by rfl, ?_⟩) (by assumption) ?_
              rotate_left 1
              · (intro w hSw; (try dsimp only at hSw); first | (go_simp; done) | (go_simp; with_reducible rfl))
              try simp only [Act.put, List.getElem_toArray, List.getElem_cons_succ, List.getElem_cons_zero, List.setIfInBounds_toArray, List.set_cons_zero, List.set_cons_succ]
              refine wpAnyH_take (i := 1) (v := ?_) rfl (by kernel_rfl) (by kernel_rfl) (by kernel_rfl) (fun _ _ _ h => h) (Or.inl ⟨by rfl, ?_⟩) (by assumption) ?_
              rotate_left 1
              · (intro w hSw; (try dsimp only at hSw); first | (go_simp; done) | (go_simp; with_reducible rfl))
              try simp only [Act.put, List.getElem_toArray, List.getElem_cons_succ, List.getElem_cons_zero, List.setIfInBounds_toArray, List.set_cons_zero, List.set_cons_succ]
              refine wpAnyH_take (i := 2) (v := ?_) rfl (by kernel_rfl) (by kernel_rfl) (by kernel_rfl) (fun _ _ _ h => h) (Or.inl ⟨by rfl, ?_⟩) (by assumption) ?_
              rotate_left 1
              · (intro w hSw; (try dsimp only at hSw); first | (go_simp; done) | (go_simp; with_reducible rfl))
              try simp only [Act.put, List.getElem_toArray, List.getElem_cons_succ, List.getElem_cons_zero, List.setIfInBounds_toArray, List.set_cons_zero, List.set_cons_succ]
              refine wpAnyH_take (i := 3) (v := ?_) rfl (by kernel_rfl) (by kernel_rfl) (by kernel_rfl) (fun _ _ _ h => h) (Or.inl ⟨by rfl, ?_⟩) (by assumption) ?_
              rotate_left 1
              · (intro w hSw; (try dsimp only at hSw); first | (go_simp; done) | (go_simp; with_reducible rfl))
              try simp only [Act.put, List.getElem_toArray, List.getElem_cons_succ, List.getElem_cons_zero, List.setIfInBounds_toArray, List.set_cons_zero, List.set_cons_succ]
              refine wpAnyH_take (i := 4) (v := ?_) rfl (by kernel_rfl) (by kernel_rfl) (by kernel_rfl) (fun _ _ _ h => h) (Or.inl ⟨by rfl, ?_⟩) (by assumption) ?_
              rotate_left 1
              · (intro w hSw; (try dsimp only at hSw); first | (go_simp; done) | (go_simp; with_reducible rfl))
              try simp only [Act.put, List.getElem_toArray, List.getElem_cons_succ, List.getElem_cons_zero, List.setIfInBounds_toArray, List.set_cons_zero, List.set_cons_succ]
              refine wpAnyH_ready (rs := [5]) (by kernel_rfl) (by simp) ?_
              refine AllReadyH.cons rfl (fun K hK => ?_) AllReadyH.nil
              go_simp
              refine (refClose_any xy xr xn (.slice (some ⟨g, off, none⟩) nk ck) (yearEvs rs (1850 + (k : Int)) rs.length) true _ (by exact HUk.out) (year_len HLEN.out _) hx1 hx2 year_fit (Lib.hid ⟨fun _ => HCk.out, fun _ => rfl⟩)).mono ?_
              rintro e wc0 ⟨rfl, hbc0⟩
              go_wp2_with fail
              refine hK.out _ _ ?_ (fun hHeld => ?_)
              · exact ⟨cellB (block_below HE9.out hbc0) (i := 0) rfl, cellB (block_below HE9.out hbc0) (i := 1) rfl, cellB (block_below HE9.out hbc0) (i := 2) rfl, row_cell (row_below HRW.out hbc0) hkm HVk.out⟩
              clear hK K
              try simp only [Act.put, List.getElem_toArray, List.getElem_cons_succ, List.getElem_cons_zero, List.setIfInBounds_toArray, List.set_cons_zero, List.set_cons_succ]
              refine wpAnyH_take (i := 6) (v := ?_) rfl (by kernel_rfl) (by kernel_rfl) (by kernel_rfl) (fun _ _ _ h => h) (Or.inl ⟨by rfl, ?_⟩) (by assumption) ?_
              rotate_left 1
              · (intro w hSw; (try dsimp only at hSw); first | (go_simp; done) | (go_simp; with_reducible rfl))
              try simp only [Act.put, List.getElem_toArray, List.getElem_cons_succ, List.getElem_cons_zero, List.setIfInBounds_toArray, List.set_cons_zero, List.set_cons_succ]
              refine wpAnyH_take (i := 7) (v := undef) rfl (by kernel_rfl) (by kernel_rfl) (by kernel_rfl) (fun _ _ _ h => h) (Or.inr ⟨by rfl, rfl⟩) (by assumption) ?_
              try simp only [Act.put, List.getElem_toArray, List.getElem_cons_succ, List.getElem_cons_zero, List.setIfInBounds_toArray, List.set_cons_zero, List.set_cons_succ]
              refine wpAnyH_take (i := 8) (v := undef) rfl (by kernel_rfl) (by kernel_rfl) (by kernel_rfl) (fun _ _ _ h => h) (Or.inr ⟨by rfl, rfl⟩) (by assumption) ?_
              try simp only [Act.put, List.getElem_toArray, List.getElem_cons_succ, List.getElem_cons_zero, List.setIfInBounds_toArray, List.set_cons_zero, List.set_cons_succ]
              refine wpAnyH_take (i := 9) (v := undef) rfl (by kernel_rfl) (by kernel_rfl) (by kernel_rfl) (fun _ _ _ h => h) (Or.inr ⟨by rfl, rfl⟩) (by assumption) ?_
              try simp only [Act.put, List.getElem_toArray, List.getElem_cons_succ, List.getElem_cons_zero, List.setIfInBounds_toArray, List.set_cons_zero, List.set_cons_succ]
              refine wpAnyH_take (i := 10) (v := undef) rfl (by kernel_rfl) (by kernel_rfl) (by kernel_rfl) (fun _ _ _ h => h) (Or.inr ⟨by rfl, rfl⟩) (by assumption) ?_
              try simp only [Act.put, List.getElem_toArray, List.getElem_cons_succ, List.getElem_cons_zero, List.setIfInBounds_toArray, List.set_cons_zero, List.set_cons_succ]
              refine wpAnyH_take (i := 11) (v := undef) rfl (by kernel_rfl) (by kernel_rfl) (by kernel_rfl) (fun _ _ _ h => h) (Or.inr ⟨by rfl, rfl⟩) (by assumption) ?_
              try simp only [Act.put, List.getElem_toArray, List.getElem_cons_succ, List.getElem_cons_zero, List.setIfInBounds_toArray, List.set_cons_zero, List.set_cons_succ]
              refine wpAnyH_take (i := 12) (v := undef) rfl (by kernel_rfl) (by kernel_rfl) (by kernel_rfl) (fun _ _ _ h => h) (Or.inr ⟨by rfl, rfl⟩) (by assumption) ?_
              try simp only [Act.put, List.getElem_toArray, List.getElem_cons_succ, List.getElem_cons_zero, List.setIfInBounds_toArray, List.set_cons_zero, List.set_cons_succ]
              refine wpAnyH_take (i := 13) (v := undef) rfl (by kernel_rfl) (by kernel_rfl) (by kernel_rfl) (fun _ _ _ h => h) (Or.inr ⟨by rfl, rfl⟩) (by assumption) ?_
              try simp only [Act.put, List.getElem_toArray, List.getElem_cons_succ, List.getElem_cons_zero, List.setIfInBounds_toArray, List.set_cons_zero, List.set_cons_succ]
              refine wpAnyH_take (i := 14) (v := undef) rfl (by kernel_rfl) (by kernel_rfl) (by kernel_rfl) (fun _ _ _ h => h) (Or.inr ⟨by rfl, rfl⟩) (by assumption) ?_
              try simp only [Act.put, List.getElem_toArray, List.getElem_cons_succ, List.getElem_cons_zero, List.setIfInBounds_toArray, List.set_cons_zero, List.set_cons_succ]
              refine wpAnyH_take (i := 15) (v := undef) rfl (by kernel_rfl) (by kernel_rfl) (by kernel_rfl) (fun _ _ _ h => h) (Or.inr ⟨by rfl, rfl⟩) (by assumption) ?_
              try simp only [Act.put, List.getElem_toArray, List.getElem_cons_succ, List.getElem_cons_zero, List.setIfInBounds_toArray, List.set_cons_zero, List.set_cons_succ]
              refine wpAnyH_take (i := 16) (v := undef) rfl (by kernel_rfl) (by kernel_rfl) (by kernel_rfl) (fun _ _ _ h => h) (Or.inr ⟨by rfl, rfl⟩) (by assumption) ?_
              try simp only [Act.put, List.getElem_toArray, List.getElem_cons_succ, List.getElem_cons_zero, List.setIfInBounds_toArray, List.set_cons_zero, List.set_cons_succ]
              refine wpAnyH_take (i := 17) (v := undef) rfl (by kernel_rfl) (by kernel_rfl) (by kernel_rfl) (fun _ _ _ h => h) (Or.inr ⟨by rfl, rfl⟩) (by assumption) ?_
              try simp only [Act.put, List.getElem_toArray, List.getElem_cons_succ, List.getElem_cons_zero, List.setIfInBounds_toArray, List.set_cons_zero, List.set_cons_succ]
              refine wpAnyH_take (i := 18) (v := ?_) rfl (by kernel_rfl) (by kernel_rfl) (by kernel_rfl) (fun _ _ _ h => h) (Or.inl ⟨by rfl, ?_⟩) (by assumption) ?_
              rotate_left 1
              · (intro w hSw; (try dsimp only at hSw); first | (go_simp; done) | (go_simp; with_reducible rfl))
              try simp only [Act.put, List.getElem_toArray, List.getElem_cons_succ, List.getElem_cons_zero, List.setIfInBounds_toArray, List.set_cons_zero, List.set_cons_succ]
              refine wpAnyH_take (i := 19) (v := ?_) rfl (by kernel_rfl) (by kernel_rfl) (by kernel_rfl) (fun _ _ _ h => h) (Or.inl ⟨by rfl, ?_⟩) (by assumption) ?_
              rotate_left 1
              · (intro w hSw; (try dsimp only at hSw); first | (go_simp; done) | (go_simp; with_reducible rfl))
              try simp only [Act.put, List.getElem_toArray, List.getElem_cons_succ, List.getElem_cons_zero, List.setIfInBounds_toArray, List.set_cons_zero, List.set_cons_succ]
              refine wpAnyH_take (i := 20) (v := undef) rfl (by kernel_rfl) (by kernel_rfl) (by kernel_rfl) (fun _ _ _ h => h) (Or.inr ⟨by rfl, rfl⟩) (by assumption) ?_
              try simp only [Act.put, List.getElem_toArray, List.getElem_cons_succ, List.getElem_cons_zero, List.setIfInBounds_toArray, List.set_cons_zero, List.set_cons_succ]
              refine wpAnyH_take (i := 21) (v := undef) rfl (by kernel_rfl) (by kernel_rfl) (by kernel_rfl) (fun _ _ _ h => h) (Or.inr ⟨by rfl, rfl⟩) (by assumption) ?_
              try simp only [Act.put, List.getElem_toArray, List.getElem_cons_succ, List.getElem_cons_zero, List.setIfInBounds_toArray, List.set_cons_zero, List.set_cons_succ]
              refine wpAnyH_take (i := 22) (v := undef) rfl (by kernel_rfl) (by kernel_rfl) (by kernel_rfl) (fun _ _ _ h => h) (Or.inr ⟨by rfl, rfl⟩) (by assumption) ?_
              try simp only [Act.put, List.getElem_toArray, List.getElem_cons_succ, List.getElem_cons_zero, List.setIfInBounds_toArray, List.set_cons_zero, List.set_cons_succ]
              refine wpAnyH_take (i := 23) (v := undef) rfl (by kernel_rfl) (by kernel_rfl) (by kernel_rfl) (fun _ _ _ h => h) (Or.inr ⟨by rfl, rfl⟩) (by assumption) ?_
              try simp only [Act.put, List.getElem_toArray, List.getElem_cons_succ, List.getElem_cons_zero, List.setIfInBounds_toArray, List.set_cons_zero, List.set_cons_succ]
              refine wpAnyH_take (i := 24) (v := undef) rfl (by kernel_rfl) (by kernel_rfl) (by kernel_rfl) (fun _ _ _ h => h) (Or.inr ⟨by rfl, rfl⟩) (by assumption) ?_
              try simp only [Act.put, List.getElem_toArray, List.getElem_cons_succ, List.getElem_cons_zero, List.setIfInBounds_toArray, List.set_cons_zero, List.set_cons_succ]
              refine wpAnyH_take (i := 25) (v := undef) rfl (by kernel_rfl) (by kernel_rfl) (by kernel_rfl) (fun _ _ _ h => h) (Or.inr ⟨by rfl, rfl⟩) (by assumption) ?_
              try simp only [Act.put, List.getElem_toArray, List.getElem_cons_succ, List.getElem_cons_zero, List.setIfInBounds_toArray, List.set_cons_zero, List.set_cons_succ]
              refine wpAnyH_take (i := 26) (v := undef) rfl (by kernel_rfl) (by kernel_rfl) (by kernel_rfl) (fun _ _ _ h => h) (Or.inr ⟨by rfl, rfl⟩) (by assumption) ?_
              try simp only [Act.put, List.getElem_toArray, List.getElem_cons_succ, List.getElem_cons_zero, List.setIfInBounds_toArray, List.set_cons_zero, List.set_cons_succ]
              refine wpAnyH_take (i := 27) (v := undef) rfl (by kernel_rfl) (by kernel_rfl) (by kernel_rfl) (fun _ _ _ h => h) (Or.inr ⟨by rfl, rfl⟩) (by assumption) ?_
              try simp only [Act.put, List.getElem_toArray, List.getElem_cons_succ, List.getElem_cons_zero, List.setIfInBounds_toArray, List.set_cons_zero, List.set_cons_succ]
              refine wpAnyH_take (i := 28) (v := undef) rfl (by kernel_rfl) (by kernel_rfl) (by kernel_rfl) (fun _ _ _ h => h) (Or.inr ⟨by rfl, rfl⟩) (by assumption) ?_
              try simp only [Act.put, List.getElem_toArray, List.getElem_cons_succ, List.getElem_cons_zero, List.setIfInBounds_toArray, List.set_cons_zero, List.set_cons_succ]
              refine wpAnyH_take (i := 29) (v := undef) rfl (by kernel_rfl) (by kernel_rfl) (by kernel_rfl) (fun _ _ _ h => h) (Or.inr ⟨by rfl, rfl⟩) (by assumption) ?_
              try simp only [Act.put, List.getElem_toArray, List.getElem_cons_succ, List.getElem_cons_zero, List.setIfInBounds_toArray, List.set_cons_zero, List.set_cons_succ]
              refine wpAnyH_take (i := 30) (v := undef) rfl (by kernel_rfl) (by kernel_rfl) (by kernel_rfl) (fun _ _ _ h => h) (Or.inr ⟨by rfl, rfl⟩) (by assumption) ?_
              try simp only [Act.put, List.getElem_toArray, List.getElem_cons_succ, List.getElem_cons_zero, List.setIfInBounds_toArray, List.set_cons_zero, List.set_cons_succ]
              refine wpAnyH_take (i := 31) (v := undef) rfl (by kernel_rfl) (by kernel_rfl) (by kernel_rfl) (fun _ _ _ h => h) (Or.inr ⟨by rfl, rfl⟩) (by assumption) ?_
              try simp only [Act.put, List.getElem_toArray, List.getElem_cons_succ, List.getElem_cons_zero, List.setIfInBounds_toArray, List.set_cons_zero, List.set_cons_succ]
              refine wpAnyH_take (i := 32) (v := undef) rfl (by kernel_rfl) (by kernel_rfl) (by kernel_rfl) (fun _ _ _ h => h) (Or.inr ⟨by rfl, rfl⟩) (by assumption) ?_
              try simp only [Act.put, List.getElem_toArray, List.getElem_cons_succ, List.getElem_cons_zero, List.setIfInBounds_toArray, List.set_cons_zero, List.set_cons_succ]
              refine wpAnyH_take (i := 33) (v := undef) rfl (by kernel_rfl) (by kernel_rfl) (by kernel_rfl) (fun _ _ _ h => h) (Or.inr ⟨by rfl, rfl⟩) (by assumption) ?_
              try simp only [Act.put, List.getElem_toArray, List.getElem_cons_succ, List.getElem_cons_zero, List.setIfInBounds_toArray, List.set_cons_zero, List.set_cons_succ]
              refine wpAnyH_take (i := 34) (v := ?_) rfl (by kernel_rfl) (by kernel_rfl) (by kernel_rfl) (fun _ _ _ h => h) (Or.inl ⟨by rfl, ?_⟩) (by assumption) ?_
              rotate_left 1
              · (intro w hSw; (try dsimp only at hSw); first | (go_simp; done) | (go_simp; with_reducible rfl))
              try simp only [Act.put, List.getElem_toArray, List.getElem_cons_succ, List.getElem_cons_zero, List.setIfInBounds_toArray, List.set_cons_zero, List.set_cons_succ]
              refine wpAnyH_take (i := 35) (v := ?_) rfl (by kernel_rfl) (by kernel_rfl) (by kernel_rfl) (fun _ _ _ h => h) (Or.inl ⟨by rfl, ?_⟩) (by assumption) ?_
              rotate_left 1
              · (intro w hSw; (try dsimp only at hSw); first | (go_simp; done) | (go_simp; with_reducible rfl))
              try simp only [Act.put, List.getElem_toArray, List.getElem_cons_succ, List.getElem_cons_zero, List.setIfInBounds_toArray, List.set_cons_zero, List.set_cons_succ]
              refine wpAnyH_done (by kernel_rfl) ?_ _
              go_wp2_with fail
              go_meet
              case rel => exact ⟨by rw [HRES.out], Lib.hid hbc0⟩
            | false =>
              have HCk := Lib.hid (show ¬ CloseIn (yearEvs rs (1850 + (k : Int)) rs.length) ⟨xy, xr, xn⟩ from fun h => (by cases hc0.2 h))
              clear hc0
              rcases Nat.eq_zero_or_pos k with hz | hz
              · obtain ⟨kn, hkn1⟩ : ∃ kn, kn = k + 1 := ⟨_, rfl⟩
                have hkn : kn < 701 := by omega
                have hwn : IntKind.i64.wrap ((k : Int) + 1) = (kn : Int) := by rw [show (k : Int) + 1 = (kn : Int) by omega]; exact IntWalk.i64_in _ (by omega)
                have hn0 : (0 : Int) ≤ (kn : Int) := by omega
                have hn1 : (kn : Int) < 701 := by omega
                have hkd : decide ((0 : Int) < (k : Int)) = false := by simp; omega
                have hkd2 : decide (0 < k) = false := by simp; omega
                have hkd3 : (k : Int) ≤ 0 := by omega
                obtain ⟨An, cn, hVn⟩ := (HV.out kn hkn).sl
                obtain ⟨nn, hnn⟩ : ∃ nn, nn = (yearEvs rs (1850 + (kn : Int)) rs.length).length := ⟨_, rfl⟩
                rw [← hnn] at hVn
                have HVn := Lib.hid hVn
                have HUn := Lib.hid (show RdEv (.slice An nn cn) (yearEvs rs (1850 + (kn : Int)) rs.length) (wr.alloc (.cells #[.int .i64 xy, .int .i64 xr, .int .i64 xn] 25)).drew by rw [← hVn]; exact (HV.out kn hkn).below (Below.drew HB9.out))
                obtain ⟨cn2, hc2⟩ := bool_of (CloseIn (yearEvs rs (1850 + (kn : Int)) rs.length) ⟨xy, xr, xn⟩)
                have HCn := Lib.hid hc2
                have HRES := Lib.hid (show cn2 = nr by
                  rw [Bool.eq_iff_iff, HNR.out, close_iff hkm HMEM.out, hc2]
                  constructor
                  · intro h; exact .inr (.inr ⟨by omega, by rw [← hkn1]; exact h⟩)
                  · rintro (h | ⟨p, hp, h⟩ | ⟨_, h⟩)
                    · exact (HCk.out h).elim
                    · omega
                    · rw [hkn1]; exact h)
                clear hc2 hnn hVn hz hkn1
                go_wp2_with fail
                refine wp_region_held_drew (S := (fun w' => w'.cell? ⟨wr.heap.size, 0, none⟩ = some (.int .i64 xy) ∧ w'.cell? ⟨wr.heap.size, 1, none⟩ = some (.int .i64 xr) ∧ w'.cell? ⟨wr.heap.size, 2, none⟩ = some (.int .i64 xn) ∧ w'.cell? ⟨B, k, none⟩ = some (.slice (some ⟨g, off, none⟩) nk ck) ∧ w'.cell? ⟨B, kn, none⟩ = some (.slice An nn cn))) (by kernel_rfl) (by exact ⟨cellB HE9.out (i := 0) rfl, cellB HE9.out (i := 1) rfl, cellB HE9.out (i := 2) rfl, row_cell HRW.out hkm HVk.out, row_cell HRW.out hkn HVn.out⟩) (fun hHeld => ?_)
                refine wpAnyH_take (i := 0) (v := ?_) rfl (by kernel_rfl) (by kernel_rfl) (by kernel_rfl) (fun _ _ _ h => h) (Or.inl ⟨by rfl, ?_⟩) (by assumption) ?_
                rotate_left 1
                · (intro w hSw; (try dsimp only at hSw); first | (go_simp; done) | (go_simp; with_reducible rfl))
                try simp only [Act.put, List.getElem_toArray, List.getElem_cons_succ, List.getElem_cons_zero, List.setIfInBounds_toArray, List.set_cons_zero, List.set_cons_succ]
                refine wpAnyH_take (i := 1) (v := ?_) rfl (by kernel_rfl) (by kernel_rfl) (by kernel_rfl) (fun _ _ _ h => h) (Or.inl ⟨by rfl, ?_⟩) (by assumption) ?_
                rotate_left 1
                · (intro w hSw; (try dsimp only at hSw); first | (go_simp; done) | (go_simp; with_reducible rfl))
                try simp only [Act.put, List.getElem_toArray, List.getElem_cons_succ, List.getElem_cons_zero, List.setIfInBounds_toArray, List.set_cons_zero, List.set_cons_succ]
                refine wpAnyH_take (i := 2) (v := ?_) rfl (by kernel_rfl) (by kernel_rfl) (by kernel_rfl) (fun _ _ _ h => h) (Or.inl ⟨by rfl, ?_⟩) (by assumption) ?_
                rotate_left 1
                · (intro w hSw; (try dsimp only at hSw); first | (go_simp; done) | (go_simp; with_reducible rfl))
                try simp only [Act.put, List.getElem_toArray, List.getElem_cons_succ, List.getElem_cons_zero, List.setIfInBounds_toArray, List.set_cons_zero, List.set_cons_succ]
                refine wpAnyH_take (i := 3) (v := ?_) rfl (by kernel_rfl) (by kernel_rfl) (by kernel_rfl) (fun _ _ _ h => h) (Or.inl ⟨by rfl, ?_⟩) (by assumption) ?_
                rotate_left 1
                · (intro w hSw; (try dsimp only at hSw); first | (go_simp; done) | (go_simp; with_reducible rfl))
                try simp only [Act.put, List.getElem_toArray, List.getElem_cons_succ, List.getElem_cons_zero, List.setIfInBounds_toArray, List.set_cons_zero, List.set_cons_succ]
                refine wpAnyH_take (i := 4) (v := ?_) rfl (by kernel_rfl) (by kernel_rfl) (by kernel_rfl) (fun _ _ _ h => h) (Or.inl ⟨by rfl, ?_⟩) (by assumption) ?_
                rotate_left 1
                · (intro w hSw; (try dsimp only at hSw); first | (go_simp; done) | (go_simp; with_reducible rfl))
                try simp only [Act.put, List.getElem_toArray, List.getElem_cons_succ, List.getElem_cons_zero, List.setIfInBounds_toArray, List.set_cons_zero, List.set_cons_succ]
                refine wpAnyH_ready (rs := [5]) (by kernel_rfl) (by simp) ?_
                refine AllReadyH.cons rfl (fun K hK => ?_) AllReadyH.nil
                go_simp
                refine (refClose_any xy xr xn (.slice (some ⟨g, off, none⟩) nk ck) (yearEvs rs (1850 + (k : Int)) rs.length) false _ (by exact HUk.out) (year_len HLEN.out _) hx1 hx2 year_fit (Lib.hid ⟨fun h => (by cases h), fun h => (HCk.out h).elim⟩)).mono ?_
                rintro e wc0 ⟨rfl, hbc0⟩
                go_wp2_with fail
                refine hK.out _ _ ?_ (fun hHeld => ?_)
                · exact ⟨cellB (block_below HE9.out hbc0) (i := 0) rfl, cellB (block_below HE9.out hbc0) (i := 1) rfl, cellB (block_below HE9.out hbc0) (i := 2) rfl, row_cell (row_below HRW.out hbc0) hkm HVk.out, row_cell (row_below HRW.out hbc0) hkn HVn.out⟩
                clear hK K
                try simp only [Act.put, List.getElem_toArray, List.getElem_cons_succ, List.getElem_cons_zero, List.setIfInBounds_toArray, List.set_cons_zero, List.set_cons_succ]
                refine wpAnyH_take (i := 6) (v := ?_) rfl (by kernel_rfl) (by kernel_rfl) (by kernel_rfl) (fun _ _ _ h => h) (Or.inl ⟨by rfl, ?_⟩) (by assumption) ?_
                rotate_left 1
                · (intro w hSw; (try dsimp only at hSw); first | (go_simp; done) | (go_simp; with_reducible rfl))
                try simp only [Act.put, List.getElem_toArray, List.getElem_cons_succ, List.getElem_cons_zero, List.setIfInBounds_toArray, List.set_cons_zero, List.set_cons_succ]
                refine wpAnyH_take (i := 7) (v := ?_) rfl (by kernel_rfl) (by kernel_rfl) (by kernel_rfl) (fun _ _ _ h => h) (Or.inl ⟨by rfl, ?_⟩) (by assumption) ?_
                rotate_left 1
                · (intro w hSw; (try dsimp only at hSw); first | (go_simp; done) | (go_simp; with_reducible rfl))
                try simp only [Act.put, List.getElem_toArray, List.getElem_cons_succ, List.getElem_cons_zero, List.setIfInBounds_toArray, List.set_cons_zero, List.set_cons_succ]
                refine wpAnyH_take (i := 8) (v := ?_) rfl (by kernel_rfl) (by kernel_rfl) (by kernel_rfl) (fun _ _ _ h => h) (Or.inl ⟨by rfl, ?_⟩) (by assumption) ?_
                rotate_left 1
                · (intro w hSw; (try dsimp only at hSw); first | (go_simp; done) | (go_simp; with_reducible rfl))
                try simp only [Act.put, List.getElem_toArray, List.getElem_cons_succ, List.getElem_cons_zero, List.setIfInBounds_toArray, List.set_cons_zero, List.set_cons_succ]
                refine wpAnyH_take (i := 9) (v := ?_) rfl (by kernel_rfl) (by kernel_rfl) (by kernel_rfl) (fun _ _ _ h => h) (Or.inl ⟨by rfl, ?_⟩) (by assumption) ?_
                rotate_left 1
                · (intro w hSw; (try dsimp only at hSw); first | (go_simp; done) | (go_simp; with_reducible rfl))
                try simp only [Act.put, List.getElem_toArray, List.getElem_cons_succ, List.getElem_cons_zero, List.setIfInBounds_toArray, List.set_cons_zero, List.set_cons_succ]
                refine wpAnyH_take (i := 10) (v := undef) rfl (by kernel_rfl) (by kernel_rfl) (by kernel_rfl) (fun _ _ _ h => h) (Or.inr ⟨by rfl, rfl⟩) (by assumption) ?_
                try simp only [Act.put, List.getElem_toArray, List.getElem_cons_succ, List.getElem_cons_zero, List.setIfInBounds_toArray, List.set_cons_zero, List.set_cons_succ]
                refine wpAnyH_take (i := 11) (v := undef) rfl (by kernel_rfl) (by kernel_rfl) (by kernel_rfl) (fun _ _ _ h => h) (Or.inr ⟨by rfl, rfl⟩) (by assumption) ?_
                try simp only [Act.put, List.getElem_toArray, List.getElem_cons_succ, List.getElem_cons_zero, List.setIfInBounds_toArray, List.set_cons_zero, List.set_cons_succ]
                refine wpAnyH_take (i := 12) (v := undef) rfl (by kernel_rfl) (by kernel_rfl) (by kernel_rfl) (fun _ _ _ h => h) (Or.inr ⟨by rfl, rfl⟩) (by assumption) ?_
                try simp only [Act.put, List.getElem_toArray, List.getElem_cons_succ, List.getElem_cons_zero, List.setIfInBounds_toArray, List.set_cons_zero, List.set_cons_succ]
                refine wpAnyH_take (i := 13) (v := undef) rfl (by kernel_rfl) (by kernel_rfl) (by kernel_rfl) (fun _ _ _ h => h) (Or.inr ⟨by rfl, rfl⟩) (by assumption) ?_
                try simp only [Act.put, List.getElem_toArray, List.getElem_cons_succ, List.getElem_cons_zero, List.setIfInBounds_toArray, List.set_cons_zero, List.set_cons_succ]
                refine wpAnyH_take (i := 14) (v := undef) rfl (by kernel_rfl) (by kernel_rfl) (by kernel_rfl) (fun _ _ _ h => h) (Or.inr ⟨by rfl, rfl⟩) (by assumption) ?_
                try simp only [Act.put, List.getElem_toArray, List.getElem_cons_succ, List.getElem_cons_zero, List.setIfInBounds_toArray, List.set_cons_zero, List.set_cons_succ]
                refine wpAnyH_take (i := 15) (v := undef) rfl (by kernel_rfl) (by kernel_rfl) (by kernel_rfl) (fun _ _ _ h => h) (Or.inr ⟨by rfl, rfl⟩) (by assumption) ?_
                try simp only [Act.put, List.getElem_toArray, List.getElem_cons_succ, List.getElem_cons_zero, List.setIfInBounds_toArray, List.set_cons_zero, List.set_cons_succ]
                refine wpAnyH_take (i := 16) (v := undef) rfl (by kernel_rfl) (by kernel_rfl) (by kernel_rfl) (fun _ _ _ h => h) (Or.inr ⟨by rfl, rfl⟩) (by assumption) ?_
                try simp only [Act.put, List.getElem_toArray, List.getElem_cons_succ, List.getElem_cons_zero, List.setIfInBounds_toArray, List.set_cons_zero, List.set_cons_succ]
                refine wpAnyH_take (i := 17) (v := ?_) rfl (by kernel_rfl) (by kernel_rfl) (by kernel_rfl) (fun _ _ _ h => h) (Or.inl ⟨by rfl, ?_⟩) (by assumption) ?_
                rotate_left 1
                · (intro w hSw; (try dsimp only at hSw); first | (go_simp; done) | (go_simp; with_reducible rfl))
                try simp only [Act.put, List.getElem_toArray, List.getElem_cons_succ, List.getElem_cons_zero, List.setIfInBounds_toArray, List.set_cons_zero, List.set_cons_succ]
                refine wpAnyH_take (i := 18) (v := ?_) rfl (by kernel_rfl) (by kernel_rfl) (by kernel_rfl) (fun _ _ _ h => h) (Or.inl ⟨by rfl, ?_⟩) (by assumption) ?_
                rotate_left 1
                · (intro w hSw; (try dsimp only at hSw); first | (go_simp; done) | (go_simp; with_reducible rfl))
                try simp only [Act.put, List.getElem_toArray, List.getElem_cons_succ, List.getElem_cons_zero, List.setIfInBounds_toArray, List.set_cons_zero, List.set_cons_succ]
                refine wpAnyH_take (i := 19) (v := ?_) rfl (by kernel_rfl) (by kernel_rfl) (by kernel_rfl) (fun _ _ _ h => h) (Or.inl ⟨by rfl, ?_⟩) (by assumption) ?_
                rotate_left 1
                · (intro w hSw; (try dsimp only at hSw); first | (go_simp; done) | (go_simp; with_reducible rfl))
                try simp only [Act.put, List.getElem_toArray, List.getElem_cons_succ, List.getElem_cons_zero, List.setIfInBounds_toArray, List.set_cons_zero, List.set_cons_succ]
                refine wpAnyH_take (i := 20) (v := ?_) rfl (by kernel_rfl) (by kernel_rfl) (by kernel_rfl) (fun _ _ _ h => h) (Or.inl ⟨by rfl, ?_⟩) (by assumption) ?_
                rotate_left 1
                · (intro w hSw; (try dsimp only at hSw); first | (go_simp; done) | (go_simp; with_reducible rfl))
                try simp only [Act.put, List.getElem_toArray, List.getElem_cons_succ, List.getElem_cons_zero, List.setIfInBounds_toArray, List.set_cons_zero, List.set_cons_succ]
                refine wpAnyH_take (i := 21) (v := ?_) rfl (by kernel_rfl) (by kernel_rfl) (by kernel_rfl) (fun _ _ _ h => h) (Or.inl ⟨by rfl, ?_⟩) (by assumption) ?_
                rotate_left 1
                · (intro w hSw; (try dsimp only at hSw); first | (go_simp; done) | (go_simp; with_reducible rfl))
                try simp only [Act.put, List.getElem_toArray, List.getElem_cons_succ, List.getElem_cons_zero, List.setIfInBounds_toArray, List.set_cons_zero, List.set_cons_succ]
                refine wpAnyH_take (i := 22) (v := ?_) rfl (by kernel_rfl) (by kernel_rfl) (by kernel_rfl) (fun _ _ _ h => h) (Or.inl ⟨by rfl, ?_⟩) (by assumption) ?_
                rotate_left 1
                · (intro w hSw; (try dsimp only at hSw); first | (go_simp; done) | (go_simp; with_reducible rfl))
                try simp only [Act.put, List.getElem_toArray, List.getElem_cons_succ, List.getElem_cons_zero, List.setIfInBounds_toArray, List.set_cons_zero, List.set_cons_succ]
                refine wpAnyH_take (i := 23) (v := ?_) rfl (by kernel_rfl) (by kernel_rfl) (by kernel_rfl) (fun _ _ _ h => h) (Or.inl ⟨by rfl, ?_⟩) (by assumption) ?_
                rotate_left 1
                · (intro w hSw; (try dsimp only at hSw); first | (go_simp; done) | (go_simp; with_reducible rfl))
                try simp only [Act.put, List.getElem_toArray, List.getElem_cons_succ, List.getElem_cons_zero, List.setIfInBounds_toArray, List.set_cons_zero, List.set_cons_succ]
                refine wpAnyH_take (i := 24) (v := ?_) rfl (by kernel_rfl) (by kernel_rfl) (by kernel_rfl) (fun _ _ _ h => h) (Or.inl ⟨by rfl, ?_⟩) (by assumption) ?_
                rotate_left 1
                · (intro w hSw; (try dsimp only at hSw); first | (go_simp; done) | (go_simp; with_reducible rfl))
                try simp only [Act.put, List.getElem_toArray, List.getElem_cons_succ, List.getElem_cons_zero, List.setIfInBounds_toArray, List.set_cons_zero, List.set_cons_succ]
                refine wpAnyH_take (i := 25) (v := ?_) rfl (by kernel_rfl) (by kernel_rfl) (by kernel_rfl) (fun _ _ _ h => h) (Or.inl ⟨by rfl, ?_⟩) (by assumption) ?_
                rotate_left 1
                · (intro w hSw; (try dsimp only at hSw); first | (go_simp; done) | (go_simp; with_reducible rfl))
                try simp only [Act.put, List.getElem_toArray, List.getElem_cons_succ, List.getElem_cons_zero, List.setIfInBounds_toArray, List.set_cons_zero, List.set_cons_succ]
                refine wpAnyH_take (i := 26) (v := ?_) rfl (by kernel_rfl) (by kernel_rfl) (by kernel_rfl) (fun _ _ _ h => h) (Or.inl ⟨by rfl, ?_⟩) (by assumption) ?_
                rotate_left 1
                · (intro w hSw; (try dsimp only at hSw); first | (go_simp; done) | (go_simp; with_reducible rfl))
                try simp only [Act.put, List.getElem_toArray, List.getElem_cons_succ, List.getElem_cons_zero, List.setIfInBounds_toArray, List.set_cons_zero, List.set_cons_succ]
                refine wpAnyH_take (i := 27) (v := ?_) rfl (by kernel_rfl) (by kernel_rfl) (by kernel_rfl) (fun _ _ _ h => h) (Or.inl ⟨by rfl, ?_⟩) (by assumption) ?_
                rotate_left 1
                · (intro w hSw; (try dsimp only at hSw); first | (go_simp; done) | (go_simp; with_reducible rfl))
                try simp only [Act.put, List.getElem_toArray, List.getElem_cons_succ, List.getElem_cons_zero, List.setIfInBounds_toArray, List.set_cons_zero, List.set_cons_succ]
                refine wpAnyH_take (i := 28) (v := ?_) rfl (by kernel_rfl) (by kernel_rfl) (by kernel_rfl) (fun _ _ _ h => h) (Or.inl ⟨by rfl, ?_⟩) (by assumption) ?_
                rotate_left 1
                · (intro w hSw; (try dsimp only at hSw); first | (go_simp; done) | (go_simp; with_reducible rfl))
                try simp only [Act.put, List.getElem_toArray, List.getElem_cons_succ, List.getElem_cons_zero, List.setIfInBounds_toArray, List.set_cons_zero, List.set_cons_succ]
                refine wpAnyH_take (i := 29) (v := ?_) rfl (by kernel_rfl) (by kernel_rfl) (by kernel_rfl) (fun _ _ _ h => h) (Or.inl ⟨by rfl, ?_⟩) (by assumption) ?_
                rotate_left 1
                · (intro w hSw; (try dsimp only at hSw); first | (go_simp; done) | (go_simp; with_reducible rfl))
                try simp only [Act.put, List.getElem_toArray, List.getElem_cons_succ, List.getElem_cons_zero, List.setIfInBounds_toArray, List.set_cons_zero, List.set_cons_succ]
                refine wpAnyH_take (i := 30) (v := ?_) rfl (by kernel_rfl) (by kernel_rfl) (by kernel_rfl) (fun _ _ _ h => h) (Or.inl ⟨by rfl, ?_⟩) (by assumption) ?_
                rotate_left 1
                · (intro w hSw; (try dsimp only at hSw); first | (go_simp; done) | (go_simp; with_reducible rfl))
                try simp only [Act.put, List.getElem_toArray, List.getElem_cons_succ, List.getElem_cons_zero, List.setIfInBounds_toArray, List.set_cons_zero, List.set_cons_succ]
                refine wpAnyH_take (i := 31) (v := ?_) rfl (by kernel_rfl) (by kernel_rfl) (by kernel_rfl) (fun _ _ _ h => h) (Or.inl ⟨by rfl, ?_⟩) (by assumption) ?_
                rotate_left 1
                · (intro w hSw; (try dsimp only at hSw); first | (go_simp; done) | (go_simp; with_reducible rfl))
                try simp only [Act.put, List.getElem_toArray, List.getElem_cons_succ, List.getElem_cons_zero, List.setIfInBounds_toArray, List.set_cons_zero, List.set_cons_succ]
                refine wpAnyH_ready (rs := [32]) (by kernel_rfl) (by simp) ?_
                refine AllReadyH.cons rfl (fun K hK => ?_) AllReadyH.nil
                go_simp
                refine (refClose_any xy xr xn (.slice An nn cn) (yearEvs rs (1850 + (kn : Int)) rs.length) cn2 _ (by exact RdEv.below HUn.out hbc0) (year_len HLEN.out _) hx1 hx2 year_fit HCn).mono ?_
                rintro e wc1 ⟨rfl, hbc1⟩
                go_wp2_with fail
                refine hK.out _ _ ?_ (fun hHeld => ?_)
                · exact ⟨cellB (block_below HE9.out (bel_trans hbc0 hbc1)) (i := 0) rfl, cellB (block_below HE9.out (bel_trans hbc0 hbc1)) (i := 1) rfl, cellB (block_below HE9.out (bel_trans hbc0 hbc1)) (i := 2) rfl, row_cell (row_below HRW.out (bel_trans hbc0 hbc1)) hkm HVk.out, row_cell (row_below HRW.out (bel_trans hbc0 hbc1)) hkn HVn.out⟩
                clear hK K
                try simp only [Act.put, List.getElem_toArray, List.getElem_cons_succ, List.getElem_cons_zero, List.setIfInBounds_toArray, List.set_cons_zero, List.set_cons_succ]
                refine wpAnyH_take (i := 33) (v := ?_) rfl (by kernel_rfl) (by kernel_rfl) (by kernel_rfl) (fun _ _ _ h => h) (Or.inl ⟨by rfl, ?_⟩) (by assumption) ?_
                rotate_left 1
                · (intro w hSw; (try dsimp only at hSw); first | (go_simp; done) | (go_simp; with_reducible rfl))
                try simp only [Act.put, List.getElem_toArray, List.getElem_cons_succ, List.getElem_cons_zero, List.setIfInBounds_toArray, List.set_cons_zero, List.set_cons_succ]
                refine wpAnyH_take (i := 34) (v := ?_) rfl (by kernel_rfl) (by kernel_rfl) (by kernel_rfl) (fun _ _ _ h => h) (Or.inl ⟨by rfl, ?_⟩) (by assumption) ?_
                rotate_left 1
                · (intro w hSw; (try dsimp only at hSw); first | (go_simp; done) | (go_simp; with_reducible rfl))
                try simp only [Act.put, List.getElem_toArray, List.getElem_cons_succ, List.getElem_cons_zero, List.setIfInBounds_toArray, List.set_cons_zero, List.set_cons_succ]
                refine wpAnyH_take (i := 35) (v := ?_) rfl (by kernel_rfl) (by kernel_rfl) (by kernel_rfl) (fun _ _ _ h => h) (Or.inl ⟨by rfl, ?_⟩) (by assumption) ?_
                rotate_left 1
                · (intro w hSw; (try dsimp only at hSw); first | (go_simp; done) | (go_simp; with_reducible rfl))
                try simp only [Act.put, List.getElem_toArray, List.getElem_cons_succ, List.getElem_cons_zero, List.setIfInBounds_toArray, List.set_cons_zero, List.set_cons_succ]
                refine wpAnyH_done (by kernel_rfl) ?_ _
                go_wp2_with fail
                go_meet
                case rel => exact ⟨by rw [HRES.out], Lib.hid (bel_trans hbc0 hbc1)⟩
              · obtain ⟨kp, hkp1⟩ : ∃ kp, kp + 1 = k := ⟨k - 1, by omega⟩
                have hkp : kp < 701 := by omega
                have hwp : IntKind.i64.wrap ((k : Int) - 1) = (kp : Int) := by rw [show (k : Int) - 1 = (kp : Int) by omega]; exact IntWalk.i64_in _ (by omega)
                have hp0 : (0 : Int) ≤ (kp : Int) := by omega
                have hp1 : (kp : Int) < 701 := by omega
                have hkd : decide ((0 : Int) < (k : Int)) = true := by simp; omega
                have hkd2 : decide (0 < k) = true := by simp; omega
                have hkd3 : (0 : Int) < (k : Int) := by omega
                obtain ⟨Ap, cp, hVp⟩ := (HV.out kp hkp).sl
                obtain ⟨np, hnp⟩ : ∃ np, np = (yearEvs rs (1850 + (kp : Int)) rs.length).length := ⟨_, rfl⟩
                rw [← hnp] at hVp
                have HVp := Lib.hid hVp
                have HUp := Lib.hid (show RdEv (.slice Ap np cp) (yearEvs rs (1850 + (kp : Int)) rs.length) (wr.alloc (.cells #[.int .i64 xy, .int .i64 xr, .int .i64 xn] 25)).drew by rw [← hVp]; exact (HV.out kp hkp).below (Below.drew HB9.out))
                clear hVp hnp
                obtain ⟨c1, hc1⟩ := bool_of (CloseIn (yearEvs rs (1850 + (kp : Int)) rs.length) ⟨xy, xr, xn⟩)
                cases c1 with
                | true =>
                  have HCp := Lib.hid (hc1.1 rfl)
                  have HRES := Lib.hid (show true = nr from (HNR.out.2 ((close_iff hkm HMEM.out).2 (.inr (.inl ⟨kp, hkp1, HCp.out⟩)))).symm)
                  clear hc1 hkp1
                  go_wp2_with fail
                  refine wp_region_held_drew (S := (fun w' => w'.cell? ⟨wr.heap.size, 0, none⟩ = some (.int .i64 xy) ∧ w'.cell? ⟨wr.heap.size, 1, none⟩ = some (.int .i64 xr) ∧ w'.cell? ⟨wr.heap.size, 2, none⟩ = some (.int .i64 xn) ∧ w'.cell? ⟨B, k, none⟩ = some (.slice (some ⟨g, off, none⟩) nk ck) ∧ w'.cell? ⟨B, kp, none⟩ = some (.slice Ap np cp))) (by kernel_rfl) (by exact ⟨cellB HE9.out (i := 0) rfl, cellB HE9.out (i := 1) rfl, cellB HE9.out (i := 2) rfl, row_cell HRW.out hkm HVk.out, row_cell HRW.out hkp HVp.out⟩) (fun hHeld => ?_)
                  refine wpAnyH_take (i := 0) (v := ?_) rfl (by kernel_rfl) (by kernel_rfl) (by kernel_rfl) (fun _ _ _ h => h) (Or.inl ⟨by rfl, ?_⟩) (by assumption) ?_
                  rotate_left 1
                  · (intro w hSw; (try dsimp only at hSw); first | (go_simp; done) | (go_simp; with_reducible rfl))
                  try simp only [Act.put, List.getElem_toArray, List.getElem_cons_succ, List.getElem_cons_zero, List.setIfInBounds_toArray, List.set_cons_zero, List.set_cons_succ]
                  refine wpAnyH_take (i := 1) (v := ?_) rfl (by kernel_rfl) (by kernel_rfl) (by kernel_rfl) (fun _ _ _ h => h) (Or.inl ⟨by rfl, ?_⟩) (by assumption) ?_
                  rotate_left 1
                  · (intro w hSw; (try dsimp only at hSw); first | (go_simp; done) | (go_simp; with_reducible rfl))
                  try simp only [Act.put, List.getElem_toArray, List.getElem_cons_succ, List.getElem_cons_zero, List.setIfInBounds_toArray, List.set_cons_zero, List.set_cons_succ]
                  refine wpAnyH_take (i := 2) (v := ?_) rfl (by kernel_rfl) (by kernel_rfl) (by kernel_rfl) (fun _ _ _ h => h) (Or.inl ⟨by rfl, ?_⟩) (by assumption) ?_
                  rotate_left 1
                  · (intro w hSw; (try dsimp only at hSw); first | (go_simp; done) | (go_simp; with_reducible rfl))
                  try simp only [Act.put, List.getElem_toArray, List.getElem_cons_succ, List.getElem_cons_zero, List.setIfInBounds_toArray, List.set_cons_zero, List.set_cons_succ]
                  refine wpAnyH_take (i := 3) (v := ?_) rfl (by kernel_rfl) (by kernel_rfl) (by kernel_rfl) (fun _ _ _ h => h) (Or.inl ⟨by rfl, ?_⟩) (by assumption) ?_
                  rotate_left 1
                  · (intro w hSw; (try dsimp only at hSw); first | (go_simp; done) | (go_simp; with_reducible rfl))
                  try simp only [Act.put, List.getElem_toArray, List.getElem_cons_succ, List.getElem_cons_zero, List.setIfInBounds_toArray, List.set_cons_zero, List.set_cons_succ]
                  refine wpAnyH_take (i := 4) (v := ?_) rfl (by kernel_rfl) (by kernel_rfl) (by kernel_rfl) (fun _ _ _ h => h) (Or.inl ⟨by rfl, ?_⟩) (by assumption) ?_
                  rotate_left 1
                  · (intro w hSw; (try dsimp only at hSw); first | (go_simp; done) | (go_simp; with_reducible rfl))
                  try simp only [Act.put, List.getElem_toArray, List.getElem_cons_succ, List.getElem_cons_zero, List.setIfInBounds_toArray, List.set_cons_zero, List.set_cons_succ]
                  refine wpAnyH_ready (rs := [5]) (by kernel_rfl) (by simp) ?_
                  refine AllReadyH.cons rfl (fun K hK => ?_) AllReadyH.nil
                  go_simp
                  refine (refClose_any xy xr xn (.slice (some ⟨g, off, none⟩) nk ck) (yearEvs rs (1850 + (k : Int)) rs.length) false _ (by exact HUk.out) (year_len HLEN.out _) hx1 hx2 year_fit (Lib.hid ⟨fun h => (by cases h), fun h => (HCk.out h).elim⟩)).mono ?_
                  rintro e wc0 ⟨rfl, hbc0⟩
                  go_wp2_with fail
                  refine hK.out _ _ ?_ (fun hHeld => ?_)
                  · exact ⟨cellB (block_below HE9.out hbc0) (i := 0) rfl, cellB (block_below HE9.out hbc0) (i := 1) rfl, cellB (block_below HE9.out hbc0) (i := 2) rfl, row_cell (row_below HRW.out hbc0) hkm HVk.out, row_cell (row_below HRW.out hbc0) hkp HVp.out⟩
                  clear hK K
                  try simp only [Act.put, List.getElem_toArray, List.getElem_cons_succ, List.getElem_cons_zero, List.setIfInBounds_toArray, List.set_cons_zero, List.set_cons_succ]
                  refine wpAnyH_take (i := 6) (v := ?_) rfl (by kernel_rfl) (by kernel_rfl) (by kernel_rfl) (fun _ _ _ h => h) (Or.inl ⟨by rfl, ?_⟩) (by assumption) ?_
                  rotate_left 1
                  · (intro w hSw; (try dsimp only at hSw); first | (go_simp; done) | (go_simp; with_reducible rfl))
                  try simp only [Act.put, List.getElem_toArray, List.getElem_cons_succ, List.getElem_cons_zero, List.setIfInBounds_toArray, List.set_cons_zero, List.set_cons_succ]
                  refine wpAnyH_take (i := 7) (v := ?_) rfl (by kernel_rfl) (by kernel_rfl) (by kernel_rfl) (fun _ _ _ h => h) (Or.inl ⟨by rfl, ?_⟩) (by assumption) ?_
                  rotate_left 1
                  · (intro w hSw; (try dsimp only at hSw); first | (go_simp; done) | (go_simp; with_reducible rfl))
                  try simp only [Act.put, List.getElem_toArray, List.getElem_cons_succ, List.getElem_cons_zero, List.setIfInBounds_toArray, List.set_cons_zero, List.set_cons_succ]
                  refine wpAnyH_take (i := 8) (v := ?_) rfl (by kernel_rfl) (by kernel_rfl) (by kernel_rfl) (fun _ _ _ h => h) (Or.inl ⟨by rfl, ?_⟩) (by assumption) ?_
                  rotate_left 1
                  · (intro w hSw; (try dsimp only at hSw); first | (go_simp; done) | (go_simp; with_reducible rfl))
                  try simp only [Act.put, List.getElem_toArray, List.getElem_cons_succ, List.getElem_cons_zero, List.setIfInBounds_toArray, List.set_cons_zero, List.set_cons_succ]
                  refine wpAnyH_take (i := 9) (v := ?_) rfl (by kernel_rfl) (by kernel_rfl) (by kernel_rfl) (fun _ _ _ h => h) (Or.inl ⟨by rfl, ?_⟩) (by assumption) ?_
                  rotate_left 1
                  · (intro w hSw; (try dsimp only at hSw); first | (go_simp; done) | (go_simp; with_reducible rfl))
                  try simp only [Act.put, List.getElem_toArray, List.getElem_cons_succ, List.getElem_cons_zero, List.setIfInBounds_toArray, List.set_cons_zero, List.set_cons_succ]
                  refine wpAnyH_take (i := 10) (v := ?_) rfl (by kernel_rfl) (by kernel_rfl) (by kernel_rfl) (fun _ _ _ h => h) (Or.inl ⟨by rfl, ?_⟩) (by assumption) ?_
                  rotate_left 1
                  · (intro w hSw; (try dsimp only at hSw); first | (go_simp; done) | (go_simp; with_reducible rfl))
                  try simp only [Act.put, List.getElem_toArray, List.getElem_cons_succ, List.getElem_cons_zero, List.setIfInBounds_toArray, List.set_cons_zero, List.set_cons_succ]
                  refine wpAnyH_take (i := 11) (v := ?_) rfl (by kernel_rfl) (by kernel_rfl) (by kernel_rfl) (fun _ _ _ h => h) (Or.inl ⟨by rfl, ?_⟩) (by assumption) ?_
                  rotate_left 1
                  · (intro w hSw; (try dsimp only at hSw); first | (go_simp; done) | (go_simp; with_reducible rfl))
                  try simp only [Act.put, List.getElem_toArray, List.getElem_cons_succ, List.getElem_cons_zero, List.setIfInBounds_toArray, List.set_cons_zero, List.set_cons_succ]
                  refine wpAnyH_take (i := 12) (v := ?_) rfl (by kernel_rfl) (by kernel_rfl) (by kernel_rfl) (fun _ _ _ h => h) (Or.inl ⟨by rfl, ?_⟩) (by assumption) ?_
                  rotate_left 1
                  · (intro w hSw; (try dsimp only at hSw); first | (go_simp; done) | (go_simp; with_reducible rfl))
                  try simp only [Act.put, List.getElem_toArray, List.getElem_cons_succ, List.getElem_cons_zero, List.setIfInBounds_toArray, List.set_cons_zero, List.set_cons_succ]
                  refine wpAnyH_take (i := 13) (v := ?_) rfl (by kernel_rfl) (by kernel_rfl) (by kernel_rfl) (fun _ _ _ h => h) (Or.inl ⟨by rfl, ?_⟩) (by assumption) ?_
                  rotate_left 1
                  · (intro w hSw; (try dsimp only at hSw); first | (go_simp; done) | (go_simp; with_reducible rfl))
                  try simp only [Act.put, List.getElem_toArray, List.getElem_cons_succ, List.getElem_cons_zero, List.setIfInBounds_toArray, List.set_cons_zero, List.set_cons_succ]
                  refine wpAnyH_take (i := 14) (v := ?_) rfl (by kernel_rfl) (by kernel_rfl) (by kernel_rfl) (fun _ _ _ h => h) (Or.inl ⟨by rfl, ?_⟩) (by assumption) ?_
                  rotate_left 1
                  · (intro w hSw; (try dsimp only at hSw); first | (go_simp; done) | (go_simp; with_reducible rfl))
                  try simp only [Act.put, List.getElem_toArray, List.getElem_cons_succ, List.getElem_cons_zero, List.setIfInBounds_toArray, List.set_cons_zero, List.set_cons_succ]
                  refine wpAnyH_take (i := 15) (v := ?_) rfl (by kernel_rfl) (by kernel_rfl) (by kernel_rfl) (fun _ _ _ h => h) (Or.inl ⟨by rfl, ?_⟩) (by assumption) ?_
                  rotate_left 1
                  · (intro w hSw; (try dsimp only at hSw); first | (go_simp; done) | (go_simp; with_reducible rfl))
                  try simp only [Act.put, List.getElem_toArray, List.getElem_cons_succ, List.getElem_cons_zero, List.setIfInBounds_toArray, List.set_cons_zero, List.set_cons_succ]
                  refine wpAnyH_ready (rs := [16]) (by kernel_rfl) (by simp) ?_
                  refine AllReadyH.cons rfl (fun K hK => ?_) AllReadyH.nil
                  go_simp
                  refine (refClose_any xy xr xn (.slice Ap np cp) (yearEvs rs (1850 + (kp : Int)) rs.length) true _ (by exact RdEv.below HUp.out hbc0) (year_len HLEN.out _) hx1 hx2 year_fit (Lib.hid ⟨fun _ => HCp.out, fun _ => rfl⟩)).mono ?_
                  rintro e wc1 ⟨rfl, hbc1⟩
                  go_wp2_with fail
                  refine hK.out _ _ ?_ (fun hHeld => ?_)
                  · exact ⟨cellB (block_below HE9.out (bel_trans hbc0 hbc1)) (i := 0) rfl, cellB (block_below HE9.out (bel_trans hbc0 hbc1)) (i := 1) rfl, cellB (block_below HE9.out (bel_trans hbc0 hbc1)) (i := 2) rfl, row_cell (row_below HRW.out (bel_trans hbc0 hbc1)) hkm HVk.out, row_cell (row_below HRW.out (bel_trans hbc0 hbc1)) hkp HVp.out⟩
                  clear hK K
                  try simp only [Act.put, List.getElem_toArray, List.getElem_cons_succ, List.getElem_cons_zero, List.setIfInBounds_toArray, List.set_cons_zero, List.set_cons_succ]
                  refine wpAnyH_take (i := 17) (v := ?_) rfl (by kernel_rfl) (by kernel_rfl) (by kernel_rfl) (fun _ _ _ h => h) (Or.inl ⟨by rfl, ?_⟩) (by assumption) ?_
                  rotate_left 1
                  · (intro w hSw; (try dsimp only at hSw); first | (go_simp; done) | (go_simp; with_reducible rfl))
                  try simp only [Act.put, List.getElem_toArray, List.getElem_cons_succ, List.getElem_cons_zero, List.setIfInBounds_toArray, List.set_cons_zero, List.set_cons_succ]
                  refine wpAnyH_take (i := 18) (v := ?_) rfl (by kernel_rfl) (by kernel_rfl) (by kernel_rfl) (fun _ _ _ h => h) (Or.inl ⟨by rfl, ?_⟩) (by assumption) ?_
                  rotate_left 1
                  · (intro w hSw; (try dsimp only at hSw); first | (go_simp; done) | (go_simp; with_reducible rfl))
                  try simp only [Act.put, List.getElem_toArray, List.getElem_cons_succ, List.getElem_cons_zero, List.setIfInBounds_toArray, List.set_cons_zero, List.set_cons_succ]
                  refine wpAnyH_take (i := 19) (v := ?_) rfl (by kernel_rfl) (by kernel_rfl) (by kernel_rfl) (fun _ _ _ h => h) (Or.inl ⟨by rfl, ?_⟩) (by assumption) ?_
                  rotate_left 1
                  · (intro w hSw; (try dsimp only at hSw); first | (go_simp; done) | (go_simp; with_reducible rfl))
                  try simp only [Act.put, List.getElem_toArray, List.getElem_cons_succ, List.getElem_cons_zero, List.setIfInBounds_toArray, List.set_cons_zero, List.set_cons_succ]
                  refine wpAnyH_take (i := 20) (v := undef) rfl (by kernel_rfl) (by kernel_rfl) (by kernel_rfl) (fun _ _ _ h => h) (Or.inr ⟨by rfl, rfl⟩) (by assumption) ?_
                  try simp only [Act.put, List.getElem_toArray, List.getElem_cons_succ, List.getElem_cons_zero, List.setIfInBounds_toArray, List.set_cons_zero, List.set_cons_succ]
                  refine wpAnyH_take (i := 21) (v := undef) rfl (by kernel_rfl) (by kernel_rfl) (by kernel_rfl) (fun _ _ _ h => h) (Or.inr ⟨by rfl, rfl⟩) (by assumption) ?_
                  try simp only [Act.put, List.getElem_toArray, List.getElem_cons_succ, List.getElem_cons_zero, List.setIfInBounds_toArray, List.set_cons_zero, List.set_cons_succ]
                  refine wpAnyH_take (i := 22) (v := undef) rfl (by kernel_rfl) (by kernel_rfl) (by kernel_rfl) (fun _ _ _ h => h) (Or.inr ⟨by rfl, rfl⟩) (by assumption) ?_
                  try simp only [Act.put, List.getElem_toArray, List.getElem_cons_succ, List.getElem_cons_zero, List.setIfInBounds_toArray, List.set_cons_zero, List.set_cons_succ]
                  refine wpAnyH_take (i := 23) (v := undef) rfl (by kernel_rfl) (by kernel_rfl) (by kernel_rfl) (fun _ _ _ h => h) (Or.inr ⟨by rfl, rfl⟩) (by assumption) ?_
                  try simp only [Act.put, List.getElem_toArray, List.getElem_cons_succ, List.getElem_cons_zero, List.setIfInBounds_toArray, List.set_cons_zero, List.set_cons_succ]
                  refine wpAnyH_take (i := 24) (v := undef) rfl (by kernel_rfl) (by kernel_rfl) (by kernel_rfl) (fun _ _ _ h => h) (Or.inr ⟨by rfl, rfl⟩) (by assumption) ?_
                  try simp only [Act.put, List.getElem_toArray, List.getElem_cons_succ, List.getElem_cons_zero, List.setIfInBounds_toArray, List.set_cons_zero, List.set_cons_succ]
                  refine wpAnyH_take (i := 25) (v := undef) rfl (by kernel_rfl) (by kernel_rfl) (by kernel_rfl) (fun _ _ _ h => h) (Or.inr ⟨by rfl, rfl⟩) (by assumption) ?_
                  try simp only [Act.put, List.getElem_toArray, List.getElem_cons_succ, List.getElem_cons_zero, List.setIfInBounds_toArray, List.set_cons_zero, List.set_cons_succ]
                  refine wpAnyH_take (i := 26) (v := undef) rfl (by kernel_rfl) (by kernel_rfl) (by kernel_rfl) (fun _ _ _ h => h) (Or.inr ⟨by rfl, rfl⟩) (by assumption) ?_
                  try simp only [Act.put, List.getElem_toArray, List.getElem_cons_succ, List.getElem_cons_zero, List.setIfInBounds_toArray, List.set_cons_zero, List.set_cons_succ]
                  refine wpAnyH_take (i := 27) (v := undef) rfl (by kernel_rfl) (by kernel_rfl) (by kernel_rfl) (fun _ _ _ h => h) (Or.inr ⟨by rfl, rfl⟩) (by assumption) ?_
                  try simp only [Act.put, List.getElem_toArray, List.getElem_cons_succ, List.getElem_cons_zero, List.setIfInBounds_toArray, List.set_cons_zero, List.set_cons_succ]
                  refine wpAnyH_take (i := 28) (v := undef) rfl (by kernel_rfl) (by kernel_rfl) (by kernel_rfl) (fun _ _ _ h => h) (Or.inr ⟨by rfl, rfl⟩) (by assumption) ?_
                  try simp only [Act.put, List.getElem_toArray, List.getElem_cons_succ, List.getElem_cons_zero, List.setIfInBounds_toArray, List.set_cons_zero, List.set_cons_succ]
                  refine wpAnyH_take (i := 29) (v := undef) rfl (by kernel_rfl) (by kernel_rfl) (by kernel_rfl) (fun _ _ _ h => h) (Or.inr ⟨by rfl, rfl⟩) (by assumption) ?_
                  try simp only [Act.put, List.getElem_toArray, List.getElem_cons_succ, List.getElem_cons_zero, List.setIfInBounds_toArray, List.set_cons_zero, List.set_cons_succ]
                  refine wpAnyH_take (i := 30) (v := undef) rfl (by kernel_rfl) (by kernel_rfl) (by kernel_rfl) (fun _ _ _ h => h) (Or.inr ⟨by rfl, rfl⟩) (by assumption) ?_
                  try simp only [Act.put, List.getElem_toArray, List.getElem_cons_succ, List.getElem_cons_zero, List.setIfInBounds_toArray, List.set_cons_zero, List.set_cons_succ]
                  refine wpAnyH_take (i := 31) (v := undef) rfl (by kernel_rfl) (by kernel_rfl) (by kernel_rfl) (fun _ _ _ h => h) (Or.inr ⟨by rfl, rfl⟩) (by assumption) ?_
                  try simp only [Act.put, List.getElem_toArray, List.getElem_cons_succ, List.getElem_cons_zero, List.setIfInBounds_toArray, List.set_cons_zero, List.set_cons_succ]
                  refine wpAnyH_take (i := 32) (v := undef) rfl (by kernel_rfl) (by kernel_rfl) (by kernel_rfl) (fun _ _ _ h => h) (Or.inr ⟨by rfl, rfl⟩) (by assumption) ?_
                  try simp only [Act.put, List.getElem_toArray, List.getElem_cons_succ, List.getElem_cons_zero, List.setIfInBounds_toArray, List.set_cons_zero, List.set_cons_succ]
                  refine wpAnyH_take (i := 33) (v := undef) rfl (by kernel_rfl) (by kernel_rfl) (by kernel_rfl) (fun _ _ _ h => h) (Or.inr ⟨by rfl, rfl⟩) (by assumption) ?_
                  try simp only [Act.put, List.getElem_toArray, List.getElem_cons_succ, List.getElem_cons_zero, List.setIfInBounds_toArray, List.set_cons_zero, List.set_cons_succ]
                  refine wpAnyH_take (i := 34) (v := ?_) rfl (by kernel_rfl) (by kernel_rfl) (by kernel_rfl) (fun _ _ _ h => h) (Or.inl ⟨by rfl, ?_⟩) (by assumption) ?_
                  rotate_left 1
                  · (intro w hSw; (try dsimp only at hSw); first | (go_simp; done) | (go_simp; with_reducible rfl))
                  try simp only [Act.put, List.getElem_toArray, List.getElem_cons_succ, List.getElem_cons_zero, List.setIfInBounds_toArray, List.set_cons_zero, List.set_cons_succ]
                  refine wpAnyH_take (i := 35) (v := ?_) rfl (by kernel_rfl) (by kernel_rfl) (by kernel_rfl) (fun _ _ _ h => h) (Or.inl ⟨by rfl, ?_⟩) (by assumption) ?_
                  rotate_left 1
                  · (intro w hSw; (try dsimp only at hSw); first | (go_simp; done) | (go_simp; with_reducible rfl))
                  try simp only [Act.put, List.getElem_toArray, List.getElem_cons_succ, List.getElem_cons_zero, List.setIfInBounds_toArray, List.set_cons_zero, List.set_cons_succ]
                  refine wpAnyH_done (by kernel_rfl) ?_ _
                  go_wp2_with fail
                  go_meet
                  case rel => exact ⟨by rw [HRES.out], Lib.hid (bel_trans hbc0 hbc1)⟩
                | false =>
                  have HCp := Lib.hid (show ¬ CloseIn (yearEvs rs (1850 + (kp : Int)) rs.length) ⟨xy, xr, xn⟩ from fun h => (by cases hc1.2 h))
                  clear hc1
                  by_cases hk7 : k + 1 < 701
                  · obtain ⟨kn, hkn1⟩ : ∃ kn, kn = k + 1 := ⟨_, rfl⟩
                    have hkn : kn < 701 := by omega
                    have hwn : IntKind.i64.wrap ((k : Int) + 1) = (kn : Int) := by rw [show (k : Int) + 1 = (kn : Int) by omega]; exact IntWalk.i64_in _ (by omega)
                    have hn0 : (0 : Int) ≤ (kn : Int) := by omega
                    have hn1 : (kn : Int) < 701 := by omega
                    obtain ⟨An, cn, hVn⟩ := (HV.out kn hkn).sl
                    obtain ⟨nn, hnn⟩ : ∃ nn, nn = (yearEvs rs (1850 + (kn : Int)) rs.length).length := ⟨_, rfl⟩
                    rw [← hnn] at hVn
                    have HVn := Lib.hid hVn
                    have HUn := Lib.hid (show RdEv (.slice An nn cn) (yearEvs rs (1850 + (kn : Int)) rs.length) (wr.alloc (.cells #[.int .i64 xy, .int .i64 xr, .int .i64 xn] 25)).drew by rw [← hVn]; exact (HV.out kn hkn).below (Below.drew HB9.out))
                    obtain ⟨cn2, hc2⟩ := bool_of (CloseIn (yearEvs rs (1850 + (kn : Int)) rs.length) ⟨xy, xr, xn⟩)
                    have HCn := Lib.hid hc2
                    have HRES := Lib.hid (show cn2 = nr by
                      rw [Bool.eq_iff_iff, HNR.out, close_iff hkm HMEM.out, hc2]
                      constructor
                      · intro h; exact .inr (.inr ⟨by omega, by rw [← hkn1]; exact h⟩)
                      · rintro (h | ⟨p, hp, h⟩ | ⟨_, h⟩)
                        · exact (HCk.out h).elim
                        · obtain rfl : p = kp := by omega
                          exact (HCp.out h).elim
                        · rw [hkn1]; exact h)
                    clear hc2 hnn hVn hkn1 hkp1 hk7
                    go_wp2_with fail
                    refine wp_region_held_drew (S := (fun w' => w'.cell? ⟨wr.heap.size, 0, none⟩ = some (.int .i64 xy) ∧ w'.cell? ⟨wr.heap.size, 1, none⟩ = some (.int .i64 xr) ∧ w'.cell? ⟨wr.heap.size, 2, none⟩ = some (.int .i64 xn) ∧ w'.cell? ⟨B, k, none⟩ = some (.slice (some ⟨g, off, none⟩) nk ck) ∧ w'.cell? ⟨B, kp, none⟩ = some (.slice Ap np cp) ∧ w'.cell? ⟨B, kn, none⟩ = some (.slice An nn cn))) (by kernel_rfl) (by exact ⟨cellB HE9.out (i := 0) rfl, cellB HE9.out (i := 1) rfl, cellB HE9.out (i := 2) rfl, row_cell HRW.out hkm HVk.out, row_cell HRW.out hkp HVp.out, row_cell HRW.out hkn HVn.out⟩) (fun hHeld => ?_)
                    refine wpAnyH_take (i := 0) (v := ?_) rfl (by kernel_rfl) (by kernel_rfl) (by kernel_rfl) (fun _ _ _ h => h) (Or.inl ⟨by rfl, ?_⟩) (by assumption) ?_
                    rotate_left 1
                    · (intro w hSw; (try dsimp only at hSw); first | (go_simp; done) | (go_simp; with_reducible rfl))
                    try simp only [Act.put, List.getElem_toArray, List.getElem_cons_succ, List.getElem_cons_zero, List.setIfInBounds_toArray, List.set_cons_zero, List.set_cons_succ]
                    refine wpAnyH_take (i := 1) (v := ?_) rfl (by kernel_rfl) (by kernel_rfl) (by kernel_rfl) (fun _ _ _ h => h) (Or.inl ⟨by rfl, ?_⟩) (by assumption) ?_
                    rotate_left 1
                    · (intro w hSw; (try dsimp only at hSw); first | (go_simp; done) | (go_simp; with_reducible rfl))
                    try simp only [Act.put, List.getElem_toArray, List.getElem_cons_succ, List.getElem_cons_zero, List.setIfInBounds_toArray, List.set_cons_zero, List.set_cons_succ]
                    refine wpAnyH_take (i := 2) (v := ?_) rfl (by kernel_rfl) (by kernel_rfl) (by kernel_rfl) (fun _ _ _ h => h) (Or.inl ⟨by rfl, ?_⟩) (by assumption) ?_
                    rotate_left 1
                    · (intro w hSw; (try dsimp only at hSw); first | (go_simp; done) | (go_simp; with_reducible rfl))
                    try simp only [Act.put, List.getElem_toArray, List.getElem_cons_succ, List.getElem_cons_zero, List.setIfInBounds_toArray, List.set_cons_zero, List.set_cons_succ]
                    refine wpAnyH_take (i := 3) (v := ?_) rfl (by kernel_rfl) (by kernel_rfl) (by kernel_rfl) (fun _ _ _ h => h) (Or.inl ⟨by rfl, ?_⟩) (by assumption) ?_
                    rotate_left 1
                    · (intro w hSw; (try dsimp only at hSw); first | (go_simp; done) | (go_simp; with_reducible rfl))
                    try simp only [Act.put, List.getElem_toArray, List.getElem_cons_succ, List.getElem_cons_zero, List.setIfInBounds_toArray, List.set_cons_zero, List.set_cons_succ]
                    refine wpAnyH_take (i := 4) (v := ?_) rfl (by kernel_rfl) (by kernel_rfl) (by kernel_rfl) (fun _ _ _ h => h) (Or.inl ⟨by rfl, ?_⟩) (by assumption) ?_
                    rotate_left 1
                    · (intro w hSw; (try dsimp only at hSw); first | (go_simp; done) | (go_simp; with_reducible rfl))
                    try simp only [Act.put, List.getElem_toArray, List.getElem_cons_succ, List.getElem_cons_zero, List.setIfInBounds_toArray, List.set_cons_zero, List.set_cons_succ]
                    refine wpAnyH_ready (rs := [5]) (by kernel_rfl) (by simp) ?_
                    refine AllReadyH.cons rfl (fun K hK => ?_) AllReadyH.nil
                    go_simp
                    refine (refClose_any xy xr xn (.slice (some ⟨g, off, none⟩) nk ck) (yearEvs rs (1850 + (k : Int)) rs.length) false _ (by exact HUk.out) (year_len HLEN.out _) hx1 hx2 year_fit (Lib.hid ⟨fun h => (by cases h), fun h => (HCk.out h).elim⟩)).mono ?_
                    rintro e wc0 ⟨rfl, hbc0⟩
                    go_wp2_with fail
                    refine hK.out _ _ ?_ (fun hHeld => ?_)
                    · exact ⟨cellB (block_below HE9.out hbc0) (i := 0) rfl, cellB (block_below HE9.out hbc0) (i := 1) rfl, cellB (block_below HE9.out hbc0) (i := 2) rfl, row_cell (row_below HRW.out hbc0) hkm HVk.out, row_cell (row_below HRW.out hbc0) hkp HVp.out, row_cell (row_below HRW.out hbc0) hkn HVn.out⟩
                    clear hK K
                    try simp only [Act.put, List.getElem_toArray, List.getElem_cons_succ, List.getElem_cons_zero, List.setIfInBounds_toArray, List.set_cons_zero, List.set_cons_succ]
                    refine wpAnyH_take (i := 6) (v := ?_) rfl (by kernel_rfl) (by kernel_rfl) (by kernel_rfl) (fun _ _ _ h => h) (Or.inl ⟨by rfl, ?_⟩) (by assumption) ?_
                    rotate_left 1
                    · (intro w hSw; (try dsimp only at hSw); first | (go_simp; done) | (go_simp; with_reducible rfl))
                    try simp only [Act.put, List.getElem_toArray, List.getElem_cons_succ, List.getElem_cons_zero, List.setIfInBounds_toArray, List.set_cons_zero, List.set_cons_succ]
                    refine wpAnyH_take (i := 7) (v := ?_) rfl (by kernel_rfl) (by kernel_rfl) (by kernel_rfl) (fun _ _ _ h => h) (Or.inl ⟨by rfl, ?_⟩) (by assumption) ?_
                    rotate_left 1
                    · (intro w hSw; (try dsimp only at hSw); first | (go_simp; done) | (go_simp; with_reducible rfl))
                    try simp only [Act.put, List.getElem_toArray, List.getElem_cons_succ, List.getElem_cons_zero, List.setIfInBounds_toArray, List.set_cons_zero, List.set_cons_succ]
                    refine wpAnyH_take (i := 8) (v := ?_) rfl (by kernel_rfl) (by kernel_rfl) (by kernel_rfl) (fun _ _ _ h => h) (Or.inl ⟨by rfl, ?_⟩) (by assumption) ?_
                    rotate_left 1
                    · (intro w hSw; (try dsimp only at hSw); first | (go_simp; done) | (go_simp; with_reducible rfl))
                    try simp only [Act.put, List.getElem_toArray, List.getElem_cons_succ, List.getElem_cons_zero, List.setIfInBounds_toArray, List.set_cons_zero, List.set_cons_succ]
                    refine wpAnyH_take (i := 9) (v := ?_) rfl (by kernel_rfl) (by kernel_rfl) (by kernel_rfl) (fun _ _ _ h => h) (Or.inl ⟨by rfl, ?_⟩) (by assumption) ?_
                    rotate_left 1
                    · (intro w hSw; (try dsimp only at hSw); first | (go_simp; done) | (go_simp; with_reducible rfl))
                    try simp only [Act.put, List.getElem_toArray, List.getElem_cons_succ, List.getElem_cons_zero, List.setIfInBounds_toArray, List.set_cons_zero, List.set_cons_succ]
                    refine wpAnyH_take (i := 10) (v := ?_) rfl (by kernel_rfl) (by kernel_rfl) (by kernel_rfl) (fun _ _ _ h => h) (Or.inl ⟨by rfl, ?_⟩) (by assumption) ?_
                    rotate_left 1
                    · (intro w hSw; (try dsimp only at hSw); first | (go_simp; done) | (go_simp; with_reducible rfl))
                    try simp only [Act.put, List.getElem_toArray, List.getElem_cons_succ, List.getElem_cons_zero, List.setIfInBounds_toArray, List.set_cons_zero, List.set_cons_succ]
                    refine wpAnyH_take (i := 11) (v := ?_) rfl (by kernel_rfl) (by kernel_rfl) (by kernel_rfl) (fun _ _ _ h => h) (Or.inl ⟨by rfl, ?_⟩) (by assumption) ?_
                    rotate_left 1
                    · (intro w hSw; (try dsimp only at hSw); first | (go_simp; done) | (go_simp; with_reducible rfl))
                    try simp only [Act.put, List.getElem_toArray, List.getElem_cons_succ, List.getElem_cons_zero, List.setIfInBounds_toArray, List.set_cons_zero, List.set_cons_succ]
                    refine wpAnyH_take (i := 12) (v := ?_) rfl (by kernel_rfl) (by kernel_rfl) (by kernel_rfl) (fun _ _ _ h => h) (Or.inl ⟨by rfl, ?_⟩) (by assumption) ?_
                    rotate_left 1
                    · (intro w hSw; (try dsimp only at hSw); first | (go_simp; done) | (go_simp; with_reducible rfl))
                    try simp only [Act.put, List.getElem_toArray, List.getElem_cons_succ, List.getElem_cons_zero, List.setIfInBounds_toArray, List.set_cons_zero, List.set_cons_succ]
                    refine wpAnyH_take (i := 13) (v := ?_) rfl (by kernel_rfl) (by kernel_rfl) (by kernel_rfl) (fun _ _ _ h => h) (Or.inl ⟨by rfl, ?_⟩) (by assumption) ?_
                    rotate_left 1
                    · (intro w hSw; (try dsimp only at hSw); first | (go_simp; done) | (go_simp; with_reducible rfl))
                    try simp only [Act.put, List.getElem_toArray, List.getElem_cons_succ, List.getElem_cons_zero, List.setIfInBounds_toArray, List.set_cons_zero, List.set_cons_succ]
                    refine wpAnyH_take (i := 14) (v := ?_) rfl (by kernel_rfl) (by kernel_rfl) (by kernel_rfl) (fun _ _ _ h => h) (Or.inl ⟨by rfl, ?_⟩) (by assumption) ?_
                    rotate_left 1
                    · (intro w hSw; (try dsimp only at hSw); first | (go_simp; done) | (go_simp; with_reducible rfl))
                    try simp only [Act.put, List.getElem_toArray, List.getElem_cons_succ, List.getElem_cons_zero, List.setIfInBounds_toArray, List.set_cons_zero, List.set_cons_succ]
                    refine wpAnyH_take (i := 15) (v := ?_) rfl (by kernel_rfl) (by kernel_rfl) (by kernel_rfl) (fun _ _ _ h => h) (Or.inl ⟨by rfl, ?_⟩) (by assumption) ?_
                    rotate_left 1
                    · (intro w hSw; (try dsimp only at hSw); first | (go_simp; done) | (go_simp; with_reducible rfl))
                    try simp only [Act.put, List.getElem_toArray, List.getElem_cons_succ, List.getElem_cons_zero, List.setIfInBounds_toArray, List.set_cons_zero, List.set_cons_succ]
                    refine wpAnyH_ready (rs := [16]) (by kernel_rfl) (by simp) ?_
                    refine AllReadyH.cons rfl (fun K hK => ?_) AllReadyH.nil
                    go_simp
                    refine (refClose_any xy xr xn (.slice Ap np cp) (yearEvs rs (1850 + (kp : Int)) rs.length) false _ (by exact RdEv.below HUp.out hbc0) (year_len HLEN.out _) hx1 hx2 year_fit (Lib.hid ⟨fun h => (by cases h), fun h => (HCp.out h).elim⟩)).mono ?_
                    rintro e wc1 ⟨rfl, hbc1⟩
                    go_wp2_with fail
                    refine hK.out _ _ ?_ (fun hHeld => ?_)
                    · exact ⟨cellB (block_below HE9.out (bel_trans hbc0 hbc1)) (i := 0) rfl, cellB (block_below HE9.out (bel_trans hbc0 hbc1)) (i := 1) rfl, cellB (block_below HE9.out (bel_trans hbc0 hbc1)) (i := 2) rfl, row_cell (row_below HRW.out (bel_trans hbc0 hbc1)) hkm HVk.out, row_cell (row_below HRW.out (bel_trans hbc0 hbc1)) hkp HVp.out, row_cell (row_below HRW.out (bel_trans hbc0 hbc1)) hkn HVn.out⟩
                    clear hK K
                    try simp only [Act.put, List.getElem_toArray, List.getElem_cons_succ, List.getElem_cons_zero, List.setIfInBounds_toArray, List.set_cons_zero, List.set_cons_succ]
                    refine wpAnyH_take (i := 17) (v := ?_) rfl (by kernel_rfl) (by kernel_rfl) (by kernel_rfl) (fun _ _ _ h => h) (Or.inl ⟨by rfl, ?_⟩) (by assumption) ?_
                    rotate_left 1
                    · (intro w hSw; (try dsimp only at hSw); first | (go_simp; done) | (go_simp; with_reducible rfl))
                    try simp only [Act.put, List.getElem_toArray, List.getElem_cons_succ, List.getElem_cons_zero, List.setIfInBounds_toArray, List.set_cons_zero, List.set_cons_succ]
                    refine wpAnyH_take (i := 18) (v := ?_) rfl (by kernel_rfl) (by kernel_rfl) (by kernel_rfl) (fun _ _ _ h => h) (Or.inl ⟨by rfl, ?_⟩) (by assumption) ?_
                    rotate_left 1
                    · (intro w hSw; (try dsimp only at hSw); first | (go_simp; done) | (go_simp; with_reducible rfl))
                    try simp only [Act.put, List.getElem_toArray, List.getElem_cons_succ, List.getElem_cons_zero, List.setIfInBounds_toArray, List.set_cons_zero, List.set_cons_succ]
                    refine wpAnyH_take (i := 19) (v := ?_) rfl (by kernel_rfl) (by kernel_rfl) (by kernel_rfl) (fun _ _ _ h => h) (Or.inl ⟨by rfl, ?_⟩) (by assumption) ?_
                    rotate_left 1
                    · (intro w hSw; (try dsimp only at hSw); first | (go_simp; done) | (go_simp; with_reducible rfl))
                    try simp only [Act.put, List.getElem_toArray, List.getElem_cons_succ, List.getElem_cons_zero, List.setIfInBounds_toArray, List.set_cons_zero, List.set_cons_succ]
                    refine wpAnyH_take (i := 20) (v := ?_) rfl (by kernel_rfl) (by kernel_rfl) (by kernel_rfl) (fun _ _ _ h => h) (Or.inl ⟨by rfl, ?_⟩) (by assumption) ?_
                    rotate_left 1
                    · (intro w hSw; (try dsimp only at hSw); first | (go_simp; done) | (go_simp; with_reducible rfl))
                    try simp only [Act.put, List.getElem_toArray, List.getElem_cons_succ, List.getElem_cons_zero, List.setIfInBounds_toArray, List.set_cons_zero, List.set_cons_succ]
                    refine wpAnyH_take (i := 21) (v := ?_) rfl (by kernel_rfl) (by kernel_rfl) (by kernel_rfl) (fun _ _ _ h => h) (Or.inl ⟨by rfl, ?_⟩) (by assumption) ?_
                    rotate_left 1
                    · (intro w hSw; (try dsimp only at hSw); first | (go_simp; done) | (go_simp; with_reducible rfl))
                    try simp only [Act.put, List.getElem_toArray, List.getElem_cons_succ, List.getElem_cons_zero, List.setIfInBounds_toArray, List.set_cons_zero, List.set_cons_succ]
                    refine wpAnyH_take (i := 22) (v := ?_) rfl (by kernel_rfl) (by kernel_rfl) (by kernel_rfl) (fun _ _ _ h => h) (Or.inl ⟨by rfl, ?_⟩) (by assumption) ?_
                    rotate_left 1
                    · (intro w hSw; (try dsimp only at hSw); first | (go_simp; done) | (go_simp; with_reducible rfl))
                    try simp only [Act.put, List.getElem_toArray, List.getElem_cons_succ, List.getElem_cons_zero, List.setIfInBounds_toArray, List.set_cons_zero, List.set_cons_succ]
                    refine wpAnyH_take (i := 23) (v := ?_) rfl (by kernel_rfl) (by kernel_rfl) (by kernel_rfl) (fun _ _ _ h => h) (Or.inl ⟨by rfl, ?_⟩) (by assumption) ?_
                    rotate_left 1
                    · (intro w hSw; (try dsimp only at hSw); first | (go_simp; done) | (go_simp; with_reducible rfl))
                    try simp only [Act.put, List.getElem_toArray, List.getElem_cons_succ, List.getElem_cons_zero, List.setIfInBounds_toArray, List.set_cons_zero, List.set_cons_succ]
                    refine wpAnyH_take (i := 24) (v := ?_) rfl (by kernel_rfl) (by kernel_rfl) (by kernel_rfl) (fun _ _ _ h => h) (Or.inl ⟨by rfl, ?_⟩) (by assumption) ?_
                    rotate_left 1
                    · (intro w hSw; (try dsimp only at hSw); first | (go_simp; done) | (go_simp; with_reducible rfl))
                    try simp only [Act.put, List.getElem_toArray, List.getElem_cons_succ, List.getElem_cons_zero, List.setIfInBounds_toArray, List.set_cons_zero, List.set_cons_succ]
                    refine wpAnyH_take (i := 25) (v := ?_) rfl (by kernel_rfl) (by kernel_rfl) (by kernel_rfl) (fun _ _ _ h => h) (Or.inl ⟨by rfl, ?_⟩) (by assumption) ?_
                    rotate_left 1
                    · (intro w hSw; (try dsimp only at hSw); first | (go_simp; done) | (go_simp; with_reducible rfl))
                    try simp only [Act.put, List.getElem_toArray, List.getElem_cons_succ, List.getElem_cons_zero, List.setIfInBounds_toArray, List.set_cons_zero, List.set_cons_succ]
                    refine wpAnyH_take (i := 26) (v := ?_) rfl (by kernel_rfl) (by kernel_rfl) (by kernel_rfl) (fun _ _ _ h => h) (Or.inl ⟨by rfl, ?_⟩) (by assumption) ?_
                    rotate_left 1
                    · (intro w hSw; (try dsimp only at hSw); first | (go_simp; done) | (go_simp; with_reducible rfl))
                    try simp only [Act.put, List.getElem_toArray, List.getElem_cons_succ, List.getElem_cons_zero, List.setIfInBounds_toArray, List.set_cons_zero, List.set_cons_succ]
                    refine wpAnyH_take (i := 27) (v := ?_) rfl (by kernel_rfl) (by kernel_rfl) (by kernel_rfl) (fun _ _ _ h => h) (Or.inl ⟨by rfl, ?_⟩) (by assumption) ?_
                    rotate_left 1
                    · (intro w hSw; (try dsimp only at hSw); first | (go_simp; done) | (go_simp; with_reducible rfl))
                    try simp only [Act.put, List.getElem_toArray, List.getElem_cons_succ, List.getElem_cons_zero, List.setIfInBounds_toArray, List.set_cons_zero, List.set_cons_succ]
                    refine wpAnyH_take (i := 28) (v := ?_) rfl (by kernel_rfl) (by kernel_rfl) (by kernel_rfl) (fun _ _ _ h => h) (Or.inl ⟨by rfl, ?_⟩) (by assumption) ?_
                    rotate_left 1
                    · (intro w hSw; (try dsimp only at hSw); first | (go_simp; done) | (go_simp; with_reducible rfl))
                    try simp only [Act.put, List.getElem_toArray, List.getElem_cons_succ, List.getElem_cons_zero, List.setIfInBounds_toArray, List.set_cons_zero, List.set_cons_succ]
                    refine wpAnyH_take (i := 29) (v := ?_) rfl (by kernel_rfl) (by kernel_rfl) (by kernel_rfl) (fun _ _ _ h => h) (Or.inl ⟨by rfl, ?_⟩) (by assumption) ?_
                    rotate_left 1
                    · (intro w hSw; (try dsimp only at hSw); first | (go_simp; done) | (go_simp; with_reducible rfl))
                    try simp only [Act.put, List.getElem_toArray, List.getElem_cons_succ, List.getElem_cons_zero, List.setIfInBounds_toArray, List.set_cons_zero, List.set_cons_succ]
                    refine wpAnyH_take (i := 30) (v := ?_) rfl (by kernel_rfl) (by kernel_rfl) (by kernel_rfl) (fun _ _ _ h => h) (Or.inl ⟨by rfl, ?_⟩) (by assumption) ?_
                    rotate_left 1
                    · (intro w hSw; (try dsimp only at hSw); first | (go_simp; done) | (go_simp; with_reducible rfl))
                    try simp only [Act.put, List.getElem_toArray, List.getElem_cons_succ, List.getElem_cons_zero, List.setIfInBounds_toArray, List.set_cons_zero, List.set_cons_succ]
                    refine wpAnyH_take (i := 31) (v := ?_) rfl (by kernel_rfl) (by kernel_rfl) (by kernel_rfl) (fun _ _ _ h => h) (Or.inl ⟨by rfl, ?_⟩) (by assumption) ?_
                    rotate_left 1
                    · (intro w hSw; (try dsimp only at hSw); first | (go_simp; done) | (go_simp; with_reducible rfl))
                    try simp only [Act.put, List.getElem_toArray, List.getElem_cons_succ, List.getElem_cons_zero, List.setIfInBounds_toArray, List.set_cons_zero, List.set_cons_succ]
                    refine wpAnyH_ready (rs := [32]) (by kernel_rfl) (by simp) ?_
                    refine AllReadyH.cons rfl (fun K hK => ?_) AllReadyH.nil
                    go_simp
                    refine (refClose_any xy xr xn (.slice An nn cn) (yearEvs rs (1850 + (kn : Int)) rs.length) cn2 _ (by exact RdEv.below HUn.out (bel_trans hbc0 hbc1)) (year_len HLEN.out _) hx1 hx2 year_fit HCn).mono ?_
                    rintro e wc2 ⟨rfl, hbc2⟩
                    go_wp2_with fail
                    refine hK.out _ _ ?_ (fun hHeld => ?_)
                    · exact ⟨cellB (block_below HE9.out (bel_trans (bel_trans hbc0 hbc1) hbc2)) (i := 0) rfl, cellB (block_below HE9.out (bel_trans (bel_trans hbc0 hbc1) hbc2)) (i := 1) rfl, cellB (block_below HE9.out (bel_trans (bel_trans hbc0 hbc1) hbc2)) (i := 2) rfl, row_cell (row_below HRW.out (bel_trans (bel_trans hbc0 hbc1) hbc2)) hkm HVk.out, row_cell (row_below HRW.out (bel_trans (bel_trans hbc0 hbc1) hbc2)) hkp HVp.out, row_cell (row_below HRW.out (bel_trans (bel_trans hbc0 hbc1) hbc2)) hkn HVn.out⟩
                    clear hK K
                    try simp only [Act.put, List.getElem_toArray, List.getElem_cons_succ, List.getElem_cons_zero, List.setIfInBounds_toArray, List.set_cons_zero, List.set_cons_succ]
                    refine wpAnyH_take (i := 33) (v := ?_) rfl (by kernel_rfl) (by kernel_rfl) (by kernel_rfl) (fun _ _ _ h => h) (Or.inl ⟨by rfl, ?_⟩) (by assumption) ?_
                    rotate_left 1
                    · (intro w hSw; (try dsimp only at hSw); first | (go_simp; done) | (go_simp; with_reducible rfl))
                    try simp only [Act.put, List.getElem_toArray, List.getElem_cons_succ, List.getElem_cons_zero, List.setIfInBounds_toArray, List.set_cons_zero, List.set_cons_succ]
                    refine wpAnyH_take (i := 34) (v := ?_) rfl (by kernel_rfl) (by kernel_rfl) (by kernel_rfl) (fun _ _ _ h => h) (Or.inl ⟨by rfl, ?_⟩) (by assumption) ?_
                    rotate_left 1
                    · (intro w hSw; (try dsimp only at hSw); first | (go_simp; done) | (go_simp; with_reducible rfl))
                    try simp only [Act.put, List.getElem_toArray, List.getElem_cons_succ, List.getElem_cons_zero, List.setIfInBounds_toArray, List.set_cons_zero, List.set_cons_succ]
                    refine wpAnyH_take (i := 35) (v := ?_) rfl (by kernel_rfl) (by kernel_rfl) (by kernel_rfl) (fun _ _ _ h => h) (Or.inl ⟨by rfl, ?_⟩) (by assumption) ?_
                    rotate_left 1
                    · (intro w hSw; (try dsimp only at hSw); first | (go_simp; done) | (go_simp; with_reducible rfl))
                    try simp only [Act.put, List.getElem_toArray, List.getElem_cons_succ, List.getElem_cons_zero, List.setIfInBounds_toArray, List.set_cons_zero, List.set_cons_succ]
                    refine wpAnyH_done (by kernel_rfl) ?_ _
                    go_wp2_with fail
                    go_meet
                    case rel => exact ⟨by rw [HRES.out], Lib.hid (bel_trans (bel_trans hbc0 hbc1) hbc2)⟩
                  · have HRES := Lib.hid (show false = nr by
                      cases nr with
                      | false => rfl
                      | true =>
                        exfalso
                        rcases (close_iff hkm HMEM.out).1 (HNR.out.1 rfl) with h | ⟨p, hp, h⟩ | ⟨h1, _⟩
                        · exact HCk.out h
                        · obtain rfl : p = kp := by omega
                          exact HCp.out h
                        · omega)
                    obtain ⟨kn, hkn1⟩ : ∃ kn, kn = k + 1 := ⟨_, rfl⟩
                    have hwn : IntKind.i64.wrap ((k : Int) + 1) = (kn : Int) := by rw [show (k : Int) + 1 = (kn : Int) by omega]; exact IntWalk.i64_in _ (by omega)
                    have hn0 : (701 : Int) ≤ (kn : Int) := by omega
                    have hn2 : decide ((kn : Int) < 701) = false := by simp; omega
                    have hn3 : ¬ ((kn : Int) < 701) := by omega
                    clear hkn1
                    clear hkp1 hk7
                    go_wp2_with fail
                    refine wp_region_held_drew (S := (fun w' => w'.cell? ⟨wr.heap.size, 0, none⟩ = some (.int .i64 xy) ∧ w'.cell? ⟨wr.heap.size, 1, none⟩ = some (.int .i64 xr) ∧ w'.cell? ⟨wr.heap.size, 2, none⟩ = some (.int .i64 xn) ∧ w'.cell? ⟨B, k, none⟩ = some (.slice (some ⟨g, off, none⟩) nk ck) ∧ w'.cell? ⟨B, kp, none⟩ = some (.slice Ap np cp))) (by kernel_rfl) (by exact ⟨cellB HE9.out (i := 0) rfl, cellB HE9.out (i := 1) rfl, cellB HE9.out (i := 2) rfl, row_cell HRW.out hkm HVk.out, row_cell HRW.out hkp HVp.out⟩) (fun hHeld => ?_)
                    refine wpAnyH_take (i := 0) (v := ?_) rfl (by kernel_rfl) (by kernel_rfl) (by kernel_rfl) (fun _ _ _ h => h) (Or.inl ⟨by rfl, ?_⟩) (by assumption) ?_
                    rotate_left 1
                    · (intro w hSw; (try dsimp only at hSw); first | (go_simp; done) | (go_simp; with_reducible rfl))
                    try simp only [Act.put, List.getElem_toArray, List.getElem_cons_succ, List.getElem_cons_zero, List.setIfInBounds_toArray, List.set_cons_zero, List.set_cons_succ]
                    refine wpAnyH_take (i := 1) (v := ?_) rfl (by kernel_rfl) (by kernel_rfl) (by kernel_rfl) (fun _ _ _ h => h) (Or.inl ⟨by rfl, ?_⟩) (by assumption) ?_
                    rotate_left 1
                    · (intro w hSw; (try dsimp only at hSw); first | (go_simp; done) | (go_simp; with_reducible rfl))
                    try simp only [Act.put, List.getElem_toArray, List.getElem_cons_succ, List.getElem_cons_zero, List.setIfInBounds_toArray, List.set_cons_zero, List.set_cons_succ]
                    refine wpAnyH_take (i := 2) (v := ?_) rfl (by kernel_rfl) (by kernel_rfl) (by kernel_rfl) (fun _ _ _ h => h) (Or.inl ⟨by rfl, ?_⟩) (by assumption) ?_
                    rotate_left 1
                    · (intro w hSw; (try dsimp only at hSw); first | (go_simp; done) | (go_simp; with_reducible rfl))
                    try simp only [Act.put, List.getElem_toArray, List.getElem_cons_succ, List.getElem_cons_zero, List.setIfInBounds_toArray, List.set_cons_zero, List.set_cons_succ]
                    refine wpAnyH_take (i := 3) (v := ?_) rfl (by kernel_rfl) (by kernel_rfl) (by kernel_rfl) (fun _ _ _ h => h) (Or.inl ⟨by rfl, ?_⟩) (by assumption) ?_
                    rotate_left 1
                    · (intro w hSw; (try dsimp only at hSw); first | (go_simp; done) | (go_simp; with_reducible rfl))
                    try simp only [Act.put, List.getElem_toArray, List.getElem_cons_succ, List.getElem_cons_zero, List.setIfInBounds_toArray, List.set_cons_zero, List.set_cons_succ]
                    refine wpAnyH_take (i := 4) (v := ?_) rfl (by kernel_rfl) (by kernel_rfl) (by kernel_rfl) (fun _ _ _ h => h) (Or.inl ⟨by rfl, ?_⟩) (by assumption) ?_
                    rotate_left 1
                    · (intro w hSw; (try dsimp only at hSw); first | (go_simp; done) | (go_simp; with_reducible rfl))
                    try simp only [Act.put, List.getElem_toArray, List.getElem_cons_succ, List.getElem_cons_zero, List.setIfInBounds_toArray, List.set_cons_zero, List.set_cons_succ]
                    refine wpAnyH_ready (rs := [5]) (by kernel_rfl) (by simp) ?_
                    refine AllReadyH.cons rfl (fun K hK => ?_) AllReadyH.nil
                    go_simp
                    refine (refClose_any xy xr xn (.slice (some ⟨g, off, none⟩) nk ck) (yearEvs rs (1850 + (k : Int)) rs.length) false _ (by exact HUk.out) (year_len HLEN.out _) hx1 hx2 year_fit (Lib.hid ⟨fun h => (by cases h), fun h => (HCk.out h).elim⟩)).mono ?_
                    rintro e wc0 ⟨rfl, hbc0⟩
                    go_wp2_with fail
                    refine hK.out _ _ ?_ (fun hHeld => ?_)
                    · exact ⟨cellB (block_below HE9.out hbc0) (i := 0) rfl, cellB (block_below HE9.out hbc0) (i := 1) rfl, cellB (block_below HE9.out hbc0) (i := 2) rfl, row_cell (row_below HRW.out hbc0) hkm HVk.out, row_cell (row_below HRW.out hbc0) hkp HVp.out⟩
                    clear hK K
                    try simp only [Act.put, List.getElem_toArray, List.getElem_cons_succ, List.getElem_cons_zero, List.setIfInBounds_toArray, List.set_cons_zero, List.set_cons_succ]
                    refine wpAnyH_take (i := 6) (v := ?_) rfl (by kernel_rfl) (by kernel_rfl) (by kernel_rfl) (fun _ _ _ h => h) (Or.inl ⟨by rfl, ?_⟩) (by assumption) ?_
                    rotate_left 1
                    · (intro w hSw; (try dsimp only at hSw); first | (go_simp; done) | (go_simp; with_reducible rfl))
                    try simp only [Act.put, List.getElem_toArray, List.getElem_cons_succ, List.getElem_cons_zero, List.setIfInBounds_toArray, List.set_cons_zero, List.set_cons_succ]
                    refine wpAnyH_take (i := 7) (v := ?_) rfl (by kernel_rfl) (by kernel_rfl) (by kernel_rfl) (fun _ _ _ h => h) (Or.inl ⟨by rfl, ?_⟩) (by assumption) ?_
                    rotate_left 1
                    · (intro w hSw; (try dsimp only at hSw); first | (go_simp; done) | (go_simp; with_reducible rfl))
                    try simp only [Act.put, List.getElem_toArray, List.getElem_cons_succ, List.getElem_cons_zero, List.setIfInBounds_toArray, List.set_cons_zero, List.set_cons_succ]
                    refine wpAnyH_take (i := 8) (v := ?_) rfl (by kernel_rfl) (by kernel_rfl) (by kernel_rfl) (fun _ _ _ h => h) (Or.inl ⟨by rfl, ?_⟩) (by assumption) ?_
                    rotate_left 1
                    · (intro w hSw; (try dsimp only at hSw); first | (go_simp; done) | (go_simp; with_reducible rfl))
                    try simp only [Act.put, List.getElem_toArray, List.getElem_cons_succ, List.getElem_cons_zero, List.setIfInBounds_toArray, List.set_cons_zero, List.set_cons_succ]
                    refine wpAnyH_take (i := 9) (v := ?_) rfl (by kernel_rfl) (by kernel_rfl) (by kernel_rfl) (fun _ _ _ h => h) (Or.inl ⟨by rfl, ?_⟩) (by assumption) ?_
                    rotate_left 1
                    · (intro w hSw; (try dsimp only at hSw); first | (go_simp; done) | (go_simp; with_reducible rfl))
                    try simp only [Act.put, List.getElem_toArray, List.getElem_cons_succ, List.getElem_cons_zero, List.setIfInBounds_toArray, List.set_cons_zero, List.set_cons_succ]
                    refine wpAnyH_take (i := 10) (v := ?_) rfl (by kernel_rfl) (by kernel_rfl) (by kernel_rfl) (fun _ _ _ h => h) (Or.inl ⟨by rfl, ?_⟩) (by assumption) ?_
                    rotate_left 1
                    · (intro w hSw; (try dsimp only at hSw); first | (go_simp; done) | (go_simp; with_reducible rfl))
                    try simp only [Act.put, List.getElem_toArray, List.getElem_cons_succ, List.getElem_cons_zero, List.setIfInBounds_toArray, List.set_cons_zero, List.set_cons_succ]
                    refine wpAnyH_take (i := 11) (v := ?_) rfl (by kernel_rfl) (by kernel_rfl) (by kernel_rfl) (fun _ _ _ h => h) (Or.inl ⟨by rfl, ?_⟩) (by assumption) ?_
                    rotate_left 1
                    · (intro w hSw; (try dsimp only at hSw); first | (go_simp; done) | (go_simp; with_reducible rfl))
                    try simp only [Act.put, List.getElem_toArray, List.getElem_cons_succ, List.getElem_cons_zero, List.setIfInBounds_toArray, List.set_cons_zero, List.set_cons_succ]
                    refine wpAnyH_take (i := 12) (v := ?_) rfl (by kernel_rfl) (by kernel_rfl) (by kernel_rfl) (fun _ _ _ h => h) (Or.inl ⟨by rfl, ?_⟩) (by assumption) ?_
                    rotate_left 1
                    · (intro w hSw; (try dsimp only at hSw); first | (go_simp; done) | (go_simp; with_reducible rfl))
                    try simp only [Act.put, List.getElem_toArray, List.getElem_cons_succ, List.getElem_cons_zero, List.setIfInBounds_toArray, List.set_cons_zero, List.set_cons_succ]
                    refine wpAnyH_take (i := 13) (v := ?_) rfl (by kernel_rfl) (by kernel_rfl) (by kernel_rfl) (fun _ _ _ h => h) (Or.inl ⟨by rfl, ?_⟩) (by assumption) ?_
                    rotate_left 1
                    · (intro w hSw; (try dsimp only at hSw); first | (go_simp; done) | (go_simp; with_reducible rfl))
                    try simp only [Act.put, List.getElem_toArray, List.getElem_cons_succ, List.getElem_cons_zero, List.setIfInBounds_toArray, List.set_cons_zero, List.set_cons_succ]
                    refine wpAnyH_take (i := 14) (v := ?_) rfl (by kernel_rfl) (by kernel_rfl) (by kernel_rfl) (fun _ _ _ h => h) (Or.inl ⟨by rfl, ?_⟩) (by assumption) ?_
                    rotate_left 1
                    · (intro w hSw; (try dsimp only at hSw); first | (go_simp; done) | (go_simp; with_reducible rfl))
                    try simp only [Act.put, List.getElem_toArray, List.getElem_cons_succ, List.getElem_cons_zero, List.setIfInBounds_toArray, List.set_cons_zero, List.set_cons_succ]
                    refine wpAnyH_take (i := 15) (v := ?_) rfl (by kernel_rfl) (by kernel_rfl) (by kernel_rfl) (fun _ _ _ h => h) (Or.inl ⟨by rfl, ?_⟩) (by assumption) ?_
                    rotate_left 1
                    · (intro w hSw; (try dsimp only at hSw); first | (go_simp; done) | (go_simp; with_reducible rfl))
                    try simp only [Act.put, List.getElem_toArray, List.getElem_cons_succ, List.getElem_cons_zero, List.setIfInBounds_toArray, List.set_cons_zero, List.set_cons_succ]
                    refine wpAnyH_ready (rs := [16]) (by kernel_rfl) (by simp) ?_
                    refine AllReadyH.cons rfl (fun K hK => ?_) AllReadyH.nil
                    go_simp
                    refine (refClose_any xy xr xn (.slice Ap np cp) (yearEvs rs (1850 + (kp : Int)) rs.length) false _ (by exact RdEv.below HUp.out hbc0) (year_len HLEN.out _) hx1 hx2 year_fit (Lib.hid ⟨fun h => (by cases h), fun h => (HCp.out h).elim⟩)).mono ?_
                    rintro e wc1 ⟨rfl, hbc1⟩
                    go_wp2_with fail
                    refine hK.out _ _ ?_ (fun hHeld => ?_)
                    · exact ⟨cellB (block_below HE9.out (bel_trans hbc0 hbc1)) (i := 0) rfl, cellB (block_below HE9.out (bel_trans hbc0 hbc1)) (i := 1) rfl, cellB (block_below HE9.out (bel_trans hbc0 hbc1)) (i := 2) rfl, row_cell (row_below HRW.out (bel_trans hbc0 hbc1)) hkm HVk.out, row_cell (row_below HRW.out (bel_trans hbc0 hbc1)) hkp HVp.out⟩
                    clear hK K
                    try simp only [Act.put, List.getElem_toArray, List.getElem_cons_succ, List.getElem_cons_zero, List.setIfInBounds_toArray, List.set_cons_zero, List.set_cons_succ]
                    refine wpAnyH_take (i := 17) (v := ?_) rfl (by kernel_rfl) (by kernel_rfl) (by kernel_rfl) (fun _ _ _ h => h) (Or.inl ⟨by rfl, ?_⟩) (by assumption) ?_
                    rotate_left 1
                    · (intro w hSw; (try dsimp only at hSw); first | (go_simp; done) | (go_simp; with_reducible rfl))
                    try simp only [Act.put, List.getElem_toArray, List.getElem_cons_succ, List.getElem_cons_zero, List.setIfInBounds_toArray, List.set_cons_zero, List.set_cons_succ]
                    refine wpAnyH_take (i := 18) (v := ?_) rfl (by kernel_rfl) (by kernel_rfl) (by kernel_rfl) (fun _ _ _ h => h) (Or.inl ⟨by rfl, ?_⟩) (by assumption) ?_
                    rotate_left 1
                    · (intro w hSw; (try dsimp only at hSw); first | (go_simp; done) | (go_simp; with_reducible rfl))
                    try simp only [Act.put, List.getElem_toArray, List.getElem_cons_succ, List.getElem_cons_zero, List.setIfInBounds_toArray, List.set_cons_zero, List.set_cons_succ]
                    refine wpAnyH_take (i := 19) (v := ?_) rfl (by kernel_rfl) (by kernel_rfl) (by kernel_rfl) (fun _ _ _ h => h) (Or.inl ⟨by rfl, ?_⟩) (by assumption) ?_
                    rotate_left 1
                    · (intro w hSw; (try dsimp only at hSw); first | (go_simp; done) | (go_simp; with_reducible rfl))
                    try simp only [Act.put, List.getElem_toArray, List.getElem_cons_succ, List.getElem_cons_zero, List.setIfInBounds_toArray, List.set_cons_zero, List.set_cons_succ]
                    refine wpAnyH_take (i := 20) (v := ?_) rfl (by kernel_rfl) (by kernel_rfl) (by kernel_rfl) (fun _ _ _ h => h) (Or.inl ⟨by rfl, ?_⟩) (by assumption) ?_
                    rotate_left 1
                    · (intro w hSw; (try dsimp only at hSw); first | (go_simp; done) | (go_simp; with_reducible rfl))
                    try simp only [Act.put, List.getElem_toArray, List.getElem_cons_succ, List.getElem_cons_zero, List.setIfInBounds_toArray, List.set_cons_zero, List.set_cons_succ]
                    refine wpAnyH_take (i := 21) (v := ?_) rfl (by kernel_rfl) (by kernel_rfl) (by kernel_rfl) (fun _ _ _ h => h) (Or.inl ⟨by rfl, ?_⟩) (by assumption) ?_
                    rotate_left 1
                    · (intro w hSw; (try dsimp only at hSw); first | (go_simp; done) | (go_simp; with_reducible rfl))
                    try simp only [Act.put, List.getElem_toArray, List.getElem_cons_succ, List.getElem_cons_zero, List.setIfInBounds_toArray, List.set_cons_zero, List.set_cons_succ]
                    refine wpAnyH_take (i := 22) (v := ?_) rfl (by kernel_rfl) (by kernel_rfl) (by kernel_rfl) (fun _ _ _ h => h) (Or.inl ⟨by rfl, ?_⟩) (by assumption) ?_
                    rotate_left 1
                    · (intro w hSw; (try dsimp only at hSw); first | (go_simp; done) | (go_simp; with_reducible rfl))
                    try simp only [Act.put, List.getElem_toArray, List.getElem_cons_succ, List.getElem_cons_zero, List.setIfInBounds_toArray, List.set_cons_zero, List.set_cons_succ]
                    refine wpAnyH_take (i := 23) (v := ?_) rfl (by kernel_rfl) (by kernel_rfl) (by kernel_rfl) (fun _ _ _ h => h) (Or.inl ⟨by rfl, ?_⟩) (by assumption) ?_
                    rotate_left 1
                    · (intro w hSw; (try dsimp only at hSw); first | (go_simp; done) | (go_simp; with_reducible rfl))
                    try simp only [Act.put, List.getElem_toArray, List.getElem_cons_succ, List.getElem_cons_zero, List.setIfInBounds_toArray, List.set_cons_zero, List.set_cons_succ]
                    refine wpAnyH_take (i := 24) (v := ?_) rfl (by kernel_rfl) (by kernel_rfl) (by kernel_rfl) (fun _ _ _ h => h) (Or.inl ⟨by rfl, ?_⟩) (by assumption) ?_
                    rotate_left 1
                    · (intro w hSw; (try dsimp only at hSw); first | (go_simp; done) | (go_simp; with_reducible rfl))
                    try simp only [Act.put, List.getElem_toArray, List.getElem_cons_succ, List.getElem_cons_zero, List.setIfInBounds_toArray, List.set_cons_zero, List.set_cons_succ]
                    refine wpAnyH_take (i := 25) (v := ?_) rfl (by kernel_rfl) (by kernel_rfl) (by kernel_rfl) (fun _ _ _ h => h) (Or.inl ⟨by rfl, ?_⟩) (by assumption) ?_
                    rotate_left 1
                    · (intro w hSw; (try dsimp only at hSw); first | (go_simp; done) | (go_simp; with_reducible rfl))
                    try simp only [Act.put, List.getElem_toArray, List.getElem_cons_succ, List.getElem_cons_zero, List.setIfInBounds_toArray, List.set_cons_zero, List.set_cons_succ]
                    refine wpAnyH_take (i := 26) (v := undef) rfl (by kernel_rfl) (by kernel_rfl) (by kernel_rfl) (fun _ _ _ h => h) (Or.inr ⟨by rfl, rfl⟩) (by assumption) ?_
                    try simp only [Act.put, List.getElem_toArray, List.getElem_cons_succ, List.getElem_cons_zero, List.setIfInBounds_toArray, List.set_cons_zero, List.set_cons_succ]
                    refine wpAnyH_take (i := 27) (v := undef) rfl (by kernel_rfl) (by kernel_rfl) (by kernel_rfl) (fun _ _ _ h => h) (Or.inr ⟨by rfl, rfl⟩) (by assumption) ?_
                    try simp only [Act.put, List.getElem_toArray, List.getElem_cons_succ, List.getElem_cons_zero, List.setIfInBounds_toArray, List.set_cons_zero, List.set_cons_succ]
                    refine wpAnyH_take (i := 28) (v := undef) rfl (by kernel_rfl) (by kernel_rfl) (by kernel_rfl) (fun _ _ _ h => h) (Or.inr ⟨by rfl, rfl⟩) (by assumption) ?_
                    try simp only [Act.put, List.getElem_toArray, List.getElem_cons_succ, List.getElem_cons_zero, List.setIfInBounds_toArray, List.set_cons_zero, List.set_cons_succ]
                    refine wpAnyH_take (i := 29) (v := undef) rfl (by kernel_rfl) (by kernel_rfl) (by kernel_rfl) (fun _ _ _ h => h) (Or.inr ⟨by rfl, rfl⟩) (by assumption) ?_
                    try simp only [Act.put, List.getElem_toArray, List.getElem_cons_succ, List.getElem_cons_zero, List.setIfInBounds_toArray, List.set_cons_zero, List.set_cons_succ]
                    refine wpAnyH_take (i := 30) (v := undef) rfl (by kernel_rfl) (by kernel_rfl) (by kernel_rfl) (fun _ _ _ h => h) (Or.inr ⟨by rfl, rfl⟩) (by assumption) ?_
                    try simp only [Act.put, List.getElem_toArray, List.getElem_cons_succ, List.getElem_cons_zero, List.setIfInBounds_toArray, List.set_cons_zero, List.set_cons_succ]
                    refine wpAnyH_take (i := 31) (v := undef) rfl (by kernel_rfl) (by kernel_rfl) (by kernel_rfl) (fun _ _ _ h => h) (Or.inr ⟨by rfl, rfl⟩) (by assumption) ?_
                    try simp only [Act.put, List.getElem_toArray, List.getElem_cons_succ, List.getElem_cons_zero, List.setIfInBounds_toArray, List.set_cons_zero, List.set_cons_succ]
                    refine wpAnyH_take (i := 32) (v := undef) rfl (by kernel_rfl) (by kernel_rfl) (by kernel_rfl) (fun _ _ _ h => h) (Or.inr ⟨by rfl, rfl⟩) (by assumption) ?_
                    try simp only [Act.put, List.getElem_toArray, List.getElem_cons_succ, List.getElem_cons_zero, List.setIfInBounds_toArray, List.set_cons_zero, List.set_cons_succ]
                    refine wpAnyH_take (i := 33) (v := ?_) rfl (by kernel_rfl) (by kernel_rfl) (by kernel_rfl) (fun _ _ _ h => h) (Or.inl ⟨by rfl, ?_⟩) (by assumption) ?_
                    rotate_left 1
                    · (intro w hSw; (try dsimp only at hSw); first | (go_simp; done) | (go_simp; with_reducible rfl))
                    try simp only [Act.put, List.getElem_toArray, List.getElem_cons_succ, List.getElem_cons_zero, List.setIfInBounds_toArray, List.set_cons_zero, List.set_cons_succ]
                    refine wpAnyH_take (i := 34) (v := ?_) rfl (by kernel_rfl) (by kernel_rfl) (by kernel_rfl) (fun _ _ _ h => h) (Or.inl ⟨by rfl, ?_⟩) (by assumption) ?_
                    rotate_left 1
                    · (intro w hSw; (try dsimp only at hSw); first | (go_simp; done) | (go_simp; with_reducible rfl))
                    try simp only [Act.put, List.getElem_toArray, List.getElem_cons_succ, List.getElem_cons_zero, List.setIfInBounds_toArray, List.set_cons_zero, List.set_cons_succ]
                    refine wpAnyH_take (i := 35) (v := ?_) rfl (by kernel_rfl) (by kernel_rfl) (by kernel_rfl) (fun _ _ _ h => h) (Or.inl ⟨by rfl, ?_⟩) (by assumption) ?_
                    rotate_left 1
                    · (intro w hSw; (try dsimp only at hSw); first | (go_simp; done) | (go_simp; with_reducible rfl))
                    try simp only [Act.put, List.getElem_toArray, List.getElem_cons_succ, List.getElem_cons_zero, List.setIfInBounds_toArray, List.set_cons_zero, List.set_cons_succ]
                    refine wpAnyH_done (by kernel_rfl) ?_ _
                    go_wp2_with fail
                    go_meet
                    case rel => exact ⟨by rw [HRES.out], Lib.hid (bel_trans hbc0 hbc1)⟩
          case rest =>
            obtain ⟨rfl, hbw⟩ := hcut
            have HBr := Lib.hid (bel_trans (Below.drew HB9.out) hbw.out)
            have HEr := Lib.hid (block_below HE9.out hbw.out)
            have HSTr := Lib.hid (show (((u6 = .bool false) ∧ Hid (wc.heap[w2.heap.size]? = some (.cells #[.int .i64 0, .int .i64 0, .int .i64 0] 25)) ∧ Hid (MinOf (PIc rs k j) none)) ∨ (∃ ey er en : Int, u6 = .bool true ∧ Hid (wc.heap[w2.heap.size]? = some (.cells #[.int .i64 ey, .int .i64 er, .int .i64 en] 25)) ∧ Hid (MinOf (PIc rs k j) (some ⟨ey, er, en⟩)))) from by
              rcases HST9.out with ⟨h1, h2, h3⟩ | ⟨ey, er, en, h1, h2, h3⟩
              · exact .inl ⟨h1, Lib.hid (block_below (show (wr.alloc (.cells #[.int .i64 xy, .int .i64 xr, .int .i64 xn] 25)).drew.heap[w2.heap.size]? = _ from h2.out) hbw.out), h3⟩
              · exact .inr ⟨ey, er, en, h1, Lib.hid (block_below (show (wr.alloc (.cells #[.int .i64 xy, .int .i64 xr, .int .i64 xn] 25)).drew.heap[w2.heap.size]? = _ from h2.out) hbw.out), h3⟩)
            clear HB9 HE9 HST9 HRW HUk hbw HST HB HRW1
            have e0 := cellB HEr.out (i := 0) rfl
            have e1 := cellB HEr.out (i := 1) rfl
            have e2 := cellB HEr.out (i := 2) rfl
            cases nr with
            | false =>
              have HNC := Lib.hid (show ¬ Close rs ⟨xy, xr, xn⟩ from fun h => (by cases HNR.out.2 h))
              clear HNR
              go_wp2_with fail
              refine ⟨?_, by simp [intOf]; omega⟩
              first | exact ⟨j + 1, _, by omega, by go_num, rfl, HBr, (by
                rcases HSTr.out with ⟨h1, h2, h3⟩ | ⟨ey, er, en, h1, h2, h3⟩
                · exact .inl ⟨h1, h2, Lib.hid (pi_skip HX.out h3.out HNC.out)⟩
                · exact .inr ⟨ey, er, en, h1, h2, Lib.hid (pi_skip HX.out h3.out HNC.out)⟩)⟩ | ((repeat apply Exists.intro); refine ⟨?_, rfl⟩; exact ⟨j + 1, _, by omega, by go_num, rfl, HBr, (by
                rcases HSTr.out with ⟨h1, h2, h3⟩ | ⟨ey, er, en, h1, h2, h3⟩
                · exact .inl ⟨h1, h2, Lib.hid (pi_skip HX.out h3.out HNC.out)⟩
                · exact .inr ⟨ey, er, en, h1, h2, Lib.hid (pi_skip HX.out h3.out HNC.out)⟩)⟩)
            | true =>
              have HC := Lib.hid (HNR.out.1 rfl)
              clear HNR
              rcases HSTr.out with ⟨hf6, HK, HM⟩ | ⟨ey, er, en, hf6, HK, HM⟩
              · subst hf6
                clear HSTr
                go_wp2_with (refine wpList_store_mid rfl _ _ _ rfl w2.heap.size 0 #[.int .i64 xy, .int .i64 xr, .int .i64 xn] rfl rfl (there3y HK.out) (by kernel_rfl) (by simp [Value.oneCell']) ?_)
                refine ⟨?_, by simp [intOf]; omega⟩
                first | exact ⟨j + 1, _, by omega, by go_num, rfl, (Lib.hid (bel_setCells (o := 0) (l := [.int .i64 xy, .int .i64 xr, .int .i64 xn]) HBr.out (Nat.le_refl _))), (.inr ⟨xy, xr, xn, rfl, Lib.hid (set3c HK.out), Lib.hid (pi_first HX.out HC.out HM.out)⟩)⟩ | ((repeat apply Exists.intro); refine ⟨?_, rfl⟩; exact ⟨j + 1, _, by omega, by go_num, rfl, (Lib.hid (bel_setCells (o := 0) (l := [.int .i64 xy, .int .i64 xr, .int .i64 xn]) HBr.out (Nat.le_refl _))), (.inr ⟨xy, xr, xn, rfl, Lib.hid (set3c HK.out), Lib.hid (pi_first HX.out HC.out HM.out)⟩)⟩)
              · subst hf6
                clear HSTr
                have z0 := cellB HK.out (i := 0) rfl
                have z1 := cellB HK.out (i := 1) rfl
                have z2 := cellB HK.out (i := 2) rfl
                by_cases hl : Ev.lt ⟨xy, xr, xn⟩ ⟨ey, er, en⟩
                · have HL := Lib.hid hl
                  clear hl
                  go_wp2_with fail
                  refine (before18_any xy xr xn ey er en true _ (Lib.hid ⟨fun _ => HL.out, fun _ => rfl⟩)).mono ?_
                  rintro e w7 ⟨rfl, hb7⟩
                  have HBr := Lib.hid (bel_trans HBr.out hb7)
                  have HK := Lib.hid (block_below HK.out hb7)
                  have HEr := Lib.hid (block_below HEr.out hb7)
                  clear hb7 e0 e1 e2 z0 z1 z2
                  have e0 := cellB HEr.out (i := 0) rfl
                  have e1 := cellB HEr.out (i := 1) rfl
                  have e2 := cellB HEr.out (i := 2) rfl
                  go_wp2_with (refine wpList_store_mid rfl _ _ _ rfl w2.heap.size 0 #[.int .i64 xy, .int .i64 xr, .int .i64 xn] rfl rfl (there3y HK.out) (by kernel_rfl) (by simp [Value.oneCell']) ?_)
                  refine ⟨?_, by simp [intOf]; omega⟩
                  first | exact ⟨j + 1, _, by omega, by go_num, rfl, (Lib.hid (bel_setCells (o := 0) (l := [.int .i64 xy, .int .i64 xr, .int .i64 xn]) HBr.out (Nat.le_refl _))), (.inr ⟨xy, xr, xn, rfl, Lib.hid (set3c HK.out), Lib.hid (pi_new HX.out HC.out HM.out HL.out)⟩)⟩ | ((repeat apply Exists.intro); refine ⟨?_, rfl⟩; exact ⟨j + 1, _, by omega, by go_num, rfl, (Lib.hid (bel_setCells (o := 0) (l := [.int .i64 xy, .int .i64 xr, .int .i64 xn]) HBr.out (Nat.le_refl _))), (.inr ⟨xy, xr, xn, rfl, Lib.hid (set3c HK.out), Lib.hid (pi_new HX.out HC.out HM.out HL.out)⟩)⟩)
                · have HL := Lib.hid hl
                  clear hl
                  go_wp2_with fail
                  refine (before18_any xy xr xn ey er en false _ (Lib.hid ⟨fun h => (by cases h), fun h => (HL.out h).elim⟩)).mono ?_
                  rintro e w7 ⟨rfl, hb7⟩
                  have HBr := Lib.hid (bel_trans HBr.out hb7)
                  have HK := Lib.hid (block_below HK.out hb7)
                  clear hb7 e0 e1 e2 z0 z1 z2
                  go_wp2_with fail
                  refine ⟨?_, by simp [intOf]; omega⟩
                  first | exact ⟨j + 1, _, by omega, by go_num, rfl, HBr, (.inr ⟨ey, er, en, rfl, HK, Lib.hid (pi_old HX.out HC.out HM.out HL.out)⟩)⟩ | ((repeat apply Exists.intro); refine ⟨?_, rfl⟩; exact ⟨j + 1, _, by omega, by go_num, rfl, HBr, (.inr ⟨ey, er, en, rfl, HK, Lib.hid (pi_old HX.out HC.out HM.out HL.out)⟩)⟩)
        · obtain rfl : nk = j := by omega
          have hnn : ¬ (nk : Int) < (nk : Int) := by omega
          go_wp2_with fail
          refine ⟨?_, by simp [intOf]; omega⟩
          first
            | exact ⟨k + 1, _, by omega, by go_num, rfl, HB, (by
                rcases HST.out with ⟨h1, h2, h3⟩ | ⟨ey, er, en, h1, h2, h3⟩
                · exact .inl ⟨h1, h2, Lib.hid (pc_end HNK.out h3.out)⟩
                · exact .inr ⟨ey, er, en, h1, h2, Lib.hid (pc_end HNK.out h3.out)⟩)⟩
            | ((repeat apply Exists.intro); refine ⟨?_, rfl⟩; exact ⟨k + 1, _, by omega, by go_num, rfl, HB, (by
                rcases HST.out with ⟨h1, h2, h3⟩ | ⟨ey, er, en, h1, h2, h3⟩
                · exact .inl ⟨h1, h2, Lib.hid (pc_end HNK.out h3.out)⟩
                · exact .inr ⟨ey, er, en, h1, h2, Lib.hid (pc_end HNK.out h3.out)⟩)⟩)
    · obtain rfl : k = 701 := by omega
      have HZq := Lib.hid (block_below HZ0.out HB.out)
      have HBq := Lib.hid (bel_trans HB0.out HB.out)
      have y0 := cellB HZq.out (i := 0) rfl
      have y1 := cellB HZq.out (i := 1) rfl
      have y2 := cellB HZq.out (i := 2) rfl
      have f0 := frzB HZq.out 0
      have f1 := frzB HZq.out 1
      have f2 := frzB HZq.out 2
      rcases HST.out with ⟨hf6, HK, HM⟩ | ⟨ey, er, en, hf6, HK, HM⟩
      · subst hf6
        clear HST
        have z0 := cellB HK.out (i := 0) rfl
        have z1 := cellB HK.out (i := 1) rfl
        have z2 := cellB HK.out (i := 2) rfl
        go_wp2_with fail
        refine bodyPost_ret (res_cell_tmp rfl _ _ _ _ _ _ _ rfl (set3c HZq.out) Tryd.underlying25 rfl (by kernel_rfl)) rfl ?_
        exact ChkR.none_ (pc_last HM.out) (bel_setCells (o := 0) (l := [.int .i64 0, .int .i64 0, .int .i64 0]) HBq.out (Nat.le_refl _))
      · subst hf6
        clear HST
        have z0 := cellB HK.out (i := 0) rfl
        have z1 := cellB HK.out (i := 1) rfl
        have z2 := cellB HK.out (i := 2) rfl
        go_wp2_with fail
        refine bodyPost_ret (res_cell_tmp rfl _ _ _ _ _ _ _ rfl (set3c HZq.out) Tryd.underlying25 rfl (by kernel_rfl)) rfl ?_
        exact ChkR.some_ (pc_last HM.out) (bel_setCells (o := 0) (l := [.int .i64 ey, .int .i64 er, .int .i64 en]) HBq.out (Nat.le_refl _))
end Go.Proofs.YtghmdaahmijdiaaDoor
