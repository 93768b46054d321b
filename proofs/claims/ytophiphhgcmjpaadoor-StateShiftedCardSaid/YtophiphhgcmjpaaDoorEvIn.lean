/-
  The contract of events.In.
-/
import Derived.Test.YtophiphhgcmjpaaDoorEvSort
namespace Go.Proofs.YtophiphhgcmjpaaDoor
open Go.RowKit Cv
set_option linter.unusedVariables false
set_option linter.unusedSimpArgs false

namespace Cv
/-- the events of a year, of the first rules -/
def yearEvs (rs : _root_.List Ru) (y : Int) (i : Nat) : _root_.List Ev := (_root_.List.range i).filterMap fun j : Nat => evOn rs (j : Int) y
/-- the events of the first k years -/
def colEvs (rs : _root_.List Ru) (a : Int) (k : Nat) : _root_.List Ev := (_root_.List.range k).flatMap fun j : Nat => yearEvs rs (a + (j : Int)) rs.length
theorem yearEvs_no {rs : _root_.List Ru} {y : Int} {i : Nat} (h : evOn rs (i : Int) y = none) : yearEvs rs y (i + 1) = yearEvs rs y i := by
  unfold yearEvs
  rw [_root_.List.range_succ, _root_.List.filterMap_append]
  simp [h]
theorem yearEvs_yes {rs : _root_.List Ru} {y : Int} {i : Nat} {e : Ev} (h : evOn rs (i : Int) y = some e) : yearEvs rs y (i + 1) = yearEvs rs y i ++ [e] := by
  unfold yearEvs
  rw [_root_.List.range_succ, _root_.List.filterMap_append]
  simp [h]
theorem colEvs_succ (rs : _root_.List Ru) (a : Int) (k : Nat) : colEvs rs a (k + 1) = colEvs rs a k ++ yearEvs rs (a + (k : Int)) rs.length := by
  unfold colEvs
  rw [_root_.List.range_succ, _root_.List.flatMap_append]
  simp
theorem yearEvs_len (rs : _root_.List Ru) (y : Int) (i : Nat) : (yearEvs rs y i).length ≤ i := by
  have := _root_.List.length_filterMap_le (fun j : Nat => evOn rs (j : Int) y) (_root_.List.range i)
  simpa [yearEvs] using this
theorem colEvs_len (rs : _root_.List Ru) (a : Int) (k : Nat) : (colEvs rs a k).length ≤ k * rs.length := by
  induction k with
  | zero => simp [colEvs]
  | succ k ih =>
    rw [colEvs_succ, _root_.List.length_append, Nat.add_mul, Nat.one_mul]
    have := yearEvs_len rs (a + (k : Int)) rs.length
    omega
theorem mem_year {rs : _root_.List Ru} {y : Int} {i : Nat} {e : Ev} : e ∈ yearEvs rs y i ↔ (IsEv rs e ∧ e.year = y ∧ e.rule < (i : Int)) := by
  unfold yearEvs
  rw [_root_.List.mem_filterMap]
  constructor
  · rintro ⟨j, hj, h⟩
    obtain ⟨h1, h2, h3⟩ := evOn_is h
    rw [_root_.List.mem_range] at hj
    exact ⟨h1, h3, by omega⟩
  · rintro ⟨h1, h2, h3⟩
    have h4 := is_evOn h1
    obtain ⟨r, hr, _⟩ := h1
    obtain ⟨k, hk, _, _⟩ := ruleAt_ex hr
    exact ⟨k, _root_.List.mem_range.2 (by omega), by rw [← hk, ← h2]; exact h4⟩
theorem mem_col {rs : _root_.List Ru} {a : Int} {k : Nat} {e : Ev} : e ∈ colEvs rs a k ↔ (IsEv rs e ∧ a ≤ e.year ∧ e.year < a + (k : Int)) := by
  unfold colEvs
  rw [_root_.List.mem_flatMap]
  constructor
  · rintro ⟨j, hj, h⟩
    rw [_root_.List.mem_range] at hj
    obtain ⟨h1, h2, _⟩ := mem_year.1 h
    exact ⟨h1, by omega, by omega⟩
  · rintro ⟨h1, h2, h3⟩
    have h1' := h1
    obtain ⟨r, hr, _⟩ := h1'
    obtain ⟨q, hq, _, hl⟩ := ruleAt_ex hr
    exact ⟨(e.year - a).toNat, _root_.List.mem_range.2 (by omega), mem_year.2 ⟨h1, by omega, by omega⟩⟩
/-- the order in which events are collected -/
def Ev.bef (a b : Ev) : Prop := a.year < b.year ∨ (a.year = b.year ∧ a.rule < b.rule)
theorem year_ord (rs : _root_.List Ru) (y : Int) (i : Nat) : (yearEvs rs y i).Pairwise Ev.bef := by
  induction i with
  | zero => exact _root_.List.Pairwise.nil
  | succ i ih =>
    cases h : evOn rs (i : Int) y with
    | none => rw [yearEvs_no h]; exact ih
    | some e =>
      rw [yearEvs_yes h, _root_.List.pairwise_append]
      refine ⟨ih, _root_.List.pairwise_singleton _ _, fun a ha b hb => ?_⟩
      rw [_root_.List.mem_singleton] at hb
      subst hb
      obtain ⟨_, h2, h3⟩ := mem_year.1 ha
      obtain ⟨_, h4, h5⟩ := evOn_is h
      exact .inr ⟨by omega, by omega⟩
theorem col_ord (rs : _root_.List Ru) (a : Int) (k : Nat) : (colEvs rs a k).Pairwise Ev.bef := by
  induction k with
  | zero => exact _root_.List.Pairwise.nil
  | succ k ih =>
    rw [colEvs_succ, _root_.List.pairwise_append]
    refine ⟨ih, year_ord _ _ _, fun x hx y hy => ?_⟩
    obtain ⟨_, _, h2⟩ := mem_col.1 hx
    obtain ⟨_, h3, _⟩ := mem_year.1 hy
    exact .inl (by omega)
/-- what was collected, sorted, is what In hands back -/
theorem inIs_of {rs : _root_.List Ru} {a b : Int} {k : Nat} {l : _root_.List Ev} (hk : a + (k : Int) = b + 1) (hp : l.Perm (colEvs rs a k)) (hs : l.Pairwise (fun a b => ¬ b.lt a)) : InIs rs a b l := by
  have hnd : l.Nodup := hp.nodup_iff.2 ((col_ord rs a k).imp fun h e => by subst e; unfold Ev.bef at h; omega)
  refine ⟨?_, fun e => ?_⟩
  · refine (hs.and hnd).imp fun {x y} hxy => ?_
    obtain ⟨h1, h2⟩ := hxy
    rcases Ev.lt_total x y with h | h | h
    · exact h
    · exact (h2 h).elim
    · exact (h1 h).elim
  · rw [hp.mem_iff, mem_col]
    constructor
    · rintro ⟨h1, h2, h3⟩; exact ⟨h1, h2, by omega⟩
    · rintro ⟨h1, h2, h3⟩; exact ⟨h1, h2, by omega⟩
theorem inIs_none {rs : _root_.List Ru} {a b : Int} (h : b < a) : InIs rs a b [] := ⟨_root_.List.Pairwise.nil, fun e => Iff.intro (fun h => (by cases h)) (fun h => (by have h1 := h.2.1; have h2 := h.2.2; omega))⟩
theorem flatEv_snoc (l : _root_.List Ev) (e : Ev) : flatEv (l ++ [e]) = flatEv l ++ encEv e := by unfold flatEv; rw [_root_.List.flatMap_append]; simp
theorem own_below {base size n : Nat} {t : TypeId} {v : Value} {xs : _root_.List Value} {A B : World} (h : A.ownsRow base t size v n xs) (hb : Below A.heap.size A B) : B.ownsRow base t size v n xs := by
  obtain ⟨hl, h0 | ⟨g, cap, cur, h1, h2, h3, h4⟩⟩ := h
  · exact ⟨hl, .inl h0⟩
  · exact ⟨hl, .inr ⟨g, cap, cur, h1, h2, block_below h3 hb, h4⟩⟩
/-- what In hands back -/
def InR (rs : _root_.List Ru) (a b : Int) (W : World) (e : Ending) (w' : World) : Prop :=
  Below W.heap.size W w' ∧ ((a ≤ b ∧ 1000 < b - a ∧ e = .returned (.tuple #[.slice none 0 0, .int .i64 3])) ∨
    ((b < a ∨ b - a ≤ 1000) ∧ ∃ (v : Value) (l : _root_.List Ev), Hid (InIs rs a b l) ∧ e = .returned (.tuple #[v, .int .i64 0]) ∧ Hid (w'.ownsRow W.heap.size 31 3 v l.length (flatEv l)) ∧ l.length ≤ 1001000))
end Cv

theorem infoEv : (Tryd.prog.info? 31).map (fun i => (i.zero, i.size, i.bytes)) = some (some (.agg #[.int .i64 0, .int .i64 0, .int .i64 0]), 3, 24) := by kernel_rfl

set_option maxRecDepth 100000 in
set_option maxHeartbeats 4000000 in
theorem evIn_any (v : Value) (rs : _root_.List Ru) (a b : Int) (W : World) (hT : Tabs W) (h : Rul v rs W) (ha1 : -9223372036854775808 ≤ a) (ha2 : a ≤ 9223372036854775807) (hb1 : -9223372036854775808 ≤ b) (hb2 : b ≤ 9223372036854775807) :
    Calls Tryd.prog 8 #[v, .int .i64 a, .int .i64 b] W (InR rs a b W) := by
  obtain ⟨A, cap, rfl⟩ := h.sl
  have H := Lib.hid h
  have HT := Lib.hid hT
  have hn := h.len
  clear h hT
  obtain ⟨n, hN⟩ : ∃ n, n = rs.length := ⟨_, rfl⟩
  rw [← hN] at hn H ⊢
  have HN := Lib.hid hN
  clear hN
  obtain ⟨i0, hi, hz0, hzs, hzb⟩ := info_parts infoEv
  by_cases hab : b < a
  · have HI := Lib.hid (inIs_none (rs := rs) hab)
    go_enter Tryd.func8, Tryd.ntmps8
    go_wp2_with fail
    go_ret2
    exact ⟨Below.refl _ _, .inr ⟨.inl hab, _, [], HI, rfl, Lib.hid (World.ownsRow_nil _ _ _ _), by simp⟩⟩
  · have hu : IntKind.u64.wrap (IntKind.u64.wrap b - IntKind.u64.wrap a) = b - a := by
      simp only [IntKind.wrap, IntKind.signed, IntKind.bits]
      simp
      omega
    by_cases hbig : 1000 < b - a
    · go_enter Tryd.func8, Tryd.ntmps8
      go_wp2_with fail
      go_ret2
      exact ⟨Below.refl _ _, .inl ⟨by omega, hbig, rfl⟩⟩
    · obtain ⟨m, hm⟩ : ∃ m : Nat, (m : Int) = b - a + 1 := ⟨(b - a + 1).toNat, by omega⟩
      have hm2 : m ≤ 1001 := by omega
      have HM := Lib.hid hm
      have HBIG := Lib.hid hbig
      clear hm
      go_enter Tryd.func8, Tryd.ntmps8
      go_wp2_with fail
      clear hu
      go_loopw [8, 28] (fun v s wr => ∃ (k : Nat) (wq : World), k ≤ m ∧ s = .int .i64 (k : Int) ∧ wr = wq ∧ Hid (Below W.heap.size W wq) ∧ Hid (wq.ownsRow W.heap.size 31 3 v (colEvs rs a k).length (flatEv (colEvs rs a k)))) (fun _ s _ => m - (intOf s).toNat)
      case atStart => exact ⟨0, _, by omega, rfl, rfl, Lib.hid (Below.refl _ _), Lib.hid (by exact World.ownsRow_nil _ _ _ _)⟩
      case round =>
        obtain ⟨k, wq, hk, rfl, rfl, HB, HO⟩ := hrel
        by_cases hlt : k < m
        · have hkb : (k : Int) < b - a + 1 := by have := HM.out; omega
          go_wp2_with fail
          obtain ⟨wo, hwo⟩ : ∃ wo : World, wo = wr := ⟨_, rfl⟩
          rw [← hwo] at HB HO ⊢
          clear hwo
          have HLK := Lib.hid (by have h := colEvs_len rs a k; rw [← HN.out] at h; exact Nat.le_trans h (Nat.mul_le_mul (show k ≤ 1001 by omega) hn) : (colEvs rs a k).length ≤ 1001 * 1000)
          go_loopw [8, 33] (fun v s wx => ∃ (j : Nat) (wz : World), j ≤ n ∧ s = .int .i64 (j : Int) ∧ wx = wz ∧ Hid (Below W.heap.size W wz) ∧ Hid (wz.ownsRow W.heap.size 31 3 v (colEvs rs a k ++ yearEvs rs (a + (k : Int)) j).length (flatEv (colEvs rs a k ++ yearEvs rs (a + (k : Int)) j)))) (fun _ s _ => n - (intOf s).toNat)
          case atStart => exact ⟨0, _, by omega, rfl, rfl, HB, Lib.hid (by have h := HO.out; simp only [yearEvs, _root_.List.range_zero, _root_.List.filterMap_nil, _root_.List.append_nil]; exact h)⟩
          case round =>
            obtain ⟨j, wz, hj, rfl, rfl, HBz, HOz⟩ := hrel
            by_cases hjn : j < n
            · have HLY := Lib.hid (by have h := yearEvs_len rs (a + (k : Int)) j; have h2 := HLK.out; rw [_root_.List.length_append]; omega : (colEvs rs a k ++ yearEvs rs (a + (k : Int)) j).length ≤ 1002000)
              go_wp2_with fail
              refine (evOn_any (.slice A n cap) rs (j : Int) (a + (k : Int)) _ (by exact HT.out.below HBz.out) (by exact H.out.below HBz.out) (by omega) (by omega)).mono ?_
              intro e w2 hq
              cases ho : evOn rs (j : Int) (a + (k : Int)) with
              | none =>
                rw [ho] at hq
                obtain ⟨rfl, hb2⟩ := EvR.to (o := none) (v := .tuple #[.agg #[.int .i64 0, .int .i64 0, .int .i64 0], .bool false]) rfl _ _ hq; clear hq
                have HS := Lib.hid (yearEvs_no ho)
                have HB2 := Lib.hid (bel_trans HBz.out hb2)
                have HO2 := Lib.hid (own_below HOz.out hb2)
                clear hb2 ho
                go_wp2_with fail
                go_round
                case rel => first | exact ⟨j + 1, _, by omega, by go_num, rfl, Lib.hid (bel_trans HB2.out (bel_alloc _ _)), Lib.hid (by rw [HS.out]; exact own_below HO2.out (bel_alloc _ _))⟩ | ((repeat apply Exists.intro); refine ⟨?_, rfl⟩; exact ⟨j + 1, _, by omega, by go_num, rfl, Lib.hid (bel_trans HB2.out (bel_alloc _ _)), Lib.hid (by rw [HS.out]; exact own_below HO2.out (bel_alloc _ _))⟩)
                case measure => simp [intOf]; omega
              | some ev =>
                obtain ⟨_, hru, hye⟩ := evOn_is ho
                obtain ⟨ey, er, nm⟩ := ev
                dsimp only at hru hye
                subst hru hye
                rw [ho] at hq
                obtain ⟨rfl, hb2⟩ := EvR.to (o := some ⟨a + (k : Int), (j : Int), nm⟩) (v := .tuple #[.agg #[.int .i64 (a + (k : Int)), .int .i64 (j : Int), .int .i64 nm], .bool true]) rfl _ _ hq; clear hq
                have HS := Lib.hid (yearEvs_yes ho)
                have HB2 := Lib.hid (bel_trans HBz.out hb2)
                have HO2 := Lib.hid (own_below HOz.out hb2)
                clear hb2 ho
                go_wp2_with (at_builtin; refine wpList_append_own _ rfl (.tmp 46) (.tmp 48) 26 rfl W.heap.size 31 i0 (.agg #[.int .i64 0, .int .i64 0, .int .i64 0]) 3 24 Tryd.underlying26 hi hz0 hzs hzb rfl (by decide) _ _ _ rfl ((HO2.out.alloc _).alloc _) ⟨w2.heap.size + 1, 0, none⟩ 1 1 [.int .i64 (a + (k : Int)), .int .i64 (j : Int), .int .i64 nm] rfl rfl (World.news_of_block (heap_alloc2_new _ _ _)) (by intro u hu; simp at hu; rcases hu with rfl | rfl | rfl <;> rfl) (by unfold maxLen; have := HLY.out; omega) (by have := HLY.out; omega) (by have := HB2.out.size; simp; omega) ?_; intro v1 w3 hown3 hgrow3 hnil3)
                go_round
                case rel => first | exact ⟨j + 1, _, by omega, by go_num, rfl, Lib.hid (Below.grown (bel_trans HB2.out (bel_trans (bel_alloc _ _) (bel_alloc _ _))) hgrow3 (by have := HB2.out.size; simp; omega) (fun q hq => (HO2.out.lt q (by exact hq)).1)), Lib.hid (by rw [HS.out, ← _root_.List.append_assoc, flatEv_snoc, _root_.List.length_append]; exact hown3)⟩ | ((repeat apply Exists.intro); refine ⟨?_, rfl⟩; exact ⟨j + 1, _, by omega, by go_num, rfl, Lib.hid (Below.grown (bel_trans HB2.out (bel_trans (bel_alloc _ _) (bel_alloc _ _))) hgrow3 (by have := HB2.out.size; simp; omega) (fun q hq => (HO2.out.lt q (by exact hq)).1)), Lib.hid (by rw [HS.out, ← _root_.List.append_assoc, flatEv_snoc, _root_.List.length_append]; exact hown3)⟩)
                case measure => simp [intOf]; omega
            · obtain rfl : j = n := by omega
              have HS := Lib.hid (colEvs_succ rs a k)
              go_wp2_with fail
              exact ⟨⟨k + 1, _, by omega, by go_num, rfl, HBz, Lib.hid (by rw [HS.out, ← HN.out]; exact HOz.out)⟩, by simp [intOf]; omega⟩
        · obtain rfl : k = m := by omega
          have hkb : ¬ ((k : Int) < b - a + 1) := by have := HM.out; omega
          have HIL := Lib.hid (by have h := colEvs_len rs a k; rw [← HN.out] at h; exact Nat.le_trans h (Nat.mul_le_mul (show k ≤ 1001 by omega) hn) : (colEvs rs a k).length ≤ 1001 * 1000)
          go_wp2_with fail
          refine (sortEv_any _ (colEvs rs a k) W.heap.size _ (by exact HO.out) (by have := HIL.out; omega)).mono ?_
          rintro e w2 ⟨rfl, l, hp, ho2, hb2⟩
          have HR := Lib.hid (inIs_of (b := b) (by have := HM.out; omega) hp.out.1 hp.out.2)
          have HLL := Lib.hid hp.out.1.length_eq
          have HB2 := Lib.hid (HB.out.trans (hb2.out W.heap.size (Nat.le_refl _) HB.out.size))
          go_wp2_with fail
          go_ret2
          exact ⟨HB2.out, .inr ⟨.inr (by omega), _, l, HR, rfl, Lib.hid (by rw [HLL.out]; exact ho2.out), by rw [HLL.out]; have := HIL.out; omega⟩⟩
end Go.Proofs.YtophiphhgcmjpaaDoor
