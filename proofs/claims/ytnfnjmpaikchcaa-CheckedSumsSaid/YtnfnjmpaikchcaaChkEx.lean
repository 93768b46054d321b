/-
  The examples of chapter 3: package analemmalaw03's function works returns true, whatever the memory, and leaves all that was there.
-/
import Derived.Test.YtnfnjmpaikchcaaChkSum
import Derived.Handy
import Derived.Great.BuildSlice
import Derived.Laws.EntriesVeiled
namespace Go.Proofs.Ytnfnjmpaikchcaa
open Go.RowKit Ck
set_option linter.unusedVariables false
set_option linter.unusedSimpArgs false

namespace Ck
/-- the examples' rows: the function, its operands, the result, and whether it fits -/
def rows : List (Nat × Int × Int × Int × Bool) := [(9, 9223372036854775807, 1, 0, false), (9, 9223372036854775807, (-1), 9223372036854775806, true), (10, (-9223372036854775808), 1, 0, false), (10, 0, (-9223372036854775808), 0, false), (10, (-1), (-9223372036854775808), 9223372036854775807, true), (12, (-9223372036854775808), (-1), 0, false), (12, (-9223372036854775808), 1, (-9223372036854775808), true), (12, 4294967296, 2147483648, 0, false), (13, 7, 2, 3, true), (13, (-7), 2, (-4), true), (13, 7, (-2), (-4), true), (13, (-7), (-2), 3, true), (14, 7, 2, 1, true), (14, (-7), 2, 1, true), (14, 7, (-2), (-1), true), (14, (-7), (-2), (-1), true), (13, (-9223372036854775808), (-1), 0, false), (14, (-9223372036854775808), (-1), 0, true), (14, 5, 0, 0, false)]
def rowCells (r : Nat × Int × Int × Int × Bool) : List Value := [.func (.func r.1) #[] #[], .int .i64 r.2.1, .int .i64 r.2.2.1, .int .i64 r.2.2.2.1, .bool r.2.2.2.2]
def tab : Array Value := (rows.flatMap rowCells).toArray
end Ck

namespace Ck
theorem rows_len : rows.length = 19 := rfl
/-- each row's function hands back the row's result -/
theorem row_calls (k : Nat) (hk : k < 19) (f : Nat) (a b x : Int) (ok : Bool) (h : rows[k]? = some (f, a, b, x, ok)) (W : World) :
    Calls Try.prog f #[.int .i64 a, .int .i64 b] W fun e w' => e = .returned (.tuple #[.int .i64 x, .bool ok]) ∧ W = w' := by
  match k, hk with
  | 0, _ => simp [rows] at h; obtain ⟨rfl, rfl, rfl, rfl, rfl⟩ := h; exact (add_any _ _ W (by decide) (by decide)).mono (Two.to_no (by decide) (by decide))
  | 1, _ => simp [rows] at h; obtain ⟨rfl, rfl, rfl, rfl, rfl⟩ := h; exact (add_any _ _ W (by decide) (by decide)).mono (Two.to_yes (by decide) (by decide))
  | 2, _ => simp [rows] at h; obtain ⟨rfl, rfl, rfl, rfl, rfl⟩ := h; exact (sub_any _ _ W (by decide) (by decide)).mono (Two.to_no (by decide) (by decide))
  | 3, _ => simp [rows] at h; obtain ⟨rfl, rfl, rfl, rfl, rfl⟩ := h; exact (sub_any _ _ W (by decide) (by decide)).mono (Two.to_no (by decide) (by decide))
  | 4, _ => simp [rows] at h; obtain ⟨rfl, rfl, rfl, rfl, rfl⟩ := h; exact (sub_any _ _ W (by decide) (by decide)).mono (Two.to_yes (by decide) (by decide))
  | 5, _ => simp [rows] at h; obtain ⟨rfl, rfl, rfl, rfl, rfl⟩ := h; exact (mul_any _ _ W (by decide) (by decide)).mono (Two.to_no (by decide) (by decide))
  | 6, _ => simp [rows] at h; obtain ⟨rfl, rfl, rfl, rfl, rfl⟩ := h; exact (mul_any _ _ W (by decide) (by decide)).mono (Two.to_yes (by decide) (by decide))
  | 7, _ => simp [rows] at h; obtain ⟨rfl, rfl, rfl, rfl, rfl⟩ := h; exact (mul_any _ _ W (by decide) (by decide)).mono (Two.to_no (by decide) (by decide))
  | 8, _ => simp [rows] at h; obtain ⟨rfl, rfl, rfl, rfl, rfl⟩ := h; exact (div_any _ _ W (by decide) (by decide)).mono (Two.to_yes (by decide) (by decide))
  | 9, _ => simp [rows] at h; obtain ⟨rfl, rfl, rfl, rfl, rfl⟩ := h; exact (div_any _ _ W (by decide) (by decide)).mono (Two.to_yes (by decide) (by decide))
  | 10, _ => simp [rows] at h; obtain ⟨rfl, rfl, rfl, rfl, rfl⟩ := h; exact (div_any _ _ W (by decide) (by decide)).mono (Two.to_yes (by decide) (by decide))
  | 11, _ => simp [rows] at h; obtain ⟨rfl, rfl, rfl, rfl, rfl⟩ := h; exact (div_any _ _ W (by decide) (by decide)).mono (Two.to_yes (by decide) (by decide))
  | 12, _ => simp [rows] at h; obtain ⟨rfl, rfl, rfl, rfl, rfl⟩ := h; exact (mod_any _ _ W (by decide) (by decide)).mono (Two.to_yes (by decide) (by decide))
  | 13, _ => simp [rows] at h; obtain ⟨rfl, rfl, rfl, rfl, rfl⟩ := h; exact (mod_any _ _ W (by decide) (by decide)).mono (Two.to_yes (by decide) (by decide))
  | 14, _ => simp [rows] at h; obtain ⟨rfl, rfl, rfl, rfl, rfl⟩ := h; exact (mod_any _ _ W (by decide) (by decide)).mono (Two.to_yes (by decide) (by decide))
  | 15, _ => simp [rows] at h; obtain ⟨rfl, rfl, rfl, rfl, rfl⟩ := h; exact (mod_any _ _ W (by decide) (by decide)).mono (Two.to_yes (by decide) (by decide))
  | 16, _ => simp [rows] at h; obtain ⟨rfl, rfl, rfl, rfl, rfl⟩ := h; exact (div_any _ _ W (by decide) (by decide)).mono (Two.to_no (by decide) (by decide))
  | 17, _ => simp [rows] at h; obtain ⟨rfl, rfl, rfl, rfl, rfl⟩ := h; exact (mod_any _ _ W (by decide) (by decide)).mono (Two.to_yes (by decide) (by decide))
  | 18, _ => simp [rows] at h; obtain ⟨rfl, rfl, rfl, rfl, rfl⟩ := h; exact (mod_any _ _ W (by decide) (by decide)).mono (Two.to_no (by decide) (by decide))
theorem row_enters (k : Nat) (hk : k < 19) (f : Nat) (a b x : Int) (ok : Bool) (h : rows[k]? = some (f, a, b, x, ok)) : ∀ args w, (callFunc f args).run Try.prog w = .ok (.enter f args) w := by
  match k, hk with
  | 0, _ => simp [rows] at h; obtain ⟨rfl, _⟩ := h; exact enters_of Try.func9 (by kernel_rfl) rfl
  | 1, _ => simp [rows] at h; obtain ⟨rfl, _⟩ := h; exact enters_of Try.func9 (by kernel_rfl) rfl
  | 2, _ => simp [rows] at h; obtain ⟨rfl, _⟩ := h; exact enters_of Try.func10 (by kernel_rfl) rfl
  | 3, _ => simp [rows] at h; obtain ⟨rfl, _⟩ := h; exact enters_of Try.func10 (by kernel_rfl) rfl
  | 4, _ => simp [rows] at h; obtain ⟨rfl, _⟩ := h; exact enters_of Try.func10 (by kernel_rfl) rfl
  | 5, _ => simp [rows] at h; obtain ⟨rfl, _⟩ := h; exact enters_of Try.func12 (by kernel_rfl) rfl
  | 6, _ => simp [rows] at h; obtain ⟨rfl, _⟩ := h; exact enters_of Try.func12 (by kernel_rfl) rfl
  | 7, _ => simp [rows] at h; obtain ⟨rfl, _⟩ := h; exact enters_of Try.func12 (by kernel_rfl) rfl
  | 8, _ => simp [rows] at h; obtain ⟨rfl, _⟩ := h; exact enters_of Try.func13 (by kernel_rfl) rfl
  | 9, _ => simp [rows] at h; obtain ⟨rfl, _⟩ := h; exact enters_of Try.func13 (by kernel_rfl) rfl
  | 10, _ => simp [rows] at h; obtain ⟨rfl, _⟩ := h; exact enters_of Try.func13 (by kernel_rfl) rfl
  | 11, _ => simp [rows] at h; obtain ⟨rfl, _⟩ := h; exact enters_of Try.func13 (by kernel_rfl) rfl
  | 12, _ => simp [rows] at h; obtain ⟨rfl, _⟩ := h; exact enters_of Try.func14 (by kernel_rfl) rfl
  | 13, _ => simp [rows] at h; obtain ⟨rfl, _⟩ := h; exact enters_of Try.func14 (by kernel_rfl) rfl
  | 14, _ => simp [rows] at h; obtain ⟨rfl, _⟩ := h; exact enters_of Try.func14 (by kernel_rfl) rfl
  | 15, _ => simp [rows] at h; obtain ⟨rfl, _⟩ := h; exact enters_of Try.func14 (by kernel_rfl) rfl
  | 16, _ => simp [rows] at h; obtain ⟨rfl, _⟩ := h; exact enters_of Try.func13 (by kernel_rfl) rfl
  | 17, _ => simp [rows] at h; obtain ⟨rfl, _⟩ := h; exact enters_of Try.func14 (by kernel_rfl) rfl
  | 18, _ => simp [rows] at h; obtain ⟨rfl, _⟩ := h; exact enters_of Try.func14 (by kernel_rfl) rfl
theorem flat_get {α β : Type} (f : α → List β) (n : Nat) (hf : ∀ x, (f x).length = n) : ∀ (l : List α) (k j : Nat), j < n → ∀ x, l[k]? = some x → (l.flatMap f)[k * n + j]? = (f x)[j]?
  | [], k, j, hj, x, h => by simp at h
  | y :: l, 0, j, hj, x, h => by
    simp at h; subst h
    rw [List.flatMap_cons, List.getElem?_append_left (show 0 * n + j < (f y).length by rw [hf]; omega)]; simp
  | y :: l, k + 1, j, hj, x, h => by
    simp at h
    have ih := flat_get f n hf l k j hj x h
    rw [List.flatMap_cons, List.getElem?_append_right (by rw [hf, Nat.succ_mul]; omega), hf, Nat.succ_mul]
    rw [show k * n + n + j - n = k * n + j from by omega]; exact ih
theorem tab_cell (k j : Nat) (hj : j < 5) (r : Nat × Int × Int × Int × Bool) (h : rows[k]? = some r) : tab[k * 5 + j]? = (rowCells r)[j]? := by
  unfold tab; rw [List.getElem?_toArray]; exact flat_get rowCells 5 (fun _ => rfl) rows k j hj r h
end Ck
theorem infoT37 : ∃ i, Try.prog.info? 37 = some i ∧ i.zero = some (.agg #[.nilFunc, .int .i64 0, .int .i64 0, .int .i64 0, .bool false]) ∧ i.size = 5 := ⟨_, rfl, rfl, rfl⟩

theorem sum_lit (b n cap : Nat) (zs : List Int) (x : Int) (ok : Bool) (hn : n = zs.length) (h : pr (psum zs zs.length) = (x, ok)) (hl : zs.length ≤ 1000) (hz : ∀ z ∈ zs, fit z) (W : World) (hb : b < W.heap.size)
    (hc : ∀ j, j < zs.length → W.cell? ⟨b, j, none⟩ = some (.int .i64 (zs[j]?.getD 0))) :
    Calls Try.prog 16 #[.slice (some ⟨b, 0, none⟩) n cap] W fun e W' => e = .returned (.tuple #[.int .i64 x, .bool ok]) ∧ Below W.heap.size W W' := by
  subst hn
  have := sum_any (some ⟨b, 0, none⟩) zs.length cap zs (by unfold maxLen; omega) hz W (.inr ⟨b, 0, cap, rfl, hb, fun j hj => by rw [Nat.zero_add]; exact hc j hj⟩)
  rw [h] at this
  exact this
set_option maxRecDepth 100000 in
set_option maxHeartbeats 4000000 in
theorem works_any (w : World) :
    Calls Try.prog 15 #[] w fun e w' => e = .returned (.bool true) ∧ Below w.heap.size w w' := by
  obtain ⟨i0, hi, hz, hs⟩ := infoT37
  have Hs := Lib.hid hs; have Hi := Lib.hid hi; have Hz := Lib.hid hz
  clear hs hi hz
  go_enter Try.func15, Try.ntmps15
  go_wp2_with (with_reducible refine wpList_buildSlice rfl 38 37 19 _ rfl tab i0 _ Try.underlying38 Hi.out Hz.out (by rw [Hs.out]; decide) (by rw [Hs.out]; decide) (by rw [Hs.out]; kernel_rfl) ?_)
  go_loopw [32] (fun i wr => ∃ k : Nat, k ≤ 19 ∧ i = .int .i64 k ∧ Below (w.heap.size + 1) (w.alloc (.cells tab 37)) wr) (fun i _ => 19 - (intOf i).toNat)
  case atStart => exact ⟨0, by omega, rfl, Below.refl _ _⟩
  case round =>
    obtain ⟨k, hk, rfl, hB⟩ := hrel
    by_cases hlt : k < 19
    · obtain ⟨⟨f, a, b, x, ok⟩, hrow⟩ : ∃ r, rows[k]? = some r := ⟨rows[k]'(by rw [rows_len]; exact hlt), List.getElem?_eq_getElem _⟩
      have HC := Lib.hid (row_calls k hlt f a b x ok hrow)
      have hsz : w.heap.size + 1 ≤ wr.heap.size := by have := hB.size; simpa using this
      have HE := row_enters k hlt f a b x ok hrow
      have hcell : ∀ j v, (rowCells (f, a, b, x, ok))[j]? = some v → wr.cell? ⟨w.heap.size, k * 5 + j, none⟩ = some v := by
        intro j v hv
        have hj : j < 5 := by
          have := (List.getElem?_eq_some_iff.1 hv).1
          simpa [rowCells] using this
        refine (hB.cell (p := ⟨w.heap.size, k * 5 + j, none⟩) (by simp)).trans ?_
        rw [World.cell?_alloc_at _ _ _ _ rfl, tab_cell k j hj _ hrow, hv]
      have c0 : wr.cell? ⟨w.heap.size, k * 5, none⟩ = some (.func (.func f) #[] #[]) := hcell 0 _ rfl
      have c1 := hcell 1 _ rfl
      have c2 := hcell 2 _ rfl
      have c3 := hcell 3 _ rfl
      have c4 := hcell 4 _ rfl
      clear hcell hrow
      go_wp2_with fail
      refine (HC.out _).mono ?_
      rintro e w' ⟨rfl, rfl⟩
      go_wp2_with fail
      refine (is_any _ _ _ _ _).mono ?_
      intro e w' hq
      obtain ⟨rfl, rfl⟩ := Yes.to_yes ⟨rfl, rfl⟩ _ _ hq
      clear hq
      go_wp2_with fail
      go_roundw
      case rel => exact ⟨k + 1, by omega, by go_num, by go_grown⟩
      case measure => simp [intOf]; omega
    · obtain rfl : k = 19 := by omega
      have hsz : w.heap.size + 1 ≤ wr.heap.size := by have := hB.size; simpa using this
      have hB0 : Below w.heap.size w wr := ((Below.refl _ w).alloc (Nat.le_refl _) _).trans (hB.mono (by simp))
      go_wp2_with fail
      refine (sum_lit wr.heap.size 3 3 [9223372036854775807, 1, -1] 0 false rfl (by decide) (by decide) (by decide) _ (by simp) (fun j hj => (World.cell?_alloc_at _ _ _ _ rfl).trans (by match j, hj with | 0, _ => rfl | 1, _ => rfl | 2, _ => rfl))).mono ?_
      rintro e w1 ⟨rfl, hB1⟩
      have hs1 := hB1.size
      rw [World.size_alloc] at hs1
      go_wp2_with fail
      refine (sum_lit w1.heap.size 3 3 [9223372036854775807, -1, 1] 9223372036854775807 true rfl (by decide) (by decide) (by decide) _ (by simp) (fun j hj => (World.cell?_alloc_at _ _ _ _ rfl).trans (by match j, hj with | 0, _ => rfl | 1, _ => rfl | 2, _ => rfl))).mono ?_
      rintro e w2 ⟨rfl, hB2⟩
      have hs2 := hB2.size
      rw [World.size_alloc] at hs2
      go_wp2_with fail
      refine (sum_any none 0 0 [] (by unfold maxLen; simp) (by simp) _ (.inl ⟨rfl, rfl⟩)).mono ?_
      rintro e w3 ⟨rfl, hB3⟩
      go_wp2_with fail
      refine (is_any _ _ _ _ _).mono ?_
      intro e w' hq
      obtain ⟨rfl, rfl⟩ := Yes.to_yes ⟨rfl, rfl⟩ _ _ hq
      clear hq
      go_wp2_with fail
      refine (is_any _ _ _ _ _).mono ?_
      intro e w' hq
      obtain ⟨rfl, rfl⟩ := Yes.to_yes ⟨rfl, rfl⟩ _ _ hq
      clear hq
      go_wp2_with fail
      refine (is_any _ _ _ _ _).mono ?_
      intro e w' hq
      obtain ⟨rfl, rfl⟩ := Yes.to_yes (by decide) _ _ hq
      clear hq
      go_wp2_with fail
      go_ret
      refine ⟨rfl, ?_⟩
      have k1 := (hB0.alloc (by omega) _).trans (hB1.mono (by simp; omega))
      have k2 := (k1.alloc (by omega) _).trans (hB2.mono (by simp; omega))
      exact k2.trans (hB3.mono (by omega))
end Go.Proofs.Ytnfnjmpaikchcaa
