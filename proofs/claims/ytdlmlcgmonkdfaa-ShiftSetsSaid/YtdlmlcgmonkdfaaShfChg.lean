/-
  The contracts of package shift's function changed, at rules and at eras.
-/
import Derived.Test.YtdlmlcgmonkdfaaShfEra
namespace Go.Proofs.Ytdlmlcgmonkdfaa
open Go.RowKit Sh
set_option linter.unusedVariables false
set_option linter.unusedSimpArgs false

namespace Sh
/-- the cells of a list of rules, one behind the other -/
def flatR (rs : _root_.List Ru) : _root_.List Value := rs.flatMap fun r => r.arr.toList
theorem flatR_len (rs : _root_.List Ru) : (flatR rs).length = rs.length * 11 := by
  unfold flatR
  induction rs with
  | nil => rfl
  | cons r rs ih => rw [_root_.List.flatMap_cons, _root_.List.length_append, ih, _root_.List.length_cons]; show 11 + _ = _; omega
theorem flatR_one (rs : _root_.List Ru) : ∀ u ∈ flatR rs, u.oneCell' = true := by
  intro u hu
  unfold flatR at hu
  obtain ⟨r, _, hr⟩ := _root_.List.mem_flatMap.1 hu
  unfold Ru.arr at hr
  simp at hr
  rcases hr with rfl | rfl | rfl | rfl | rfl | rfl | rfl | rfl | rfl | rfl | rfl <;> rfl
theorem flatR_at (rs : _root_.List Ru) : ∀ (i j : Nat) (r : Ru), rs[i]? = some r → j < 11 → (flatR rs)[i * 11 + j]? = r.arr.toList[j]? := by
  unfold flatR
  induction rs with
  | nil => intro i j r h; simp at h
  | cons s rs ih =>
    intro i j r h hj
    rw [_root_.List.flatMap_cons]
    have hl : s.arr.toList.length = 11 := rfl
    cases i with
    | zero =>
      simp at h
      subst h
      rw [_root_.List.getElem?_append_left (by omega)]
      congr 1; omega
    | succ i =>
      rw [_root_.List.getElem?_append_right (by omega), hl, show (i + 1) * 11 + j - 11 = i * 11 + j by omega]
      exact ih i j r (by simpa using h) hj
/-- the round's list: the first i are changed -/
def mix {α : Type} (g : α → α) (rs : _root_.List α) (i : Nat) : _root_.List α := rs.mapIdx fun j r => if j < i then g r else r
theorem mix_0 {α : Type} (g : α → α) (rs : _root_.List α) : mix g rs 0 = rs := by
  apply _root_.List.ext_getElem?
  intro j
  unfold mix
  rw [_root_.List.getElem?_mapIdx]
  cases rs[j]? <;> simp
theorem mix_n {α : Type} (g : α → α) (rs : _root_.List α) : mix g rs rs.length = rs.map g := by
  apply _root_.List.ext_getElem?
  intro j
  unfold mix
  rw [_root_.List.getElem?_mapIdx, _root_.List.getElem?_map]
  cases h : rs[j]? with
  | none => simp
  | some r => have hj : j < rs.length := (_root_.List.getElem?_eq_some_iff.1 h).1; simp [hj]
theorem mix_len {α : Type} (g : α → α) (rs : _root_.List α) (i : Nat) : (mix g rs i).length = rs.length := by simp [mix]
theorem mix_at {α : Type} (g : α → α) (rs : _root_.List α) (i : Nat) (r : α) (h : rs[i]? = some r) : (mix g rs i)[i]? = some r := by
  unfold mix
  rw [_root_.List.getElem?_mapIdx, h]
  simp
theorem mix_set {α : Type} (g : α → α) (rs : _root_.List α) (i : Nat) (r : α) (h : rs[i]? = some r) : mix g rs (i + 1) = (mix g rs i).set i (g r) := by
  have hi : i < rs.length := (_root_.List.getElem?_eq_some_iff.1 h).1
  apply _root_.List.ext_getElem?
  intro j
  rw [_root_.List.getElem?_set, mix_len]
  unfold mix
  rw [_root_.List.getElem?_mapIdx, _root_.List.getElem?_mapIdx]
  by_cases hj : i = j
  · subst hj; simp [hi, (_root_.List.getElem?_eq_some_iff.1 h).2]
  · rw [if_neg hj]
    cases rs[j]? with
    | none => rfl
    | some q =>
      simp only [Option.map_some, Option.some.injEq]
      by_cases hlt : j < i
      · rw [if_pos (by omega), if_pos hlt]
      · rw [if_neg (by omega), if_neg hlt]
/-- cells laid over a list's cells from one place on -/
def over (xs : _root_.List Value) (o : Nat) : _root_.List Value → _root_.List Value
  | [] => xs
  | c :: cs => over (xs.set o c) (o + 1) cs
theorem over_len (cs : _root_.List Value) : ∀ (xs : _root_.List Value) (o : Nat), (over xs o cs).length = xs.length := by
  induction cs with
  | nil => intro xs o; rfl
  | cons c cs ih => intro xs o; unfold over; rw [ih]; simp
theorem over_at (cs : _root_.List Value) : ∀ (xs : _root_.List Value) (o j : Nat), o + cs.length ≤ xs.length → (over xs o cs)[j]? = if o ≤ j ∧ j < o + cs.length then cs[j - o]? else xs[j]? := by
  induction cs with
  | nil => intro xs o j h; unfold over; rw [if_neg (by simp <;> omega)]
  | cons c cs ih =>
    intro xs o j h
    simp at h
    unfold over
    rw [ih _ _ _ (by simp; omega), _root_.List.getElem?_set]
    by_cases h1 : o + 1 ≤ j ∧ j < o + 1 + cs.length
    · rw [if_pos h1, if_pos ⟨by omega, by simp; omega⟩, show j - o = (j - (o + 1)) + 1 by omega, _root_.List.getElem?_cons_succ]
    · rw [if_neg h1]
      by_cases h2 : o = j
      · subst h2
        rw [if_pos rfl, if_pos (by omega), if_pos ⟨Nat.le_refl _, Nat.lt_add_of_pos_right (by simp)⟩, Nat.sub_self]
        rfl
      · rw [if_neg h2, if_neg (fun h3 => h1 ⟨by omega, by have := h3.2; simp at this; omega⟩)]
/-- a row of the call's own behind a store of many cells -/
theorem own_over {base g n cap size : Nat} {t : TypeId} (cs : _root_.List Value) : ∀ {xs : _root_.List Value} {w : World} (o : Nat), w.ownsRow base t size (.slice (some ⟨g, 0, none⟩) n cap) n xs → o + cs.length ≤ n * size →
    (w.setCells g o cs).ownsRow base t size (.slice (some ⟨g, 0, none⟩) n cap) n (over xs o cs) := by
  induction cs with
  | nil => intro xs w o h _; exact h
  | cons c cs ih =>
    intro xs w o h ho
    simp at ho
    exact ih (o + 1) (h.stored o c).1 (by omega)
theorem flatR_set (rs : _root_.List Ru) (i : Nat) (r : Ru) (h : i < rs.length) : flatR (rs.set i r) = over (flatR rs) (i * 11) r.arr.toList := by
  have hl : r.arr.toList.length = 11 := rfl
  apply _root_.List.ext_getElem?
  intro j
  rw [over_at _ _ _ _ (by rw [flatR_len, hl]; omega), hl]
  by_cases hj : j < rs.length * 11
  · have hq : j = (j / 11) * 11 + j % 11 := by omega
    have hm : j % 11 < 11 := by omega
    obtain ⟨q, hqv⟩ : ∃ q, rs[j / 11]? = some q := by
      rw [_root_.List.getElem?_eq_getElem (by omega)]; exact ⟨_, rfl⟩
    by_cases hi : j / 11 = i
    · rw [if_pos (by omega)]
      conv => lhs; rw [hq]
      rw [flatR_at (rs.set i r) (j / 11) (j % 11) r (by rw [hi, _root_.List.getElem?_set]; simp [h]) hm]
      congr 1; omega
    · rw [if_neg (by omega)]
      conv => lhs; rw [hq]
      conv => rhs; rw [hq]
      rw [flatR_at rs (j / 11) (j % 11) q hqv hm, flatR_at (rs.set i r) (j / 11) (j % 11) q (by rw [_root_.List.getElem?_set, if_neg (by omega)]; exact hqv) hm]
  · rw [if_neg (by omega), _root_.List.getElem?_eq_none (by rw [flatR_len]; simp; omega), _root_.List.getElem?_eq_none (by rw [flatR_len]; omega)]
theorem own_below {base size n : Nat} {t : TypeId} {v : Value} {xs : _root_.List Value} {A B : World} (h : A.ownsRow base t size v n xs) (hb : Below A.heap.size A B) : B.ownsRow base t size v n xs := by
  obtain ⟨hl, h0 | ⟨g, cap, cur, h1, h2, h3, h4⟩⟩ := h
  · exact ⟨hl, .inl h0⟩
  · exact ⟨hl, .inr ⟨g, cap, cur, h1, h2, block_below h3 hb, h4⟩⟩
theorem own_cell {base size n g cap : Nat} {t : TypeId} {xs : _root_.List Value} {w : World} (h : w.ownsRow base t size (.slice (some ⟨g, 0, none⟩) n cap) n xs) (hl : xs.length = n * size) {j : Nat} (hj : j < n * size) : ∃ u, w.cell? ⟨g, j, none⟩ = some u := by
  rw [h.cellAt j hj, _root_.List.getElem?_eq_getElem (by omega)]
  exact ⟨_, rfl⟩
end Sh

set_option maxRecDepth 100000 in
set_option maxHeartbeats 2000000 in
theorem changedR_any (v : Value) (rs : _root_.List Ru) (F : FuncId) (caps : Array Value) (g : Ru → Ru) (W : World) (h : Rd 11 v rs.length (flatR rs) W)
    (hcf : ∀ (args : Array Value) (w : World), (callFunc F args).run Try.prog w = .ok (.enter F args) w)
    (hf : ∀ (r : Ru) (V : World), Below W.heap.size W V → Calls Try.prog F (#[.agg r.arr] ++ caps) V fun e w' => e = .returned (.agg (g r).arr) ∧ Below V.heap.size V w') :
    Calls Try.prog 25 #[v, .func (.func F) #[] caps] W fun e w' => ∃ v', e = .returned v' ∧ Hid (Own W.heap.size 44 11 v' rs.length (flatR (rs.map g)) w') ∧ Below W.heap.size W w' := by
  have HF := Lib.hid hf
  have hn : rs.length ≤ 1000 := h.2.1
  clear hf
  obtain ⟨n, hN⟩ : ∃ n, n = rs.length := ⟨_, rfl⟩
  rw [← hN] at h hn ⊢
  go_enter Try.func25, Try.ntmps25
  go_wp2_with fail
  refine (cloneRule_any v n (flatR rs) _ h).mono ?_
  rintro e w1 ⟨v1, rfl, ho, hb1⟩
  have ho' := ho.out.1
  obtain ⟨hl, ⟨rfl, rfl⟩ | ⟨b, cap, cur, rfl, hbb, hcell, hcap, _⟩⟩ := ho'
  · have hrs : rs = [] := _root_.List.length_eq_zero_iff.1 hN.symm
    subst hrs
    clear hN hl h
    go_wp2_with fail
    go_loopw [12] (fun i wr => i = .int .i64 0 ∧ wr = w1) (fun i _ => 0)
    case atStart => exact ⟨rfl, rfl⟩
    case round =>
      obtain ⟨rfl, rfl⟩ := hrel
      go_wp2_with fail
      go_ret
      exact ⟨_, rfl, ho, hb1⟩
  · have HN := Lib.hid hN
    have HOW := ho.out.1
    have hcapm : n ≤ cap := hcap
    clear hN hl hcell ho hcap h
    have HO0 : Hid (w1.ownsRow W.heap.size 44 11 (.slice (some ⟨b, 0, none⟩) n cap) n (flatR (mix g rs 0))) := by rw [mix_0]; exact HOW
    clear HOW
    go_wp2_with fail
    go_loopw [12] (fun s wr => ∃ (i : Nat) (wq : World), i ≤ n ∧ s = .int .i64 (i : Int) ∧ wr = wq ∧ Hid (wq.ownsRow W.heap.size 44 11 (.slice (some ⟨b, 0, none⟩) n cap) n (flatR (mix g rs i))) ∧ Hid (Below W.heap.size W wq)) (fun s _ => n - (intOf s).toNat)
    case atStart => exact ⟨0, _, by omega, rfl, rfl, HO0, Lib.hid hb1⟩
    case round =>
      obtain ⟨i, wq, hin, rfl, rfl, HOq, HBq⟩ := hrel
      by_cases hi : i < n
      · obtain ⟨r, hr⟩ : ∃ r, rs[i]? = some r := by rw [_root_.List.getElem?_eq_getElem (by rw [← HN.out]; exact hi)]; exact ⟨_, rfl⟩
        have hrange : wr.rangeAt b (i * 11) r.arr.toList := fun j u hu => by
          have hj : j < 11 := (_root_.List.getElem?_eq_some_iff.1 hu).1
          rw [HOq.out.cellAt (i * 11 + j) (by omega), flatR_at _ i j r (mix_at g rs i r hr) hj]; exact hu
        obtain ⟨na, fr, ut, mo, k, w, d, sec, base, save, le⟩ := r
        have e0 : wr.cell? ⟨b, i * 11, none⟩ = some (.string na) := hrange 0 _ rfl
        have e1 : wr.cell? ⟨b, i * 11 + 1, none⟩ = some (.int .i64 fr) := hrange 1 _ rfl
        have e2 : wr.cell? ⟨b, i * 11 + 2, none⟩ = some (.int .i64 ut) := hrange 2 _ rfl
        have e3 : wr.cell? ⟨b, i * 11 + 3, none⟩ = some (.int .i64 mo) := hrange 3 _ rfl
        have e4 : wr.cell? ⟨b, i * 11 + 4, none⟩ = some (.int .i64 k) := hrange 4 _ rfl
        have e5 : wr.cell? ⟨b, i * 11 + 5, none⟩ = some (.int .i64 w) := hrange 5 _ rfl
        have e6 : wr.cell? ⟨b, i * 11 + 6, none⟩ = some (.int .i64 d) := hrange 6 _ rfl
        have e7 : wr.cell? ⟨b, i * 11 + 7, none⟩ = some (.int .i64 sec) := hrange 7 _ rfl
        have e8 : wr.cell? ⟨b, i * 11 + 8, none⟩ = some (.int .i64 base) := hrange 8 _ rfl
        have e9 : wr.cell? ⟨b, i * 11 + 9, none⟩ = some (.int .i64 save) := hrange 9 _ rfl
        have e10 : wr.cell? ⟨b, i * 11 + 10, none⟩ = some (.string le) := hrange 10 _ rfl
        have HR := Lib.hid hr
        have hii : (0 : Int) ≤ (i : Int) := by omega
        have hil : (i : Int) < (n : Int) := by omega
        clear hr hrange
        go_wp2_with fail
        refine (HF.out ⟨na, fr, ut, mo, k, w, d, sec, base, save, le⟩ _ (bel_trans HBq.out (bel_alloc _ _))).mono ?_
        rintro e w3 ⟨rfl, hb3⟩
        have HO3 : Hid (w3.ownsRow W.heap.size 44 11 (.slice (some ⟨b, 0, none⟩) n cap) n (flatR (mix g rs i))) := own_below (own_below HOq.out (bel_alloc _ _)) hb3
        have HB3 := Lib.hid (bel_trans (bel_trans HBq.out (bel_alloc _ _)) hb3)
        clear hb3 e0 e1 e2 e3 e4 e5 e6 e7 e8 e9 e10
        have hsz : (flatR (mix g rs i)).length = n * 11 := by rw [flatR_len, mix_len, HN.out]
        obtain ⟨q, hq⟩ : ∃ q, g ⟨na, fr, ut, mo, k, w, d, sec, base, save, le⟩ = q := ⟨_, rfl⟩
        rw [hq]
        have HO4 : Hid ((w3.setCells b (i * 11) q.arr.toList).ownsRow W.heap.size 44 11 (.slice (some ⟨b, 0, none⟩) n cap) n (flatR (mix g rs (i + 1)))) := by
          show _
          rw [mix_set g rs i _ HR.out, hq, flatR_set _ _ _ (by rw [mix_len, ← HN.out]; exact hi)]
          exact own_over _ _ HO3.out (by show i * 11 + 11 ≤ n * 11; omega)
        have HB4 : Hid (Below W.heap.size W (w3.setCells b (i * 11) q.arr.toList)) := bel_setCells HB3.out hbb
        have e0 := own_cell HO3.out hsz (j := i * 11) (by omega)
        have f0 : w3.frozen? ⟨b, i * 11, none⟩ = false := HO3.out.frozenAt _
        have e1 := own_cell HO3.out hsz (j := i * 11 + 1) (by omega)
        have f1 : w3.frozen? ⟨b, i * 11 + 1, none⟩ = false := HO3.out.frozenAt _
        have e2 := own_cell HO3.out hsz (j := i * 11 + 2) (by omega)
        have f2 : w3.frozen? ⟨b, i * 11 + 2, none⟩ = false := HO3.out.frozenAt _
        have e3 := own_cell HO3.out hsz (j := i * 11 + 3) (by omega)
        have f3 : w3.frozen? ⟨b, i * 11 + 3, none⟩ = false := HO3.out.frozenAt _
        have e4 := own_cell HO3.out hsz (j := i * 11 + 4) (by omega)
        have f4 : w3.frozen? ⟨b, i * 11 + 4, none⟩ = false := HO3.out.frozenAt _
        have e5 := own_cell HO3.out hsz (j := i * 11 + 5) (by omega)
        have f5 : w3.frozen? ⟨b, i * 11 + 5, none⟩ = false := HO3.out.frozenAt _
        have e6 := own_cell HO3.out hsz (j := i * 11 + 6) (by omega)
        have f6 : w3.frozen? ⟨b, i * 11 + 6, none⟩ = false := HO3.out.frozenAt _
        have e7 := own_cell HO3.out hsz (j := i * 11 + 7) (by omega)
        have f7 : w3.frozen? ⟨b, i * 11 + 7, none⟩ = false := HO3.out.frozenAt _
        have e8 := own_cell HO3.out hsz (j := i * 11 + 8) (by omega)
        have f8 : w3.frozen? ⟨b, i * 11 + 8, none⟩ = false := HO3.out.frozenAt _
        have e9 := own_cell HO3.out hsz (j := i * 11 + 9) (by omega)
        have f9 : w3.frozen? ⟨b, i * 11 + 9, none⟩ = false := HO3.out.frozenAt _
        have e10 := own_cell HO3.out hsz (j := i * 11 + 10) (by omega)
        have f10 : w3.frozen? ⟨b, i * 11 + 10, none⟩ = false := HO3.out.frozenAt _
        obtain ⟨y0, e0⟩ := e0
        obtain ⟨y1, e1⟩ := e1
        obtain ⟨y2, e2⟩ := e2
        obtain ⟨y3, e3⟩ := e3
        obtain ⟨y4, e4⟩ := e4
        obtain ⟨y5, e5⟩ := e5
        obtain ⟨y6, e6⟩ := e6
        obtain ⟨y7, e7⟩ := e7
        obtain ⟨y8, e8⟩ := e8
        obtain ⟨y9, e9⟩ := e9
        obtain ⟨y10, e10⟩ := e10
        obtain ⟨qna, qfr, qut, qmo, qk, qw, qd, qsec, qbase, qsave, qle⟩ := q
        clear hq hsz
        unfold Ru.arr
        dsimp only
        go_wp2_with fail
        go_round
        case rel => exact ⟨i + 1, _, by omega, by go_num, rfl, HO4, HB4⟩
        case measure => simp [intOf]; omega
      · have hie : i = n := by omega
        subst hie
        go_wp2_with fail
        go_ret
        exact ⟨_, rfl, Lib.hid ⟨by have := HOq.out; rw [HN.out, mix_n] at this; rw [HN.out]; exact this, hn, flatR_one _⟩, HBq.out⟩
end Go.Proofs.Ytdlmlcgmonkdfaa
