/-
  The reference's era and Rules.
-/
import Derived.Test.YtdlmlcgmonkdfaaShfLawM
namespace Go.Proofs.Ytdlmlcgmonkdfaa
open Go.RowKit Sh
set_option linter.unusedVariables false
set_option linter.unusedSimpArgs false

namespace Sh
/-- an era, shifted -/
def Er.go (r : Er) (x : Int) : Er := if r.is then { r with off := wrap64 (r.off - x), sec := less r.sec r.base x } else { r with off := wrap64 (r.off - x) }
theorem Er.sh_go (r : Er) (n : ByteArray) (x : Int) : r.sh n x = if r.kind = 2 ∧ r.set = n then r.go x else r := rfl
end Sh

set_option maxRecDepth 100000 in
set_option maxHeartbeats 2000000 in
theorem refera_any (e : Er) (x : Int) (W : World) : Calls Try.prog 36 #[.agg e.arr, .int .i64 x] W fun e1 w' => e1 = .returned (.agg (e.go x).arr) ∧ Below W.heap.size W w' := by
  obtain ⟨off, kind, save, set, fm, is, yr, mo, k, w, d, sec, base⟩ := e
  unfold Er.go Er.arr
  dsimp only
  cases is
  · simp only [Bool.false_eq_true, if_false]
    go_enter Try.func36, Try.ntmps36
    go_wp2_with fail
    refine bodyPost_ret (results_cell_row rfl _ _ _ _ _ _ _ rfl (heap_alloc2_new _ _ _) Try.underlying52 rfl (by kernel_rfl)) rfl ?_
    exact ⟨rfl, bel_trans (bel_alloc _ _) (bel_alloc _ _)⟩
  · simp only [if_true]
    by_cases hb : base = 1
    · subst hb
      have hle : less sec 1 x = wrap64 (sec - x) := if_pos rfl
      rw [hle]
      go_enter Try.func36, Try.ntmps36
      go_wp2_with fail
      refine bodyPost_ret (results_cell_row rfl _ _ _ _ _ _ _ rfl (heap_alloc2_new _ _ _) Try.underlying52 rfl (by kernel_rfl)) rfl ?_
      exact ⟨rfl, bel_trans (bel_alloc _ _) (bel_alloc _ _)⟩
    · have hle : less sec base x = sec := if_neg hb
      rw [hle]
      have hb1 : decide (base = 1) = false := decide_eq_false hb
      have hb2 : (base == 1) = false := by simpa using hb
      go_enter Try.func36, Try.ntmps36
      go_wp2_with fail
      refine bodyPost_ret (results_cell_row rfl _ _ _ _ _ _ _ rfl (heap_alloc2_new _ _ _) Try.underlying52 rfl (by kernel_rfl)) rfl ?_
      exact ⟨rfl, bel_trans (bel_alloc _ _) (bel_alloc _ _)⟩

set_option maxRecDepth 100000 in
set_option maxHeartbeats 4000000 in
theorem refRules_any (v : Value) (rs : _root_.List Ru) (x : Int) (W : World) (h : Rd 11 v rs.length (flatR rs) W) :
    Calls Try.prog 19 #[v, .int .i64 x] W fun e w' => ∃ v', e = .returned v' ∧ Hid (Own W.heap.size 44 11 v' (rs.map fun r => r.sh x).length (flatR (rs.map fun r => r.sh x)) w') ∧ Below W.heap.size W w' := by
  obtain ⟨A, c, rfl⟩ := h.sl
  have H := Lib.hid h
  have hn := h.2.1
  clear h
  obtain ⟨i0, z0, hi, hz0, hzs, hzb, hzk⟩ := parts infoRule
  obtain ⟨n, hN⟩ : ∃ n, n = rs.length := ⟨_, rfl⟩
  have HN := Lib.hid hN
  rw [← hN] at hn ⊢
  clear hN
  go_enter Try.func19, Try.ntmps19
  go_wp2_with fail
  go_loopw [5, 6] (fun t5 t6 wr => ∃ (k : Nat) (vo : Value) (wq : World), k ≤ n ∧ t5 = vo ∧ t6 = .int .i64 (k : Int) ∧ wr = wq ∧ Hid (Own W.heap.size 44 11 vo k (flatR ((rs.take k).map fun r => r.sh x)) wq) ∧ Hid (Below W.heap.size W wq)) (fun _ t6 _ => n - (intOf t6).toNat)
  case atStart => exact ⟨0, .slice none 0 0, _, by omega, rfl, rfl, rfl, Lib.hid ⟨World.ownsRow_nil _ _ _ _, by omega, fun u hu => by simp [flatR] at hu⟩, Lib.hid (Below.refl _ _)⟩
  case round =>
    obtain ⟨k, vo, wq, hk, rfl, rfl, rfl, HO, HB⟩ := hrel
    obtain ⟨av, cv, hv⟩ := HO.out.rd.sl
    subst hv
    by_cases hlt : k < n
    · obtain ⟨r, hr⟩ : ∃ r, rs[k]? = some r := ⟨_, _root_.List.getElem?_eq_getElem (by rw [← HN.out]; exact hlt)⟩
      obtain ⟨g1, o1, p1, q1, hc1⟩ := (H.out.below HB.out).atR hr
      have q1' : A = some ⟨g1, o1, none⟩ ∧ c = p1 := by simp only [Value.slice.injEq] at q1; exact ⟨q1.1, q1.2.2⟩
      obtain ⟨rfl, rfl⟩ := q1'
      have HR := Lib.hid hr
      obtain ⟨na, fr, ut, mo, kk, wd, d, sec, bs, save, le⟩ := r
      obtain ⟨a0, a1, a2, a3, a4, a5, a6, a7, a8, a9, a10⟩ := Ru.cells hc1
      have hi0 : (0 : Int) ≤ (k : Int) := by omega
      have hi1 : (k : Int) < (n : Int) := by omega
      clear hr hc1 q1
      by_cases hbs : bs = 1
      · subst hbs
        have hle : less sec 1 x = wrap64 (sec - x) := if_pos rfl
        have hal := bel_trans (bel_alloc wr (.cells #[.string na, .int .i64 fr, .int .i64 ut, .int .i64 mo, .int .i64 kk, .int .i64 wd, .int .i64 d, .int .i64 (wrap64 (sec - x)), .int .i64 1, .int .i64 (wrap64 (save + x)), .string le] 44)) (bel_alloc _ (.cells #[.string na, .int .i64 fr, .int .i64 ut, .int .i64 mo, .int .i64 kk, .int .i64 wd, .int .i64 d, .int .i64 (wrap64 (sec - x)), .int .i64 1, .int .i64 (wrap64 (save + x)), .string le] 44))
        have HNW := Lib.hid (heap_alloc2_new wr (.cells #[.string na, .int .i64 fr, .int .i64 ut, .int .i64 mo, .int .i64 kk, .int .i64 wd, .int .i64 d, .int .i64 (wrap64 (sec - x)), .int .i64 1, .int .i64 (wrap64 (save + x)), .string le] 44) (.cells #[.string na, .int .i64 fr, .int .i64 ut, .int .i64 mo, .int .i64 kk, .int .i64 wd, .int .i64 d, .int .i64 (wrap64 (sec - x)), .int .i64 1, .int .i64 (wrap64 (save + x)), .string le] 44))
        have HOA := Lib.hid (HO.out.below hal)
        have hsz := Nat.le_trans HB.out.size hal.size
        go_wp2_with (at_builtin; refine wpList_append_own _ rfl (.tmp 34) (.tmp 36) 22 rfl W.heap.size 44 i0 z0 11 104 Try.underlying22 hi hz0 hzs hzb hzk (by decide) (.slice av k cv) k (flatR ((rs.take k).map fun r => r.sh x)) rfl HOA.out.1 ⟨wr.heap.size + 1, 0, none⟩ 1 1 [.string na, .int .i64 fr, .int .i64 ut, .int .i64 mo, .int .i64 kk, .int .i64 wd, .int .i64 d, .int .i64 (wrap64 (sec - x)), .int .i64 1, .int .i64 (wrap64 (save + x)), .string le] rfl rfl (World.news_of_block HNW.out) (by intro u hu; simp at hu; rcases hu with rfl | rfl | rfl | rfl | rfl | rfl | rfl | rfl | rfl | rfl | rfl <;> rfl) (by unfold maxLen; omega) (by omega) (by omega) ?_; intro v9 w10 hown hgrow hnil)
        have HOF : Hid (Own W.heap.size 44 11 v9 (k + 1) (flatR ((rs.take (k + 1)).map fun r => r.sh x)) w10) := by
          have e : flatR ((rs.take (k + 1)).map fun r => r.sh x) = flatR ((rs.take k).map fun r => r.sh x) ++ [.string na, .int .i64 fr, .int .i64 ut, .int .i64 mo, .int .i64 kk, .int .i64 wd, .int .i64 d, .int .i64 (wrap64 (sec - x)), .int .i64 1, .int .i64 (wrap64 (save + x)), .string le] := by
            rw [_root_.List.take_add_one, HR.out, _root_.List.map_append]
            unfold flatR
            rw [_root_.List.flatMap_append]
            congr 1
            all_goals (show (Ru.sh _ x).arr.toList ++ [] = _; rw [_root_.List.append_nil]; unfold Ru.sh Ru.arr; dsimp only; rw [hle])
          refine ⟨by rw [e]; exact hown, by omega, flatR_one _⟩
        have HBF := Lib.hid (Below.grown (bel_trans HB.out hal) hgrow hsz (fun k hk => (HOA.out.1.lt k hk).1))
        go_round
        case rel => exact ⟨k + 1, _, _, by omega, rfl, by go_num, rfl, HOF, HBF⟩
        case measure => simp [intOf]; omega
      · have hle : less sec bs x = sec := if_neg hbs
        have hb1 : decide (bs = 1) = false := decide_eq_false hbs
        have hb2 : (bs == 1) = false := by simpa using hbs
        have hal := bel_trans (bel_alloc wr (.cells #[.string na, .int .i64 fr, .int .i64 ut, .int .i64 mo, .int .i64 kk, .int .i64 wd, .int .i64 d, .int .i64 sec, .int .i64 bs, .int .i64 (wrap64 (save + x)), .string le] 44)) (bel_alloc _ (.cells #[.string na, .int .i64 fr, .int .i64 ut, .int .i64 mo, .int .i64 kk, .int .i64 wd, .int .i64 d, .int .i64 sec, .int .i64 bs, .int .i64 (wrap64 (save + x)), .string le] 44))
        have HNW := Lib.hid (heap_alloc2_new wr (.cells #[.string na, .int .i64 fr, .int .i64 ut, .int .i64 mo, .int .i64 kk, .int .i64 wd, .int .i64 d, .int .i64 sec, .int .i64 bs, .int .i64 (wrap64 (save + x)), .string le] 44) (.cells #[.string na, .int .i64 fr, .int .i64 ut, .int .i64 mo, .int .i64 kk, .int .i64 wd, .int .i64 d, .int .i64 sec, .int .i64 bs, .int .i64 (wrap64 (save + x)), .string le] 44))
        have HOA := Lib.hid (HO.out.below hal)
        have hsz := Nat.le_trans HB.out.size hal.size
        go_wp2_with (at_builtin; refine wpList_append_own _ rfl (.tmp 34) (.tmp 36) 22 rfl W.heap.size 44 i0 z0 11 104 Try.underlying22 hi hz0 hzs hzb hzk (by decide) (.slice av k cv) k (flatR ((rs.take k).map fun r => r.sh x)) rfl HOA.out.1 ⟨wr.heap.size + 1, 0, none⟩ 1 1 [.string na, .int .i64 fr, .int .i64 ut, .int .i64 mo, .int .i64 kk, .int .i64 wd, .int .i64 d, .int .i64 sec, .int .i64 bs, .int .i64 (wrap64 (save + x)), .string le] rfl rfl (World.news_of_block HNW.out) (by intro u hu; simp at hu; rcases hu with rfl | rfl | rfl | rfl | rfl | rfl | rfl | rfl | rfl | rfl | rfl <;> rfl) (by unfold maxLen; omega) (by omega) (by omega) ?_; intro v9 w10 hown hgrow hnil)
        have HOF : Hid (Own W.heap.size 44 11 v9 (k + 1) (flatR ((rs.take (k + 1)).map fun r => r.sh x)) w10) := by
          have e : flatR ((rs.take (k + 1)).map fun r => r.sh x) = flatR ((rs.take k).map fun r => r.sh x) ++ [.string na, .int .i64 fr, .int .i64 ut, .int .i64 mo, .int .i64 kk, .int .i64 wd, .int .i64 d, .int .i64 sec, .int .i64 bs, .int .i64 (wrap64 (save + x)), .string le] := by
            rw [_root_.List.take_add_one, HR.out, _root_.List.map_append]
            unfold flatR
            rw [_root_.List.flatMap_append]
            congr 1
            all_goals (show (Ru.sh _ x).arr.toList ++ [] = _; rw [_root_.List.append_nil]; unfold Ru.sh Ru.arr; dsimp only; rw [hle])
          refine ⟨by rw [e]; exact hown, by omega, flatR_one _⟩
        have HBF := Lib.hid (Below.grown (bel_trans HB.out hal) hgrow hsz (fun k hk => (HOA.out.1.lt k hk).1))
        go_round
        case rel => exact ⟨k + 1, _, _, by omega, rfl, by go_num, rfl, HOF, HBF⟩
        case measure => simp [intOf]; omega
    · have hkn : k = n := by omega
      go_wp2_with fail
      go_ret
      refine ⟨_, rfl, Lib.hid ?_, HB.out⟩
      have h := HO.out
      rw [hkn, HN.out, _root_.List.take_length] at h
      rw [_root_.List.length_map, hkn, HN.out]
      exact h
end Go.Proofs.Ytdlmlcgmonkdfaa
