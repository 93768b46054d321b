/-
  The contract of package shift's function changed, at eras.
-/
import Derived.Test.YtdlmlcgmonkdfaaShfChg
namespace Go.Proofs.Ytdlmlcgmonkdfaa
open Go.RowKit Sh
set_option linter.unusedVariables false
set_option linter.unusedSimpArgs false

namespace Sh
/-- the cells of a list of eras, one behind the other -/
def flatE (rs : _root_.List Er) : _root_.List Value := rs.flatMap fun r => r.arr.toList
theorem flatE_len (rs : _root_.List Er) : (flatE rs).length = rs.length * 13 := by
  unfold flatE
  induction rs with
  | nil => rfl
  | cons r rs ih => rw [_root_.List.flatMap_cons, _root_.List.length_append, ih, _root_.List.length_cons]; show 13 + _ = _; omega
theorem flatE_one (rs : _root_.List Er) : ∀ u ∈ flatE rs, u.oneCell' = true := by
  intro u hu
  unfold flatE at hu
  obtain ⟨r, _, hr⟩ := _root_.List.mem_flatMap.1 hu
  unfold Er.arr at hr
  simp at hr
  rcases hr with rfl | rfl | rfl | rfl | rfl | rfl | rfl | rfl | rfl | rfl | rfl | rfl | rfl <;> rfl
theorem flatE_at (rs : _root_.List Er) : ∀ (i j : Nat) (r : Er), rs[i]? = some r → j < 13 → (flatE rs)[i * 13 + j]? = r.arr.toList[j]? := by
  unfold flatE
  induction rs with
  | nil => intro i j r h; simp at h
  | cons s rs ih =>
    intro i j r h hj
    rw [_root_.List.flatMap_cons]
    have hl : s.arr.toList.length = 13 := rfl
    cases i with
    | zero =>
      simp at h
      subst h
      rw [_root_.List.getElem?_append_left (by omega)]
      congr 1; omega
    | succ i =>
      rw [_root_.List.getElem?_append_right (by omega), hl, show (i + 1) * 13 + j - 13 = i * 13 + j by omega]
      exact ih i j r (by simpa using h) hj
theorem flatE_set (rs : _root_.List Er) (i : Nat) (r : Er) (h : i < rs.length) : flatE (rs.set i r) = over (flatE rs) (i * 13) r.arr.toList := by
  have hl : r.arr.toList.length = 13 := rfl
  apply _root_.List.ext_getElem?
  intro j
  rw [over_at _ _ _ _ (by rw [flatE_len, hl]; omega), hl]
  by_cases hj : j < rs.length * 13
  · have hq : j = (j / 13) * 13 + j % 13 := by omega
    have hm : j % 13 < 13 := by omega
    obtain ⟨q, hqv⟩ : ∃ q, rs[j / 13]? = some q := by
      rw [_root_.List.getElem?_eq_getElem (by omega)]; exact ⟨_, rfl⟩
    by_cases hi : j / 13 = i
    · rw [if_pos (by omega)]
      conv => lhs; rw [hq]
      rw [flatE_at (rs.set i r) (j / 13) (j % 13) r (by rw [hi, _root_.List.getElem?_set]; simp [h]) hm]
      congr 1; omega
    · rw [if_neg (by omega)]
      conv => lhs; rw [hq]
      conv => rhs; rw [hq]
      rw [flatE_at rs (j / 13) (j % 13) q hqv hm, flatE_at (rs.set i r) (j / 13) (j % 13) q (by rw [_root_.List.getElem?_set, if_neg (by omega)]; exact hqv) hm]
  · rw [if_neg (by omega), _root_.List.getElem?_eq_none (by rw [flatE_len]; simp; omega), _root_.List.getElem?_eq_none (by rw [flatE_len]; omega)]
end Sh

set_option maxRecDepth 100000 in
set_option maxHeartbeats 2000000 in
theorem changedE_any (v : Value) (rs : _root_.List Er) (F : FuncId) (caps : Array Value) (g : Er → Er) (W : World) (h : Rd 13 v rs.length (flatE rs) W)
    (hcf : ∀ (args : Array Value) (w : World), (callFunc F args).run Try.prog w = .ok (.enter F args) w)
    (hf : ∀ (r : Er) (V : World), Below W.heap.size W V → Calls Try.prog F (#[.agg r.arr] ++ caps) V fun e w' => e = .returned (.agg (g r).arr) ∧ Below V.heap.size V w') :
    Calls Try.prog 33 #[v, .func (.func F) #[] caps] W fun e w' => ∃ v', e = .returned v' ∧ Hid (Own W.heap.size 52 13 v' rs.length (flatE (rs.map g)) w') ∧ Below W.heap.size W w' := by
  have HF := Lib.hid hf
  have hn : rs.length ≤ 1000 := h.2.1
  clear hf
  obtain ⟨n, hN⟩ : ∃ n, n = rs.length := ⟨_, rfl⟩
  rw [← hN] at h hn ⊢
  go_enter Try.func33, Try.ntmps33
  go_wp2_with fail
  refine (cloneEra_any v n (flatE rs) _ h).mono ?_
  rintro e w1 ⟨v1, rfl, ho, hb1⟩
  have ho' := ho.out.1
  obtain ⟨hl, ⟨rfl, rfl⟩ | ⟨b, cap, cur, rfl, hbb, hcell, hcap, _⟩⟩ := ho'
  · have hrs : rs = [] := _root_.List.length_eq_zero_iff.1 hN.symm
    subst hrs
    clear hN hl h
    go_wp2_with fail
    go_loopw [12] (fun i wr => i = .int .i64 0 ∧ wr = w1) (fun i _ => 0)
    case atStart => exact ⟨rfl, rfl⟩
    case round =>
      obtain ⟨rfl, rfl⟩ := hrel
      go_wp2_with fail
      go_ret
      exact ⟨_, rfl, ho, hb1⟩
  · have HN := Lib.hid hN
    have HOW := ho.out.1
    have hcapm : n ≤ cap := hcap
    clear hN hl hcell ho hcap h
    have HO0 : Hid (w1.ownsRow W.heap.size 52 13 (.slice (some ⟨b, 0, none⟩) n cap) n (flatE (mix g rs 0))) := by rw [mix_0]; exact HOW
    clear HOW
    go_wp2_with fail
    go_loopw [12] (fun s wr => ∃ (i : Nat) (wq : World), i ≤ n ∧ s = .int .i64 (i : Int) ∧ wr = wq ∧ Hid (wq.ownsRow W.heap.size 52 13 (.slice (some ⟨b, 0, none⟩) n cap) n (flatE (mix g rs i))) ∧ Hid (Below W.heap.size W wq)) (fun s _ => n - (intOf s).toNat)
    case atStart => exact ⟨0, _, by omega, rfl, rfl, HO0, Lib.hid hb1⟩
    case round =>
      obtain ⟨i, wq, hin, rfl, rfl, HOq, HBq⟩ := hrel
      by_cases hi : i < n
      · obtain ⟨r, hr⟩ : ∃ r, rs[i]? = some r := by rw [_root_.List.getElem?_eq_getElem (by rw [← HN.out]; exact hi)]; exact ⟨_, rfl⟩
        have hrange : wr.rangeAt b (i * 13) r.arr.toList := fun j u hu => by
          have hj : j < 13 := (_root_.List.getElem?_eq_some_iff.1 hu).1
          rw [HOq.out.cellAt (i * 13 + j) (by omega), flatE_at _ i j r (mix_at g rs i r hr) hj]; exact hu
        obtain ⟨off, kind, save, set, fm, is, yr, mo, k, w, d, sec, base⟩ := r
        have e0 : wr.cell? ⟨b, i * 13, none⟩ = some (.int .i64 off) := hrange 0 _ rfl
        have e1 : wr.cell? ⟨b, i * 13 + 1, none⟩ = some (.int .i64 kind) := hrange 1 _ rfl
        have e2 : wr.cell? ⟨b, i * 13 + 2, none⟩ = some (.int .i64 save) := hrange 2 _ rfl
        have e3 : wr.cell? ⟨b, i * 13 + 3, none⟩ = some (.string set) := hrange 3 _ rfl
        have e4 : wr.cell? ⟨b, i * 13 + 4, none⟩ = some (.string fm) := hrange 4 _ rfl
        have e5 : wr.cell? ⟨b, i * 13 + 5, none⟩ = some (.bool is) := hrange 5 _ rfl
        have e6 : wr.cell? ⟨b, i * 13 + 6, none⟩ = some (.int .i64 yr) := hrange 6 _ rfl
        have e7 : wr.cell? ⟨b, i * 13 + 7, none⟩ = some (.int .i64 mo) := hrange 7 _ rfl
        have e8 : wr.cell? ⟨b, i * 13 + 8, none⟩ = some (.int .i64 k) := hrange 8 _ rfl
        have e9 : wr.cell? ⟨b, i * 13 + 9, none⟩ = some (.int .i64 w) := hrange 9 _ rfl
        have e10 : wr.cell? ⟨b, i * 13 + 10, none⟩ = some (.int .i64 d) := hrange 10 _ rfl
        have e11 : wr.cell? ⟨b, i * 13 + 11, none⟩ = some (.int .i64 sec) := hrange 11 _ rfl
        have e12 : wr.cell? ⟨b, i * 13 + 12, none⟩ = some (.int .i64 base) := hrange 12 _ rfl
        have HR := Lib.hid hr
        have hii : (0 : Int) ≤ (i : Int) := by omega
        have hil : (i : Int) < (n : Int) := by omega
        clear hr hrange
        go_wp2_with fail
        refine (HF.out ⟨off, kind, save, set, fm, is, yr, mo, k, w, d, sec, base⟩ _ (bel_trans HBq.out (bel_alloc _ _))).mono ?_
        rintro e w3 ⟨rfl, hb3⟩
        have HO3 : Hid (w3.ownsRow W.heap.size 52 13 (.slice (some ⟨b, 0, none⟩) n cap) n (flatE (mix g rs i))) := own_below (own_below HOq.out (bel_alloc _ _)) hb3
        have HB3 := Lib.hid (bel_trans (bel_trans HBq.out (bel_alloc _ _)) hb3)
        clear hb3 e0 e1 e2 e3 e4 e5 e6 e7 e8 e9 e10 e11 e12
        have hsz : (flatE (mix g rs i)).length = n * 13 := by rw [flatE_len, mix_len, HN.out]
        obtain ⟨q, hq⟩ : ∃ q, g ⟨off, kind, save, set, fm, is, yr, mo, k, w, d, sec, base⟩ = q := ⟨_, rfl⟩
        rw [hq]
        have HO4 : Hid ((w3.setCells b (i * 13) q.arr.toList).ownsRow W.heap.size 52 13 (.slice (some ⟨b, 0, none⟩) n cap) n (flatE (mix g rs (i + 1)))) := by
          show _
          rw [mix_set g rs i _ HR.out, hq, flatE_set _ _ _ (by rw [mix_len, ← HN.out]; exact hi)]
          exact own_over _ _ HO3.out (by show i * 13 + 13 ≤ n * 13; omega)
        have HB4 : Hid (Below W.heap.size W (w3.setCells b (i * 13) q.arr.toList)) := bel_setCells HB3.out hbb
        have e0 := own_cell HO3.out hsz (j := i * 13) (by omega)
        have f0 : w3.frozen? ⟨b, i * 13, none⟩ = false := HO3.out.frozenAt _
        have e1 := own_cell HO3.out hsz (j := i * 13 + 1) (by omega)
        have f1 : w3.frozen? ⟨b, i * 13 + 1, none⟩ = false := HO3.out.frozenAt _
        have e2 := own_cell HO3.out hsz (j := i * 13 + 2) (by omega)
        have f2 : w3.frozen? ⟨b, i * 13 + 2, none⟩ = false := HO3.out.frozenAt _
        have e3 := own_cell HO3.out hsz (j := i * 13 + 3) (by omega)
        have f3 : w3.frozen? ⟨b, i * 13 + 3, none⟩ = false := HO3.out.frozenAt _
        have e4 := own_cell HO3.out hsz (j := i * 13 + 4) (by omega)
        have f4 : w3.frozen? ⟨b, i * 13 + 4, none⟩ = false := HO3.out.frozenAt _
        have e5 := own_cell HO3.out hsz (j := i * 13 + 5) (by omega)
        have f5 : w3.frozen? ⟨b, i * 13 + 5, none⟩ = false := HO3.out.frozenAt _
        have e6 := own_cell HO3.out hsz (j := i * 13 + 6) (by omega)
        have f6 : w3.frozen? ⟨b, i * 13 + 6, none⟩ = false := HO3.out.frozenAt _
        have e7 := own_cell HO3.out hsz (j := i * 13 + 7) (by omega)
        have f7 : w3.frozen? ⟨b, i * 13 + 7, none⟩ = false := HO3.out.frozenAt _
        have e8 := own_cell HO3.out hsz (j := i * 13 + 8) (by omega)
        have f8 : w3.frozen? ⟨b, i * 13 + 8, none⟩ = false := HO3.out.frozenAt _
        have e9 := own_cell HO3.out hsz (j := i * 13 + 9) (by omega)
        have f9 : w3.frozen? ⟨b, i * 13 + 9, none⟩ = false := HO3.out.frozenAt _
        have e10 := own_cell HO3.out hsz (j := i * 13 + 10) (by omega)
        have f10 : w3.frozen? ⟨b, i * 13 + 10, none⟩ = false := HO3.out.frozenAt _
        have e11 := own_cell HO3.out hsz (j := i * 13 + 11) (by omega)
        have f11 : w3.frozen? ⟨b, i * 13 + 11, none⟩ = false := HO3.out.frozenAt _
        have e12 := own_cell HO3.out hsz (j := i * 13 + 12) (by omega)
        have f12 : w3.frozen? ⟨b, i * 13 + 12, none⟩ = false := HO3.out.frozenAt _
        obtain ⟨y0, e0⟩ := e0
        obtain ⟨y1, e1⟩ := e1
        obtain ⟨y2, e2⟩ := e2
        obtain ⟨y3, e3⟩ := e3
        obtain ⟨y4, e4⟩ := e4
        obtain ⟨y5, e5⟩ := e5
        obtain ⟨y6, e6⟩ := e6
        obtain ⟨y7, e7⟩ := e7
        obtain ⟨y8, e8⟩ := e8
        obtain ⟨y9, e9⟩ := e9
        obtain ⟨y10, e10⟩ := e10
        obtain ⟨y11, e11⟩ := e11
        obtain ⟨y12, e12⟩ := e12
        obtain ⟨qoff, qkind, qsave, qset, qfm, qis, qyr, qmo, qk, qw, qd, qsec, qbase⟩ := q
        clear hq hsz
        unfold Er.arr
        dsimp only
        go_wp2_with fail
        go_round
        case rel => exact ⟨i + 1, _, by omega, by go_num, rfl, HO4, HB4⟩
        case measure => simp [intOf]; omega
      · have hie : i = n := by omega
        subst hie
        go_wp2_with fail
        go_ret
        exact ⟨_, rfl, Lib.hid ⟨by have := HOq.out; rw [HN.out, mix_n] at this; rw [HN.out]; exact this, hn, flatE_one _⟩, HBq.out⟩
end Go.Proofs.Ytdlmlcgmonkdfaa
