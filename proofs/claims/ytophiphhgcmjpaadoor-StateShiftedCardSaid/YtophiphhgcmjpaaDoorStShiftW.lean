/-
  The walk of the law StateShifted.
-/
import Derived.Test.YtophiphhgcmjpaaDoorStEq
import Derived.Test.YtophiphhgcmjpaaDoorStAftM
import Derived.Test.YtophiphhgcmjpaaDoorStShM
import Derived.Test.YtophiphhgcmjpaaDoorMixR
import Derived.Test.YtophiphhgcmjpaaDoorClO
import Derived.Test.YtophiphhgcmjpaaDoorDrArg
import Derived.Deep.DeepCutAuto
import Derived.Deep.CutBlock
import Derived.Laws.EntriesVeiled
namespace Go.Proofs.YtophiphhgcmjpaaDoor
open Go.RowKit Cv
set_option linter.unusedVariables false
set_option linter.unusedSimpArgs false

namespace Cv
theorem calm_savOk {rs : _root_.List Ru} (h : CalmR rs) : SavOk rs := fun r hr => by have := h.save r hr; omega
end Cv
set_option maxRecDepth 100000 in
set_option maxHeartbeats 4000000 in
theorem same_any (a x : Int) (s : ByteArray) (X : Nat) (W : World) (hX : W.heap[X]? = some (.cells #[.int .i64 x] 2)) (ha1 : -1000000000 ≤ a) (ha2 : a ≤ 1000000000) (hx1 : -10800 ≤ x) (hx2 : x ≤ 10800) :
    Calls Tryd.prog 15 (#[.agg #[.int .i64 a, .string s], .agg #[.int .i64 (a + x), .string s]] ++ #[.pointer (some ⟨X, 0, none⟩)]) W fun e w' => e = .returned (.bool true) ∧ Below W.heap.size W w' := by
  have c0 := cellB hX (i := 0) rfl
  have HB := Lib.hid (bel_trans (bel_alloc W (.cells #[.int .i64 a, .string s] 39)) (bel_alloc _ (.cells #[.int .i64 (a + x), .string s] 39)))
  have d0 := cell_below HB.out c0
  have hw : IntKind.i64.wrap (a + x) = a + x := IntWalk.i64_in _ (by omega)
  clear hX
  go_enter Tryd.func15, Tryd.ntmps15
  go_wp2_with fail
  go_ret
  exact ⟨by simp, HB.out⟩

set_option maxRecDepth 100000 in
set_option maxHeartbeats 32000000 in
theorem stSh_core (v : Value) (bs : _root_.List Int) (xx m p q : Int) (W : World) (hT : Tabs W) (h : Drf v bs W) (hx1 : -2147483648 ≤ xx) (hx2 : xx ≤ 2147483647) (hm1 : 0 ≤ m) (hm2 : m ≤ 18446744073709551615) (hp : Hid (xx.tmod 43201 = p)) (hq : Hid (m % 8362592280 = q)) (hp1 : -43200 ≤ p) (hp2 : p ≤ 43200) (hq1 : 0 ≤ q) (hq2 : q < 8362592280) :
    Calls Tryd.prog 4 #[v, .int .i32 xx, .int .u64 m] W fun e w' => e = .returned (.bool true) ∧ Below W.heap.size W w' := by
  have HT := Lib.hid hT
  have HD := Lib.hid h
  clear hT h
  go_enter Tryd.func4, Tryd.ntmps4
  go_wp2_with fail
  refine (made17s_any _ bs ⟨#[82]⟩ _ (by exact HD.out)).mono ?_
  rintro e w1 ⟨ov, rs, sv, rfl, h2, h5, hmp, _, hown, hb1⟩
  have HMP := Lib.hid hmp
  have HR := Lib.hid (rul_of_own hown (by omega) (fun r hr => (hmp.each r hr).ok.fits))
  have HB := Lib.hid hb1
  have HLn := Lib.hid (show 0 < rs.length by omega)
  have HLm := Lib.hid (show rs.length ≤ 5 from h5)
  clear hmp hown hb1 h2 h5 HD
  obtain ⟨Al, cl, hol⟩ := HR.out.sl
  obtain ⟨nl, hnl⟩ : ∃ nl, nl = rs.length := ⟨_, rfl⟩
  rw [← hnl] at hol
  subst hol
  have HN := Lib.hid hnl
  have hnl5 : nl ≤ 5 := by rw [hnl]; exact HLm.out
  clear hnl
  have hsvs := HMP.out.svs
  have HSV := Lib.hid (show -7200 ≤ sv ∧ sv ≤ 7200 by omega)
  clear hsvs
  go_wp2_with fail
  refine (at19_any xx m p q _ (by exact HT.out.below HB.out) hx1 hx2 hm1 hm2 hp.out hq.out).mono ?_
  rintro e w2 ⟨rfl, kd, hw2⟩
  have hbd : Below w1.heap.size w1 w2 := by subst hw2; exact bel_drew (Below.refl _ _) _
  clear hw2
  have HB := Lib.hid (bel_trans HB.out hbd)
  have HR := Lib.hid (HR.out.below hbd)
  clear hbd hp hq
  have HLT := Lib.hid (show W.heap.size ≤ w2.heap.size from HB.out.size)
  have HRb := HR
  have H2 := Lib.hid (bel_alloc w2 (.cells #[.int .i64 0] 2))
  have HB := Lib.hid (bel_trans HB.out H2.out)
  have KX := Lib.hid (heap_alloc_new w2 (.cells #[.int .i64 0] 2))
  have HOT := Lib.hid (othS_zero sv rs)
  clear HR
  go_wp2_with fail
  go_loopw [31] (fun st wr => ∃ (j : Nat) (xv : Int) (wq : World), j ≤ nl ∧ st = .int .i64 (j : Int) ∧ wr = wq ∧ Hid (Below W.heap.size W wq) ∧ Hid (Below w2.heap.size w2 wq) ∧ Hid (wq.heap[w2.heap.size]? = some (.cells #[.int .i64 xv] 2)) ∧ Hid (OthS sv xv rs j)) (fun st _ => nl - (intOf st).toNat)
  case atStart => exact ⟨0, _, _, by omega, rfl, rfl, HB, H2, KX, HOT⟩
  case round =>
    clear HB H2 KX HOT
    obtain ⟨j, xv, wq, hj, rfl, rfl, HB, H2, KX, HOT⟩ := hrel
    have HR := Lib.hid (HRb.out.below H2.out)
    by_cases hlt : j < nl
    · obtain ⟨r, hr⟩ : ∃ r, rs[j]? = some r := ⟨_, _root_.List.getElem?_eq_getElem (by rw [← HN.out]; exact hlt)⟩
      have hrp := HMP.out.each r (_root_.List.mem_of_getElem? hr)
      have hsv := hrp.save
      have hsb := hrp.ok.save
      obtain ⟨g, of_, rfl, hrg⟩ := HR.out.at_ hr
      have HRJ := Lib.hid hr
      obtain ⟨na, fr, ut, mo, kk, ww, dd, sec, base, save, le⟩ := r
      obtain ⟨e0, e1, e2, e3, e4, e5, e6, e7, e8, e9, e10⟩ := range11 hrg
      dsimp only at e0 e1 e2 e3 e4 e5 e6 e7 e8 e9 e10 hsv hsb
      have HSS := Lib.hid hsv
      obtain ⟨hs1, hs2⟩ := hsb
      have hk0 : (0 : Int) ≤ (j : Int) := by omega
      have hk1 : (j : Int) < (nl : Int) := by omega
      have hbl := bel_alloc wr (.cells #[.string na, .int .i64 fr, .int .i64 ut, .int .i64 mo, .int .i64 kk, .int .i64 ww, .int .i64 dd, .int .i64 sec, .int .i64 base, .int .i64 save, .string le] 37)
      have HB := Lib.hid (bel_trans HB.out hbl)
      have H2 := Lib.hid (bel_trans H2.out hbl)
      have KX := Lib.hid (block_below KX.out hbl)
      clear hr hrg hrp hsv hbl HR
      have x0 := cellB KX.out (i := 0) rfl
      have u0 := frzB KX.out 0
      by_cases hz : save = 0
      · have hz1 : (save != 0) = false := by simp [hz]
        have hz2 : (save == 0) = true := by simp [hz]
        have HOT := Lib.hid (othS_no HOT.out HRJ.out hz)
        clear hz
        go_wp2_with fail
        clear e0 e1 e2 e3 e4 e5 e6 e7 e8 e9 e10 x0 u0
        go_round
        case rel => exact ⟨j + 1, xv, _, by omega, by go_num, rfl, HB, H2, KX, HOT⟩
        case measure => simp [intOf] <;> omega
      · have hz1 : (save != 0) = true := by simp [hz]
        have hz2 : (save == 0) = false := by simp [hz]
        have HOT := Lib.hid (show OthS sv (-save) rs (j + 1) from .inr (by have := HSS.out; omega))
        have hw0 : IntKind.i64.wrap (-save) = -save := IntWalk.i64_in _ (by omega)
        clear hz
        go_wp2_with fail
        clear e0 e1 e2 e3 e4 e5 e6 e7 e8 e9 e10 x0 u0
        go_round
        case rel => exact ⟨j + 1, -save, _, by omega, by go_num, rfl, Lib.hid (HB.out.setCell (p := ⟨w2.heap.size, 0, none⟩) HLT.out _), Lib.hid (H2.out.setCell (p := ⟨w2.heap.size, 0, none⟩) (Nat.le_refl _) _), Lib.hid (setcs KX.out rfl), HOT⟩
        case measure => simp [intOf] <;> omega
    · obtain rfl : j = nl := by omega
      clear hlt
      obtain ⟨x, hx⟩ : ∃ x, x = -sv := ⟨_, rfl⟩
      have HXV := Lib.hid (show xv = x by rw [hx]; exact othS_all HMP.out (by rw [← HN.out]; exact HOT.out))
      have hxv := HXV.out
      subst hxv
      have hxb : -7200 ≤ xv ∧ xv ≤ 7200 := by have := HSV.out; omega
      obtain ⟨xb1, xb2⟩ := hxb
      have HTW := Lib.hid (made_two_s HMP.out)
      have HSH := Lib.hid (show ShOk xv rs by have := two_shOk HTW.out; rw [← hx] at this; exact this)
      have HC1 := Lib.hid (made_calm HMP.out)
      have HC2 := Lib.hid (show CalmR (shL xv rs) by have := two_sh_calm HTW.out HC1.out; rw [← hx] at this; exact this)
      have HS1 := Lib.hid (made_some1 HMP.out)
      have HWD := Lib.hid (made_wide HMP.out)
      clear HOT HXV hx
      go_wp2_with fail
      refine (cloneRuO_any _ rs _ (by exact HR.out)).mono ?_
      rintro e w3 ⟨v2, rfl, hown2, hb⟩
      obtain ⟨g2, cp2, rfl⟩ := own_nonempty hown2 HLn.out
      rw [← HN.out] at hown2 ⊢
      have HG2 := Lib.hid (show wr.heap.size ≤ g2 from (ownC hown2 (j := 0) (by have := HLn.out; have := HN.out; omega)).2.2.1)
      have HO := Lib.hid (show w3.ownsRow wr.heap.size 37 11 (.slice (some ⟨g2, 0, none⟩) j cp2) j (flatRu (mixR (shR xv) 0 rs)) by rw [mixR_zero]; exact hown2)
      have hXl : w2.heap.size < wr.heap.size := (Array.getElem?_eq_some_iff.1 KX.out).1
      have HXL := Lib.hid (show W.heap.size ≤ g2 ∧ w2.heap.size ≠ g2 by have := HG2.out; have := HLT.out; omega)
      have HRg := Lib.hid (rulB_of HR.out HLn.out)
      have HB := Lib.hid (bel_trans HB.out hb)
      have HR := Lib.hid (HR.out.below hb)
      have KX := Lib.hid (block_below KX.out hb)
      clear hb hown2 hXl H2
      go_wp2_with fail
      obtain ⟨wz, hwz⟩ : ∃ wz : World, wz = wr := ⟨_, rfl⟩
      rw [← hwz] at HO HG2 HRg
      clear hwz
      go_loopw [46] (fun i wr => ∃ (k : Nat) (wq : World), k ≤ j ∧ i = .int .i64 (k : Int) ∧ wr = wq ∧ Hid (Below W.heap.size W wq) ∧ Hid (wq.ownsRow wz.heap.size 37 11 (.slice (some ⟨g2, 0, none⟩) j cp2) j (flatRu (mixR (shR xv) k rs))) ∧ Hid (Rul (.slice Al j cl) rs wq) ∧ Hid (wq.heap[w2.heap.size]? = some (.cells #[.int .i64 xv] 2))) (fun i _ => j - (intOf i).toNat)
      case atStart => exact ⟨0, _, by omega, rfl, rfl, HB, HO, HR, KX⟩
      case round =>
        clear HB HO HR KX
        obtain ⟨k, wq, hk, rfl, rfl, HB, HO, HR, KX⟩ := hrel
        by_cases hlt : k < j
        · obtain ⟨r, hr⟩ : ∃ r, rs[k]? = some r := by rw [_root_.List.getElem?_eq_getElem (by rw [← HN.out]; exact hlt)]; exact ⟨_, rfl⟩
          have hrm := _root_.List.mem_of_getElem? hr
          have hrb := HC1.out.save r hrm
          have hrs := HTW.out.sec r hrm
          have hl := mixR_get (f := shR xv) hr
          have hs := mixR_succ (f := shR xv) hr
          obtain ⟨na, fr, ut, mo, kk, ww, dd, sec, base, save, le⟩ := r
          dsimp only at hrb hrs
          obtain ⟨hs1, hs2⟩ := hrb
          obtain ⟨hs3, hs4⟩ := hrs
          have e7 : wr.cell? ⟨g2, k * 11 + 7, none⟩ = some (.int .i64 sec) := ownR HO.out hl 7 (by decide) hlt
          have e8 : wr.cell? ⟨g2, k * 11 + 8, none⟩ = some (.int .i64 base) := ownR HO.out hl 8 (by decide) hlt
          have e9 : wr.cell? ⟨g2, k * 11 + 9, none⟩ = some (.int .i64 save) := ownR HO.out hl 9 (by decide) hlt
          have f9 : wr.frozen? ⟨g2, k * 11 + 9, none⟩ = false := (ownC HO.out (j := k * 11 + 9) (by omega)).2.1
          have f7 : wr.frozen? ⟨g2, k * 11 + 7, none⟩ = false := (ownC HO.out (j := k * 11 + 7) (by omega)).2.1
          have HS0 := Lib.hid (flat_setAt 9 (by decide) (.int .i64 (save + xv)) ⟨na, fr, ut, mo, kk, ww, dd, sec, base, save, le⟩ ⟨na, fr, ut, mo, kk, ww, dd, sec, base, save + xv, le⟩ rfl _ _ hl)
          have hw1 : IntKind.i64.wrap (save + xv) = save + xv := IntWalk.i64_in _ (by omega)
          have hw2 : IntKind.i64.wrap (sec - xv) = sec - xv := IntWalk.i64_in _ (by omega)
          have hk0 : (0 : Int) ≤ (k : Int) := by omega
          have hk1 : (k : Int) < (j : Int) := by omega
          have x0 := cellB KX.out (i := 0) rfl
          clear hrm hr
          by_cases hb1 : base = 1
          · have HS := Lib.hid (show flatRu (mixR (shR xv) (k + 1) rs) = ((flatRu (mixR (shR xv) k rs)).set (k * 11 + 9) (.int .i64 (save + xv))).set (k * 11 + 7) (.int .i64 (sec - xv)) by
              rw [hs, ← HS0.out, ← flat_setAt 7 (by decide) (.int .i64 (sec - xv)) ⟨na, fr, ut, mo, kk, ww, dd, sec, base, save + xv, le⟩ ⟨na, fr, ut, mo, kk, ww, dd, sec - xv, base, save + xv, le⟩ rfl _ _ (get_set_same hl), set_set_same]
              unfold shR
              dsimp only
              rw [if_pos hb1])
            clear hs hl HS0
            subst hb1
            go_wp2_with fail
            go_region
            have HB := Lib.hid (Below.drew (HB.out.setCell (p := ⟨g2, k * 11 + 9, none⟩) HXL.out.1 (.int .i64 (save + xv))))
            have HO := Lib.hid (own_below17 (own_set (j := k * 11 + 9) (x := .int .i64 (save + xv)) HO.out) (Below.drew (Below.refl _ _)))
            have HR := Lib.hid ((rul_set (o := k * 11 + 9) (x := .int .i64 (save + xv)) HR.out HG2.out HRg.out).below (Below.drew (Below.refl _ _)))
            have KX := Lib.hid (block_below (block_set (j := k * 11 + 9) (x := .int .i64 (save + xv)) KX.out HXL.out.2) (Below.drew (Below.refl _ _)))
            have e7' : (wr.setCell ⟨g2, k * 11 + 9, none⟩ (.int .i64 (save + xv))).drew.cell? ⟨g2, k * 11 + 7, none⟩ = some (.int .i64 sec) := by go_simp
            have e8' : (wr.setCell ⟨g2, k * 11 + 9, none⟩ (.int .i64 (save + xv))).drew.cell? ⟨g2, k * 11 + 8, none⟩ = some (.int .i64 1) := by go_simp
            have f7' : (wr.setCell ⟨g2, k * 11 + 9, none⟩ (.int .i64 (save + xv))).drew.frozen? ⟨g2, k * 11 + 7, none⟩ = false := by go_simp
            clear e7 e8 e9 f9 f7 x0
            generalize (wr.setCell ⟨g2, k * 11 + 9, none⟩ (.int .i64 (save + xv))).drew = wy at HB HO HR KX e7' e8' f7' ⊢
            have x0 := cellB KX.out (i := 0) rfl
            go_wp2_with fail
            go_region
            go_wp2_with fail
            clear e7' e8' f7' x0
            go_round
            case rel => exact ⟨k + 1, _, by omega, by go_num, rfl, Lib.hid (Below.drew (HB.out.setCell (p := ⟨g2, k * 11 + 7, none⟩) HXL.out.1 _)), Lib.hid (by rw [HS.out]; exact own_below17 (own_set HO.out) (Below.drew (Below.refl _ _))), Lib.hid ((rul_set HR.out HG2.out HRg.out).below (Below.drew (Below.refl _ _))), Lib.hid (block_below (block_set KX.out HXL.out.2) (Below.drew (Below.refl _ _)))⟩
            case measure => simp [intOf] <;> omega
          · have hb2 : (base == 1) = false := by simp [hb1]
            have HS := Lib.hid (show flatRu (mixR (shR xv) (k + 1) rs) = (flatRu (mixR (shR xv) k rs)).set (k * 11 + 9) (.int .i64 (save + xv)) by
              rw [hs, ← HS0.out]
              unfold shR
              dsimp only
              rw [if_neg hb1])
            clear hs hl HS0
            go_wp2_with fail
            go_region
            go_wp2_with fail
            clear e7 e8 e9 f9 f7 x0
            go_round
            case rel => exact ⟨k + 1, _, by omega, by go_num, rfl, Lib.hid (Below.drew (HB.out.setCell (p := ⟨g2, k * 11 + 9, none⟩) HXL.out.1 _)), Lib.hid (by rw [HS.out]; exact own_below17 (own_set HO.out) (Below.drew (Below.refl _ _))), Lib.hid ((rul_set HR.out HG2.out HRg.out).below (Below.drew (Below.refl _ _))), Lib.hid (block_below (block_set KX.out HXL.out.2) (Below.drew (Below.refl _ _)))⟩
            case measure => simp [intOf] <;> omega
        · obtain rfl : k = j := by omega
          clear hlt
          have HR2 := Lib.hid (show Rul (.slice (some ⟨g2, 0, none⟩) k cp2) (shL xv rs) wr from rul_of_own (by have := HO.out; rw [shL_len, ← HN.out]; unfold shL; rw [← mixR_all, ← HN.out]; exact this) (by rw [shL_len]; have := HLm.out; omega) HC2.out.fits)
          clear HO HG2 HTW HXL HRg
          obtain ⟨s0, hs0⟩ : ∃ s, s = initS rs := ⟨_, rfl⟩
          have hsb := befS_bd (made_savOk HMP.out) none
          have hsb : -1000000000 ≤ s0.save ∧ s0.save ≤ 1000000000 := by rw [hs0]; exact hsb
          obtain ⟨is, il⟩ := s0
          dsimp only at hsb
          obtain ⟨is1, is2⟩ := hsb
          have HI0 := Lib.hid hs0
          have HI2 := Lib.hid (show initS (shL xv rs) = ⟨is + xv, il⟩ by rw [sh_initS HSH.out HS1.out, ← hs0]; rfl)
          clear hs0
          have hwp : IntKind.i64.wrap (p - xv) = p - xv := IntWalk.i64_in _ (by omega)
          go_wp2_with fail
          have hbd : Below wr.heap.size wr wr.drew := Below.drew (Below.refl _ _)
          have HB := Lib.hid (bel_trans HB.out hbd)
          have HR := Lib.hid (HR.out.below hbd)
          have HR2 := Lib.hid (HR2.out.below hbd)
          have KX := Lib.hid (block_below KX.out hbd)
          clear hbd
          go_wp2_with fail
          refine wp_region_held_drew (S := (fun w' => w'.cell? ⟨w2.heap.size, 0, none⟩ = some (.int .i64 xv))) (by kernel_rfl) (by exact cellB (block_below KX.out (Below.refl _ _)) (i := 0) rfl) (fun hHeld => ?_)
          refine wpAnyH_take (i := 0) (v := ?_) rfl (by kernel_rfl) (by kernel_rfl) (by kernel_rfl) (fun _ _ _ h => h) (Or.inl ⟨by rfl, ?_⟩) (by assumption) ?_
          rotate_left 1
          · (intro w hSw; (try dsimp only at hSw); first | (go_simp; done) | (go_simp; with_reducible rfl))
          try simp only [Act.put, List.getElem_toArray, List.getElem_cons_succ, List.getElem_cons_zero, List.setIfInBounds_toArray, List.set_cons_zero, List.set_cons_succ]
          refine wpAnyH_take (i := 1) (v := ?_) rfl (by kernel_rfl) (by kernel_rfl) (by kernel_rfl) (fun _ _ _ h => h) (Or.inl ⟨by rfl, ?_⟩) (by assumption) ?_
          rotate_left 1
          · (intro w hSw; (try dsimp only at hSw); first | (go_simp; done) | (go_simp; with_reducible rfl))
          try simp only [Act.put, List.getElem_toArray, List.getElem_cons_succ, List.getElem_cons_zero, List.setIfInBounds_toArray, List.set_cons_zero, List.set_cons_succ]
          refine wpAnyH_take (i := 3) (v := ?_) rfl (by kernel_rfl) (by kernel_rfl) (by kernel_rfl) (fun _ _ _ h => h) (Or.inl ⟨by rfl, ?_⟩) (by assumption) ?_
          rotate_left 1
          · (intro w hSw; (try dsimp only at hSw); first | (go_simp; done) | (go_simp; with_reducible rfl))
          try simp only [Act.put, List.getElem_toArray, List.getElem_cons_succ, List.getElem_cons_zero, List.setIfInBounds_toArray, List.set_cons_zero, List.set_cons_succ]
          refine wpAnyH_ready (rs := [2]) (by kernel_rfl) (by simp) ?_
          refine AllReadyH.cons rfl (fun K hK => ?_) AllReadyH.nil
          go_simp
          refine (initial_any _ rs _ (by exact HT.out.below HB.out) (by exact HR.out) (made_tame HMP.out)).mono ?_
          intro e w40 hq; obtain ⟨rfl, hb40⟩ := StaR.to (v := .agg #[.int .i64 is, .string il]) (by rw [← HI0.out]; rfl) _ _ hq; clear hq
          go_wp2_with fail
          refine hK.out _ _ ?_ (fun hHeld => ?_)
          · exact cellB (block_below KX.out hb40) (i := 0) rfl
          clear hK K
          try simp only [Act.put, List.getElem_toArray, List.getElem_cons_succ, List.getElem_cons_zero, List.setIfInBounds_toArray, List.set_cons_zero, List.set_cons_succ]
          have HB := Lib.hid (bel_trans HB.out hb40)
          have HR := Lib.hid (HR.out.below hb40)
          have HR2 := Lib.hid (HR2.out.below hb40)
          have KX := Lib.hid (block_below KX.out hb40)
          refine wpAnyH_ready (rs := [4]) (by kernel_rfl) (by simp) ?_
          refine AllReadyH.cons rfl (fun K hK => ?_) AllReadyH.nil
          go_simp
          refine (initial_any _ (shL xv rs) _ (by exact HT.out.below HB.out) (by exact HR2.out) HC2.out.tame).mono ?_
          intro e w41 hq; obtain ⟨rfl, hb41⟩ := StaR.to (v := .agg #[.int .i64 (is + xv), .string il]) (by rw [HI2.out]; rfl) _ _ hq; clear hq
          go_wp2_with fail
          refine hK.out _ _ ?_ (fun hHeld => ?_)
          · exact cellB (block_below KX.out hb41) (i := 0) rfl
          clear hK K
          try simp only [Act.put, List.getElem_toArray, List.getElem_cons_succ, List.getElem_cons_zero, List.setIfInBounds_toArray, List.set_cons_zero, List.set_cons_succ]
          have HB := Lib.hid (bel_trans HB.out hb41)
          have HR := Lib.hid (HR.out.below hb41)
          have HR2 := Lib.hid (HR2.out.below hb41)
          have KX := Lib.hid (block_below KX.out hb41)
          refine wpAnyH_ready (rs := [5]) (by kernel_rfl) (by simp) ?_
          refine AllReadyH.cons rfl (fun K hK => ?_) AllReadyH.nil
          go_simp
          refine (same_any is xv il w2.heap.size _ KX.out (by omega) (by omega) (by omega) (by omega)).mono ?_
          rintro e w42 ⟨rfl, hb42⟩
          go_wp2_with fail
          refine hK.out _ _ ?_ (fun hHeld => ?_)
          · exact cellB (block_below KX.out hb42) (i := 0) rfl
          clear hK K
          try simp only [Act.put, List.getElem_toArray, List.getElem_cons_succ, List.getElem_cons_zero, List.setIfInBounds_toArray, List.set_cons_zero, List.set_cons_succ]
          have HB := Lib.hid (bel_trans HB.out hb42)
          have HR := Lib.hid (HR.out.below hb42)
          have HR2 := Lib.hid (HR2.out.below hb42)
          have KX := Lib.hid (block_below KX.out hb42)
          refine wpAnyH_take (i := 6) (v := ?_) rfl (by kernel_rfl) (by kernel_rfl) (by kernel_rfl) (fun _ _ _ h => h) (Or.inl ⟨by rfl, ?_⟩) (by assumption) ?_
          rotate_left 1
          · (intro w hSw; (try dsimp only at hSw); first | (go_simp; done) | (go_simp; with_reducible rfl))
          try simp only [Act.put, List.getElem_toArray, List.getElem_cons_succ, List.getElem_cons_zero, List.setIfInBounds_toArray, List.set_cons_zero, List.set_cons_succ]
          refine wpAnyH_take (i := 7) (v := ?_) rfl (by kernel_rfl) (by kernel_rfl) (by kernel_rfl) (fun _ _ _ h => h) (Or.inl ⟨by rfl, ?_⟩) (by assumption) ?_
          rotate_left 1
          · (intro w hSw; (try dsimp only at hSw); first | (go_simp; done) | (go_simp; with_reducible rfl))
          try simp only [Act.put, List.getElem_toArray, List.getElem_cons_succ, List.getElem_cons_zero, List.setIfInBounds_toArray, List.set_cons_zero, List.set_cons_succ]
          refine wpAnyH_take (i := 8) (v := ?_) rfl (by kernel_rfl) (by kernel_rfl) (by kernel_rfl) (fun _ _ _ h => h) (Or.inl ⟨by rfl, ?_⟩) (by assumption) ?_
          rotate_left 1
          · (intro w hSw; (try dsimp only at hSw); first | (go_simp; done) | (go_simp; with_reducible rfl))
          try simp only [Act.put, List.getElem_toArray, List.getElem_cons_succ, List.getElem_cons_zero, List.setIfInBounds_toArray, List.set_cons_zero, List.set_cons_succ]
          refine wpAnyH_take (i := 9) (v := ?_) rfl (by kernel_rfl) (by kernel_rfl) (by kernel_rfl) (fun _ _ _ h => h) (Or.inl ⟨by rfl, ?_⟩) (by assumption) ?_
          rotate_left 1
          · (intro w hSw; (try dsimp only at hSw); first | (go_simp; done) | (go_simp; with_reducible rfl))
          try simp only [Act.put, List.getElem_toArray, List.getElem_cons_succ, List.getElem_cons_zero, List.setIfInBounds_toArray, List.set_cons_zero, List.set_cons_succ]
          refine wpAnyH_take (i := 10) (v := ?_) rfl (by kernel_rfl) (by kernel_rfl) (by kernel_rfl) (fun _ _ _ h => h) (Or.inl ⟨by rfl, ?_⟩) (by assumption) ?_
          rotate_left 1
          · (intro w hSw; (try dsimp only at hSw); first | (go_simp; done) | (go_simp; with_reducible rfl))
          try simp only [Act.put, List.getElem_toArray, List.getElem_cons_succ, List.getElem_cons_zero, List.setIfInBounds_toArray, List.set_cons_zero, List.set_cons_succ]
          refine wpAnyH_take (i := 11) (v := ?_) rfl (by kernel_rfl) (by kernel_rfl) (by kernel_rfl) (fun _ _ _ h => h) (Or.inl ⟨by rfl, ?_⟩) (by assumption) ?_
          rotate_left 1
          · (intro w hSw; (try dsimp only at hSw); first | (go_simp; done) | (go_simp; with_reducible rfl))
          try simp only [Act.put, List.getElem_toArray, List.getElem_cons_succ, List.getElem_cons_zero, List.setIfInBounds_toArray, List.set_cons_zero, List.set_cons_succ]
          refine wpAnyH_take (i := 13) (v := ?_) rfl (by kernel_rfl) (by kernel_rfl) (by kernel_rfl) (fun _ _ _ h => h) (Or.inl ⟨by rfl, ?_⟩) (by assumption) ?_
          rotate_left 1
          · (intro w hSw; (try dsimp only at hSw); first | (go_simp; done) | (go_simp; with_reducible rfl))
          try simp only [Act.put, List.getElem_toArray, List.getElem_cons_succ, List.getElem_cons_zero, List.setIfInBounds_toArray, List.set_cons_zero, List.set_cons_succ]
          refine wpAnyH_take (i := 14) (v := ?_) rfl (by kernel_rfl) (by kernel_rfl) (by kernel_rfl) (fun _ _ _ h => h) (Or.inl ⟨by rfl, ?_⟩) (by assumption) ?_
          rotate_left 1
          · (intro w hSw; (try dsimp only at hSw); first | (go_simp; done) | (go_simp; with_reducible rfl))
          try simp only [Act.put, List.getElem_toArray, List.getElem_cons_succ, List.getElem_cons_zero, List.setIfInBounds_toArray, List.set_cons_zero, List.set_cons_succ]
          refine wpAnyH_take (i := 15) (v := ?_) rfl (by kernel_rfl) (by kernel_rfl) (by kernel_rfl) (fun _ _ _ h => h) (Or.inl ⟨by rfl, ?_⟩) (by assumption) ?_
          rotate_left 1
          · (intro w hSw; (try dsimp only at hSw); first | (go_simp; done) | (go_simp; with_reducible rfl))
          try simp only [Act.put, List.getElem_toArray, List.getElem_cons_succ, List.getElem_cons_zero, List.setIfInBounds_toArray, List.set_cons_zero, List.set_cons_succ]
          refine wpAnyH_take (i := 16) (v := ?_) rfl (by kernel_rfl) (by kernel_rfl) (by kernel_rfl) (fun _ _ _ h => h) (Or.inl ⟨by rfl, ?_⟩) (by assumption) ?_
          rotate_left 1
          · (intro w hSw; (try dsimp only at hSw); first | (go_simp; done) | (go_simp; with_reducible rfl))
          try simp only [Act.put, List.getElem_toArray, List.getElem_cons_succ, List.getElem_cons_zero, List.setIfInBounds_toArray, List.set_cons_zero, List.set_cons_succ]
          refine wpAnyH_take (i := 17) (v := ?_) rfl (by kernel_rfl) (by kernel_rfl) (by kernel_rfl) (fun _ _ _ h => h) (Or.inl ⟨by rfl, ?_⟩) (by assumption) ?_
          rotate_left 1
          · (intro w hSw; (try dsimp only at hSw); first | (go_simp; done) | (go_simp; with_reducible rfl))
          try simp only [Act.put, List.getElem_toArray, List.getElem_cons_succ, List.getElem_cons_zero, List.setIfInBounds_toArray, List.set_cons_zero, List.set_cons_succ]
          refine wpAnyH_ready (rs := [12]) (by kernel_rfl) (by simp) ?_
          refine AllReadyH.cons rfl (fun K hK => ?_) AllReadyH.nil
          go_simp
          refine (stAt_any _ rs p (-2366755200 + q) _ (by exact HT.out.below HB.out) (by exact HR.out) (made_tame HMP.out) (made_savOk HMP.out) (by omega) (by omega) (by omega) (by omega)).mono ?_
          intro e w43 hq; obtain ⟨s1, HA1, he, hb43⟩ := hq; have hb1 := at_bd (made_savOk HMP.out) HA1.out; obtain ⟨ts, al⟩ := s1; obtain rfl : e = .returned (.agg #[.int .i64 ts, .string al]) := he; dsimp only at hb1; obtain ⟨ts1, ts2⟩ := hb1; have HA2 := Lib.hid (sh_at (x := xv) HSH.out HS1.out 3 _ _ HA1.out)
          go_wp2_with fail
          refine hK.out _ _ ?_ (fun hHeld => ?_)
          · exact cellB (block_below KX.out hb43) (i := 0) rfl
          clear hK K
          try simp only [Act.put, List.getElem_toArray, List.getElem_cons_succ, List.getElem_cons_zero, List.setIfInBounds_toArray, List.set_cons_zero, List.set_cons_succ]
          have HB := Lib.hid (bel_trans HB.out hb43)
          have HR := Lib.hid (HR.out.below hb43)
          have HR2 := Lib.hid (HR2.out.below hb43)
          have KX := Lib.hid (block_below KX.out hb43)
          refine wpAnyH_ready (rs := [18]) (by kernel_rfl) (by simp) ?_
          refine AllReadyH.cons rfl (fun K hK => ?_) AllReadyH.nil
          go_simp
          refine (stAt_any _ (shL xv rs) (p - xv) (-2366755200 + q) _ (by exact HT.out.below HB.out) (by exact HR2.out) HC2.out.tame (calm_savOk HC2.out) (by omega) (by omega) (by omega) (by omega)).mono ?_
          intro e w44 hq; obtain ⟨rfl, hb44⟩ := AtR.to (v := .agg #[.int .i64 (ts + xv), .string al]) HA2.out rfl _ _ hq; clear hq
          go_wp2_with fail
          refine hK.out _ _ ?_ (fun hHeld => ?_)
          · exact cellB (block_below KX.out hb44) (i := 0) rfl
          clear hK K
          try simp only [Act.put, List.getElem_toArray, List.getElem_cons_succ, List.getElem_cons_zero, List.setIfInBounds_toArray, List.set_cons_zero, List.set_cons_succ]
          have HB := Lib.hid (bel_trans HB.out hb44)
          have HR := Lib.hid (HR.out.below hb44)
          have HR2 := Lib.hid (HR2.out.below hb44)
          have KX := Lib.hid (block_below KX.out hb44)
          refine wpAnyH_ready (rs := [19]) (by kernel_rfl) (by simp) ?_
          refine AllReadyH.cons rfl (fun K hK => ?_) AllReadyH.nil
          go_simp
          refine (same_any ts xv al w2.heap.size _ KX.out (by omega) (by omega) (by omega) (by omega)).mono ?_
          rintro e w45 ⟨rfl, hb45⟩
          go_wp2_with fail
          refine hK.out _ _ ?_ (fun hHeld => ?_)
          · exact cellB (block_below KX.out hb45) (i := 0) rfl
          clear hK K
          try simp only [Act.put, List.getElem_toArray, List.getElem_cons_succ, List.getElem_cons_zero, List.setIfInBounds_toArray, List.set_cons_zero, List.set_cons_succ]
          have HB := Lib.hid (bel_trans HB.out hb45)
          have HR := Lib.hid (HR.out.below hb45)
          have HR2 := Lib.hid (HR2.out.below hb45)
          have KX := Lib.hid (block_below KX.out hb45)
          refine wpAnyH_take (i := 20) (v := ?_) rfl (by kernel_rfl) (by kernel_rfl) (by kernel_rfl) (fun _ _ _ h => h) (Or.inl ⟨by rfl, ?_⟩) (by assumption) ?_
          rotate_left 1
          · (intro w hSw; (try dsimp only at hSw); first | (go_simp; done) | (go_simp; with_reducible rfl))
          try simp only [Act.put, List.getElem_toArray, List.getElem_cons_succ, List.getElem_cons_zero, List.setIfInBounds_toArray, List.set_cons_zero, List.set_cons_succ]
          refine wpAnyH_take (i := 21) (v := ?_) rfl (by kernel_rfl) (by kernel_rfl) (by kernel_rfl) (fun _ _ _ h => h) (Or.inl ⟨by rfl, ?_⟩) (by assumption) ?_
          rotate_left 1
          · (intro w hSw; (try dsimp only at hSw); first | (go_simp; done) | (go_simp; with_reducible rfl))
          try simp only [Act.put, List.getElem_toArray, List.getElem_cons_succ, List.getElem_cons_zero, List.setIfInBounds_toArray, List.set_cons_zero, List.set_cons_succ]
          refine wpAnyH_take (i := 22) (v := ?_) rfl (by kernel_rfl) (by kernel_rfl) (by kernel_rfl) (fun _ _ _ h => h) (Or.inl ⟨by rfl, ?_⟩) (by assumption) ?_
          rotate_left 1
          · (intro w hSw; (try dsimp only at hSw); first | (go_simp; done) | (go_simp; with_reducible rfl))
          try simp only [Act.put, List.getElem_toArray, List.getElem_cons_succ, List.getElem_cons_zero, List.setIfInBounds_toArray, List.set_cons_zero, List.set_cons_succ]
          refine wpAnyH_take (i := 23) (v := ?_) rfl (by kernel_rfl) (by kernel_rfl) (by kernel_rfl) (fun _ _ _ h => h) (Or.inl ⟨by rfl, ?_⟩) (by assumption) ?_
          rotate_left 1
          · (intro w hSw; (try dsimp only at hSw); first | (go_simp; done) | (go_simp; with_reducible rfl))
          try simp only [Act.put, List.getElem_toArray, List.getElem_cons_succ, List.getElem_cons_zero, List.setIfInBounds_toArray, List.set_cons_zero, List.set_cons_succ]
          refine wpAnyH_take (i := 24) (v := ?_) rfl (by kernel_rfl) (by kernel_rfl) (by kernel_rfl) (fun _ _ _ h => h) (Or.inl ⟨by rfl, ?_⟩) (by assumption) ?_
          rotate_left 1
          · (intro w hSw; (try dsimp only at hSw); first | (go_simp; done) | (go_simp; with_reducible rfl))
          try simp only [Act.put, List.getElem_toArray, List.getElem_cons_succ, List.getElem_cons_zero, List.setIfInBounds_toArray, List.set_cons_zero, List.set_cons_succ]
          refine wpAnyH_take (i := 25) (v := ?_) rfl (by kernel_rfl) (by kernel_rfl) (by kernel_rfl) (fun _ _ _ h => h) (Or.inl ⟨by rfl, ?_⟩) (by assumption) ?_
          rotate_left 1
          · (intro w hSw; (try dsimp only at hSw); first | (go_simp; done) | (go_simp; with_reducible rfl))
          try simp only [Act.put, List.getElem_toArray, List.getElem_cons_succ, List.getElem_cons_zero, List.setIfInBounds_toArray, List.set_cons_zero, List.set_cons_succ]
          refine wpAnyH_take (i := 27) (v := ?_) rfl (by kernel_rfl) (by kernel_rfl) (by kernel_rfl) (fun _ _ _ h => h) (Or.inl ⟨by rfl, ?_⟩) (by assumption) ?_
          rotate_left 1
          · (intro w hSw; (try dsimp only at hSw); first | (go_simp; done) | (go_simp; with_reducible rfl))
          try simp only [Act.put, List.getElem_toArray, List.getElem_cons_succ, List.getElem_cons_zero, List.setIfInBounds_toArray, List.set_cons_zero, List.set_cons_succ]
          refine wpAnyH_take (i := 28) (v := ?_) rfl (by kernel_rfl) (by kernel_rfl) (by kernel_rfl) (fun _ _ _ h => h) (Or.inl ⟨by rfl, ?_⟩) (by assumption) ?_
          rotate_left 1
          · (intro w hSw; (try dsimp only at hSw); first | (go_simp; done) | (go_simp; with_reducible rfl))
          try simp only [Act.put, List.getElem_toArray, List.getElem_cons_succ, List.getElem_cons_zero, List.setIfInBounds_toArray, List.set_cons_zero, List.set_cons_succ]
          refine wpAnyH_ready (rs := [26]) (by kernel_rfl) (by simp) ?_
          refine AllReadyH.cons rfl (fun K hK => ?_) AllReadyH.nil
          go_simp
          refine (stBefore_any _ rs (-2366755200 + q) _ (by exact HT.out.below HB.out) (by exact HR.out) (made_tame HMP.out) (by omega) (by omega)).mono ?_
          intro e w46 hq; obtain ⟨ob, HO1, he, hb46⟩ := hq; have hb1 := befS_bd (made_savOk HMP.out) ob; have HO2 := Lib.hid (sh_bef (x := xv) HSH.out HO1.out); have HO3 := Lib.hid (sh_befS (x := xv) HSH.out HS1.out HO1.out); obtain ⟨s2, hs2⟩ : ∃ s, s = befS rs ob := ⟨_, rfl⟩; rw [← hs2] at hb1 he HO3; clear hs2; obtain ⟨cs, cl2⟩ := s2; obtain rfl : e = .returned (.agg #[.int .i64 cs, .string cl2]) := he; dsimp only at hb1; obtain ⟨cs1, cs2⟩ := hb1
          go_wp2_with fail
          refine hK.out _ _ ?_ (fun hHeld => ?_)
          · exact cellB (block_below KX.out hb46) (i := 0) rfl
          clear hK K
          try simp only [Act.put, List.getElem_toArray, List.getElem_cons_succ, List.getElem_cons_zero, List.setIfInBounds_toArray, List.set_cons_zero, List.set_cons_succ]
          have HB := Lib.hid (bel_trans HB.out hb46)
          have HR := Lib.hid (HR.out.below hb46)
          have HR2 := Lib.hid (HR2.out.below hb46)
          have KX := Lib.hid (block_below KX.out hb46)
          refine wpAnyH_ready (rs := [29]) (by kernel_rfl) (by simp) ?_
          refine AllReadyH.cons rfl (fun K hK => ?_) AllReadyH.nil
          go_simp
          refine (stBefore_any _ (shL xv rs) (-2366755200 + q) _ (by exact HT.out.below HB.out) (by exact HR2.out) HC2.out.tame (by omega) (by omega)).mono ?_
          intro e w47 hq; obtain ⟨rfl, hb47⟩ := BefR.to (v := .agg #[.int .i64 (cs + xv), .string cl2]) HO2.out (by rw [HO3.out]; rfl) _ _ hq; clear hq
          go_wp2_with fail
          refine hK.out _ _ ?_ (fun hHeld => ?_)
          · exact cellB (block_below KX.out hb47) (i := 0) rfl
          clear hK K
          try simp only [Act.put, List.getElem_toArray, List.getElem_cons_succ, List.getElem_cons_zero, List.setIfInBounds_toArray, List.set_cons_zero, List.set_cons_succ]
          have HB := Lib.hid (bel_trans HB.out hb47)
          have HR := Lib.hid (HR.out.below hb47)
          have HR2 := Lib.hid (HR2.out.below hb47)
          have KX := Lib.hid (block_below KX.out hb47)
          refine wpAnyH_ready (rs := [30]) (by kernel_rfl) (by simp) ?_
          refine AllReadyH.cons rfl (fun K hK => ?_) AllReadyH.nil
          go_simp
          refine (same_any cs xv cl2 w2.heap.size _ KX.out (by omega) (by omega) (by omega) (by omega)).mono ?_
          rintro e w48 ⟨rfl, hb48⟩
          go_wp2_with fail
          refine hK.out _ _ ?_ (fun hHeld => ?_)
          · exact cellB (block_below KX.out hb48) (i := 0) rfl
          clear hK K
          try simp only [Act.put, List.getElem_toArray, List.getElem_cons_succ, List.getElem_cons_zero, List.setIfInBounds_toArray, List.set_cons_zero, List.set_cons_succ]
          have HB := Lib.hid (bel_trans HB.out hb48)
          have HR := Lib.hid (HR.out.below hb48)
          have HR2 := Lib.hid (HR2.out.below hb48)
          have KX := Lib.hid (block_below KX.out hb48)
          refine wpAnyH_take (i := 31) (v := ?_) rfl (by kernel_rfl) (by kernel_rfl) (by kernel_rfl) (fun _ _ _ h => h) (Or.inl ⟨by rfl, ?_⟩) (by assumption) ?_
          rotate_left 1
          · (intro w hSw; (try dsimp only at hSw); first | (go_simp; done) | (go_simp; with_reducible rfl))
          try simp only [Act.put, List.getElem_toArray, List.getElem_cons_succ, List.getElem_cons_zero, List.setIfInBounds_toArray, List.set_cons_zero, List.set_cons_succ]
          refine wpAnyH_take (i := 32) (v := ?_) rfl (by kernel_rfl) (by kernel_rfl) (by kernel_rfl) (fun _ _ _ h => h) (Or.inl ⟨by rfl, ?_⟩) (by assumption) ?_
          rotate_left 1
          · (intro w hSw; (try dsimp only at hSw); first | (go_simp; done) | (go_simp; with_reducible rfl))
          try simp only [Act.put, List.getElem_toArray, List.getElem_cons_succ, List.getElem_cons_zero, List.setIfInBounds_toArray, List.set_cons_zero, List.set_cons_succ]
          refine wpAnyH_done (by kernel_rfl) ?_ _
          go_wp2_with fail
          refine (evIn_any _ rs 1899 1990 _ (by exact HT.out.below HB.out) (by exact HR.out) (by omega) (by omega) (by omega) (by omega)).mono ?_
          rintro e w5 ⟨hb, ⟨_, h2, _⟩ | ⟨_, V1, L1, hI1, rfl, hO1, hLL1⟩⟩
          · exfalso; omega
          have HA := Lib.hid (RdEv.own hO1.out)
          have HI := hI1
          have HB := Lib.hid (bel_trans HB.out hb)
          have HR := Lib.hid (HR.out.below hb)
          have HR2 := Lib.hid (HR2.out.below hb)
          have KX := Lib.hid (block_below KX.out hb)
          obtain ⟨Aa, ca, hVa⟩ := HA.out.sl
          subst hVa
          have HLL := Lib.hid hLL1
          clear hb hO1 hI1
          go_wp2_with fail
          refine (evIn_any _ (shL xv rs) 1899 1990 _ (by exact HT.out.below HB.out) (by exact HR2.out) (by omega) (by omega) (by omega) (by omega)).mono ?_
          rintro e w6 ⟨hb, ⟨_, h2, _⟩ | ⟨_, V2, L2, hI2, rfl, hO2, hLL2⟩⟩
          · exfalso; omega
          have HA := Lib.hid (HA.out.below hb)
          have HE := Lib.hid (RdEv.own hO2.out)
          have HB := Lib.hid (bel_trans HB.out hb)
          have HR := Lib.hid (HR.out.below hb)
          have HR2 := Lib.hid (HR2.out.below hb)
          have KX := Lib.hid (block_below KX.out hb)
          obtain rfl : L2 = L1 := hI2.out.uniq (sh_in HSH.out HI.out)
          obtain ⟨Ab, cb, hVb⟩ := HE.out.sl
          subst hVb
          clear hb hO2 hI2 hLL2
          obtain ⟨n, hn⟩ : ∃ n, n = L2.length := ⟨_, rfl⟩
          have HLN := Lib.hid hn
          rw [← hn] at HA HE hLL1 ⊢
          clear hn
          go_wp2_with fail
          refine (equalEv_any _ _ L2 _ (by exact HA.out) (by exact HE.out) (by rw [← HLN.out]; omega)).mono ?_
          rintro e w7 ⟨rfl, hb⟩
          have HA := Lib.hid (HA.out.below hb)
          have HE := Lib.hid (HE.out.below hb)
          have HB := Lib.hid (bel_trans HB.out hb)
          have HR := Lib.hid (HR.out.below hb)
          have HR2 := Lib.hid (HR2.out.below hb)
          have KX := Lib.hid (block_below KX.out hb)
          clear hb
          go_wp2_with fail
          go_loopw [135] (fun st wr => ∃ (j : Nat) (wq : World), j ≤ n ∧ st = .int .i64 (j : Int) ∧ wr = wq ∧ Hid (Below W.heap.size W wq) ∧ Hid (Rul (.slice Al k cl) rs wq) ∧ Hid (Rul (.slice (some ⟨g2, 0, none⟩) k cp2) (shL xv rs) wq) ∧ Hid (RdEv (.slice Aa n ca) L2 wq) ∧ Hid (RdEv (.slice Ab n cb) L2 wq) ∧ Hid (wq.heap[w2.heap.size]? = some (.cells #[.int .i64 xv] 2))) (fun st _ => n - (intOf st).toNat)
          case atStart => exact ⟨0, _, by omega, rfl, rfl, HB, HR, HR2, HA, HE, KX⟩
          case round =>
            clear HB HR HR2 HA HE KX
            obtain ⟨j, wq, hj, rfl, rfl, HB, HR, HR2, HA, HE, KX⟩ := hrel
            by_cases hlt : j < n
            · obtain ⟨e, he⟩ : ∃ e, L2[j]? = some e := ⟨_, _root_.List.getElem?_eq_getElem (by rw [← HLN.out]; exact hlt)⟩
              have hev := ((HI.out.2 e).1 (_root_.List.mem_of_getElem? he)).1
              obtain ⟨g, of_, rfl, a0, a1, a2⟩ := HA.out.at_ he
              obtain ⟨gb, ofb, rfl, b0, b1, b2⟩ := HE.out.at_ he
              obtain ⟨hn3, hn4⟩ := ev_nomfit hev
              have HRI := Lib.hid (ev_rule hev)
              have HRJ := Lib.hid (show ∃ r, ruleAt (shL xv rs) e.rule = some r by obtain ⟨r, hr⟩ := HRI.out; exact ⟨_, by rw [shL_at, hr]; rfl⟩)
              obtain ⟨ey, er, en⟩ := e
              dsimp only at a0 a1 a2 b0 b1 b2 hn3 hn4 HRI HRJ
              have A0 := Lib.hid a0
              have A1 := Lib.hid a1
              have A2 := Lib.hid a2
              have B0 := Lib.hid b0
              have B1 := Lib.hid b1
              have B2 := Lib.hid b2
              have hk0 : (0 : Int) ≤ (j : Int) := by omega
              have hk1 : (j : Int) < (n : Int) := by omega
              clear he hev a0 a1 a2 b0 b1 b2
              go_wp2_with fail
              have hbd : Below wr.heap.size wr wr.drew := Below.drew (Below.refl _ _)
              have HB := Lib.hid (bel_trans HB.out hbd)
              have HR := Lib.hid (HR.out.below hbd)
              have HR2 := Lib.hid (HR2.out.below hbd)
              have HA := Lib.hid (HA.out.below hbd)
              have HE := Lib.hid (HE.out.below hbd)
              have A0 := Lib.hid (cell_below hbd A0.out)
              have A1 := Lib.hid (cell_below hbd A1.out)
              have A2 := Lib.hid (cell_below hbd A2.out)
              have B0 := Lib.hid (cell_below hbd B0.out)
              have B1 := Lib.hid (cell_below hbd B1.out)
              have B2 := Lib.hid (cell_below hbd B2.out)
              have KX := Lib.hid (block_below KX.out hbd)
              clear hbd
              go_wp2_with fail
              refine wp_region_held_drew (S := (fun w' => w'.cell? ⟨w2.heap.size, 0, none⟩ = some (.int .i64 xv) ∧ w'.cell? ⟨g, of_ + j * 3, none⟩ = some (.int .i64 ey) ∧ w'.cell? ⟨g, of_ + j * 3 + 1, none⟩ = some (.int .i64 er) ∧ w'.cell? ⟨g, of_ + j * 3 + 2, none⟩ = some (.int .i64 en) ∧ w'.cell? ⟨gb, ofb + j * 3, none⟩ = some (.int .i64 ey) ∧ w'.cell? ⟨gb, ofb + j * 3 + 1, none⟩ = some (.int .i64 er) ∧ w'.cell? ⟨gb, ofb + j * 3 + 2, none⟩ = some (.int .i64 en))) (by kernel_rfl) (by exact ⟨cellB (block_below KX.out (Below.refl _ _)) (i := 0) rfl, cell_below (Below.refl _ _) A0.out, cell_below (Below.refl _ _) A1.out, cell_below (Below.refl _ _) A2.out, cell_below (Below.refl _ _) B0.out, cell_below (Below.refl _ _) B1.out, cell_below (Below.refl _ _) B2.out⟩) (fun hHeld => ?_)
              refine wpAnyH_take (i := 0) (v := ?_) rfl (by kernel_rfl) (by kernel_rfl) (by kernel_rfl) (fun _ _ _ h => h) (Or.inl ⟨by rfl, ?_⟩) (by assumption) ?_
              rotate_left 1
              · (intro w hSw; (try dsimp only at hSw); first | (go_simp; done) | (go_simp; with_reducible rfl))
              try simp only [Act.put, List.getElem_toArray, List.getElem_cons_succ, List.getElem_cons_zero, List.setIfInBounds_toArray, List.set_cons_zero, List.set_cons_succ]
              refine wpAnyH_take (i := 1) (v := ?_) rfl (by kernel_rfl) (by kernel_rfl) (by kernel_rfl) (fun _ _ _ h => h) (Or.inl ⟨by rfl, ?_⟩) (by assumption) ?_
              rotate_left 1
              · (intro w hSw; (try dsimp only at hSw); first | (go_simp; done) | (go_simp; with_reducible rfl))
              try simp only [Act.put, List.getElem_toArray, List.getElem_cons_succ, List.getElem_cons_zero, List.setIfInBounds_toArray, List.set_cons_zero, List.set_cons_succ]
              refine wpAnyH_take (i := 2) (v := ?_) rfl (by kernel_rfl) (by kernel_rfl) (by kernel_rfl) (fun _ _ _ h => h) (Or.inl ⟨by rfl, ?_⟩) (by assumption) ?_
              rotate_left 1
              · (intro w hSw; (try dsimp only at hSw); first | (go_simp; done) | (go_simp; with_reducible rfl))
              try simp only [Act.put, List.getElem_toArray, List.getElem_cons_succ, List.getElem_cons_zero, List.setIfInBounds_toArray, List.set_cons_zero, List.set_cons_succ]
              refine wpAnyH_take (i := 3) (v := ?_) rfl (by kernel_rfl) (by kernel_rfl) (by kernel_rfl) (fun _ _ _ h => h) (Or.inl ⟨by rfl, ?_⟩) (by assumption) ?_
              rotate_left 1
              · (intro w hSw; (try dsimp only at hSw); first | (go_simp; done) | (go_simp; with_reducible rfl))
              try simp only [Act.put, List.getElem_toArray, List.getElem_cons_succ, List.getElem_cons_zero, List.setIfInBounds_toArray, List.set_cons_zero, List.set_cons_succ]
              refine wpAnyH_take (i := 4) (v := ?_) rfl (by kernel_rfl) (by kernel_rfl) (by kernel_rfl) (fun _ _ _ h => h) (Or.inl ⟨by rfl, ?_⟩) (by assumption) ?_
              rotate_left 1
              · (intro w hSw; (try dsimp only at hSw); first | (go_simp; done) | (go_simp; with_reducible rfl))
              try simp only [Act.put, List.getElem_toArray, List.getElem_cons_succ, List.getElem_cons_zero, List.setIfInBounds_toArray, List.set_cons_zero, List.set_cons_succ]
              refine wpAnyH_take (i := 5) (v := ?_) rfl (by kernel_rfl) (by kernel_rfl) (by kernel_rfl) (fun _ _ _ h => h) (Or.inl ⟨by rfl, ?_⟩) (by assumption) ?_
              rotate_left 1
              · (intro w hSw; (try dsimp only at hSw); first | (go_simp; done) | (go_simp; with_reducible rfl))
              try simp only [Act.put, List.getElem_toArray, List.getElem_cons_succ, List.getElem_cons_zero, List.setIfInBounds_toArray, List.set_cons_zero, List.set_cons_succ]
              refine wpAnyH_take (i := 7) (v := ?_) rfl (by kernel_rfl) (by kernel_rfl) (by kernel_rfl) (fun _ _ _ h => h) (Or.inl ⟨by rfl, ?_⟩) (by assumption) ?_
              rotate_left 1
              · (intro w hSw; (try dsimp only at hSw); first | (go_simp; done) | (go_simp; with_reducible rfl))
              try simp only [Act.put, List.getElem_toArray, List.getElem_cons_succ, List.getElem_cons_zero, List.setIfInBounds_toArray, List.set_cons_zero, List.set_cons_succ]
              refine wpAnyH_take (i := 8) (v := ?_) rfl (by kernel_rfl) (by kernel_rfl) (by kernel_rfl) (fun _ _ _ h => h) (Or.inl ⟨by rfl, ?_⟩) (by assumption) ?_
              rotate_left 1
              · (intro w hSw; (try dsimp only at hSw); first | (go_simp; done) | (go_simp; with_reducible rfl))
              try simp only [Act.put, List.getElem_toArray, List.getElem_cons_succ, List.getElem_cons_zero, List.setIfInBounds_toArray, List.set_cons_zero, List.set_cons_succ]
              refine wpAnyH_take (i := 9) (v := ?_) rfl (by kernel_rfl) (by kernel_rfl) (by kernel_rfl) (fun _ _ _ h => h) (Or.inl ⟨by rfl, ?_⟩) (by assumption) ?_
              rotate_left 1
              · (intro w hSw; (try dsimp only at hSw); first | (go_simp; done) | (go_simp; with_reducible rfl))
              try simp only [Act.put, List.getElem_toArray, List.getElem_cons_succ, List.getElem_cons_zero, List.setIfInBounds_toArray, List.set_cons_zero, List.set_cons_succ]
              refine wpAnyH_take (i := 10) (v := ?_) rfl (by kernel_rfl) (by kernel_rfl) (by kernel_rfl) (fun _ _ _ h => h) (Or.inl ⟨by rfl, ?_⟩) (by assumption) ?_
              rotate_left 1
              · (intro w hSw; (try dsimp only at hSw); first | (go_simp; done) | (go_simp; with_reducible rfl))
              try simp only [Act.put, List.getElem_toArray, List.getElem_cons_succ, List.getElem_cons_zero, List.setIfInBounds_toArray, List.set_cons_zero, List.set_cons_succ]
              refine wpAnyH_take (i := 11) (v := ?_) rfl (by kernel_rfl) (by kernel_rfl) (by kernel_rfl) (fun _ _ _ h => h) (Or.inl ⟨by rfl, ?_⟩) (by assumption) ?_
              rotate_left 1
              · (intro w hSw; (try dsimp only at hSw); first | (go_simp; done) | (go_simp; with_reducible rfl))
              try simp only [Act.put, List.getElem_toArray, List.getElem_cons_succ, List.getElem_cons_zero, List.setIfInBounds_toArray, List.set_cons_zero, List.set_cons_succ]
              refine wpAnyH_take (i := 12) (v := ?_) rfl (by kernel_rfl) (by kernel_rfl) (by kernel_rfl) (fun _ _ _ h => h) (Or.inl ⟨by rfl, ?_⟩) (by assumption) ?_
              rotate_left 1
              · (intro w hSw; (try dsimp only at hSw); first | (go_simp; done) | (go_simp; with_reducible rfl))
              try simp only [Act.put, List.getElem_toArray, List.getElem_cons_succ, List.getElem_cons_zero, List.setIfInBounds_toArray, List.set_cons_zero, List.set_cons_succ]
              refine wpAnyH_take (i := 13) (v := ?_) rfl (by kernel_rfl) (by kernel_rfl) (by kernel_rfl) (fun _ _ _ h => h) (Or.inl ⟨by rfl, ?_⟩) (by assumption) ?_
              rotate_left 1
              · (intro w hSw; (try dsimp only at hSw); first | (go_simp; done) | (go_simp; with_reducible rfl))
              try simp only [Act.put, List.getElem_toArray, List.getElem_cons_succ, List.getElem_cons_zero, List.setIfInBounds_toArray, List.set_cons_zero, List.set_cons_succ]
              refine wpAnyH_take (i := 14) (v := ?_) rfl (by kernel_rfl) (by kernel_rfl) (by kernel_rfl) (fun _ _ _ h => h) (Or.inl ⟨by rfl, ?_⟩) (by assumption) ?_
              rotate_left 1
              · (intro w hSw; (try dsimp only at hSw); first | (go_simp; done) | (go_simp; with_reducible rfl))
              try simp only [Act.put, List.getElem_toArray, List.getElem_cons_succ, List.getElem_cons_zero, List.setIfInBounds_toArray, List.set_cons_zero, List.set_cons_succ]
              refine wpAnyH_ready (rs := [6]) (by kernel_rfl) (by simp) ?_
              refine AllReadyH.cons rfl (fun K hK => ?_) AllReadyH.nil
              go_simp
              refine (instant_any _ rs ey er en p _ (by exact HT.out.below HB.out) (by exact HR.out) (made_tame HMP.out) (made_savOk HMP.out) HRI.out (by omega) (by omega) (by omega) (by omega)).mono ?_
              rintro e w60 ⟨z, HZ, rfl, hb60⟩; have HZ2 := Lib.hid (sh_inst (x := xv) HSH.out HS1.out HZ.out)
              go_wp2_with fail
              refine hK.out _ _ ?_ (fun hHeld => ?_)
              · exact ⟨cellB (block_below KX.out hb60) (i := 0) rfl, cell_below hb60 A0.out, cell_below hb60 A1.out, cell_below hb60 A2.out, cell_below hb60 B0.out, cell_below hb60 B1.out, cell_below hb60 B2.out⟩
              clear hK K
              try simp only [Act.put, List.getElem_toArray, List.getElem_cons_succ, List.getElem_cons_zero, List.setIfInBounds_toArray, List.set_cons_zero, List.set_cons_succ]
              have HB := Lib.hid (bel_trans HB.out hb60)
              have HR := Lib.hid (HR.out.below hb60)
              have HR2 := Lib.hid (HR2.out.below hb60)
              have HA := Lib.hid (HA.out.below hb60)
              have HE := Lib.hid (HE.out.below hb60)
              have A0 := Lib.hid (cell_below hb60 A0.out)
              have A1 := Lib.hid (cell_below hb60 A1.out)
              have A2 := Lib.hid (cell_below hb60 A2.out)
              have B0 := Lib.hid (cell_below hb60 B0.out)
              have B1 := Lib.hid (cell_below hb60 B1.out)
              have B2 := Lib.hid (cell_below hb60 B2.out)
              have KX := Lib.hid (block_below KX.out hb60)
              refine wpAnyH_ready (rs := [15]) (by kernel_rfl) (by simp) ?_
              refine AllReadyH.cons rfl (fun K hK => ?_) AllReadyH.nil
              go_simp
              refine (instant_any _ (shL xv rs) ey er en (p - xv) _ (by exact HT.out.below HB.out) (by exact HR2.out) HC2.out.tame (calm_savOk HC2.out) HRJ.out (by omega) (by omega) (by omega) (by omega)).mono ?_
              rintro e w61 ⟨z2, hz2, rfl, hb61⟩; obtain rfl : z2 = z := hz2.out.uniq HZ2.out; clear hz2
              go_wp2_with fail
              refine hK.out _ _ ?_ (fun hHeld => ?_)
              · exact ⟨cellB (block_below KX.out hb61) (i := 0) rfl, cell_below hb61 A0.out, cell_below hb61 A1.out, cell_below hb61 A2.out, cell_below hb61 B0.out, cell_below hb61 B1.out, cell_below hb61 B2.out⟩
              clear hK K
              try simp only [Act.put, List.getElem_toArray, List.getElem_cons_succ, List.getElem_cons_zero, List.setIfInBounds_toArray, List.set_cons_zero, List.set_cons_succ]
              have HB := Lib.hid (bel_trans HB.out hb61)
              have HR := Lib.hid (HR.out.below hb61)
              have HR2 := Lib.hid (HR2.out.below hb61)
              have HA := Lib.hid (HA.out.below hb61)
              have HE := Lib.hid (HE.out.below hb61)
              have A0 := Lib.hid (cell_below hb61 A0.out)
              have A1 := Lib.hid (cell_below hb61 A1.out)
              have A2 := Lib.hid (cell_below hb61 A2.out)
              have B0 := Lib.hid (cell_below hb61 B0.out)
              have B1 := Lib.hid (cell_below hb61 B1.out)
              have B2 := Lib.hid (cell_below hb61 B2.out)
              have KX := Lib.hid (block_below KX.out hb61)
              refine wpAnyH_take (i := 16) (v := ?_) rfl (by kernel_rfl) (by kernel_rfl) (by kernel_rfl) (fun _ _ _ h => h) (Or.inl ⟨by rfl, ?_⟩) (by assumption) ?_
              rotate_left 1
              · (intro w hSw; (try dsimp only at hSw); first | (go_simp; done) | (go_simp; with_reducible rfl))
              try simp only [Act.put, List.getElem_toArray, List.getElem_cons_succ, List.getElem_cons_zero, List.setIfInBounds_toArray, List.set_cons_zero, List.set_cons_succ]
              refine wpAnyH_done (by kernel_rfl) ?_ _
              go_wp2_with fail
              go_wp2_with fail
              go_round
              case rel => exact ⟨j + 1, _, by omega, by go_num, rfl, HB, HR, HR2, HA, HE, KX⟩
              case measure => simp [intOf] <;> omega
            · obtain rfl : j = n := by omega
              go_wp2_with fail
              refine (works19_any _ (by exact HT.out.below HB.out)).mono ?_
              rintro e w9 ⟨rfl, hb⟩
              have HB := Lib.hid (bel_trans HB.out hb)
              clear hb
              go_wp2_with fail
              go_ret
              exact ⟨rfl, HB.out⟩

set_option maxRecDepth 100000 in
theorem stateShifted.stateShifted_walk (W : World) (hL : laidMetH Tryd.prog Rows.stateShiftedRow.laid W) (v : Value) {H : Type} {enc : TypeId × Value → H} {base : Nat} {d : DataW H} {p : List MemPlace} (hv : Value.okWide Tryd.prog W .any base 23 v)
    (h : DataW.Trod enc Tryd.prog W 0 (fun _ => true) true 23 v d p) (x : Int) (wx : (Lit.int .i32 x).wf = true) (n : Int) (wn : (Lit.int .u64 n).wf = true) :
    Calls Tryd.prog 4 #[v, .int .i32 x, .int .u64 n] W fun e w' => e = .returned (.bool true) ∧ Below W.heap.size W w' := by
  obtain ⟨bs, hD⟩ := drf_of hv h
  obtain ⟨hx1, hx2⟩ := i32_of wx
  obtain ⟨hn1, hn2⟩ : 0 ≤ n ∧ n ≤ 18446744073709551615 := by
    simp [Lit.wf, IntKind.min, IntKind.max, IntKind.signed, IntKind.bits] at wn
    omega
  have hpb := tmod_bd x 43201 (by omega)
  exact stSh_core v bs x n _ _ W ⟨tab_of hL, ktab_of hL⟩ hD hx1 hx2 hn1 hn2 rfl rfl (by omega) (by omega) (by omega) (by omega)
end Go.Proofs.YtophiphhgcmjpaaDoor
