/-
  The walk of the law UntilShift.
-/
import Derived.Test.YtoaimfadccepiaaDoorUntEra
import Derived.Test.YtoaimfadccepiaaDoorUntNam
import Derived.Test.YtoaimfadccepiaaDoorUntWk
import Derived.Test.YtoaimfadccepiaaDoorUntDr
import Derived.Test.YtoaimfadccepiaaDoorMixR
import Derived.Test.YtoaimfadccepiaaDoorShMade
import Derived.Deep.RegionHeld3
import Derived.Deep.DeepCutAuto
import Derived.Deep.MidRow
namespace Go.Proofs.YtoaimfadccepiaaDoor
open Go.RowKit Cv
set_option linter.unusedVariables false
set_option linter.unusedSimpArgs false

namespace Cv
theorem RuNews {ad : Addr} {n cap : Nat} {rs : _root_.List Ru} {w : World} (h : Rul (.slice (some ad) n cap) rs w) : ∀ j u, (flatRu rs)[j]? = some u → w.cell? (ad.add j) = some u := by
  intro j u hu
  have hj : j < rs.length * 11 := by rw [← flatRu_len]; exact (_root_.List.getElem?_eq_some_iff.1 hu).1
  have hi : j / 11 < rs.length := by omega
  obtain ⟨r, hr⟩ : ∃ r, rs[j / 11]? = some r := by rw [_root_.List.getElem?_eq_getElem hi]; exact ⟨_, rfl⟩
  obtain ⟨g, off, e, hrg⟩ := h.at_ hr
  cases e
  have e1 : j = j / 11 * 11 + j % 11 := by omega
  rw [e1, flatRu_get rs (j / 11) r hr (j % 11) (by omega)] at hu
  have := hrg (j % 11) u hu
  have e2 : (⟨g, off, none⟩ : Addr).add j = ⟨g, off + j / 11 * 11 + j % 11, none⟩ := by
    rw [Addr.add_mid]
    congr 1
    omega
  rw [e2]
  exact this
theorem flatOne (rs : _root_.List Ru) : ∀ u ∈ flatRu rs, u.oneCell' = true := by
  intro u hu
  obtain ⟨r, _, hr⟩ := _root_.List.mem_flatMap.1 hu
  exact arr_one r u hr
theorem befS_in3 {rs : _root_.List Ru} {a b : Int} (ha : a ≤ 0) (hb : 0 ≤ b) (h : ∀ r ∈ rs, a ≤ r.save ∧ r.save ≤ b) (o : Option Ev) : a ≤ (befS rs o).save ∧ (befS rs o).save ≤ b := by
  have hbeh : ∀ e, a ≤ (behS rs e).save ∧ (behS rs e).save ≤ b := by
    intro e
    unfold behS
    split
    · rename_i r hr
      exact h r (ruleAt_in hr)
    · exact ⟨ha, hb⟩
  cases o with
  | some e => exact hbeh e
  | none =>
    show a ≤ (initS rs).save ∧ (initS rs).save ≤ b
    unfold initS
    split
    · exact ⟨ha, hb⟩
    · split
      · exact hbeh _
      · exact hbeh _
theorem CalmR.bef {rs : _root_.List Ru} (h : CalmR rs) (o : Option Ev) : -604799 ≤ (befS rs o).save ∧ (befS rs o).save ≤ 604799 := by
  have := befS_in3 (a := -10800) (b := 10800) (by decide) (by decide) h.save o; omega
theorem unt_shift {y m k w d sec x : Int} (h : untC true y m k w d sec 1 (-x) = 0) : untC true y m k w d (sec - x) 1 0 = 0 := by
  obtain ⟨_, h1, h2, a1, a2, a3, a4, a5, a6, a7⟩ := untC_zero h
  unfold untS at a6 a7
  rw [if_pos rfl] at a6 a7
  exact untC_yes (by decide) (by decide) ⟨a1, a2, a3, a4, a5, by unfold untS; rw [if_pos rfl]; omega, by unfold untS; rw [if_pos rfl]; omega⟩
theorem unt_same {y m k w d sec base x : Int} (hb : base ≠ 1) (h : untC true y m k w d sec base (-x) = 0) : untC true y m k w d sec base 0 = 0 := by
  obtain ⟨_, h1, h2, a1, a2, a3, a4, a5, a6, a7⟩ := untC_zero h
  unfold untS at a6 a7
  rw [if_neg hb] at a6 a7
  exact untC_yes (by decide) (by decide) ⟨a1, a2, a3, a4, a5, by unfold untS; rw [if_neg hb]; omega, by unfold untS; rw [if_neg hb]; omega⟩
end Cv

set_option maxRecDepth 100000 in
set_option maxHeartbeats 32000000 in
theorem untShift_core (off dy dm db dk dw dn da : Int) (v : Value) (bs : _root_.List Int) (W : World) (hT : Tabs W) (h : Drf v bs W) (of1 : -2147483648 ≤ off) (of2 : off ≤ 2147483647) (dwy : (Lit.int .u16 dy).wf = true) (dwm : (Lit.int .u8 dm).wf = true) (dwb : (Lit.int .u8 db).wf = true) (dwk : (Lit.int .u8 dk).wf = true) (dww : (Lit.int .u8 dw).wf = true) (dwn : (Lit.int .u8 dn).wf = true) (dwa : (Lit.int .i32 da).wf = true) :
    Calls Tryd.prog 5 #[.agg #[.int .u16 dy, .int .u8 dm, .int .u8 db, .int .u8 dk, .int .u8 dw, .int .u8 dn, .int .i32 da], .int .i32 off, v] W fun e w' => e = .returned (.bool true) ∧ Below W.heap.size W w' := by
  have HT := Lib.hid hT
  have HDR := Lib.hid (h.below (bel_alloc W (.cells #[.int .u16 dy, .int .u8 dm, .int .u8 db, .int .u8 dk, .int .u8 dw, .int .u8 dn, .int .i32 da] 38)))
  have HB := Lib.hid (bel_alloc W (.cells #[.int .u16 dy, .int .u8 dm, .int .u8 db, .int .u8 dk, .int .u8 dw, .int .u8 dn, .int .i32 da] 38))
  have HK := Lib.hid (heap_alloc_new W (.cells #[.int .u16 dy, .int .u8 dm, .int .u8 db, .int .u8 dk, .int .u8 dw, .int .u8 dn, .int .i32 da] 38))
  have HD := Lib.hid (And.intro dwy (And.intro dwm (And.intro dwb (And.intro dwk (And.intro dww (And.intro dwn dwa))))))
  obtain ⟨i0, hi, hz0, hzs, hzb⟩ := info_parts infoRu
  have HI := Lib.hid (And.intro hi (And.intro hz0 (And.intro hzs hzb)))
  clear hT h dwy dwm dwb dwk dww dwn dwa hi hz0 hzs hzb
  go_enter Tryd.func5, Tryd.ntmps5
  go_wp2_with fail
  refine (made17s_any _ bs ⟨#[82]⟩ _ (by exact HDR.out)).mono ?_
  rintro e w1 ⟨ov, rs, sv, rfl, h2, h5, hmp, _, hown, hb1⟩
  have HMP := Lib.hid hmp
  have HK := Lib.hid (block_below HK.out hb1)
  have HB := Lib.hid (bel_trans HB.out hb1)
  have hszW := Lib.hid (show W.heap.size + 1 ≤ w1.heap.size from (Array.getElem?_eq_some_iff.1 HK.out).1)
  obtain ⟨n, hn⟩ : ∃ n, n = rs.length := ⟨_, rfl⟩
  rw [← hn] at h2 h5 hown
  obtain ⟨g, cp, rfl⟩ := own_nonempty hown (by omega)
  have HN := Lib.hid hn
  have HO := Lib.hid (show w1.ownsRow (W.alloc (.cells #[.int .u16 dy, .int .u8 dm, .int .u8 db, .int .u8 dk, .int .u8 dw, .int .u8 dn, .int .i32 da] 38)).heap.size 53 11 (.slice (some ⟨g, 0, none⟩) n cp) n (flatRu (mixR ngR 0 rs)) by rw [mixR_zero]; exact hown)
  have hgW := (ownC hown (j := 0) (by omega)).2.2.1
  have hgW1 : W.heap.size + 1 ≤ g := by simpa using hgW
  have HG := Lib.hid hgW1
  clear hmp hown hb1 HDR hn hgW hgW1
  go_wp2_with fail
  go_loopw [8] (fun i wr => ∃ (k : Nat) (wq : World), k ≤ n ∧ i = .int .i64 (k : Int) ∧ wr = wq ∧ Hid (Below W.heap.size W wq) ∧ Hid (wq.ownsRow (W.alloc (.cells #[.int .u16 dy, .int .u8 dm, .int .u8 db, .int .u8 dk, .int .u8 dw, .int .u8 dn, .int .i32 da] 38)).heap.size 53 11 (.slice (some ⟨g, 0, none⟩) n cp) n (flatRu (mixR ngR k rs))) ∧ Hid (wq.heap[W.heap.size]? = some (.cells #[.int .u16 dy, .int .u8 dm, .int .u8 db, .int .u8 dk, .int .u8 dw, .int .u8 dn, .int .i32 da] 38))) (fun i _ => n - (intOf i).toNat)
  case atStart => exact ⟨0, _, by omega, rfl, rfl, HB, HO, HK⟩
  case round =>
    clear HB HO HK
    obtain ⟨k, wq, hk, rfl, rfl, HB, HO, HK⟩ := hrel
    by_cases hlt : k < n
    · obtain ⟨r, hr⟩ : ∃ r, rs[k]? = some r := by rw [_root_.List.getElem?_eq_getElem (by rw [← HN.out]; exact hlt)]; exact ⟨_, rfl⟩
      have hrb := (HMP.out.each _ (_root_.List.mem_of_getElem? hr)).ok.save
      have hl := mixR_get (f := ngR) hr
      have hs := mixR_succ (f := ngR) hr
      obtain ⟨na, fr, ut, mo, kk, ww, dd, sec, base, save, le⟩ := r
      dsimp only at hrb
      obtain ⟨hs1, hs2⟩ := hrb
      have e9 : wr.cell? ⟨g, k * 11 + 9, none⟩ = some (.int .i64 save) := ownR HO.out hl 9 (by decide) hlt
      have f9 : wr.frozen? ⟨g, k * 11 + 9, none⟩ = false := (ownC HO.out (j := k * 11 + 9) (by omega)).2.1
      have HS := Lib.hid (show flatRu (mixR ngR (k + 1) rs) = (flatRu (mixR ngR k rs)).set (k * 11 + 9) (.int .i64 (min save (-save))) by rw [hs]; exact flat_setAt 9 (by decide) _ ⟨na, fr, ut, mo, kk, ww, dd, sec, base, save, le⟩ (ngR ⟨na, fr, ut, mo, kk, ww, dd, sec, base, save, le⟩) rfl _ _ hl)
      clear hr hl hs
      obtain ⟨mm, hmm⟩ : ∃ mm, mm = min save (-save) := ⟨_, rfl⟩
      rw [← hmm] at HS
      have hw1 : IntKind.i64.wrap (-save) = -save := IntWalk.i64_in _ (by omega)
      rcases (show save ≤ -save ∨ -save < save by omega) with hm | hm
      · obtain rfl : mm = save := by omega
        clear hmm
        go_wp2_with fail
        go_region
        go_wp2_with fail
        go_round
        case rel => exact ⟨k + 1, _, by omega, by go_num, rfl, Lib.hid (Below.drew (HB.out.setCell (p := ⟨g, k * 11 + 9, none⟩) (by have := HG.out; show W.heap.size ≤ g; omega) _)), Lib.hid (by rw [HS.out]; exact own_below17 (own_set HO.out) (Below.drew (Below.refl _ _))), Lib.hid (block_below (block_set HK.out (by have := HG.out; omega)) (Below.drew (Below.refl _ _)))⟩
        case measure => simp [intOf]; omega
      · obtain rfl : mm = -save := by omega
        clear hmm
        go_wp2_with fail
        go_region
        go_wp2_with fail
        go_round
        case rel => exact ⟨k + 1, _, by omega, by go_num, rfl, Lib.hid (Below.drew (HB.out.setCell (p := ⟨g, k * 11 + 9, none⟩) (by have := HG.out; show W.heap.size ≤ g; omega) _)), Lib.hid (by rw [HS.out]; exact own_below17 (own_set HO.out) (Below.drew (Below.refl _ _))), Lib.hid (block_below (block_set HK.out (by have := HG.out; omega)) (Below.drew (Below.refl _ _)))⟩
        case measure => simp [intOf]; omega
    · obtain rfl : k = n := by omega
      clear hlt
      have hsv := HMP.out.svs
      obtain ⟨qs, hqs⟩ : ∃ qs, qs = rs.map ngR := ⟨_, rfl⟩
      have HCQ := Lib.hid (show CalmR qs by rw [hqs]; exact ng_calm HMP.out)
      obtain ⟨x, hx⟩ : ∃ x, -x = min sv (-sv) := ⟨-min sv (-sv), by omega⟩
      have HTW := Lib.hid (show TwoS (-x) qs by rw [hqs, hx]; exact ng_two HMP.out)
      have HS1 := Lib.hid (show Some1 qs by rw [hqs]; exact ng_some1 HMP.out)
      have hx1 : 1800 ≤ x ∧ x ≤ 7200 := by omega
      obtain ⟨x1, x2⟩ := hx1
      have HLQ := Lib.hid (show leastL qs = -x by rw [two_least HTW.out]; omega)
      have HLB := Lib.hid (show baseL qs = -x by unfold baseL; rw [HLQ.out]; omega)
      have HNQ := Lib.hid (show k = qs.length by rw [hqs]; simp; exact HN.out)
      have HO := Lib.hid (show wr.ownsRow (W.alloc (.cells #[.int .u16 dy, .int .u8 dm, .int .u8 db, .int .u8 dk, .int .u8 dw, .int .u8 dn, .int .i32 da] 38)).heap.size 53 11 (.slice (some ⟨g, 0, none⟩) k cp) k (flatRu qs) by have := HO.out; rw [hqs]; rw [← mixR_all, ← HN.out]; exact this)
      have HR := Lib.hid (show Rul (.slice (some ⟨g, 0, none⟩) k cp) qs wr from rul_of_own (by rw [← HNQ.out]; exact HO.out) (by rw [← HNQ.out]; omega) HCQ.out.fits)
      have HRg := Lib.hid (rulB_of HR.out (by rw [← HNQ.out]; omega))
      clear hqs hx hsv HN HO HMP
      go_wp2_with fail
      refine (least_any _ qs _ (by exact HR.out)).mono ?_
      rw [HLQ.out]
      rintro e w2 ⟨rfl, hb⟩
      have HK := Lib.hid (block_below HK.out hb)
      have HB := Lib.hid (bel_trans HB.out hb)
      have HR := Lib.hid (Rul.below HR.out hb)
      have HRg := Lib.hid (rulB_of HR.out (by rw [← HNQ.out]; omega))
      clear hb
      have d0 := cellB HK.out (i := 0) rfl
      have d1 := cellB HK.out (i := 1) rfl
      have d2 := cellB HK.out (i := 2) rfl
      have d3 := cellB HK.out (i := 3) rfl
      have d4 := cellB HK.out (i := 4) rfl
      have d5 := cellB HK.out (i := 5) rfl
      have d6 := cellB HK.out (i := 6) rfl
      go_wp2_with fail
      clear d0 d1 d2 d3 d4 d5 d6
      obtain ⟨o, ho⟩ : ∃ o, off.tmod 21600 = o := ⟨_, rfl⟩
      have hob := tmod_bd off 21600 (by omega)
      rw [ho] at hob
      obtain ⟨o1, o2⟩ := hob
      refine (era2_any dy dm db dk dw dn da 2 off 0 (-x) o _ HD.out.1 HD.out.2.1 HD.out.2.2.1 HD.out.2.2.2.1 HD.out.2.2.2.2.1 HD.out.2.2.2.2.2.1 HD.out.2.2.2.2.2.2 (by omega) (by omega) of1 of2 (by omega) (by omega) (by omega) (by omega) rfl ho o1 o2).mono ?_
      rintro e w3 ⟨uy, um, uk, uw, ud, us, ub, HU, rfl, hb⟩
      have HB := Lib.hid (bel_trans HB.out hb)
      have HR := Lib.hid (Rul.below HR.out hb)
      obtain ⟨-, -, -, hok⟩ := untC_zero HU.out
      have hub : ub = 0 ∨ ub = 1 ∨ ub = 2 := by have := hok.2.2.1; have := hok.2.2.2.1; omega
      clear hb HK hok ho of1 of2 HD
      obtain ⟨z, c, hz⟩ : ∃ x c, on uy um uk uw ud = (x, c) := ⟨_, _, rfl⟩
      have HX := Lib.hid hz
      obtain ⟨-, -, -, uy1, uy2, -, -, z1, z2, us1, us2⟩ := unt_known HU.out hz
      clear hz
      have HW3 := Lib.hid (show W.heap.size ≤ w3.heap.size from HB.out.size)
      have HN0 := Lib.hid (bel_alloc w3 (.cells #[.int .i64 o, .int .i64 2, .int .i64 0, .string ⟨#[82]⟩, .string ⟨#[88]⟩, .bool true, .int .i64 uy, .int .i64 um, .int .i64 uk, .int .i64 uw, .int .i64 ud, .int .i64 us, .int .i64 ub] 45))
      have HE := Lib.hid (heap_alloc_new w3 (.cells #[.int .i64 o, .int .i64 2, .int .i64 0, .string ⟨#[82]⟩, .string ⟨#[88]⟩, .bool true, .int .i64 uy, .int .i64 um, .int .i64 uk, .int .i64 uw, .int .i64 ud, .int .i64 us, .int .i64 ub] 45))
      have HB := Lib.hid (bel_trans HB.out HN0.out)
      have HR := Lib.hid (HR.out.below HN0.out)
      have HRg := Lib.hid (rulB_of HR.out (by rw [← HNQ.out]; omega))
      clear HN0
      go_upto_region 8 with fail
      generalize (w3.alloc (.cells #[.int .i64 o, .int .i64 2, .int .i64 0, .string ⟨#[82]⟩, .string ⟨#[88]⟩, .bool true, .int .i64 uy, .int .i64 um, .int .i64 uk, .int .i64 uw, .int .i64 ud, .int .i64 us, .int .i64 ub] 45)) = wE at HE HB HR HRg ⊢
      have hE3 := Lib.hid (show w3.heap.size < wE.heap.size from (Array.getElem?_eq_some_iff.1 HE.out).1)
      go_wp2_with (at_builtin; refine wpList_append_own _ rfl (.tmp 54) (.tmp 55) 41 rfl wE.heap.size 53 i0 (.agg #[.string ⟨#[]⟩, .int .i64 0, .int .i64 0, .int .i64 0, .int .i64 0, .int .i64 0, .int .i64 0, .int .i64 0, .int .i64 0, .int .i64 0, .string ⟨#[]⟩]) 11 104 Tryd.underlying41 HI.out.1 HI.out.2.1 HI.out.2.2.1 HI.out.2.2.2 rfl (by decide) _ 0 [] rfl (World.ownsRow_made wE #[] 0 (Nat.le_refl _) (by decide) (by simp)) ⟨g, 0, none⟩ k cp (flatRu qs) rfl (by rw [flatRu_len, HNQ.out]) (fun j u hu => cell_below (bel_alloc wE _) (RuNews HR.out j u hu)) (flatOne qs) (by unfold maxLen; omega) (by omega) (by simp) ?_; intro v1 w4 hown1 hgrow1 hnil1)
      have hbE := Below.grown (bel_alloc wE _) hgrow1 (by simp) (fun j hj => (World.ownsRow_made wE #[] 0 (e := 53) (size := 11) (Nat.le_refl wE.heap.size) (by decide) (by simp)).lt j (by exact hj) |>.1)
      have hown2 : w4.ownsRow wE.heap.size 53 11 v1 k (flatRu (mixR (shR x) 0 qs)) := by rw [mixR_zero]; have h1 := hown1; rw [Nat.zero_add] at h1; simpa using h1
      obtain ⟨g2, cp2, rfl⟩ := own_nonempty hown2 (by omega)
      have HG2 := Lib.hid (show wE.heap.size ≤ g2 from (ownC hown2 (j := 0) (by omega)).2.2.1)
      have HO := Lib.hid hown2
      have HB := Lib.hid (bel_trans HB.out hbE)
      have HR := Lib.hid (HR.out.below hbE)
      have HE := Lib.hid (block_below HE.out hbE)
      clear hown1 hgrow1 hnil1 hbE hown2
      go_wp2_with fail
      go_loopw [12] (fun i wr => ∃ (j : Nat) (wq : World), j ≤ k ∧ i = .int .i64 (j : Int) ∧ wr = wq ∧ Hid (Below W.heap.size W wq) ∧ Hid (wq.ownsRow wE.heap.size 53 11 (.slice (some ⟨g2, 0, none⟩) k cp2) k (flatRu (mixR (shR x) j qs))) ∧ Hid (Rul (.slice (some ⟨g, 0, none⟩) k cp) qs wq) ∧ Hid (wq.heap[w3.heap.size]? = some (.cells #[.int .i64 o, .int .i64 2, .int .i64 0, .string ⟨#[82]⟩, .string ⟨#[88]⟩, .bool true, .int .i64 uy, .int .i64 um, .int .i64 uk, .int .i64 uw, .int .i64 ud, .int .i64 us, .int .i64 ub] 45))) (fun i _ => k - (intOf i).toNat)
      case atStart => exact ⟨0, _, by omega, rfl, rfl, HB, HO, HR, HE⟩
      case round =>
        clear HB HO HR HE
        obtain ⟨j, wq, hj, rfl, rfl, HB, HO, HR, HE⟩ := hrel
        by_cases hlt : j < k
        · obtain ⟨r, hr⟩ : ∃ r, qs[j]? = some r := by rw [_root_.List.getElem?_eq_getElem (by rw [← HNQ.out]; exact hlt)]; exact ⟨_, rfl⟩
          have hrm := _root_.List.mem_of_getElem? hr
          have hrb := HCQ.out.save r hrm
          have hrs := HTW.out.sec r hrm
          have hl := mixR_get (f := shR x) hr
          have hs := mixR_succ (f := shR x) hr
          obtain ⟨na, fr, ut, mo, kk, ww, dd, sec, base, save, le⟩ := r
          dsimp only at hrb hrs
          obtain ⟨hs1, hs2⟩ := hrb
          obtain ⟨hs3, hs4⟩ := hrs
          have e7 : wr.cell? ⟨g2, j * 11 + 7, none⟩ = some (.int .i64 sec) := ownR HO.out hl 7 (by decide) hlt
          have e8 : wr.cell? ⟨g2, j * 11 + 8, none⟩ = some (.int .i64 base) := ownR HO.out hl 8 (by decide) hlt
          have e9 : wr.cell? ⟨g2, j * 11 + 9, none⟩ = some (.int .i64 save) := ownR HO.out hl 9 (by decide) hlt
          have f9 : wr.frozen? ⟨g2, j * 11 + 9, none⟩ = false := (ownC HO.out (j := j * 11 + 9) (by omega)).2.1
          have f7 : wr.frozen? ⟨g2, j * 11 + 7, none⟩ = false := (ownC HO.out (j := j * 11 + 7) (by omega)).2.1
          have HS0 := Lib.hid (flat_setAt 9 (by decide) (.int .i64 (save + x)) ⟨na, fr, ut, mo, kk, ww, dd, sec, base, save, le⟩ ⟨na, fr, ut, mo, kk, ww, dd, sec, base, save + x, le⟩ rfl _ _ hl)
          have hgb : W.heap.size ≤ g2 := by have := HG2.out; have := hE3.out; have := HW3.out; omega
          have hge : w3.heap.size ≠ g2 := by have := HG2.out; have := hE3.out; omega
          have HGB := Lib.hid (And.intro hgb hge)
          clear hgb hge hrm hr
          by_cases hb1 : base = 1
          · have HS := Lib.hid (show flatRu (mixR (shR x) (j + 1) qs) = ((flatRu (mixR (shR x) j qs)).set (j * 11 + 9) (.int .i64 (save + x))).set (j * 11 + 7) (.int .i64 (sec - x)) by
              rw [hs, ← HS0.out, ← flat_setAt 7 (by decide) (.int .i64 (sec - x)) ⟨na, fr, ut, mo, kk, ww, dd, sec, base, save + x, le⟩ ⟨na, fr, ut, mo, kk, ww, dd, sec - x, base, save + x, le⟩ rfl _ _ (get_set_same hl), set_set_same]
              unfold shR
              dsimp only
              rw [if_pos hb1])
            clear hs hl HS0
            subst hb1
            go_wp2_with fail
            go_round
            case rel => exact ⟨j + 1, _, by omega, by go_num, rfl, Lib.hid ((HB.out.setCell (p := ⟨g2, j * 11 + 9, none⟩) HGB.out.1 _).setCell (p := ⟨g2, j * 11 + 7, none⟩) HGB.out.1 _), Lib.hid (by rw [HS.out]; exact own_set (own_set HO.out)), Lib.hid (rul_set (rul_set HR.out HG2.out HRg.out) HG2.out HRg.out), Lib.hid (block_set (block_set HE.out HGB.out.2) HGB.out.2)⟩
            case measure => simp [intOf]; omega
          · have hb2 : (base == 1) = false := by simp [hb1]
            have HS := Lib.hid (show flatRu (mixR (shR x) (j + 1) qs) = (flatRu (mixR (shR x) j qs)).set (j * 11 + 9) (.int .i64 (save + x)) by
              rw [hs, ← HS0.out]
              unfold shR
              dsimp only
              rw [if_neg hb1])
            clear hs hl HS0
            go_wp2_with fail
            go_round
            case rel => exact ⟨j + 1, _, by omega, by go_num, rfl, Lib.hid (HB.out.setCell (p := ⟨g2, j * 11 + 9, none⟩) HGB.out.1 _), Lib.hid (by rw [HS.out]; exact own_set HO.out), Lib.hid (rul_set HR.out HG2.out HRg.out), Lib.hid (block_set HE.out HGB.out.2)⟩
            case measure => simp [intOf]; omega
        · obtain rfl : j = k := by omega
          clear hlt
          have HSH := Lib.hid (show ShOk x qs by have := two_shOk HTW.out; rwa [Int.neg_neg] at this)
          have HC2 := Lib.hid (show CalmR (shL x qs) by have := two_sh_calm HTW.out HCQ.out; rwa [Int.neg_neg] at this)
          have HL2 := Lib.hid (show leastL (shL x qs) = 0 by have := two_sh_least HTW.out; rw [Int.neg_neg] at this; rw [this]; omega)
          have HB2 := Lib.hid (show baseL (shL x qs) = 0 by unfold baseL; rw [HL2.out]; omega)
          have HR2 := Lib.hid (show Rul (.slice (some ⟨g2, 0, none⟩) j cp2) (shL x qs) wr from rul_of_own (by have := HO.out; rw [shL_len, ← HNQ.out]; unfold shL; rw [← mixR_all, ← HNQ.out]; exact this) (by rw [shL_len, ← HNQ.out]; omega) HC2.out.fits)
          clear HO HG2
          have c0 := cellB HE.out (i := 0) rfl
          have c1 := cellB HE.out (i := 1) rfl
          have c2 := cellB HE.out (i := 2) rfl
          have c3 := cellB HE.out (i := 3) rfl
          have c4 := cellB HE.out (i := 4) rfl
          have c5 := cellB HE.out (i := 5) rfl
          have c6 := cellB HE.out (i := 6) rfl
          have c7 := cellB HE.out (i := 7) rfl
          have c8 := cellB HE.out (i := 8) rfl
          have c9 := cellB HE.out (i := 9) rfl
          have c10 := cellB HE.out (i := 10) rfl
          have c11 := cellB HE.out (i := 11) rfl
          have c12 := cellB HE.out (i := 12) rfl
          rcases hub with rfl | rfl | rfl
          · have HU2 := Lib.hid (show untC true uy um uk uw ud us 0 0 = 0 from unt_same (by decide) HU.out)
            have HNN := Lib.hid (show untN true uy um uk uw ud us 0 (-x) = 86400 * z + us by first | (rw [untN_not (by decide) HU.out HX.out]; done) | (rw [untN_not (by decide) HU.out HX.out]; omega))
            have HNN2 := Lib.hid (show untN true uy um uk uw ud us 0 0 = 86400 * z + us by first | (rw [untN_not (by decide) HU2.out HX.out]; done) | (rw [untN_not (by decide) HU2.out HX.out]; omega))
            go_upto_region 19 with fail
            have HF := Lib.hid (heap_alloc_new wr (.cells #[.int .i64 (o - x), .int .i64 2, .int .i64 0, .string ⟨#[82]⟩, .string ⟨#[88]⟩, .bool true, .int .i64 uy, .int .i64 um, .int .i64 uk, .int .i64 uw, .int .i64 ud, .int .i64 us, .int .i64 0] 45))
            have HX0 := Lib.hid (bel_alloc wr (.cells #[.int .i64 (o - x), .int .i64 2, .int .i64 0, .string ⟨#[82]⟩, .string ⟨#[88]⟩, .bool true, .int .i64 uy, .int .i64 um, .int .i64 uk, .int .i64 uw, .int .i64 ud, .int .i64 us, .int .i64 0] 45))
            have HE := Lib.hid (block_below HE.out HX0.out)
            have HB := Lib.hid (bel_trans HB.out HX0.out)
            have HR := Lib.hid (Rul.below HR.out HX0.out)
            have HR2 := Lib.hid (Rul.below HR2.out HX0.out)
            clear c0 c1 c2 c3 c4 c5 c6 c7 c8 c9 c10 c11 c12 HX0
            generalize hwF : wr.alloc (.cells #[.int .i64 (o - x), .int .i64 2, .int .i64 0, .string ⟨#[82]⟩, .string ⟨#[88]⟩, .bool true, .int .i64 uy, .int .i64 um, .int .i64 uk, .int .i64 uw, .int .i64 ud, .int .i64 us, .int .i64 0] 45) = wF at HE HB HR HR2 HF ⊢
            clear hwF
            have c0 := cellB HE.out (i := 0) rfl
            have c1 := cellB HE.out (i := 1) rfl
            have c2 := cellB HE.out (i := 2) rfl
            have c3 := cellB HE.out (i := 3) rfl
            have c4 := cellB HE.out (i := 4) rfl
            have c5 := cellB HE.out (i := 5) rfl
            have c6 := cellB HE.out (i := 6) rfl
            have c7 := cellB HE.out (i := 7) rfl
            have c8 := cellB HE.out (i := 8) rfl
            have c9 := cellB HE.out (i := 9) rfl
            have c10 := cellB HE.out (i := 10) rfl
            have c11 := cellB HE.out (i := 11) rfl
            have c12 := cellB HE.out (i := 12) rfl
            go_wp2_with fail
            refine (untNom_any true uy um uk uw ud us 0 (-x) _ (by exact HT.out.below HB.out) (by omega) (by omega)).mono ?_
            intro e w5 hq; obtain ⟨rfl, hb⟩ := NomU.to HNN.out HU.out _ _ hq; clear hq
            have HE := Lib.hid (block_below HE.out hb)
            have HF := Lib.hid (block_below HF.out hb)
            have HB := Lib.hid (bel_trans HB.out hb)
            have HR := Lib.hid (Rul.below HR.out hb)
            have HR2 := Lib.hid (Rul.below HR2.out hb)
            clear hb c0 c1 c2 c3 c4 c5 c6 c7 c8 c9 c10 c11 c12
            have c0 := cellB HF.out (i := 0) rfl
            have c1 := cellB HF.out (i := 1) rfl
            have c2 := cellB HF.out (i := 2) rfl
            have c3 := cellB HF.out (i := 3) rfl
            have c4 := cellB HF.out (i := 4) rfl
            have c5 := cellB HF.out (i := 5) rfl
            have c6 := cellB HF.out (i := 6) rfl
            have c7 := cellB HF.out (i := 7) rfl
            have c8 := cellB HF.out (i := 8) rfl
            have c9 := cellB HF.out (i := 9) rfl
            have c10 := cellB HF.out (i := 10) rfl
            have c11 := cellB HF.out (i := 11) rfl
            have c12 := cellB HF.out (i := 12) rfl
            go_wp2_with fail
            refine (untNom_any true uy um uk uw ud us 0 0 _ (by exact HT.out.below HB.out) (by omega) (by omega)).mono ?_
            intro e w6 hq; obtain ⟨rfl, hb⟩ := NomU.to HNN2.out HU2.out _ _ hq; clear hq
            have HE := Lib.hid (block_below HE.out hb)
            have HF := Lib.hid (block_below HF.out hb)
            have HB := Lib.hid (bel_trans HB.out hb)
            have HR := Lib.hid (Rul.below HR.out hb)
            have HR2 := Lib.hid (Rul.below HR2.out hb)
            clear hb c0 c1 c2 c3 c4 c5 c6 c7 c8 c9 c10 c11 c12
            have c0 := cellB HE.out (i := 0) rfl
            have c1 := cellB HE.out (i := 1) rfl
            have c2 := cellB HE.out (i := 2) rfl
            have c3 := cellB HE.out (i := 3) rfl
            have c4 := cellB HE.out (i := 4) rfl
            have c5 := cellB HE.out (i := 5) rfl
            have c6 := cellB HE.out (i := 6) rfl
            have c7 := cellB HE.out (i := 7) rfl
            have c8 := cellB HE.out (i := 8) rfl
            have c9 := cellB HE.out (i := 9) rfl
            have c10 := cellB HE.out (i := 10) rfl
            have c11 := cellB HE.out (i := 11) rfl
            have c12 := cellB HE.out (i := 12) rfl
            go_wp2_with fail
            refine (untInst20 o 0 ⟨#[82]⟩ ⟨#[88]⟩ uy um uk uw ud us z c _ qs _ (by exact HT.out.below HB.out) (by exact HR.out) HCQ.out.tame HCQ.out.bef (by rw [HLB.out]; exact HU.out) HX.out (by omega) (by omega)).mono ?_
            rw [HLB.out, HNN.out]
            rintro e w7 ⟨ob, HBE, rfl, hb⟩
            have hbs := HCQ.out.bef ob
            obtain ⟨sb, hsb⟩ : ∃ sb, sb = (befS qs ob).save := ⟨_, rfl⟩
            have HSB := Lib.hid hsb
            rw [← hsb] at hbs ⊢
            clear hsb
            obtain ⟨bs1, bs2⟩ := hbs
            have HF := Lib.hid (block_below HF.out hb)
            have HB := Lib.hid (bel_trans HB.out hb)
            have HR2 := Lib.hid (Rul.below HR2.out hb)
            clear hb HE HR c0 c1 c2 c3 c4 c5 c6 c7 c8 c9 c10 c11 c12
            have c0 := cellB HF.out (i := 0) rfl
            have c1 := cellB HF.out (i := 1) rfl
            have c2 := cellB HF.out (i := 2) rfl
            have c3 := cellB HF.out (i := 3) rfl
            have c4 := cellB HF.out (i := 4) rfl
            have c5 := cellB HF.out (i := 5) rfl
            have c6 := cellB HF.out (i := 6) rfl
            have c7 := cellB HF.out (i := 7) rfl
            have c8 := cellB HF.out (i := 8) rfl
            have c9 := cellB HF.out (i := 9) rfl
            have c10 := cellB HF.out (i := 10) rfl
            have c11 := cellB HF.out (i := 11) rfl
            have c12 := cellB HF.out (i := 12) rfl
            go_wp2_with fail
            refine (untInst20 (o - x) 0 ⟨#[82]⟩ ⟨#[88]⟩ uy um uk uw ud us z c _ (shL x qs) _ (by exact HT.out.below HB.out) (by exact HR2.out) HC2.out.tame HC2.out.bef (by rw [HB2.out]; exact HU2.out) HX.out (by omega) (by omega)).mono ?_
            rw [HB2.out, HNN2.out]
            rintro e w8 ⟨ob2, HBE2, he, hb⟩
            have hob : ob2 = ob := HBE2.out.uniq (sh_bef HSH.out HBE.out)
            rw [show (86400 * z + us - (befS (shL x qs) ob2).save - (o - x) : Int) = 86400 * z + us - sb - o by rw [hob, sh_befS HSH.out HS1.out HBE.out]; show 86400 * z + us - ((befS qs ob).save + x) - (o - x) = _; rw [← HSB.out]; omega] at he
            subst he
            have HB := Lib.hid (bel_trans HB.out hb)
            have HR2 := Lib.hid (Rul.below HR2.out hb)
            clear hb hob HF c0 c1 c2 c3 c4 c5 c6 c7 c8 c9 c10 c11 c12
            go_wp2_with fail
            refine (least_any _ (shL x qs) _ (by exact HR2.out)).mono ?_
            rw [HL2.out]
            rintro e w9 ⟨rfl, hb⟩
            have HB := Lib.hid (bel_trans HB.out hb)
            clear hb
            go_wp2_with fail
            refine (works_any _ (by exact HT.out.below HB.out)).mono ?_
            rintro e w10 ⟨rfl, hb⟩
            have HB := Lib.hid (bel_trans HB.out hb)
            clear hb
            go_wp2_with fail
            go_ret
            exact ⟨rfl, HB.out⟩
          · have HU2 := Lib.hid (show untC true uy um uk uw ud (us - x) 1 0 = 0 from unt_shift HU.out)
            have HNN := Lib.hid (show untN true uy um uk uw ud us 1 (-x) = 86400 * z + us - x by first | (rw [untN_std HU.out HX.out]; done) | (rw [untN_std HU.out HX.out]; omega))
            have HNN2 := Lib.hid (show untN true uy um uk uw ud (us - x) 1 0 = 86400 * z + us - x by first | (rw [untN_std HU2.out HX.out]; done) | (rw [untN_std HU2.out HX.out]; omega))
            go_upto_region 19 with fail
            have HF := Lib.hid (heap_alloc_new wr (.cells #[.int .i64 (o - x), .int .i64 2, .int .i64 0, .string ⟨#[82]⟩, .string ⟨#[88]⟩, .bool true, .int .i64 uy, .int .i64 um, .int .i64 uk, .int .i64 uw, .int .i64 ud, .int .i64 (us - x), .int .i64 1] 45))
            have HX0 := Lib.hid (bel_alloc wr (.cells #[.int .i64 (o - x), .int .i64 2, .int .i64 0, .string ⟨#[82]⟩, .string ⟨#[88]⟩, .bool true, .int .i64 uy, .int .i64 um, .int .i64 uk, .int .i64 uw, .int .i64 ud, .int .i64 (us - x), .int .i64 1] 45))
            have HE := Lib.hid (block_below HE.out HX0.out)
            have HB := Lib.hid (bel_trans HB.out HX0.out)
            have HR := Lib.hid (Rul.below HR.out HX0.out)
            have HR2 := Lib.hid (Rul.below HR2.out HX0.out)
            clear c0 c1 c2 c3 c4 c5 c6 c7 c8 c9 c10 c11 c12 HX0
            generalize hwF : wr.alloc (.cells #[.int .i64 (o - x), .int .i64 2, .int .i64 0, .string ⟨#[82]⟩, .string ⟨#[88]⟩, .bool true, .int .i64 uy, .int .i64 um, .int .i64 uk, .int .i64 uw, .int .i64 ud, .int .i64 (us - x), .int .i64 1] 45) = wF at HE HB HR HR2 HF ⊢
            clear hwF
            have c0 := cellB HE.out (i := 0) rfl
            have c1 := cellB HE.out (i := 1) rfl
            have c2 := cellB HE.out (i := 2) rfl
            have c3 := cellB HE.out (i := 3) rfl
            have c4 := cellB HE.out (i := 4) rfl
            have c5 := cellB HE.out (i := 5) rfl
            have c6 := cellB HE.out (i := 6) rfl
            have c7 := cellB HE.out (i := 7) rfl
            have c8 := cellB HE.out (i := 8) rfl
            have c9 := cellB HE.out (i := 9) rfl
            have c10 := cellB HE.out (i := 10) rfl
            have c11 := cellB HE.out (i := 11) rfl
            have c12 := cellB HE.out (i := 12) rfl
            go_wp2_with fail
            refine (untNom_any true uy um uk uw ud us 1 (-x) _ (by exact HT.out.below HB.out) (by omega) (by omega)).mono ?_
            intro e w5 hq; obtain ⟨rfl, hb⟩ := NomU.to HNN.out HU.out _ _ hq; clear hq
            have HE := Lib.hid (block_below HE.out hb)
            have HF := Lib.hid (block_below HF.out hb)
            have HB := Lib.hid (bel_trans HB.out hb)
            have HR := Lib.hid (Rul.below HR.out hb)
            have HR2 := Lib.hid (Rul.below HR2.out hb)
            clear hb c0 c1 c2 c3 c4 c5 c6 c7 c8 c9 c10 c11 c12
            have c0 := cellB HF.out (i := 0) rfl
            have c1 := cellB HF.out (i := 1) rfl
            have c2 := cellB HF.out (i := 2) rfl
            have c3 := cellB HF.out (i := 3) rfl
            have c4 := cellB HF.out (i := 4) rfl
            have c5 := cellB HF.out (i := 5) rfl
            have c6 := cellB HF.out (i := 6) rfl
            have c7 := cellB HF.out (i := 7) rfl
            have c8 := cellB HF.out (i := 8) rfl
            have c9 := cellB HF.out (i := 9) rfl
            have c10 := cellB HF.out (i := 10) rfl
            have c11 := cellB HF.out (i := 11) rfl
            have c12 := cellB HF.out (i := 12) rfl
            go_wp2_with fail
            refine (untNom_any true uy um uk uw ud (us - x) 1 0 _ (by exact HT.out.below HB.out) (by omega) (by omega)).mono ?_
            intro e w6 hq; obtain ⟨rfl, hb⟩ := NomU.to HNN2.out HU2.out _ _ hq; clear hq
            have HE := Lib.hid (block_below HE.out hb)
            have HF := Lib.hid (block_below HF.out hb)
            have HB := Lib.hid (bel_trans HB.out hb)
            have HR := Lib.hid (Rul.below HR.out hb)
            have HR2 := Lib.hid (Rul.below HR2.out hb)
            clear hb c0 c1 c2 c3 c4 c5 c6 c7 c8 c9 c10 c11 c12
            have c0 := cellB HE.out (i := 0) rfl
            have c1 := cellB HE.out (i := 1) rfl
            have c2 := cellB HE.out (i := 2) rfl
            have c3 := cellB HE.out (i := 3) rfl
            have c4 := cellB HE.out (i := 4) rfl
            have c5 := cellB HE.out (i := 5) rfl
            have c6 := cellB HE.out (i := 6) rfl
            have c7 := cellB HE.out (i := 7) rfl
            have c8 := cellB HE.out (i := 8) rfl
            have c9 := cellB HE.out (i := 9) rfl
            have c10 := cellB HE.out (i := 10) rfl
            have c11 := cellB HE.out (i := 11) rfl
            have c12 := cellB HE.out (i := 12) rfl
            go_wp2_with fail
            refine (untInst21 o 0 ⟨#[82]⟩ ⟨#[88]⟩ uy um uk uw ud us z c _ qs _ (by exact HT.out.below HB.out) (by exact HR.out) HCQ.out.tame HCQ.out.bef (by rw [HLB.out]; exact HU.out) HX.out (by omega) (by omega)).mono ?_
            rw [HLB.out, HNN.out]
            rintro e w7 ⟨ob, HBE, rfl, hb⟩
            have hbs := HCQ.out.bef ob
            obtain ⟨sb, hsb⟩ : ∃ sb, sb = (befS qs ob).save := ⟨_, rfl⟩
            have HSB := Lib.hid hsb
            rw [← hsb] at hbs 
            clear hsb
            obtain ⟨bs1, bs2⟩ := hbs
            have HF := Lib.hid (block_below HF.out hb)
            have HB := Lib.hid (bel_trans HB.out hb)
            have HR2 := Lib.hid (Rul.below HR2.out hb)
            clear hb HE HR c0 c1 c2 c3 c4 c5 c6 c7 c8 c9 c10 c11 c12
            have c0 := cellB HF.out (i := 0) rfl
            have c1 := cellB HF.out (i := 1) rfl
            have c2 := cellB HF.out (i := 2) rfl
            have c3 := cellB HF.out (i := 3) rfl
            have c4 := cellB HF.out (i := 4) rfl
            have c5 := cellB HF.out (i := 5) rfl
            have c6 := cellB HF.out (i := 6) rfl
            have c7 := cellB HF.out (i := 7) rfl
            have c8 := cellB HF.out (i := 8) rfl
            have c9 := cellB HF.out (i := 9) rfl
            have c10 := cellB HF.out (i := 10) rfl
            have c11 := cellB HF.out (i := 11) rfl
            have c12 := cellB HF.out (i := 12) rfl
            go_wp2_with fail
            refine (untInst21 (o - x) 0 ⟨#[82]⟩ ⟨#[88]⟩ uy um uk uw ud (us - x) z c _ (shL x qs) _ (by exact HT.out.below HB.out) (by exact HR2.out) HC2.out.tame HC2.out.bef (by rw [HB2.out]; exact HU2.out) HX.out (by omega) (by omega)).mono ?_
            rw [HB2.out, HNN2.out]
            rintro e w8 ⟨ob2, HBE2, he, hb⟩
            have hob : ob2 = ob := HBE2.out.uniq (sh_bef HSH.out HBE.out)
            rw [show (86400 * z + (us - x) - (o - x) : Int) = 86400 * z + us - o by omega] at he
            subst he
            have HB := Lib.hid (bel_trans HB.out hb)
            have HR2 := Lib.hid (Rul.below HR2.out hb)
            clear hb hob HF c0 c1 c2 c3 c4 c5 c6 c7 c8 c9 c10 c11 c12
            go_wp2_with fail
            refine (least_any _ (shL x qs) _ (by exact HR2.out)).mono ?_
            rw [HL2.out]
            rintro e w9 ⟨rfl, hb⟩
            have HB := Lib.hid (bel_trans HB.out hb)
            clear hb
            go_wp2_with fail
            refine (works_any _ (by exact HT.out.below HB.out)).mono ?_
            rintro e w10 ⟨rfl, hb⟩
            have HB := Lib.hid (bel_trans HB.out hb)
            clear hb
            go_wp2_with fail
            go_ret
            exact ⟨rfl, HB.out⟩
          · have HU2 := Lib.hid (show untC true uy um uk uw ud us 2 0 = 0 from unt_same (by decide) HU.out)
            have HNN := Lib.hid (show untN true uy um uk uw ud us 2 (-x) = 86400 * z + us by first | (rw [untN_not (by decide) HU.out HX.out]; done) | (rw [untN_not (by decide) HU.out HX.out]; omega))
            have HNN2 := Lib.hid (show untN true uy um uk uw ud us 2 0 = 86400 * z + us by first | (rw [untN_not (by decide) HU2.out HX.out]; done) | (rw [untN_not (by decide) HU2.out HX.out]; omega))
            go_upto_region 19 with fail
            have HF := Lib.hid (heap_alloc_new wr (.cells #[.int .i64 (o - x), .int .i64 2, .int .i64 0, .string ⟨#[82]⟩, .string ⟨#[88]⟩, .bool true, .int .i64 uy, .int .i64 um, .int .i64 uk, .int .i64 uw, .int .i64 ud, .int .i64 us, .int .i64 2] 45))
            have HX0 := Lib.hid (bel_alloc wr (.cells #[.int .i64 (o - x), .int .i64 2, .int .i64 0, .string ⟨#[82]⟩, .string ⟨#[88]⟩, .bool true, .int .i64 uy, .int .i64 um, .int .i64 uk, .int .i64 uw, .int .i64 ud, .int .i64 us, .int .i64 2] 45))
            have HE := Lib.hid (block_below HE.out HX0.out)
            have HB := Lib.hid (bel_trans HB.out HX0.out)
            have HR := Lib.hid (Rul.below HR.out HX0.out)
            have HR2 := Lib.hid (Rul.below HR2.out HX0.out)
            clear c0 c1 c2 c3 c4 c5 c6 c7 c8 c9 c10 c11 c12 HX0
            generalize hwF : wr.alloc (.cells #[.int .i64 (o - x), .int .i64 2, .int .i64 0, .string ⟨#[82]⟩, .string ⟨#[88]⟩, .bool true, .int .i64 uy, .int .i64 um, .int .i64 uk, .int .i64 uw, .int .i64 ud, .int .i64 us, .int .i64 2] 45) = wF at HE HB HR HR2 HF ⊢
            clear hwF
            have c0 := cellB HE.out (i := 0) rfl
            have c1 := cellB HE.out (i := 1) rfl
            have c2 := cellB HE.out (i := 2) rfl
            have c3 := cellB HE.out (i := 3) rfl
            have c4 := cellB HE.out (i := 4) rfl
            have c5 := cellB HE.out (i := 5) rfl
            have c6 := cellB HE.out (i := 6) rfl
            have c7 := cellB HE.out (i := 7) rfl
            have c8 := cellB HE.out (i := 8) rfl
            have c9 := cellB HE.out (i := 9) rfl
            have c10 := cellB HE.out (i := 10) rfl
            have c11 := cellB HE.out (i := 11) rfl
            have c12 := cellB HE.out (i := 12) rfl
            go_wp2_with fail
            refine (untNom_any true uy um uk uw ud us 2 (-x) _ (by exact HT.out.below HB.out) (by omega) (by omega)).mono ?_
            intro e w5 hq; obtain ⟨rfl, hb⟩ := NomU.to HNN.out HU.out _ _ hq; clear hq
            have HE := Lib.hid (block_below HE.out hb)
            have HF := Lib.hid (block_below HF.out hb)
            have HB := Lib.hid (bel_trans HB.out hb)
            have HR := Lib.hid (Rul.below HR.out hb)
            have HR2 := Lib.hid (Rul.below HR2.out hb)
            clear hb c0 c1 c2 c3 c4 c5 c6 c7 c8 c9 c10 c11 c12
            have c0 := cellB HF.out (i := 0) rfl
            have c1 := cellB HF.out (i := 1) rfl
            have c2 := cellB HF.out (i := 2) rfl
            have c3 := cellB HF.out (i := 3) rfl
            have c4 := cellB HF.out (i := 4) rfl
            have c5 := cellB HF.out (i := 5) rfl
            have c6 := cellB HF.out (i := 6) rfl
            have c7 := cellB HF.out (i := 7) rfl
            have c8 := cellB HF.out (i := 8) rfl
            have c9 := cellB HF.out (i := 9) rfl
            have c10 := cellB HF.out (i := 10) rfl
            have c11 := cellB HF.out (i := 11) rfl
            have c12 := cellB HF.out (i := 12) rfl
            go_wp2_with fail
            refine (untNom_any true uy um uk uw ud us 2 0 _ (by exact HT.out.below HB.out) (by omega) (by omega)).mono ?_
            intro e w6 hq; obtain ⟨rfl, hb⟩ := NomU.to HNN2.out HU2.out _ _ hq; clear hq
            have HE := Lib.hid (block_below HE.out hb)
            have HF := Lib.hid (block_below HF.out hb)
            have HB := Lib.hid (bel_trans HB.out hb)
            have HR := Lib.hid (Rul.below HR.out hb)
            have HR2 := Lib.hid (Rul.below HR2.out hb)
            clear hb c0 c1 c2 c3 c4 c5 c6 c7 c8 c9 c10 c11 c12
            have c0 := cellB HE.out (i := 0) rfl
            have c1 := cellB HE.out (i := 1) rfl
            have c2 := cellB HE.out (i := 2) rfl
            have c3 := cellB HE.out (i := 3) rfl
            have c4 := cellB HE.out (i := 4) rfl
            have c5 := cellB HE.out (i := 5) rfl
            have c6 := cellB HE.out (i := 6) rfl
            have c7 := cellB HE.out (i := 7) rfl
            have c8 := cellB HE.out (i := 8) rfl
            have c9 := cellB HE.out (i := 9) rfl
            have c10 := cellB HE.out (i := 10) rfl
            have c11 := cellB HE.out (i := 11) rfl
            have c12 := cellB HE.out (i := 12) rfl
            go_wp2_with fail
            refine (untInst22 o 0 ⟨#[82]⟩ ⟨#[88]⟩ uy um uk uw ud us z c _ qs _ (by exact HT.out.below HB.out) (by exact HR.out) HCQ.out.tame HCQ.out.bef (by rw [HLB.out]; exact HU.out) HX.out (by omega) (by omega)).mono ?_
            rw [HLB.out, HNN.out]
            rintro e w7 ⟨ob, HBE, rfl, hb⟩
            have hbs := HCQ.out.bef ob
            obtain ⟨sb, hsb⟩ : ∃ sb, sb = (befS qs ob).save := ⟨_, rfl⟩
            have HSB := Lib.hid hsb
            rw [← hsb] at hbs 
            clear hsb
            obtain ⟨bs1, bs2⟩ := hbs
            have HF := Lib.hid (block_below HF.out hb)
            have HB := Lib.hid (bel_trans HB.out hb)
            have HR2 := Lib.hid (Rul.below HR2.out hb)
            clear hb HE HR c0 c1 c2 c3 c4 c5 c6 c7 c8 c9 c10 c11 c12
            have c0 := cellB HF.out (i := 0) rfl
            have c1 := cellB HF.out (i := 1) rfl
            have c2 := cellB HF.out (i := 2) rfl
            have c3 := cellB HF.out (i := 3) rfl
            have c4 := cellB HF.out (i := 4) rfl
            have c5 := cellB HF.out (i := 5) rfl
            have c6 := cellB HF.out (i := 6) rfl
            have c7 := cellB HF.out (i := 7) rfl
            have c8 := cellB HF.out (i := 8) rfl
            have c9 := cellB HF.out (i := 9) rfl
            have c10 := cellB HF.out (i := 10) rfl
            have c11 := cellB HF.out (i := 11) rfl
            have c12 := cellB HF.out (i := 12) rfl
            go_wp2_with fail
            refine (untInst22 (o - x) 0 ⟨#[82]⟩ ⟨#[88]⟩ uy um uk uw ud us z c _ (shL x qs) _ (by exact HT.out.below HB.out) (by exact HR2.out) HC2.out.tame HC2.out.bef (by rw [HB2.out]; exact HU2.out) HX.out (by omega) (by omega)).mono ?_
            rw [HB2.out, HNN2.out]
            rintro e w8 ⟨ob2, HBE2, he, hb⟩
            have hob : ob2 = ob := HBE2.out.uniq (sh_bef HSH.out HBE.out)
            rw [show (86400 * z + us : Int) = 86400 * z + us by omega] at he
            subst he
            have HB := Lib.hid (bel_trans HB.out hb)
            have HR2 := Lib.hid (Rul.below HR2.out hb)
            clear hb hob HF c0 c1 c2 c3 c4 c5 c6 c7 c8 c9 c10 c11 c12
            go_wp2_with fail
            refine (least_any _ (shL x qs) _ (by exact HR2.out)).mono ?_
            rw [HL2.out]
            rintro e w9 ⟨rfl, hb⟩
            have HB := Lib.hid (bel_trans HB.out hb)
            clear hb
            go_wp2_with fail
            refine (works_any _ (by exact HT.out.below HB.out)).mono ?_
            rintro e w10 ⟨rfl, hb⟩
            have HB := Lib.hid (bel_trans HB.out hb)
            clear hb
            go_wp2_with fail
            go_ret
            exact ⟨rfl, HB.out⟩

set_option maxRecDepth 100000 in
theorem untilShift.untilShift_walk (W : World) (hL : laidMetH Tryd.prog Rows.untilShiftRow.laid W) (v : Value) {H : Type} {enc : TypeId × Value → H} {base : Nat} {d : DataW H} {p : List MemPlace} (hv : Value.okWide Tryd.prog W .any base 38 v)
    (h : DataW.Trod enc Tryd.prog W 0 (fun _ => true) true 38 v d p) (o : Int) (wo : (Lit.int .i32 o).wf = true) (v' : Value) {base' : Nat} {d' : DataW H} {p' : List MemPlace} (hv' : Value.okWide Tryd.prog W .any base' 40 v')
    (h' : DataW.Trod enc Tryd.prog W 0 (fun _ => true) true 40 v' d' p') :
    Calls Tryd.prog 5 #[v, .int .i32 o, v'] W fun e w' => e = .returned (.bool true) ∧ Below W.heap.size W w' := by
  obtain ⟨y, m, b, k, w, n, a, rfl, w0, w1, w2, w3, w4, w5, w6⟩ := draft_of hv h
  obtain ⟨bs, hD⟩ := drf_of hv' h'
  obtain ⟨o1, o2⟩ := i32_bd wo
  exact untShift_core o y m b k w n a v' bs W ⟨tab_of hL, ktab_of hL⟩ hD o1 o2 w0 w1 w2 w3 w4 w5 w6
end Go.Proofs.YtoaimfadccepiaaDoor
