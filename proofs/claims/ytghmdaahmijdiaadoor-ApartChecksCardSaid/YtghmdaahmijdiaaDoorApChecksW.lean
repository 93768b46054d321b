/-
  The walk of the law ApartChecks.
-/
import Derived.Test.YtghmdaahmijdiaaDoorApEx
import Derived.Test.YtghmdaahmijdiaaDoorApRC
import Derived.Test.YtghmdaahmijdiaaDoorEvClone
import Derived.Test.YtghmdaahmijdiaaDoorApMoreW
namespace Go.Proofs.YtghmdaahmijdiaaDoor
open Go.RowKit Cv
set_option linter.unusedVariables false
set_option linter.unusedSimpArgs false

set_option maxRecDepth 100000 in
set_option maxHeartbeats 16000000 in
theorem apChecks_core (v : Value) (rs : _root_.List Ru) (W : World) (hT : Tabs W) (h : Rul v rs W) (hc : ∀ n cap, v = .slice none n cap → cap = 0) (hl : rs.length ≤ 6) :
    Calls Tryd.prog 3 #[v] W fun e w' => e = .returned (.bool true) ∧ Below W.heap.size W w' := by
  have heq := eqEv
  have HT := Lib.hid hT
  have H := Lib.hid h
  have HF := Lib.hid (show ∀ r ∈ rs, r.fits from fun r hr => by obtain ⟨i, hi⟩ := _root_.List.mem_iff_getElem?.1 hr; exact h.fits hi)
  obtain ⟨A, cap, rfl⟩ := h.sl
  have HCAP := Lib.hid (show A = none → cap = 0 from fun e => by subst e; exact hc _ _ rfl)
  obtain ⟨n, hN⟩ : ∃ n, n = rs.length := ⟨_, rfl⟩
  rw [← hN] at hl H ⊢
  have HN := Lib.hid hN
  clear hT h hN hc
  have hnl : (n : Int) ≤ 6 := by omega
  obtain ⟨i0, hi, hz0, hzs, hzb⟩ := info_parts infoRu
  have hne := neRu
  have HS1 := Lib.hid (show (W.alloc (.cells #[] 34)).heap.size = W.heap.size + 1 by simp)
  have HO := Lib.hid (show (W.alloc (.cells #[] 34)).ownsRow W.heap.size 34 11 (.slice (some ⟨W.heap.size, 0, none⟩) 0 0) 0 [] from own_none_at rfl (Nat.le_refl _))
  go_enter Tryd.func3, Tryd.ntmps3
  go_upto_region 3 with fail
  go_cut [3] (fun s w' => ∃ s' : Value, s = s' ∧ Hid (Rul s' rs w') ∧ Hid (Below W.heap.size W w'))
  case first =>
    cases A with
    | none =>
      have hx : rs = [] := by
        cases rs with
        | nil => rfl
        | cons r l => obtain ⟨g, off, e, _⟩ := H.out.at_ (i := 0) rfl; cases e
      have hn0 : n = 0 := by rw [HN.out, hx]; rfl
      have hc0 : cap = 0 := HCAP.out rfl
      have HX := Lib.hid hx
      subst hn0
      subst hc0
      clear hx
      have HR := Lib.hid (show Rul (.slice (some ⟨W.heap.size, 0, none⟩) 0 0) rs (W.alloc (.cells #[] 34)) by rw [HX.out]; exact rul_of_own HO.out (by simp) (by simp))
      go_wp2_with (at_builtin; refine wpList_append_own_none rfl (.tmp 13) (.tmp 14) 22 rfl W.heap.size 34 i0 11 Tryd.underlying22 hi _ 0 [] (by rfl) HO.out (by rfl) ?_)
      go_meet
      case rel => exact ⟨_, rfl, HR, Lib.hid (bel_alloc W _)⟩
    | some ad =>
      go_wp2_with (at_builtin; refine wpList_append_own _ rfl (.tmp 13) (.tmp 14) 22 rfl W.heap.size 34 i0 (.agg #[.string ⟨#[]⟩, .int .i64 0, .int .i64 0, .int .i64 0, .int .i64 0, .int .i64 0, .int .i64 0, .int .i64 0, .int .i64 0, .int .i64 0, .string ⟨#[]⟩]) 11 104 Tryd.underlying22 hi hz0 hzs hzb rfl (by decide) _ 0 [] rfl HO.out ad n cap (flatRu rs) rfl (by rw [flatRu_len, HN.out]) (fun j u hu => cell_below (bel_alloc W _) (H.out.news j u hu)) (flat_one rs) (by unfold maxLen; omega) (by omega) (by simp) ?_; intro v1 w1 hown1 hgrow1 hnil1)
      have HR := Lib.hid (show Rul v1 rs w1 from rul_of_own (by have h1 := hown1; rw [Nat.zero_add, HN.out] at h1; simpa using h1) (by rw [← HN.out]; omega) HF.out)
      have HB := Lib.hid (Below.grown (bel_alloc W _) hgrow1 (by simp) (fun k hk => (HO.out.lt k (by exact hk)).1))
      go_meet
      case rel => exact ⟨_, rfl, HR, HB⟩
  case rest =>
    obtain ⟨s', rfl, HM, HB⟩ := hcut
    obtain ⟨A2, c2, hs2⟩ := HM.out.sl
    rw [← HN.out] at hs2
    subst hs2
    go_wp2_with fail
    refine (apCheck_any _ rs _ (by exact HT.out.below HB.out) (by exact H.out.below HB.out)).mono ?_
    rintro e w3 ⟨o1, hp1, he, hb⟩
    obtain ⟨ay, ar, an, ac, hv⟩ := chkV_ex o1
    rw [hv] at he
    subst he
    have HB := Lib.hid (bel_trans (bel_trans HB.out hb) (bel_alloc w3 (.cells #[.int .i64 ay, .int .i64 ar, .int .i64 an] 25)))
    have HM := Lib.hid (Rul.below HM.out (bel_trans hb (bel_alloc w3 (.cells #[.int .i64 ay, .int .i64 ar, .int .i64 an] 25))))
    have HE1 := Lib.hid (heap_alloc_new w3 (.cells #[.int .i64 ay, .int .i64 ar, .int .i64 an] 25))
    have HV1 := Lib.hid hv
    have HP1 := hp1
    clear hb hv hp1
    go_wp2_with fail
    refine (refCheck18_any _ rs _ (by exact H.out.below HB.out)).mono ?_
    intro e w4 hq; obtain ⟨rfl, hb⟩ := ChkR.to (v := .tuple #[.agg #[.int .i64 ay, .int .i64 ar, .int .i64 an], .int .i64 ac]) HP1.out HV1.out _ _ hq; clear hq
    have HB := Lib.hid (bel_trans (bel_trans HB.out hb) (bel_alloc w4 (.cells #[.int .i64 ay, .int .i64 ar, .int .i64 an] 25)))
    have HM := Lib.hid (Rul.below HM.out (bel_trans hb (bel_alloc w4 (.cells #[.int .i64 ay, .int .i64 ar, .int .i64 an] 25))))
    have HE1 := Lib.hid (block_below HE1.out (bel_trans hb (bel_alloc w4 (.cells #[.int .i64 ay, .int .i64 ar, .int .i64 an] 25))))
    have HE2 := Lib.hid (heap_alloc_new w4 (.cells #[.int .i64 ay, .int .i64 ar, .int .i64 an] 25))
    obtain ⟨wb, hwb⟩ : ∃ wb : World, wb = w4.alloc (.cells #[.int .i64 ay, .int .i64 ar, .int .i64 an] 25) := ⟨_, rfl⟩
    have HWB := Lib.hid hwb
    clear hb hwb
    go_wp2_with fail
    go_loopw [8] (fun i wr => ∃ (k : Nat) (wq : World), k ≤ n ∧ i = .int .i64 (k : Int) ∧ wr = wq ∧ Hid (Below (w4.alloc (.cells #[.int .i64 ay, .int .i64 ar, .int .i64 an] 25)).heap.size (w4.alloc (.cells #[.int .i64 ay, .int .i64 ar, .int .i64 an] 25)) wq)) (fun i _ => n - (intOf i).toNat)
    case atStart => exact ⟨0, _, by omega, rfl, rfl, Lib.hid (Below.refl _ _)⟩
    case round =>
      obtain ⟨k, wq, hk, rfl, rfl, HBq⟩ := hrel
      by_cases hlt : k < n
      · obtain ⟨r, hr⟩ : ∃ r, rs[k]? = some r := by rw [_root_.List.getElem?_eq_getElem (by rw [← HN.out]; exact hlt)]; exact ⟨_, rfl⟩
        obtain ⟨g1, o1, rfl, hr1⟩ := (H.out.below (bel_trans HB.out HBq.out)).at_ hr
        obtain ⟨g2, o2, rfl, hr2⟩ := (HM.out.below HBq.out).at_ hr
        obtain ⟨na, fr, ut, mo, kk, w, d, sec, base, save, le⟩ := r
        obtain ⟨a0, a1, a2, a3, a4, a5, a6, a7, a8, a9, a10⟩ := range11 hr1
        obtain ⟨b0, b1, b2, b3, b4, b5, b6, b7, b8, b9, b10⟩ := range11 hr2
        dsimp only at a0 a1 a2 a3 a4 a5 a6 a7 a8 a9 a10 b0 b1 b2 b3 b4 b5 b6 b7 b8 b9 b10
        have hk0 : (0 : Int) ≤ (k : Int) := by omega
        have hk1 : (k : Int) < (n : Int) := by omega
        clear hr hr1 hr2
        go_wp2_with fail
        go_quiet (fail)
        have HBq2 := Lib.hid (bel_drew HBq.out nq)
        clear a0 a1 a2 a3 a4 a5 a6 a7 a8 a9 a10 b0 b1 b2 b3 b4 b5 b6 b7 b8 b9 b10
        go_wp2_with fail
        go_round
        case rel => exact ⟨k + 1, _, by omega, by go_num, rfl, HBq2⟩
        case measure => simp [intOf]; omega
      · obtain rfl : k = n := by omega
        have HE1 := Lib.hid (block_below HE1.out HBq.out)
        have HE2 := Lib.hid (block_below HE2.out HBq.out)
        have HB := Lib.hid (bel_trans HB.out HBq.out)
        have x0 := cellB HE1.out (i := 0) rfl
        have x1 := cellB HE1.out (i := 1) rfl
        have x2 := cellB HE1.out (i := 2) rfl
        have y0 := cellB HE2.out (i := 0) rfl
        have y1 := cellB HE2.out (i := 1) rfl
        have y2 := cellB HE2.out (i := 2) rfl
        go_wp2_with fail
        refine (works18_any _ (by exact HT.out.below HB.out)).mono ?_
        rintro e w5 ⟨rfl, hb⟩
        go_wp2_with fail
        go_ret
        exact ⟨rfl, bel_trans HB.out hb⟩

set_option maxRecDepth 100000 in
theorem apartChecks.apartChecks_walk (W : World) (hL : laidMetH Tryd.prog Rows.apartChecksRow.laid W) (v : Value) {H : Type} {enc : TypeId × Value → H} {base : Nat} {d : DataW H} {p : List MemPlace} (hv : Value.okWide Tryd.prog W .any base 22 v)
    (h : DataW.Trod enc Tryd.prog W 0 (fun _ => true) true 22 v d p) :
    Calls Tryd.prog 3 #[v] W fun e w' => e = .returned (.bool true) ∧ Below W.heap.size W w' := by
  obtain ⟨A, n, cap, rfl, hn, hrs⟩ := rules_of hv h
  by_cases h8 : n ≤ 6
  · obtain ⟨rs, hl, hR, _⟩ := hrs (by omega)
    exact apChecks_core _ rs W ⟨tab_of hL, ktab_of hL⟩ hR (fun n cap e => nil_cap h e) (by omega)
  · have HT := Lib.hid (show Tabs W from ⟨tab_of hL, ktab_of hL⟩)
    have hn8 : (6 : Int) < (n : Int) := by omega
    clear hrs h hv hL
    go_enter Tryd.func3, Tryd.ntmps3
    go_wp2_with fail
    refine (works18_any _ (by exact HT.out)).mono ?_
    rintro e w' ⟨rfl, hb⟩
    go_wp2_with fail
    go_ret
    exact ⟨rfl, hb⟩
end Go.Proofs.YtghmdaahmijdiaaDoor
