/-
  The walk of the law StateBetween.
-/
import Derived.Test.YtophiphhgcmjpaaDoorStEq
import Derived.Test.YtophiphhgcmjpaaDoorStLawM
import Derived.Test.YtophiphhgcmjpaaDoorDrArg
import Derived.Deep.DeepCutAuto
namespace Go.Proofs.YtophiphhgcmjpaaDoor
open Go.RowKit Cv
set_option linter.unusedVariables false
set_option linter.unusedSimpArgs false

set_option maxRecDepth 100000 in
set_option maxHeartbeats 32000000 in
theorem stBet_core (v : Value) (bs : _root_.List Int) (x n p q : Int) (W : World) (hT : Tabs W) (h : Drf v bs W) (hx1 : -2147483648 ≤ x) (hx2 : x ≤ 2147483647) (hn1 : 0 ≤ n) (hn2 : n ≤ 18446744073709551615) (hp : Hid (x.tmod 43201 = p)) (hq : Hid (n % 8362592280 = q)) (hp1 : -43200 ≤ p) (hp2 : p ≤ 43200) (hq1 : 0 ≤ q) (hq2 : q < 8362592280) :
    Calls Tryd.prog 5 #[v, .int .i32 x, .int .u64 n] W fun e w' => e = .returned (.bool true) ∧ Below W.heap.size W w' := by
  have hes := eqSta
  have hns := neSta
  have HT := Lib.hid hT
  have HD := Lib.hid h
  clear hT h
  go_enter Tryd.func5, Tryd.ntmps5
  go_wp2_with fail
  refine (made17s_any _ bs ⟨#[82]⟩ _ (by exact HD.out)).mono ?_
  rintro e w1 ⟨ov, rs, sv, rfl, h2, h5, hmp, _, hown, hb1⟩
  have HMP := Lib.hid hmp
  have HR := Lib.hid (rul_of_own hown (by omega) (fun r hr => (hmp.each r hr).ok.fits))
  have HB := Lib.hid hb1
  clear hmp hown hb1 h2 h5 HD
  obtain ⟨Al, cl, hol⟩ := HR.out.sl
  obtain ⟨nl, hnl⟩ : ∃ nl, nl = rs.length := ⟨_, rfl⟩
  rw [← hnl] at hol
  subst hol
  have HN := Lib.hid hnl
  clear hnl
  go_wp2_with fail
  refine (at19_any x n p q _ (by exact HT.out.below HB.out) hx1 hx2 hn1 hn2 hp.out hq.out).mono ?_
  rintro e w2 ⟨rfl, kd, hw2⟩
  have hbd : Below w1.heap.size w1 w2 := by subst hw2; exact bel_drew (Below.refl _ _) _
  clear hw2
  have HB := Lib.hid (bel_trans HB.out hbd)
  have HR := Lib.hid (HR.out.below hbd)
  clear hbd
  have hsa := Lib.hid (show ∀ r ∈ rs, -10800 ≤ r.save ∧ r.save ≤ 10800 from fun r hr => by have := made_sav HMP.out r hr; omega)
  go_wp2_with fail
  refine (evBefore_any _ rs (-2366755200 + q) _ (by exact HT.out.below HB.out) (by exact HR.out) (by omega) (by omega)).mono ?_
  intro e w3 hqq; obtain ⟨o, ho, he, hb⟩ := hqq
  cases o with
  | none =>
    obtain rfl : e = .returned (.tuple #[.agg #[.int .i64 0, .int .i64 0, .int .i64 0], .bool false]) := he
    have HX := Lib.hid (bel_trans hb (bel_alloc w3 (.cells #[.int .i64 0, .int .i64 0, .int .i64 0] 31)))
    have HB := Lib.hid (bel_trans HB.out HX.out)
    have HR := Lib.hid (HR.out.below HX.out)
    obtain ⟨s, hs⟩ : ∃ s, s = initS rs := ⟨_, rfl⟩
    obtain ⟨ss, sl⟩ := s
    have HS := Lib.hid hs
    clear hb hs
    go_wp2_with fail
    refine (stBefore_any _ rs (-2366755200 + q) _ (by exact HT.out.below HB.out) (by exact HR.out) (made_tame HMP.out) (by omega) (by omega)).mono ?_
    intro e w4 hqq; obtain ⟨rfl, hb⟩ := BefR.to (v := .agg #[.int .i64 ss, .string sl]) ho.out (by unfold befS; rw [← HS.out]; rfl) _ _ hqq; clear hqq
    have HB := Lib.hid (bel_trans HB.out hb)
    have HR := Lib.hid (HR.out.below hb)
    clear hb
    go_wp2_with fail
    refine (initial_any _ rs _ (by exact HT.out.below HB.out) (by exact HR.out) (made_tame HMP.out)).mono ?_
    intro e w5 hqq; obtain ⟨rfl, hb⟩ := StaR.to (v := .agg #[.int .i64 ss, .string sl]) (by rw [← HS.out]; rfl) _ _ hqq; clear hqq
    have HB := Lib.hid (bel_trans HB.out hb)
    clear hb
    go_wp2_with fail
    refine (works19_any _ (by exact HT.out.below HB.out)).mono ?_
    rintro e w6 ⟨rfl, hb⟩
    go_wp2_with fail
    go_ret
    exact ⟨rfl, bel_trans HB.out hb⟩
  | some xe =>
    have HEV := Lib.hid ho.out.1
    obtain ⟨xy, xr, xn⟩ := xe
    obtain rfl : e = .returned (.tuple #[.agg #[.int .i64 xy, .int .i64 xr, .int .i64 xn], .bool true]) := he
    obtain ⟨r, hr⟩ := ev_rule ho.out.1
    obtain ⟨hn3, hn4⟩ := ev_nomfit ho.out.1
    obtain ⟨k, hk, hk1, hkl⟩ := ruleAt_ex hr
    dsimp only at hk hr hn3 hn4
    subst hk
    have HRU := Lib.hid hr
    have HX := Lib.hid (bel_trans hb (bel_alloc w3 (.cells #[.int .i64 xy, .int .i64 (k : Int), .int .i64 xn] 31)))
    have HB := Lib.hid (bel_trans HB.out HX.out)
    have HR := Lib.hid (HR.out.below HX.out)
    have K10 := Lib.hid (heap_alloc_new w3 (.cells #[.int .i64 xy, .int .i64 (k : Int), .int .i64 xn] 31))
    clear hb hr
    obtain ⟨g, off, rfl, hrg⟩ := HR.out.at_ hk1
    obtain ⟨na, fr, ut, mo, kk, ww, dd, sec, base, save, le⟩ := r
    obtain ⟨_, _, _, _, _, _, _, _, _, a9, a10⟩ := range11 hrg
    dsimp only at a9 a10
    have HBE := Lib.hid (show behS rs ⟨xy, (k : Int), xn⟩ = ⟨save, le⟩ by unfold behS; rw [HRU.out])
    have hk0 : (0 : Int) ≤ (k : Int) := by omega
    have hk2 : (k : Int) < (nl : Int) := by have := HN.out; omega
    have hk3 : ¬ (k : Int) < 0 := by omega
    have hk4 : decide ((nl : Int) ≤ (k : Int)) = false := by simp; omega
    have x0 := cellB K10.out (i := 0) rfl
    have x1 := cellB K10.out (i := 1) rfl
    have x2 := cellB K10.out (i := 2) rfl
    clear hk1 hkl hrg
    have b9 := cell_below (bel_alloc (w3.alloc (.cells #[.int .i64 xy, .int .i64 (k : Int), .int .i64 xn] 31)) (.cells #[.int .i64 0, .string ⟨#[]⟩] 39)) a9
    have b10 := cell_below (bel_alloc (w3.alloc (.cells #[.int .i64 xy, .int .i64 (k : Int), .int .i64 xn] 31)) (.cells #[.int .i64 0, .string ⟨#[]⟩] 39)) a10
    go_wp2_with fail
    go_region
    clear a9 a10 b9 b10 x0 x1 x2
    have hb : Below (w3.alloc (.cells #[.int .i64 xy, .int .i64 (k : Int), .int .i64 xn] 31)).heap.size (w3.alloc (.cells #[.int .i64 xy, .int .i64 (k : Int), .int .i64 xn] 31)) ((w3.alloc (.cells #[.int .i64 xy, .int .i64 (k : Int), .int .i64 xn] 31)).alloc (.cells #[.int .i64 save, .string le] 39)).drew := Below.drew (bel_alloc _ _)
    have K12 := Lib.hid (show ((w3.alloc (.cells #[.int .i64 xy, .int .i64 (k : Int), .int .i64 xn] 31)).alloc (.cells #[.int .i64 save, .string le] 39)).drew.heap[w3.heap.size + 1]? = some (.cells #[.int .i64 save, .string le] 39) from al_new (by simp))
    have HB := Lib.hid (bel_trans HB.out hb)
    have HR := Lib.hid (HR.out.below hb)
    have K10 := Lib.hid (block_below K10.out hb)
    clear hb
    obtain ⟨w4, hw4⟩ : ∃ w4 : World, w4 = ((w3.alloc (.cells #[.int .i64 xy, .int .i64 (k : Int), .int .i64 xn] 31)).alloc (.cells #[.int .i64 save, .string le] 39)).drew := ⟨_, rfl⟩
    rw [← hw4] at HB HR K10 K12 ⊢
    clear hw4
    have x0 := cellB K10.out (i := 0) rfl
    have x1 := cellB K10.out (i := 1) rfl
    have x2 := cellB K10.out (i := 2) rfl
    go_wp2_with fail
    clear x0 x1 x2
    refine (instant_any _ rs xy (k : Int) xn p _ (by exact HT.out.below HB.out) (by exact HR.out) (made_tame HMP.out) (made_savOk HMP.out) ⟨_, HRU.out⟩ (by omega) (by omega) (by omega) (by omega)).mono ?_
    rintro e w5 ⟨z, hz, rfl, hb⟩
    have hnr := inst_near hsa.out ⟨hp1, hp2⟩ hz.out
    dsimp only at hnr
    obtain ⟨hz1, hz2⟩ := hnr
    have HZ := hz
    have HB := Lib.hid (bel_trans HB.out hb)
    have HR := Lib.hid (HR.out.below hb)
    have K10 := Lib.hid (block_below K10.out hb)
    have K12 := Lib.hid (block_below K12.out hb)
    clear hb hz
    have HWD := Lib.hid (made_wide HMP.out)
    have HAO := Lib.hid (at_own HWD.out hsa.out ⟨hp1, hp2⟩ HEV.out HZ.out)
    obtain ⟨wl, hwl⟩ : ∃ wl : World, wl = w5 := ⟨_, rfl⟩
    rw [← hwl] at HB HR K10 K12 ⊢
    clear hwl
    have hbd : Below wl.heap.size wl wl.drew := Below.drew (Below.refl _ _)
    have HB := Lib.hid (bel_trans HB.out hbd)
    have HR := Lib.hid (HR.out.below hbd)
    have K10 := Lib.hid (block_below K10.out hbd)
    have K12 := Lib.hid (block_below K12.out hbd)
    clear hbd
    go_wp2_with fail
    refine wp_region_held_drew (S := (fun w' => w'.cell? ⟨w3.heap.size, 0, none⟩ = some (.int .i64 xy) ∧ w'.cell? ⟨w3.heap.size, 1, none⟩ = some (.int .i64 (k : Int)) ∧ w'.cell? ⟨w3.heap.size, 2, none⟩ = some (.int .i64 xn) ∧ w'.cell? ⟨w3.heap.size + 1, 0, none⟩ = some (.int .i64 save) ∧ w'.cell? ⟨w3.heap.size + 1, 1, none⟩ = some (.string le))) (by kernel_rfl) (by exact ⟨cellB (block_below K10.out (Below.refl _ _)) (i := 0) rfl, cellB (block_below K10.out (Below.refl _ _)) (i := 1) rfl, cellB (block_below K10.out (Below.refl _ _)) (i := 2) rfl, cellB (block_below K12.out (Below.refl _ _)) (i := 0) rfl, cellB (block_below K12.out (Below.refl _ _)) (i := 1) rfl⟩) (fun hHeld => ?_)
    refine wpAnyH_take (i := 0) (v := ?_) rfl (by kernel_rfl) (by kernel_rfl) (by kernel_rfl) (fun _ _ _ h => h) (Or.inl ⟨by rfl, ?_⟩) (by assumption) ?_
    rotate_left 1
    · (intro w hSw; (try dsimp only at hSw); first | (go_simp; done) | (go_simp; with_reducible rfl))
    try simp only [Act.put, List.getElem_toArray, List.getElem_cons_succ, List.getElem_cons_zero, List.setIfInBounds_toArray, List.set_cons_zero, List.set_cons_succ]
    refine wpAnyH_take (i := 1) (v := ?_) rfl (by kernel_rfl) (by kernel_rfl) (by kernel_rfl) (fun _ _ _ h => h) (Or.inl ⟨by rfl, ?_⟩) (by assumption) ?_
    rotate_left 1
    · (intro w hSw; (try dsimp only at hSw); first | (go_simp; done) | (go_simp; with_reducible rfl))
    try simp only [Act.put, List.getElem_toArray, List.getElem_cons_succ, List.getElem_cons_zero, List.setIfInBounds_toArray, List.set_cons_zero, List.set_cons_succ]
    refine wpAnyH_take (i := 3) (v := ?_) rfl (by kernel_rfl) (by kernel_rfl) (by kernel_rfl) (fun _ _ _ h => h) (Or.inl ⟨by rfl, ?_⟩) (by assumption) ?_
    rotate_left 1
    · (intro w hSw; (try dsimp only at hSw); first | (go_simp; done) | (go_simp; with_reducible rfl))
    try simp only [Act.put, List.getElem_toArray, List.getElem_cons_succ, List.getElem_cons_zero, List.setIfInBounds_toArray, List.set_cons_zero, List.set_cons_succ]
    refine wpAnyH_ready (rs := [2]) (by kernel_rfl) (by simp) ?_
    refine AllReadyH.cons rfl (fun K hK => ?_) AllReadyH.nil
    go_simp
    refine (stBefore_any _ rs (-2366755200 + q) _ (by exact HT.out.below HB.out) (by exact HR.out) (made_tame HMP.out) (by omega) (by omega)).mono ?_
    intro e w20 hq; obtain ⟨rfl, hb20⟩ := BefR.to (v := .agg #[.int .i64 save, .string le]) ho.out (by unfold befS; simp only; rw [HBE.out]; rfl) _ _ hq; clear hq
    go_wp2_with fail
    refine hK.out _ _ ?_ (fun hHeld => ?_)
    · exact ⟨cellB (block_below K10.out hb20) (i := 0) rfl, cellB (block_below K10.out hb20) (i := 1) rfl, cellB (block_below K10.out hb20) (i := 2) rfl, cellB (block_below K12.out hb20) (i := 0) rfl, cellB (block_below K12.out hb20) (i := 1) rfl⟩
    clear hK K
    try simp only [Act.put, List.getElem_toArray, List.getElem_cons_succ, List.getElem_cons_zero, List.setIfInBounds_toArray, List.set_cons_zero, List.set_cons_succ]
    have HB := Lib.hid (bel_trans HB.out hb20)
    have HR := Lib.hid (HR.out.below hb20)
    have K10 := Lib.hid (block_below K10.out hb20)
    have K12 := Lib.hid (block_below K12.out hb20)
    refine wpAnyH_take (i := 4) (v := ?_) rfl (by kernel_rfl) (by kernel_rfl) (by kernel_rfl) (fun _ _ _ h => h) (Or.inl ⟨by rfl, ?_⟩) (by assumption) ?_
    rotate_left 1
    · (intro w hSw; (try dsimp only at hSw); first | (go_simp; done) | (go_simp; with_reducible rfl))
    try simp only [Act.put, List.getElem_toArray, List.getElem_cons_succ, List.getElem_cons_zero, List.setIfInBounds_toArray, List.set_cons_zero, List.set_cons_succ]
    refine wpAnyH_take (i := 5) (v := ?_) rfl (by kernel_rfl) (by kernel_rfl) (by kernel_rfl) (fun _ _ _ h => h) (Or.inl ⟨by rfl, ?_⟩) (by assumption) ?_
    rotate_left 1
    · (intro w hSw; (try dsimp only at hSw); first | (go_simp; done) | (go_simp; with_reducible rfl))
    try simp only [Act.put, List.getElem_toArray, List.getElem_cons_succ, List.getElem_cons_zero, List.setIfInBounds_toArray, List.set_cons_zero, List.set_cons_succ]
    refine wpAnyH_take (i := 6) (v := ?_) rfl (by kernel_rfl) (by kernel_rfl) (by kernel_rfl) (fun _ _ _ h => h) (Or.inl ⟨by rfl, ?_⟩) (by assumption) ?_
    rotate_left 1
    · (intro w hSw; (try dsimp only at hSw); first | (go_simp; done) | (go_simp; with_reducible rfl))
    try simp only [Act.put, List.getElem_toArray, List.getElem_cons_succ, List.getElem_cons_zero, List.setIfInBounds_toArray, List.set_cons_zero, List.set_cons_succ]
    refine wpAnyH_take (i := 7) (v := ?_) rfl (by kernel_rfl) (by kernel_rfl) (by kernel_rfl) (fun _ _ _ h => h) (Or.inl ⟨by rfl, ?_⟩) (by assumption) ?_
    rotate_left 1
    · (intro w hSw; (try dsimp only at hSw); first | (go_simp; done) | (go_simp; with_reducible rfl))
    try simp only [Act.put, List.getElem_toArray, List.getElem_cons_succ, List.getElem_cons_zero, List.setIfInBounds_toArray, List.set_cons_zero, List.set_cons_succ]
    refine wpAnyH_take (i := 8) (v := ?_) rfl (by kernel_rfl) (by kernel_rfl) (by kernel_rfl) (fun _ _ _ h => h) (Or.inl ⟨by rfl, ?_⟩) (by assumption) ?_
    rotate_left 1
    · (intro w hSw; (try dsimp only at hSw); first | (go_simp; done) | (go_simp; with_reducible rfl))
    try simp only [Act.put, List.getElem_toArray, List.getElem_cons_succ, List.getElem_cons_zero, List.setIfInBounds_toArray, List.set_cons_zero, List.set_cons_succ]
    refine wpAnyH_take (i := 10) (v := ?_) rfl (by kernel_rfl) (by kernel_rfl) (by kernel_rfl) (fun _ _ _ h => h) (Or.inl ⟨by rfl, ?_⟩) (by assumption) ?_
    rotate_left 1
    · (intro w hSw; (try dsimp only at hSw); first | (go_simp; done) | (go_simp; with_reducible rfl))
    try simp only [Act.put, List.getElem_toArray, List.getElem_cons_succ, List.getElem_cons_zero, List.setIfInBounds_toArray, List.set_cons_zero, List.set_cons_succ]
    refine wpAnyH_ready (rs := [9]) (by kernel_rfl) (by simp) ?_
    refine AllReadyH.cons rfl (fun K hK => ?_) AllReadyH.nil
    go_simp
    refine (stAt_any _ rs p z _ (by exact HT.out.below HB.out) (by exact HR.out) (made_tame HMP.out) (made_savOk HMP.out) (by omega) (by omega) (by omega) (by omega)).mono ?_
    intro e w21 hq; obtain ⟨rfl, hb21⟩ := AtR.to (v := .agg #[.int .i64 save, .string le]) HAO.out (by rw [HBE.out]; rfl) _ _ hq; clear hq
    go_wp2_with fail
    refine hK.out _ _ ?_ (fun hHeld => ?_)
    · exact ⟨cellB (block_below K10.out hb21) (i := 0) rfl, cellB (block_below K10.out hb21) (i := 1) rfl, cellB (block_below K10.out hb21) (i := 2) rfl, cellB (block_below K12.out hb21) (i := 0) rfl, cellB (block_below K12.out hb21) (i := 1) rfl⟩
    clear hK K
    try simp only [Act.put, List.getElem_toArray, List.getElem_cons_succ, List.getElem_cons_zero, List.setIfInBounds_toArray, List.set_cons_zero, List.set_cons_succ]
    have HB := Lib.hid (bel_trans HB.out hb21)
    have HR := Lib.hid (HR.out.below hb21)
    have K10 := Lib.hid (block_below K10.out hb21)
    have K12 := Lib.hid (block_below K12.out hb21)
    refine wpAnyH_take (i := 11) (v := ?_) rfl (by kernel_rfl) (by kernel_rfl) (by kernel_rfl) (fun _ _ _ h => h) (Or.inl ⟨by rfl, ?_⟩) (by assumption) ?_
    rotate_left 1
    · (intro w hSw; (try dsimp only at hSw); first | (go_simp; done) | (go_simp; with_reducible rfl))
    try simp only [Act.put, List.getElem_toArray, List.getElem_cons_succ, List.getElem_cons_zero, List.setIfInBounds_toArray, List.set_cons_zero, List.set_cons_succ]
    refine wpAnyH_take (i := 12) (v := ?_) rfl (by kernel_rfl) (by kernel_rfl) (by kernel_rfl) (fun _ _ _ h => h) (Or.inl ⟨by rfl, ?_⟩) (by assumption) ?_
    rotate_left 1
    · (intro w hSw; (try dsimp only at hSw); first | (go_simp; done) | (go_simp; with_reducible rfl))
    try simp only [Act.put, List.getElem_toArray, List.getElem_cons_succ, List.getElem_cons_zero, List.setIfInBounds_toArray, List.set_cons_zero, List.set_cons_succ]
    refine wpAnyH_done (by kernel_rfl) ?_ _
    go_wp2_with fail
    have x0 := cellB K10.out (i := 0) rfl
    have x1 := cellB K10.out (i := 1) rfl
    have x2 := cellB K10.out (i := 2) rfl
    go_wp2_with fail
    clear x0 x1 x2
    refine (evAfter_any _ rs xn _ (by exact HT.out.below HB.out) (by exact HR.out) (by omega) (by omega)).mono ?_
    intro e w6 hqq; obtain ⟨oy, hoy, he, hb⟩ := hqq
    have HOY := hoy
    clear hoy
    cases oy with
    | none =>
      obtain rfl : e = .returned (.tuple #[.agg #[.int .i64 0, .int .i64 0, .int .i64 0], .bool false]) := he
      have HX := Lib.hid (bel_trans hb (bel_alloc w6 (.cells #[.int .i64 0, .int .i64 0, .int .i64 0] 31)))
      have HB := Lib.hid (bel_trans HB.out HX.out)
      have HR := Lib.hid (HR.out.below HX.out)
      have K10 := Lib.hid (block_below K10.out HX.out)
      have K12 := Lib.hid (block_below K12.out HX.out)
      have HAT := Lib.hid (at_between HWD.out hsa.out ⟨hp1, hp2⟩ HEV.out HZ.out (show z ≤ z + 1099511627776 by omega) HOY.out (fun y hy => by cases hy))
      have hw1 : IntKind.i64.wrap (z + 1099511627776) = z + 1099511627776 := IntWalk.i64_in _ (by omega)
      clear hb
      go_wp2_with fail
      have hbd : Below (w6.alloc (.cells #[.int .i64 0, .int .i64 0, .int .i64 0] 31)).heap.size (w6.alloc (.cells #[.int .i64 0, .int .i64 0, .int .i64 0] 31)) (w6.alloc (.cells #[.int .i64 0, .int .i64 0, .int .i64 0] 31)).drew := Below.drew (Below.refl _ _)
      have HB := Lib.hid (bel_trans HB.out hbd)
      have HR := Lib.hid (HR.out.below hbd)
      have K10 := Lib.hid (block_below K10.out hbd)
      have K12 := Lib.hid (block_below K12.out hbd)
      clear hbd
      go_wp2_with fail
      refine wp_region_held_drew (S := (fun w' => w'.cell? ⟨w3.heap.size, 0, none⟩ = some (.int .i64 xy) ∧ w'.cell? ⟨w3.heap.size, 1, none⟩ = some (.int .i64 (k : Int)) ∧ w'.cell? ⟨w3.heap.size, 2, none⟩ = some (.int .i64 xn) ∧ w'.cell? ⟨w3.heap.size + 1, 0, none⟩ = some (.int .i64 save) ∧ w'.cell? ⟨w3.heap.size + 1, 1, none⟩ = some (.string le))) (by kernel_rfl) (by exact ⟨cellB (block_below K10.out (Below.refl _ _)) (i := 0) rfl, cellB (block_below K10.out (Below.refl _ _)) (i := 1) rfl, cellB (block_below K10.out (Below.refl _ _)) (i := 2) rfl, cellB (block_below K12.out (Below.refl _ _)) (i := 0) rfl, cellB (block_below K12.out (Below.refl _ _)) (i := 1) rfl⟩) (fun hHeld => ?_)
      refine wpAnyH_take (i := 0) (v := ?_) rfl (by kernel_rfl) (by kernel_rfl) (by kernel_rfl) (fun _ _ _ h => h) (Or.inl ⟨by rfl, ?_⟩) (by assumption) ?_
      rotate_left 1
      · (intro w hSw; (try dsimp only at hSw); first | (go_simp; done) | (go_simp; with_reducible rfl))
      try simp only [Act.put, List.getElem_toArray, List.getElem_cons_succ, List.getElem_cons_zero, List.setIfInBounds_toArray, List.set_cons_zero, List.set_cons_succ]
      refine wpAnyH_take (i := 1) (v := ?_) rfl (by kernel_rfl) (by kernel_rfl) (by kernel_rfl) (fun _ _ _ h => h) (Or.inl ⟨by rfl, ?_⟩) (by assumption) ?_
      rotate_left 1
      · (intro w hSw; (try dsimp only at hSw); first | (go_simp; done) | (go_simp; with_reducible rfl))
      try simp only [Act.put, List.getElem_toArray, List.getElem_cons_succ, List.getElem_cons_zero, List.setIfInBounds_toArray, List.set_cons_zero, List.set_cons_succ]
      refine wpAnyH_take (i := 2) (v := ?_) rfl (by kernel_rfl) (by kernel_rfl) (by kernel_rfl) (fun _ _ _ h => h) (Or.inl ⟨by rfl, ?_⟩) (by assumption) ?_
      rotate_left 1
      · (intro w hSw; (try dsimp only at hSw); first | (go_simp; done) | (go_simp; with_reducible rfl))
      try simp only [Act.put, List.getElem_toArray, List.getElem_cons_succ, List.getElem_cons_zero, List.setIfInBounds_toArray, List.set_cons_zero, List.set_cons_succ]
      refine wpAnyH_take (i := 3) (v := ?_) rfl (by kernel_rfl) (by kernel_rfl) (by kernel_rfl) (fun _ _ _ h => h) (Or.inl ⟨by rfl, ?_⟩) (by assumption) ?_
      rotate_left 1
      · (intro w hSw; (try dsimp only at hSw); first | (go_simp; done) | (go_simp; with_reducible rfl))
      try simp only [Act.put, List.getElem_toArray, List.getElem_cons_succ, List.getElem_cons_zero, List.setIfInBounds_toArray, List.set_cons_zero, List.set_cons_succ]
      refine wpAnyH_take (i := 5) (v := ?_) rfl (by kernel_rfl) (by kernel_rfl) (by kernel_rfl) (fun _ _ _ h => h) (Or.inl ⟨by rfl, ?_⟩) (by assumption) ?_
      rotate_left 1
      · (intro w hSw; (try dsimp only at hSw); first | (go_simp; done) | (go_simp; with_reducible rfl))
      try simp only [Act.put, List.getElem_toArray, List.getElem_cons_succ, List.getElem_cons_zero, List.setIfInBounds_toArray, List.set_cons_zero, List.set_cons_succ]
      refine wpAnyH_ready (rs := [4]) (by kernel_rfl) (by simp) ?_
      refine AllReadyH.cons rfl (fun K hK => ?_) AllReadyH.nil
      go_simp
      refine (stAt_any _ rs p (z + 1099511627776) _ (by exact HT.out.below HB.out) (by exact HR.out) (made_tame HMP.out) (made_savOk HMP.out) (by omega) (by omega) (by omega) (by omega)).mono ?_
      intro e w22 hq; obtain ⟨rfl, hb22⟩ := AtR.to (v := .agg #[.int .i64 save, .string le]) HAT.out (by rw [HBE.out]; rfl) _ _ hq; clear hq
      go_wp2_with fail
      refine hK.out _ _ ?_ (fun hHeld => ?_)
      · exact ⟨cellB (block_below K10.out hb22) (i := 0) rfl, cellB (block_below K10.out hb22) (i := 1) rfl, cellB (block_below K10.out hb22) (i := 2) rfl, cellB (block_below K12.out hb22) (i := 0) rfl, cellB (block_below K12.out hb22) (i := 1) rfl⟩
      clear hK K
      try simp only [Act.put, List.getElem_toArray, List.getElem_cons_succ, List.getElem_cons_zero, List.setIfInBounds_toArray, List.set_cons_zero, List.set_cons_succ]
      have HB := Lib.hid (bel_trans HB.out hb22)
      have HR := Lib.hid (HR.out.below hb22)
      have K10 := Lib.hid (block_below K10.out hb22)
      have K12 := Lib.hid (block_below K12.out hb22)
      refine wpAnyH_take (i := 6) (v := ?_) rfl (by kernel_rfl) (by kernel_rfl) (by kernel_rfl) (fun _ _ _ h => h) (Or.inl ⟨by rfl, ?_⟩) (by assumption) ?_
      rotate_left 1
      · (intro w hSw; (try dsimp only at hSw); first | (go_simp; done) | (go_simp; with_reducible rfl))
      try simp only [Act.put, List.getElem_toArray, List.getElem_cons_succ, List.getElem_cons_zero, List.setIfInBounds_toArray, List.set_cons_zero, List.set_cons_succ]
      refine wpAnyH_take (i := 7) (v := ?_) rfl (by kernel_rfl) (by kernel_rfl) (by kernel_rfl) (fun _ _ _ h => h) (Or.inl ⟨by rfl, ?_⟩) (by assumption) ?_
      rotate_left 1
      · (intro w hSw; (try dsimp only at hSw); first | (go_simp; done) | (go_simp; with_reducible rfl))
      try simp only [Act.put, List.getElem_toArray, List.getElem_cons_succ, List.getElem_cons_zero, List.setIfInBounds_toArray, List.set_cons_zero, List.set_cons_succ]
      refine wpAnyH_ready (rs := [8]) (by kernel_rfl) (by simp) ?_
      refine AllReadyH.cons rfl (fun K hK => ?_) AllReadyH.nil
      go_simp
      refine (works19_any _ (by exact HT.out.below HB.out)).mono ?_
      rintro e w23 ⟨rfl, hb23⟩
      go_wp2_with fail
      refine hK.out _ _ ?_ (fun hHeld => ?_)
      · exact ⟨cellB (block_below K10.out hb23) (i := 0) rfl, cellB (block_below K10.out hb23) (i := 1) rfl, cellB (block_below K10.out hb23) (i := 2) rfl, cellB (block_below K12.out hb23) (i := 0) rfl, cellB (block_below K12.out hb23) (i := 1) rfl⟩
      clear hK K
      try simp only [Act.put, List.getElem_toArray, List.getElem_cons_succ, List.getElem_cons_zero, List.setIfInBounds_toArray, List.set_cons_zero, List.set_cons_succ]
      have HB := Lib.hid (bel_trans HB.out hb23)
      have HR := Lib.hid (HR.out.below hb23)
      have K10 := Lib.hid (block_below K10.out hb23)
      have K12 := Lib.hid (block_below K12.out hb23)
      refine wpAnyH_take (i := 9) (v := ?_) rfl (by kernel_rfl) (by kernel_rfl) (by kernel_rfl) (fun _ _ _ h => h) (Or.inl ⟨by rfl, ?_⟩) (by assumption) ?_
      rotate_left 1
      · (intro w hSw; (try dsimp only at hSw); first | (go_simp; done) | (go_simp; with_reducible rfl))
      try simp only [Act.put, List.getElem_toArray, List.getElem_cons_succ, List.getElem_cons_zero, List.setIfInBounds_toArray, List.set_cons_zero, List.set_cons_succ]
      refine wpAnyH_take (i := 10) (v := ?_) rfl (by kernel_rfl) (by kernel_rfl) (by kernel_rfl) (fun _ _ _ h => h) (Or.inl ⟨by rfl, ?_⟩) (by assumption) ?_
      rotate_left 1
      · (intro w hSw; (try dsimp only at hSw); first | (go_simp; done) | (go_simp; with_reducible rfl))
      try simp only [Act.put, List.getElem_toArray, List.getElem_cons_succ, List.getElem_cons_zero, List.setIfInBounds_toArray, List.set_cons_zero, List.set_cons_succ]
      refine wpAnyH_done (by kernel_rfl) ?_ _
      go_wp2_with fail
      go_ret
      exact ⟨rfl, HB.out⟩
    | some ye =>
      have HEY := Lib.hid HOY.out.1
      have hyl := HOY.out.2.1
      obtain ⟨yy, yr, yn⟩ := ye
      obtain rfl : e = .returned (.tuple #[.agg #[.int .i64 yy, .int .i64 yr, .int .i64 yn], .bool true]) := he
      obtain ⟨hy3, hy4⟩ := ev_nomfit HEY.out
      dsimp only at hy3 hy4 hyl
      have HYR := Lib.hid (ev_rule HEY.out)
      have HX := Lib.hid (bel_trans hb (bel_alloc w6 (.cells #[.int .i64 yy, .int .i64 yr, .int .i64 yn] 31)))
      have HB := Lib.hid (bel_trans HB.out HX.out)
      have HR := Lib.hid (HR.out.below HX.out)
      have K10 := Lib.hid (block_below K10.out HX.out)
      have K12 := Lib.hid (block_below K12.out HX.out)
      have K14 := Lib.hid (heap_alloc_new w6 (.cells #[.int .i64 yy, .int .i64 yr, .int .i64 yn] 31))
      clear hb
      have y0 := cellB K14.out (i := 0) rfl
      have y1 := cellB K14.out (i := 1) rfl
      have y2 := cellB K14.out (i := 2) rfl
      go_wp2_with fail
      clear y0 y1 y2
      refine (instant_any _ rs yy yr yn p _ (by exact HT.out.below HB.out) (by exact HR.out) (made_tame HMP.out) (made_savOk HMP.out) HYR.out (by omega) (by omega) (by omega) (by omega)).mono ?_
      rintro e w7 ⟨u, hu, rfl, hb⟩
      have hnr := inst_near hsa.out ⟨hp1, hp2⟩ hu.out
      dsimp only at hnr
      obtain ⟨hu1, hu2⟩ := hnr
      have hfar := inst_far HWD.out hsa.out ⟨hp1, hp2⟩ HEV.out HEY.out hyl HZ.out hu.out
      have HU := hu
      have HB := Lib.hid (bel_trans HB.out hb)
      have HR := Lib.hid (HR.out.below hb)
      have K10 := Lib.hid (block_below K10.out hb)
      have K12 := Lib.hid (block_below K12.out hb)
      clear hb hu
      obtain ⟨d, hd⟩ : ∃ d, (u - z).tdiv 2 = d := ⟨_, rfl⟩
      have hdb : 0 ≤ d ∧ d < u - z := by rw [← hd, Int.tdiv_eq_ediv_of_nonneg (by omega)]; omega
      obtain ⟨hd1, hd2⟩ := hdb
      have HA1 := Lib.hid (at_between HWD.out hsa.out ⟨hp1, hp2⟩ HEV.out HZ.out (show z ≤ u - 1 by omega) HOY.out (fun y hy => by cases hy; exact ⟨u, HU.out, by omega⟩))
      have HA2 := Lib.hid (at_between HWD.out hsa.out ⟨hp1, hp2⟩ HEV.out HZ.out (show z ≤ z + d by omega) HOY.out (fun y hy => by cases hy; exact ⟨u, HU.out, by omega⟩))
      have hgt : decide (z < u) = true := by simp; omega
      have hgt2 : z < u := by omega
      have hw1 : IntKind.i64.wrap (u - 1) = u - 1 := IntWalk.i64_in _ (by omega)
      have hw2 : IntKind.i64.wrap (u - z) = u - z := IntWalk.i64_in _ (by omega)
      have hw3 : IntKind.i64.wrap (z + d) = z + d := IntWalk.i64_in _ (by omega)
      have hw4 : IntKind.i64.wrap d = d := IntWalk.i64_in _ (by omega)
      have hbd : Below w7.heap.size w7 w7.drew := Below.drew (Below.refl _ _)
      have HB := Lib.hid (bel_trans HB.out hbd)
      have HR := Lib.hid (HR.out.below hbd)
      have K10 := Lib.hid (block_below K10.out hbd)
      have K12 := Lib.hid (block_below K12.out hbd)
      clear hbd
      go_wp2_with fail
      refine wp_region_held_drew (S := (fun w' => w'.cell? ⟨w3.heap.size, 0, none⟩ = some (.int .i64 xy) ∧ w'.cell? ⟨w3.heap.size, 1, none⟩ = some (.int .i64 (k : Int)) ∧ w'.cell? ⟨w3.heap.size, 2, none⟩ = some (.int .i64 xn) ∧ w'.cell? ⟨w3.heap.size + 1, 0, none⟩ = some (.int .i64 save) ∧ w'.cell? ⟨w3.heap.size + 1, 1, none⟩ = some (.string le))) (by kernel_rfl) (by exact ⟨cellB (block_below K10.out (Below.refl _ _)) (i := 0) rfl, cellB (block_below K10.out (Below.refl _ _)) (i := 1) rfl, cellB (block_below K10.out (Below.refl _ _)) (i := 2) rfl, cellB (block_below K12.out (Below.refl _ _)) (i := 0) rfl, cellB (block_below K12.out (Below.refl _ _)) (i := 1) rfl⟩) (fun hHeld => ?_)
      refine wpAnyH_take (i := 0) (v := ?_) rfl (by kernel_rfl) (by kernel_rfl) (by kernel_rfl) (fun _ _ _ h => h) (Or.inl ⟨by rfl, ?_⟩) (by assumption) ?_
      rotate_left 1
      · (intro w hSw; (try dsimp only at hSw); first | (go_simp; done) | (go_simp; with_reducible rfl))
      try simp only [Act.put, List.getElem_toArray, List.getElem_cons_succ, List.getElem_cons_zero, List.setIfInBounds_toArray, List.set_cons_zero, List.set_cons_succ]
      refine wpAnyH_take (i := 1) (v := ?_) rfl (by kernel_rfl) (by kernel_rfl) (by kernel_rfl) (fun _ _ _ h => h) (Or.inl ⟨by rfl, ?_⟩) (by assumption) ?_
      rotate_left 1
      · (intro w hSw; (try dsimp only at hSw); first | (go_simp; done) | (go_simp; with_reducible rfl))
      try simp only [Act.put, List.getElem_toArray, List.getElem_cons_succ, List.getElem_cons_zero, List.setIfInBounds_toArray, List.set_cons_zero, List.set_cons_succ]
      refine wpAnyH_take (i := 2) (v := ?_) rfl (by kernel_rfl) (by kernel_rfl) (by kernel_rfl) (fun _ _ _ h => h) (Or.inl ⟨by rfl, ?_⟩) (by assumption) ?_
      rotate_left 1
      · (intro w hSw; (try dsimp only at hSw); first | (go_simp; done) | (go_simp; with_reducible rfl))
      try simp only [Act.put, List.getElem_toArray, List.getElem_cons_succ, List.getElem_cons_zero, List.setIfInBounds_toArray, List.set_cons_zero, List.set_cons_succ]
      refine wpAnyH_take (i := 3) (v := ?_) rfl (by kernel_rfl) (by kernel_rfl) (by kernel_rfl) (fun _ _ _ h => h) (Or.inl ⟨by rfl, ?_⟩) (by assumption) ?_
      rotate_left 1
      · (intro w hSw; (try dsimp only at hSw); first | (go_simp; done) | (go_simp; with_reducible rfl))
      try simp only [Act.put, List.getElem_toArray, List.getElem_cons_succ, List.getElem_cons_zero, List.setIfInBounds_toArray, List.set_cons_zero, List.set_cons_succ]
      refine wpAnyH_take (i := 4) (v := ?_) rfl (by kernel_rfl) (by kernel_rfl) (by kernel_rfl) (fun _ _ _ h => h) (Or.inl ⟨by rfl, ?_⟩) (by assumption) ?_
      rotate_left 1
      · (intro w hSw; (try dsimp only at hSw); first | (go_simp; done) | (go_simp; with_reducible rfl))
      try simp only [Act.put, List.getElem_toArray, List.getElem_cons_succ, List.getElem_cons_zero, List.setIfInBounds_toArray, List.set_cons_zero, List.set_cons_succ]
      refine wpAnyH_take (i := 5) (v := ?_) rfl (by kernel_rfl) (by kernel_rfl) (by kernel_rfl) (fun _ _ _ h => h) (Or.inl ⟨by rfl, ?_⟩) (by assumption) ?_
      rotate_left 1
      · (intro w hSw; (try dsimp only at hSw); first | (go_simp; done) | (go_simp; with_reducible rfl))
      try simp only [Act.put, List.getElem_toArray, List.getElem_cons_succ, List.getElem_cons_zero, List.setIfInBounds_toArray, List.set_cons_zero, List.set_cons_succ]
      refine wpAnyH_take (i := 6) (v := ?_) rfl (by kernel_rfl) (by kernel_rfl) (by kernel_rfl) (fun _ _ _ h => h) (Or.inl ⟨by rfl, ?_⟩) (by assumption) ?_
      rotate_left 1
      · (intro w hSw; (try dsimp only at hSw); first | (go_simp; done) | (go_simp; with_reducible rfl))
      try simp only [Act.put, List.getElem_toArray, List.getElem_cons_succ, List.getElem_cons_zero, List.setIfInBounds_toArray, List.set_cons_zero, List.set_cons_succ]
      refine wpAnyH_take (i := 7) (v := ?_) rfl (by kernel_rfl) (by kernel_rfl) (by kernel_rfl) (fun _ _ _ h => h) (Or.inl ⟨by rfl, ?_⟩) (by assumption) ?_
      rotate_left 1
      · (intro w hSw; (try dsimp only at hSw); first | (go_simp; done) | (go_simp; with_reducible rfl))
      try simp only [Act.put, List.getElem_toArray, List.getElem_cons_succ, List.getElem_cons_zero, List.setIfInBounds_toArray, List.set_cons_zero, List.set_cons_succ]
      refine wpAnyH_take (i := 9) (v := ?_) rfl (by kernel_rfl) (by kernel_rfl) (by kernel_rfl) (fun _ _ _ h => h) (Or.inl ⟨by rfl, ?_⟩) (by assumption) ?_
      rotate_left 1
      · (intro w hSw; (try dsimp only at hSw); first | (go_simp; done) | (go_simp; with_reducible rfl))
      try simp only [Act.put, List.getElem_toArray, List.getElem_cons_succ, List.getElem_cons_zero, List.setIfInBounds_toArray, List.set_cons_zero, List.set_cons_succ]
      refine wpAnyH_ready (rs := [8]) (by kernel_rfl) (by simp) ?_
      refine AllReadyH.cons rfl (fun K hK => ?_) AllReadyH.nil
      go_simp
      refine (stAt_any _ rs p (u - 1) _ (by exact HT.out.below HB.out) (by exact HR.out) (made_tame HMP.out) (made_savOk HMP.out) (by omega) (by omega) (by omega) (by omega)).mono ?_
      intro e w24 hq; obtain ⟨rfl, hb24⟩ := AtR.to (v := .agg #[.int .i64 save, .string le]) HA1.out (by rw [HBE.out]; rfl) _ _ hq; clear hq
      go_wp2_with fail
      refine hK.out _ _ ?_ (fun hHeld => ?_)
      · exact ⟨cellB (block_below K10.out hb24) (i := 0) rfl, cellB (block_below K10.out hb24) (i := 1) rfl, cellB (block_below K10.out hb24) (i := 2) rfl, cellB (block_below K12.out hb24) (i := 0) rfl, cellB (block_below K12.out hb24) (i := 1) rfl⟩
      clear hK K
      try simp only [Act.put, List.getElem_toArray, List.getElem_cons_succ, List.getElem_cons_zero, List.setIfInBounds_toArray, List.set_cons_zero, List.set_cons_succ]
      have HB := Lib.hid (bel_trans HB.out hb24)
      have HR := Lib.hid (HR.out.below hb24)
      have K10 := Lib.hid (block_below K10.out hb24)
      have K12 := Lib.hid (block_below K12.out hb24)
      refine wpAnyH_take (i := 10) (v := ?_) rfl (by kernel_rfl) (by kernel_rfl) (by kernel_rfl) (fun _ _ _ h => h) (Or.inl ⟨by rfl, ?_⟩) (by assumption) ?_
      rotate_left 1
      · (intro w hSw; (try dsimp only at hSw); first | (go_simp; done) | (go_simp; with_reducible rfl))
      try simp only [Act.put, List.getElem_toArray, List.getElem_cons_succ, List.getElem_cons_zero, List.setIfInBounds_toArray, List.set_cons_zero, List.set_cons_succ]
      refine wpAnyH_take (i := 11) (v := ?_) rfl (by kernel_rfl) (by kernel_rfl) (by kernel_rfl) (fun _ _ _ h => h) (Or.inl ⟨by rfl, ?_⟩) (by assumption) ?_
      rotate_left 1
      · (intro w hSw; (try dsimp only at hSw); first | (go_simp; done) | (go_simp; with_reducible rfl))
      try simp only [Act.put, List.getElem_toArray, List.getElem_cons_succ, List.getElem_cons_zero, List.setIfInBounds_toArray, List.set_cons_zero, List.set_cons_succ]
      refine wpAnyH_take (i := 12) (v := ?_) rfl (by kernel_rfl) (by kernel_rfl) (by kernel_rfl) (fun _ _ _ h => h) (Or.inl ⟨by rfl, ?_⟩) (by assumption) ?_
      rotate_left 1
      · (intro w hSw; (try dsimp only at hSw); first | (go_simp; done) | (go_simp; with_reducible rfl))
      try simp only [Act.put, List.getElem_toArray, List.getElem_cons_succ, List.getElem_cons_zero, List.setIfInBounds_toArray, List.set_cons_zero, List.set_cons_succ]
      refine wpAnyH_take (i := 13) (v := ?_) rfl (by kernel_rfl) (by kernel_rfl) (by kernel_rfl) (fun _ _ _ h => h) (Or.inl ⟨by rfl, ?_⟩) (by assumption) ?_
      rotate_left 1
      · (intro w hSw; (try dsimp only at hSw); first | (go_simp; done) | (go_simp; with_reducible rfl))
      try simp only [Act.put, List.getElem_toArray, List.getElem_cons_succ, List.getElem_cons_zero, List.setIfInBounds_toArray, List.set_cons_zero, List.set_cons_succ]
      refine wpAnyH_take (i := 14) (v := ?_) rfl (by kernel_rfl) (by kernel_rfl) (by kernel_rfl) (fun _ _ _ h => h) (Or.inl ⟨by rfl, ?_⟩) (by assumption) ?_
      rotate_left 1
      · (intro w hSw; (try dsimp only at hSw); first | (go_simp; done) | (go_simp; with_reducible rfl))
      try simp only [Act.put, List.getElem_toArray, List.getElem_cons_succ, List.getElem_cons_zero, List.setIfInBounds_toArray, List.set_cons_zero, List.set_cons_succ]
      refine wpAnyH_take (i := 15) (v := ?_) rfl (by kernel_rfl) (by kernel_rfl) (by kernel_rfl) (fun _ _ _ h => h) (Or.inl ⟨by rfl, ?_⟩) (by assumption) ?_
      rotate_left 1
      · (intro w hSw; (try dsimp only at hSw); first | (go_simp; done) | (go_simp; with_reducible rfl))
      try simp only [Act.put, List.getElem_toArray, List.getElem_cons_succ, List.getElem_cons_zero, List.setIfInBounds_toArray, List.set_cons_zero, List.set_cons_succ]
      refine wpAnyH_take (i := 16) (v := ?_) rfl (by kernel_rfl) (by kernel_rfl) (by kernel_rfl) (fun _ _ _ h => h) (Or.inl ⟨by rfl, ?_⟩) (by assumption) ?_
      rotate_left 1
      · (intro w hSw; (try dsimp only at hSw); first | (go_simp; done) | (go_simp; with_reducible rfl))
      try simp only [Act.put, List.getElem_toArray, List.getElem_cons_succ, List.getElem_cons_zero, List.setIfInBounds_toArray, List.set_cons_zero, List.set_cons_succ]
      refine wpAnyH_take (i := 17) (v := ?_) rfl (by kernel_rfl) (by kernel_rfl) (by kernel_rfl) (fun _ _ _ h => h) (Or.inl ⟨by rfl, ?_⟩) (by assumption) ?_
      rotate_left 1
      · (intro w hSw; (try dsimp only at hSw); first | (go_simp; done) | (go_simp; with_reducible rfl))
      try simp only [Act.put, List.getElem_toArray, List.getElem_cons_succ, List.getElem_cons_zero, List.setIfInBounds_toArray, List.set_cons_zero, List.set_cons_succ]
      refine wpAnyH_take (i := 18) (v := ?_) rfl (by kernel_rfl) (by kernel_rfl) (by kernel_rfl) (fun _ _ _ h => h) (Or.inl ⟨by rfl, ?_⟩) (by assumption) ?_
      rotate_left 1
      · (intro w hSw; (try dsimp only at hSw); first | (go_simp; done) | (go_simp; with_reducible rfl))
      try simp only [Act.put, List.getElem_toArray, List.getElem_cons_succ, List.getElem_cons_zero, List.setIfInBounds_toArray, List.set_cons_zero, List.set_cons_succ]
      refine wpAnyH_take (i := 19) (v := ?_) rfl (by kernel_rfl) (by kernel_rfl) (by kernel_rfl) (fun _ _ _ h => h) (Or.inl ⟨by rfl, ?_⟩) (by assumption) ?_
      rotate_left 1
      · (intro w hSw; (try dsimp only at hSw); first | (go_simp; done) | (go_simp; with_reducible rfl))
      try simp only [Act.put, List.getElem_toArray, List.getElem_cons_succ, List.getElem_cons_zero, List.setIfInBounds_toArray, List.set_cons_zero, List.set_cons_succ]
      refine wpAnyH_take (i := 20) (v := ?_) rfl (by kernel_rfl) (by kernel_rfl) (by kernel_rfl) (fun _ _ _ h => h) (Or.inl ⟨by rfl, ?_⟩) (by assumption) ?_
      rotate_left 1
      · (intro w hSw; (try dsimp only at hSw); first | (go_simp; done) | (go_simp; with_reducible rfl))
      try simp only [Act.put, List.getElem_toArray, List.getElem_cons_succ, List.getElem_cons_zero, List.setIfInBounds_toArray, List.set_cons_zero, List.set_cons_succ]
      refine wpAnyH_take (i := 22) (v := ?_) rfl (by kernel_rfl) (by kernel_rfl) (by kernel_rfl) (fun _ _ _ h => h) (Or.inl ⟨by rfl, ?_⟩) (by assumption) ?_
      rotate_left 1
      · (intro w hSw; (try dsimp only at hSw); first | (go_simp; done) | (go_simp; with_reducible rfl))
      try simp only [Act.put, List.getElem_toArray, List.getElem_cons_succ, List.getElem_cons_zero, List.setIfInBounds_toArray, List.set_cons_zero, List.set_cons_succ]
      refine wpAnyH_ready (rs := [21]) (by kernel_rfl) (by simp) ?_
      refine AllReadyH.cons rfl (fun K hK => ?_) AllReadyH.nil
      go_simp
      refine (stAt_any _ rs p (z + d) _ (by exact HT.out.below HB.out) (by exact HR.out) (made_tame HMP.out) (made_savOk HMP.out) (by omega) (by omega) (by omega) (by omega)).mono ?_
      intro e w25 hq; obtain ⟨rfl, hb25⟩ := AtR.to (v := .agg #[.int .i64 save, .string le]) HA2.out (by rw [HBE.out]; rfl) _ _ hq; clear hq
      go_wp2_with fail
      refine hK.out _ _ ?_ (fun hHeld => ?_)
      · exact ⟨cellB (block_below K10.out hb25) (i := 0) rfl, cellB (block_below K10.out hb25) (i := 1) rfl, cellB (block_below K10.out hb25) (i := 2) rfl, cellB (block_below K12.out hb25) (i := 0) rfl, cellB (block_below K12.out hb25) (i := 1) rfl⟩
      clear hK K
      try simp only [Act.put, List.getElem_toArray, List.getElem_cons_succ, List.getElem_cons_zero, List.setIfInBounds_toArray, List.set_cons_zero, List.set_cons_succ]
      have HB := Lib.hid (bel_trans HB.out hb25)
      have HR := Lib.hid (HR.out.below hb25)
      have K10 := Lib.hid (block_below K10.out hb25)
      have K12 := Lib.hid (block_below K12.out hb25)
      refine wpAnyH_take (i := 23) (v := ?_) rfl (by kernel_rfl) (by kernel_rfl) (by kernel_rfl) (fun _ _ _ h => h) (Or.inl ⟨by rfl, ?_⟩) (by assumption) ?_
      rotate_left 1
      · (intro w hSw; (try dsimp only at hSw); first | (go_simp; done) | (go_simp; with_reducible rfl))
      try simp only [Act.put, List.getElem_toArray, List.getElem_cons_succ, List.getElem_cons_zero, List.setIfInBounds_toArray, List.set_cons_zero, List.set_cons_succ]
      refine wpAnyH_take (i := 24) (v := ?_) rfl (by kernel_rfl) (by kernel_rfl) (by kernel_rfl) (fun _ _ _ h => h) (Or.inl ⟨by rfl, ?_⟩) (by assumption) ?_
      rotate_left 1
      · (intro w hSw; (try dsimp only at hSw); first | (go_simp; done) | (go_simp; with_reducible rfl))
      try simp only [Act.put, List.getElem_toArray, List.getElem_cons_succ, List.getElem_cons_zero, List.setIfInBounds_toArray, List.set_cons_zero, List.set_cons_succ]
      refine wpAnyH_take (i := 25) (v := ?_) rfl (by kernel_rfl) (by kernel_rfl) (by kernel_rfl) (fun _ _ _ h => h) (Or.inl ⟨by rfl, ?_⟩) (by assumption) ?_
      rotate_left 1
      · (intro w hSw; (try dsimp only at hSw); first | (go_simp; done) | (go_simp; with_reducible rfl))
      try simp only [Act.put, List.getElem_toArray, List.getElem_cons_succ, List.getElem_cons_zero, List.setIfInBounds_toArray, List.set_cons_zero, List.set_cons_succ]
      refine wpAnyH_ready (rs := [26]) (by kernel_rfl) (by simp) ?_
      refine AllReadyH.cons rfl (fun K hK => ?_) AllReadyH.nil
      go_simp
      refine (works19_any _ (by exact HT.out.below HB.out)).mono ?_
      rintro e w26 ⟨rfl, hb26⟩
      go_wp2_with fail
      refine hK.out _ _ ?_ (fun hHeld => ?_)
      · exact ⟨cellB (block_below K10.out hb26) (i := 0) rfl, cellB (block_below K10.out hb26) (i := 1) rfl, cellB (block_below K10.out hb26) (i := 2) rfl, cellB (block_below K12.out hb26) (i := 0) rfl, cellB (block_below K12.out hb26) (i := 1) rfl⟩
      clear hK K
      try simp only [Act.put, List.getElem_toArray, List.getElem_cons_succ, List.getElem_cons_zero, List.setIfInBounds_toArray, List.set_cons_zero, List.set_cons_succ]
      have HB := Lib.hid (bel_trans HB.out hb26)
      have HR := Lib.hid (HR.out.below hb26)
      have K10 := Lib.hid (block_below K10.out hb26)
      have K12 := Lib.hid (block_below K12.out hb26)
      refine wpAnyH_take (i := 27) (v := ?_) rfl (by kernel_rfl) (by kernel_rfl) (by kernel_rfl) (fun _ _ _ h => h) (Or.inl ⟨by rfl, ?_⟩) (by assumption) ?_
      rotate_left 1
      · (intro w hSw; (try dsimp only at hSw); first | (go_simp; done) | (go_simp; with_reducible rfl))
      try simp only [Act.put, List.getElem_toArray, List.getElem_cons_succ, List.getElem_cons_zero, List.setIfInBounds_toArray, List.set_cons_zero, List.set_cons_succ]
      refine wpAnyH_take (i := 28) (v := ?_) rfl (by kernel_rfl) (by kernel_rfl) (by kernel_rfl) (fun _ _ _ h => h) (Or.inl ⟨by rfl, ?_⟩) (by assumption) ?_
      rotate_left 1
      · (intro w hSw; (try dsimp only at hSw); first | (go_simp; done) | (go_simp; with_reducible rfl))
      try simp only [Act.put, List.getElem_toArray, List.getElem_cons_succ, List.getElem_cons_zero, List.setIfInBounds_toArray, List.set_cons_zero, List.set_cons_succ]
      refine wpAnyH_done (by kernel_rfl) ?_ _
      go_wp2_with fail
      go_ret
      exact ⟨rfl, HB.out⟩
set_option maxRecDepth 100000 in
theorem stateBetween.stateBetween_walk (W : World) (hL : laidMetH Tryd.prog Rows.stateBetweenRow.laid W) (v : Value) {H : Type} {enc : TypeId × Value → H} {base : Nat} {d : DataW H} {p : List MemPlace} (hv : Value.okWide Tryd.prog W .any base 23 v)
    (h : DataW.Trod enc Tryd.prog W 0 (fun _ => true) true 23 v d p) (x : Int) (wx : (Lit.int .i32 x).wf = true) (n : Int) (wn : (Lit.int .u64 n).wf = true) :
    Calls Tryd.prog 5 #[v, .int .i32 x, .int .u64 n] W fun e w' => e = .returned (.bool true) ∧ Below W.heap.size W w' := by
  obtain ⟨bs, hD⟩ := drf_of hv h
  obtain ⟨hx1, hx2⟩ := i32_of wx
  obtain ⟨hn1, hn2⟩ : 0 ≤ n ∧ n ≤ 18446744073709551615 := by
    simp [Lit.wf, IntKind.min, IntKind.max, IntKind.signed, IntKind.bits] at wn
    omega
  have hpb := tmod_bd x 43201 (by omega)
  exact stBet_core v bs x n _ _ W ⟨tab_of hL, ktab_of hL⟩ hD hx1 hx2 hn1 hn2 rfl rfl (by omega) (by omega) (by omega) (by omega)
end Go.Proofs.YtophiphhgcmjpaaDoor
