/-
  The walk of the law StateAfter.
-/
import Derived.Test.YtophiphhgcmjpaaDoorStEq
import Derived.Test.YtophiphhgcmjpaaDoorStAftM
import Derived.Test.YtophiphhgcmjpaaDoorDrArg
import Derived.Deep.DeepCutAuto
import Derived.Deep.CutBlock
namespace Go.Proofs.YtophiphhgcmjpaaDoor
open Go.RowKit Cv
set_option linter.unusedVariables false
set_option linter.unusedSimpArgs false

set_option maxRecDepth 100000 in
set_option maxHeartbeats 32000000 in
theorem after_any (v : Value) (rs : _root_.List Ru) (sv off t : Int) (W : World) (hT : Tabs W) (hR : Rul v rs W) (hM : MadeP sv rs) (ho1 : -43200 ≤ off) (ho2 : off ≤ 43200) (ht1 : -6000000000 ≤ t) (ht2 : t ≤ 6000000000) :
    Calls Tryd.prog 20 #[v, .int .i64 off, .int .i64 t] W fun e w' => ∃ s : Sta, Hid (AtIs rs off t 3 (t + 259200) s) ∧ e = .returned (.tuple #[.agg #[.int .i64 s.save, .string s.le], .bool true]) ∧ Below W.heap.size W w' := by
  have HT := Lib.hid hT
  have HMP := Lib.hid hM
  have HB := Lib.hid (bel_alloc W (.cells #[.int .i64 0, .string ⟨#[]⟩] 39))
  have HR := Lib.hid (hR.below HB.out)
  have K6 := Lib.hid (heap_alloc_new W (.cells #[.int .i64 0, .string ⟨#[]⟩] 39))
  clear hT hR hM
  obtain ⟨Al, cl, hol⟩ := HR.out.sl
  obtain ⟨nl, hnl⟩ : ∃ nl, nl = rs.length := ⟨_, rfl⟩
  rw [← hnl] at hol
  subst hol
  have HN := Lib.hid hnl
  clear hnl
  go_enter Tryd.func20, Tryd.ntmps20
  go_wp2_with fail
  refine (evIn_any _ rs 1850 2170 _ (by exact HT.out.below HB.out) (by exact HR.out) (by omega) (by omega) (by omega) (by omega)).mono ?_
  rintro e w2 ⟨hb, ⟨_, h2, _⟩ | ⟨_, V, L, hI, rfl, hO, hLL⟩⟩
  · exfalso; omega
  obtain ⟨Aa, ca, hVa⟩ := (RdEv.own hO.out).sl
  subst hVa
  obtain ⟨n, hn⟩ : ∃ n, n = L.length := ⟨_, rfl⟩
  have HA := Lib.hid (RdEv.own hO.out)
  rw [← hn] at HA hLL ⊢
  have HLN := Lib.hid hn
  have HI := hI
  have HB := Lib.hid (bel_trans HB.out hb)
  have HR := Lib.hid (Rul.below HR.out hb)
  have K6 := Lib.hid (block_below K6.out hb)
  clear hb hO hn hI
  go_wp2_with fail
  obtain ⟨s0, hs0⟩ : ∃ s, s = initS rs := ⟨_, rfl⟩
  obtain ⟨s0s, s0l⟩ := s0
  have HS0 := Lib.hid hs0
  clear hs0
  refine (initial_any _ rs _ (by exact HT.out.below HB.out) (by exact HR.out) (made_tame HMP.out)).mono ?_
  intro e w3 hqq; obtain ⟨rfl, hb⟩ := StaR.to (v := .agg #[.int .i64 s0s, .string s0l]) (by rw [← HS0.out]; rfl) _ _ hqq; clear hqq
  have HB := Lib.hid (bel_trans HB.out hb)
  have HRb := Lib.hid (Rul.below HR.out hb)
  have HAb := Lib.hid (HA.out.below hb)
  have K6 := Lib.hid (block_below K6.out hb)
  clear hb HR HA
  have HLT := Lib.hid (show W.heap.size < w3.heap.size from (Array.getElem?_eq_some_iff.1 K6.out).1)
  have H3 := Lib.hid (bel_alloc w3 (.cells #[.int .i64 s0s, .string s0l] 39))
  have HB := Lib.hid (bel_trans HB.out H3.out)
  have K12 := Lib.hid (heap_alloc_new w3 (.cells #[.int .i64 s0s, .string s0l] 39))
  have K6 := Lib.hid (block_below K6.out H3.out)
  have HAF := Lib.hid (show AftS rs off t L 0 ⟨s0s, s0l⟩ by rw [HS0.out]; exact aftS_zero rs off t L)
  clear HS0
  go_wp2_with fail
  go_loopw [29] (fun st wr => ∃ (j : Nat) (ss : Int) (sl : ByteArray) (wq : World), j ≤ n ∧ st = .int .i64 (j : Int) ∧ wr = wq ∧ Hid (Below W.heap.size W wq) ∧ Hid (Below w3.heap.size w3 wq) ∧ Hid (wq.heap[W.heap.size]? = some (.cells #[.int .i64 0, .string ⟨#[]⟩] 39)) ∧ Hid (wq.heap[w3.heap.size]? = some (.cells #[.int .i64 ss, .string sl] 39)) ∧ Hid (AftS rs off t L j ⟨ss, sl⟩)) (fun st _ => n - (intOf st).toNat)
  case atStart => exact ⟨0, _, _, _, by omega, rfl, rfl, HB, H3, K6, K12, HAF⟩
  case round =>
    clear HB H3 K6 K12 HAF
    obtain ⟨j, ss, sl, wq, hj, rfl, rfl, HB, H3, K6, K12, HAF⟩ := hrel
    have HR := Lib.hid (HRb.out.below H3.out)
    have HA := Lib.hid (HAb.out.below H3.out)
    by_cases hlt : j < n
    · obtain ⟨e, he⟩ : ∃ e, L[j]? = some e := ⟨_, _root_.List.getElem?_eq_getElem (by rw [← HLN.out]; exact hlt)⟩
      have HJE := Lib.hid he
      have hev := ((HI.out.2 e).1 (_root_.List.mem_of_getElem? he)).1
      obtain ⟨g, of_, rfl, a0, a1, a2⟩ := HA.out.at_ he
      obtain ⟨r, hr⟩ := ev_rule hev
      obtain ⟨i, hi, hi1, hil⟩ := ruleAt_ex hr
      obtain ⟨hn3, hn4⟩ := ev_nomfit hev
      have HEE := Lib.hid hev
      obtain ⟨ey, er, en⟩ := e
      dsimp only at a0 a1 a2 hi hr hn3 hn4
      subst hi
      have HRI := Lib.hid hr
      have HRK := Lib.hid hi1
      have hi3 : ¬ (i : Int) < 0 := by omega
      have hi6 : (0 : Int) ≤ (i : Int) := by omega
      have hi5 : (i : Int) < (nl : Int) := by have := HN.out; omega
      have hi4 : decide ((nl : Int) ≤ (i : Int)) = false := by have := HN.out; simp; omega
      have hk0 : (0 : Int) ≤ (j : Int) := by omega
      have hk1 : (j : Int) < (n : Int) := by omega
      have hbl := bel_alloc wr (.cells #[.int .i64 ey, .int .i64 (i : Int), .int .i64 en] 31)
      have HB := Lib.hid (bel_trans HB.out hbl)
      have H3 := Lib.hid (bel_trans H3.out hbl)
      have HR := Lib.hid (HR.out.below hbl)
      have K6 := Lib.hid (block_below K6.out hbl)
      have K12 := Lib.hid (block_below K12.out hbl)
      have K14 := Lib.hid (heap_alloc_new wr (.cells #[.int .i64 ey, .int .i64 (i : Int), .int .i64 en] 31))
      clear he hr hil hbl hev hi1 HA
      go_wp2_with fail
      clear a0 a1 a2
      refine (instant_any _ rs ey (i : Int) en off _ (by exact HT.out.below HB.out) (by exact HR.out) (made_tame HMP.out) (made_savOk HMP.out) ⟨_, HRI.out⟩ (by omega) (by omega) (by omega) (by omega)).mono ?_
      rintro e w4 ⟨z, hz, rfl, hb⟩
      have HZ := hz
      have HB := Lib.hid (bel_trans HB.out hb)
      have H3 := Lib.hid (bel_trans H3.out hb)
      have HR := Lib.hid (HR.out.below hb)
      have K6 := Lib.hid (block_below K6.out hb)
      have K12 := Lib.hid (block_below K12.out hb)
      have K14 := Lib.hid (block_below K14.out hb)
      clear hb hz
      by_cases hzt : z ≤ t
      · have HAF := Lib.hid (show AftS rs off t L (j + 1) (behS rs ⟨ey, (i : Int), en⟩) from aftS_yes HJE.out HZ.out hzt)
        obtain ⟨gr, ofr, rfl, hrg⟩ := HR.out.at_ HRK.out
        obtain ⟨na, fr, ut, mo, kk, ww, dd, sec, base, sv2, le2⟩ := r
        obtain ⟨_, _, _, _, _, _, _, _, _, e9, e10⟩ := range11 hrg
        dsimp only at e9 e10
        have HAF := Lib.hid (show AftS rs off t L (j + 1) ⟨sv2, le2⟩ by have h := HAF.out; unfold behS at h; rw [HRI.out] at h; exact h)
        have y0 := cellB K14.out (i := 0) rfl
        have y1 := cellB K14.out (i := 1) rfl
        have y2 := cellB K14.out (i := 2) rfl
        have z0 := cellB K12.out (i := 0) rfl
        have z1 := cellB K12.out (i := 1) rfl
        have u0 := frzB K12.out 0
        have u1 := frzB K12.out 1
        clear hrg
        go_wp2_with fail
        go_region
        go_wp2_with fail
        clear e9 e10 y0 y1 y2 z0 z1 u0 u1
        go_round
        case rel => exact ⟨j + 1, sv2, le2, _, by omega, by go_num, rfl, Lib.hid (Below.drew ((HB.out.setCell (p := ⟨w3.heap.size, 0, none⟩) (by have := HLT.out; show W.heap.size ≤ w3.heap.size; omega) _).setCell (p := ⟨w3.heap.size, 1, none⟩) (by have := HLT.out; show W.heap.size ≤ w3.heap.size; omega) _)), Lib.hid (Below.drew ((H3.out.setCell (p := ⟨w3.heap.size, 0, none⟩) (Nat.le_refl _) _).setCell (p := ⟨w3.heap.size, 1, none⟩) (Nat.le_refl _) _)), Lib.hid (setcs_far (setcs_far K6.out (by have := HLT.out; omega)) (by have := HLT.out; omega)), Lib.hid (setcs (setcs K12.out rfl) rfl), HAF⟩
        case measure => simp [intOf] <;> omega
      · have HAF := Lib.hid (aftS_no HAF.out HJE.out HZ.out (by omega))
        go_wp2_with fail
        go_round
        case rel => exact ⟨j + 1, ss, sl, _, by omega, by go_num, rfl, HB, H3, K6, K12, HAF⟩
        case measure => simp [intOf] <;> omega
    · obtain rfl : j = n := by omega
      have HAT := Lib.hid (aftS_at HMP.out HI.out ⟨ho1, ho2⟩ ht2 (by rw [← HLN.out]; exact HAF.out))
      have z0 := cellB K12.out (i := 0) rfl
      have z1 := cellB K12.out (i := 1) rfl
      have y0 := cellB K6.out (i := 0) rfl
      have y1 := cellB K6.out (i := 1) rfl
      have f0 := frzB K6.out 0
      have f1 := frzB K6.out 1
      go_wp2_with fail
      refine bodyPost_ret (res_cell_tmp rfl _ _ _ _ _ _ _ rfl (setcs (setcs K6.out rfl) rfl) Tryd.underlying39 rfl (by kernel_rfl)) rfl ?_
      exact ⟨⟨ss, sl⟩, HAT, rfl, (HB.out.setCell (p := ⟨W.heap.size, 0, none⟩) (Nat.le_refl _) _).setCell (p := ⟨W.heap.size, 1, none⟩) (Nat.le_refl _) _⟩

set_option maxRecDepth 100000 in
set_option maxHeartbeats 32000000 in
theorem stAft_core (v : Value) (bs : _root_.List Int) (x m p q : Int) (W : World) (hT : Tabs W) (h : Drf v bs W) (hx1 : -2147483648 ≤ x) (hx2 : x ≤ 2147483647) (hm1 : 0 ≤ m) (hm2 : m ≤ 18446744073709551615) (hp : Hid (x.tmod 43201 = p)) (hq : Hid (m % 8362592280 = q)) (hp1 : -43200 ≤ p) (hp2 : p ≤ 43200) (hq1 : 0 ≤ q) (hq2 : q < 8362592280) :
    Calls Tryd.prog 6 #[v, .int .i32 x, .int .u64 m] W fun e w' => e = .returned (.bool true) ∧ Below W.heap.size W w' := by
  have hes := eqSta
  have hns := neSta
  have HT := Lib.hid hT
  have HD := Lib.hid h
  clear hT h
  go_enter Tryd.func6, Tryd.ntmps6
  go_wp2_with fail
  refine (made17s_any _ bs ⟨#[82]⟩ _ (by exact HD.out)).mono ?_
  rintro e w1 ⟨ov, rs, sv, rfl, h2, h5, hmp, _, hown, hb1⟩
  have HMP := Lib.hid hmp
  have HR := Lib.hid (rul_of_own hown (by omega) (fun r hr => (hmp.each r hr).ok.fits))
  have HB := Lib.hid hb1
  clear hmp hown hb1 h2 h5 HD
  obtain ⟨Al, cl, hol⟩ := HR.out.sl
  obtain ⟨nl, hnl⟩ : ∃ nl, nl = rs.length := ⟨_, rfl⟩
  rw [← hnl] at hol
  subst hol
  have HN := Lib.hid hnl
  clear hnl
  have hsa := Lib.hid (show ∀ r ∈ rs, -10800 ≤ r.save ∧ r.save ≤ 10800 from fun r hr => by have := made_sav HMP.out r hr; omega)
  have HWD := Lib.hid (made_wide HMP.out)
  go_wp2_with fail
  refine (at19_any x m p q _ (by exact HT.out.below HB.out) hx1 hx2 hm1 hm2 hp.out hq.out).mono ?_
  rintro e w2 ⟨rfl, kd, hw2⟩
  have hbd : Below w1.heap.size w1 w2 := by subst hw2; exact bel_drew (Below.refl _ _) _
  clear hw2
  have HB := Lib.hid (bel_trans HB.out hbd)
  have HR := Lib.hid (HR.out.below hbd)
  clear hbd hp hq
  go_wp2_with fail
  refine (after_any _ rs sv p (-2366755200 + q) _ (by exact HT.out.below HB.out) (by exact HR.out) HMP.out hp1 hp2 (by omega) (by omega)).mono ?_
  rintro e w3 ⟨⟨ss, sl⟩, HS, rfl, hb⟩
  have HX := Lib.hid (bel_trans hb (bel_alloc w3 (.cells #[.int .i64 ss, .string sl] 39)))
  have HB := Lib.hid (bel_trans HB.out HX.out)
  have HR := Lib.hid (HR.out.below HX.out)
  have K10 := Lib.hid (heap_alloc_new w3 (.cells #[.int .i64 ss, .string sl] 39))
  clear hb HX
  dsimp only at HS ⊢
  go_wp2_with fail
  have hbd : Below (w3.alloc (.cells #[.int .i64 ss, .string sl] 39)).heap.size (w3.alloc (.cells #[.int .i64 ss, .string sl] 39)) (w3.alloc (.cells #[.int .i64 ss, .string sl] 39)).drew := Below.drew (Below.refl _ _)
  have HB := Lib.hid (bel_trans HB.out hbd)
  have HR := Lib.hid (HR.out.below hbd)
  have K10 := Lib.hid (block_below K10.out hbd)
  clear hbd
  go_wp2_with fail
  refine wp_region_held_drew (S := (fun w' => w'.cell? ⟨w3.heap.size, 0, none⟩ = some (.int .i64 ss) ∧ w'.cell? ⟨w3.heap.size, 1, none⟩ = some (.string sl))) (by kernel_rfl) (by exact ⟨cellB (block_below K10.out (Below.refl _ _)) (i := 0) rfl, cellB (block_below K10.out (Below.refl _ _)) (i := 1) rfl⟩) (fun hHeld => ?_)
  refine wpAnyH_take (i := 0) (v := ?_) rfl (by kernel_rfl) (by kernel_rfl) (by kernel_rfl) (fun _ _ _ h => h) (Or.inl ⟨by rfl, ?_⟩) (by assumption) ?_
  rotate_left 1
  · (intro w hSw; (try dsimp only at hSw); first | (go_simp; done) | (go_simp; with_reducible rfl))
  try simp only [Act.put, List.getElem_toArray, List.getElem_cons_succ, List.getElem_cons_zero, List.setIfInBounds_toArray, List.set_cons_zero, List.set_cons_succ]
  refine wpAnyH_take (i := 1) (v := ?_) rfl (by kernel_rfl) (by kernel_rfl) (by kernel_rfl) (fun _ _ _ h => h) (Or.inl ⟨by rfl, ?_⟩) (by assumption) ?_
  rotate_left 1
  · (intro w hSw; (try dsimp only at hSw); first | (go_simp; done) | (go_simp; with_reducible rfl))
  try simp only [Act.put, List.getElem_toArray, List.getElem_cons_succ, List.getElem_cons_zero, List.setIfInBounds_toArray, List.set_cons_zero, List.set_cons_succ]
  refine wpAnyH_take (i := 2) (v := ?_) rfl (by kernel_rfl) (by kernel_rfl) (by kernel_rfl) (fun _ _ _ h => h) (Or.inl ⟨by rfl, ?_⟩) (by assumption) ?_
  rotate_left 1
  · (intro w hSw; (try dsimp only at hSw); first | (go_simp; done) | (go_simp; with_reducible rfl))
  try simp only [Act.put, List.getElem_toArray, List.getElem_cons_succ, List.getElem_cons_zero, List.setIfInBounds_toArray, List.set_cons_zero, List.set_cons_succ]
  refine wpAnyH_take (i := 3) (v := ?_) rfl (by kernel_rfl) (by kernel_rfl) (by kernel_rfl) (fun _ _ _ h => h) (Or.inl ⟨by rfl, ?_⟩) (by assumption) ?_
  rotate_left 1
  · (intro w hSw; (try dsimp only at hSw); first | (go_simp; done) | (go_simp; with_reducible rfl))
  try simp only [Act.put, List.getElem_toArray, List.getElem_cons_succ, List.getElem_cons_zero, List.setIfInBounds_toArray, List.set_cons_zero, List.set_cons_succ]
  refine wpAnyH_take (i := 4) (v := ?_) rfl (by kernel_rfl) (by kernel_rfl) (by kernel_rfl) (fun _ _ _ h => h) (Or.inl ⟨by rfl, ?_⟩) (by assumption) ?_
  rotate_left 1
  · (intro w hSw; (try dsimp only at hSw); first | (go_simp; done) | (go_simp; with_reducible rfl))
  try simp only [Act.put, List.getElem_toArray, List.getElem_cons_succ, List.getElem_cons_zero, List.setIfInBounds_toArray, List.set_cons_zero, List.set_cons_succ]
  refine wpAnyH_take (i := 5) (v := ?_) rfl (by kernel_rfl) (by kernel_rfl) (by kernel_rfl) (fun _ _ _ h => h) (Or.inl ⟨by rfl, ?_⟩) (by assumption) ?_
  rotate_left 1
  · (intro w hSw; (try dsimp only at hSw); first | (go_simp; done) | (go_simp; with_reducible rfl))
  try simp only [Act.put, List.getElem_toArray, List.getElem_cons_succ, List.getElem_cons_zero, List.setIfInBounds_toArray, List.set_cons_zero, List.set_cons_succ]
  refine wpAnyH_take (i := 7) (v := ?_) rfl (by kernel_rfl) (by kernel_rfl) (by kernel_rfl) (fun _ _ _ h => h) (Or.inl ⟨by rfl, ?_⟩) (by assumption) ?_
  rotate_left 1
  · (intro w hSw; (try dsimp only at hSw); first | (go_simp; done) | (go_simp; with_reducible rfl))
  try simp only [Act.put, List.getElem_toArray, List.getElem_cons_succ, List.getElem_cons_zero, List.setIfInBounds_toArray, List.set_cons_zero, List.set_cons_succ]
  refine wpAnyH_ready (rs := [6]) (by kernel_rfl) (by simp) ?_
  refine AllReadyH.cons rfl (fun K hK => ?_) AllReadyH.nil
  go_simp
  refine (stAt_any _ rs p (-2366755200 + q) _ (by exact HT.out.below HB.out) (by exact HR.out) (made_tame HMP.out) (made_savOk HMP.out) (by omega) (by omega) (by omega) (by omega)).mono ?_
  intro e w20 hq; obtain ⟨rfl, hb20⟩ := AtR.to (v := .agg #[.int .i64 ss, .string sl]) HS.out rfl _ _ hq; clear hq
  go_wp2_with fail
  refine hK.out _ _ ?_ (fun hHeld => ?_)
  · exact ⟨cellB (block_below K10.out hb20) (i := 0) rfl, cellB (block_below K10.out hb20) (i := 1) rfl⟩
  clear hK K
  try simp only [Act.put, List.getElem_toArray, List.getElem_cons_succ, List.getElem_cons_zero, List.setIfInBounds_toArray, List.set_cons_zero, List.set_cons_succ]
  have HB := Lib.hid (bel_trans HB.out hb20)
  have HR := Lib.hid (HR.out.below hb20)
  have K10 := Lib.hid (block_below K10.out hb20)
  refine wpAnyH_take (i := 8) (v := ?_) rfl (by kernel_rfl) (by kernel_rfl) (by kernel_rfl) (fun _ _ _ h => h) (Or.inl ⟨by rfl, ?_⟩) (by assumption) ?_
  rotate_left 1
  · (intro w hSw; (try dsimp only at hSw); first | (go_simp; done) | (go_simp; with_reducible rfl))
  try simp only [Act.put, List.getElem_toArray, List.getElem_cons_succ, List.getElem_cons_zero, List.setIfInBounds_toArray, List.set_cons_zero, List.set_cons_succ]
  refine wpAnyH_take (i := 9) (v := ?_) rfl (by kernel_rfl) (by kernel_rfl) (by kernel_rfl) (fun _ _ _ h => h) (Or.inl ⟨by rfl, ?_⟩) (by assumption) ?_
  rotate_left 1
  · (intro w hSw; (try dsimp only at hSw); first | (go_simp; done) | (go_simp; with_reducible rfl))
  try simp only [Act.put, List.getElem_toArray, List.getElem_cons_succ, List.getElem_cons_zero, List.setIfInBounds_toArray, List.set_cons_zero, List.set_cons_succ]
  refine wpAnyH_done (by kernel_rfl) ?_ _
  go_wp2_with fail
  clear K10 HS
  refine (evIn_any _ rs 1899 2010 _ (by exact HT.out.below HB.out) (by exact HR.out) (by omega) (by omega) (by omega) (by omega)).mono ?_
  rintro e w5 ⟨hb, ⟨_, h2, _⟩ | ⟨_, V, L, hI, rfl, hO, hLL⟩⟩
  · exfalso; omega
  obtain ⟨Aa, ca, hVa⟩ := (RdEv.own hO.out).sl
  subst hVa
  obtain ⟨n, hn⟩ : ∃ n, n = L.length := ⟨_, rfl⟩
  have HA := Lib.hid (RdEv.own hO.out)
  rw [← hn] at HA hLL ⊢
  have HLN := Lib.hid hn
  have HI := hI
  have HB := Lib.hid (bel_trans HB.out hb)
  have HR := Lib.hid (Rul.below HR.out hb)
  clear hb hO hn hI
  go_wp2_with fail
  go_loopw [52] (fun st wr => ∃ (j : Nat) (wq : World), j ≤ n ∧ st = .int .i64 (j : Int) ∧ wr = wq ∧ Hid (Below W.heap.size W wq) ∧ Hid (Rul (.slice Al nl cl) rs wq) ∧ Hid (RdEv (.slice Aa n ca) L wq)) (fun st _ => n - (intOf st).toNat)
  case atStart => exact ⟨0, _, by omega, rfl, rfl, HB, HR, HA⟩
  case round =>
    clear HB HR HA
    obtain ⟨j, wq, hj, rfl, rfl, HB, HR, HA⟩ := hrel
    by_cases hlt : j < n
    · obtain ⟨e, he⟩ : ∃ e, L[j]? = some e := ⟨_, _root_.List.getElem?_eq_getElem (by rw [← HLN.out]; exact hlt)⟩
      have HJE := Lib.hid he
      have hev := ((HI.out.2 e).1 (_root_.List.mem_of_getElem? he)).1
      obtain ⟨g, of_, rfl, a0, a1, a2⟩ := HA.out.at_ he
      obtain ⟨r, hr⟩ := ev_rule hev
      obtain ⟨i, hi, hi1, hil⟩ := ruleAt_ex hr
      obtain ⟨hn3, hn4⟩ := ev_nomfit hev
      have HEE := Lib.hid hev
      obtain ⟨ey, er, en⟩ := e
      dsimp only at a0 a1 a2 hi hr hn3 hn4
      subst hi
      have HRI := Lib.hid hr
      obtain ⟨gr, ofr, rfl, hrg⟩ := HR.out.at_ hi1
      obtain ⟨na, fr, ut, mo, kk, ww, dd, sec, base, sv2, le2⟩ := r
      obtain ⟨_, _, _, _, _, _, _, _, _, e9, e10⟩ := range11 hrg
      dsimp only at e9 e10
      have HBE := Lib.hid (show behS rs ⟨ey, (i : Int), en⟩ = ⟨sv2, le2⟩ by unfold behS; rw [HRI.out])
      have hi3 : ¬ (i : Int) < 0 := by omega
      have hi6 : (0 : Int) ≤ (i : Int) := by omega
      have hi5 : (i : Int) < (nl : Int) := by have := HN.out; omega
      have hi4 : decide ((nl : Int) ≤ (i : Int)) = false := by have := HN.out; simp; omega
      have hk0 : (0 : Int) ≤ (j : Int) := by omega
      have hk1 : (j : Int) < (n : Int) := by omega
      have hbl := bel_alloc wr (.cells #[.int .i64 ey, .int .i64 (i : Int), .int .i64 en] 31)
      have HB := Lib.hid (bel_trans HB.out hbl)
      have HR := Lib.hid (HR.out.below hbl)
      have HA := Lib.hid (HA.out.below hbl)
      have K15 := Lib.hid (heap_alloc_new wr (.cells #[.int .i64 ey, .int .i64 (i : Int), .int .i64 en] 31))
      have E9 := Lib.hid (cell_below hbl e9)
      have E10 := Lib.hid (cell_below hbl e10)
      clear he hr hil hbl hev hi1 hrg e9 e10
      go_wp2_with fail
      clear a0 a1 a2
      refine (instant_any _ rs ey (i : Int) en p _ (by exact HT.out.below HB.out) (by exact HR.out) (made_tame HMP.out) (made_savOk HMP.out) ⟨_, HRI.out⟩ (by omega) (by omega) (by omega) (by omega)).mono ?_
      rintro e w6 ⟨z, hz, rfl, hb⟩
      have HZ := hz
      have hnr := inst_near hsa.out ⟨hp1, hp2⟩ hz.out
      dsimp only at hnr
      obtain ⟨hz1, hz2⟩ := hnr
      have HAO := Lib.hid (at_own HWD.out hsa.out ⟨hp1, hp2⟩ HEE.out HZ.out)
      have HB := Lib.hid (bel_trans HB.out hb)
      have HR := Lib.hid (HR.out.below hb)
      have HA := Lib.hid (HA.out.below hb)
      have K15 := Lib.hid (block_below K15.out hb)
      have E9 := Lib.hid (cell_below hb E9.out)
      have E10 := Lib.hid (cell_below hb E10.out)
      clear hb hz
      have hw1 : IntKind.i64.wrap (z - en) = z - en := IntWalk.i64_in _ (by omega)
      have hw2 : IntKind.i64.wrap (z - 1) = z - 1 := IntWalk.i64_in _ (by omega)
      have hd1 : decide (z - en < -54000) = false := by simp; omega
      have hd2 : decide (54000 < z - en) = false := by simp; omega
      have hd3 : ¬ (z - en < -54000) := by omega
      have hd4 : ¬ (54000 < z - en) := by omega
      rcases Nat.eq_zero_or_pos j with hj0 | hj0
      · have hj1 : ¬ (0 : Int) < (j : Int) := by omega
        have hj2 : decide ((0 : Int) < (j : Int)) = false := by simp; omega
        have y0 := cellB K15.out (i := 0) rfl
        have y1 := cellB K15.out (i := 1) rfl
        have y2 := cellB K15.out (i := 2) rfl
        go_wp2_with fail
        clear y0 y1 y2
        obtain ⟨wz, hwz⟩ : ∃ wz : World, wz = w6 := ⟨_, rfl⟩
        rw [← hwz] at HB HR HA K15 E9 E10 ⊢
        clear hwz
        have hbd : Below wz.heap.size wz wz.drew := Below.drew (Below.refl _ _)
        have HB := Lib.hid (bel_trans HB.out hbd)
        have HR := Lib.hid (HR.out.below hbd)
        have HA := Lib.hid (HA.out.below hbd)
        have E9 := Lib.hid (cell_below hbd E9.out)
        have E10 := Lib.hid (cell_below hbd E10.out)
        have K15 := Lib.hid (block_below K15.out hbd)
        clear hbd
        go_wp2_with fail
        refine wp_region_held_drew (S := (fun w' => w'.cell? ⟨wr.heap.size, 0, none⟩ = some (.int .i64 ey) ∧ w'.cell? ⟨wr.heap.size, 1, none⟩ = some (.int .i64 (i : Int)) ∧ w'.cell? ⟨wr.heap.size, 2, none⟩ = some (.int .i64 en) ∧ w'.cell? ⟨gr, ofr + i * 11 + 9, none⟩ = some (.int .i64 sv2) ∧ w'.cell? ⟨gr, ofr + i * 11 + 10, none⟩ = some (.string le2))) (by kernel_rfl) (by exact ⟨cellB (block_below K15.out (Below.refl _ _)) (i := 0) rfl, cellB (block_below K15.out (Below.refl _ _)) (i := 1) rfl, cellB (block_below K15.out (Below.refl _ _)) (i := 2) rfl, cell_below (Below.refl _ _) E9.out, cell_below (Below.refl _ _) E10.out⟩) (fun hHeld => ?_)
        refine wpAnyH_take (i := 0) (v := ?_) rfl (by kernel_rfl) (by kernel_rfl) (by kernel_rfl) (fun _ _ _ h => h) (Or.inl ⟨by rfl, ?_⟩) (by assumption) ?_
        rotate_left 1
        · (intro w hSw; (try dsimp only at hSw); first | (go_simp; done) | (go_simp; with_reducible rfl))
        try simp only [Act.put, List.getElem_toArray, List.getElem_cons_succ, List.getElem_cons_zero, List.setIfInBounds_toArray, List.set_cons_zero, List.set_cons_succ]
        refine wpAnyH_take (i := 1) (v := ?_) rfl (by kernel_rfl) (by kernel_rfl) (by kernel_rfl) (fun _ _ _ h => h) (Or.inl ⟨by rfl, ?_⟩) (by assumption) ?_
        rotate_left 1
        · (intro w hSw; (try dsimp only at hSw); first | (go_simp; done) | (go_simp; with_reducible rfl))
        try simp only [Act.put, List.getElem_toArray, List.getElem_cons_succ, List.getElem_cons_zero, List.setIfInBounds_toArray, List.set_cons_zero, List.set_cons_succ]
        refine wpAnyH_take (i := 2) (v := ?_) rfl (by kernel_rfl) (by kernel_rfl) (by kernel_rfl) (fun _ _ _ h => h) (Or.inl ⟨by rfl, ?_⟩) (by assumption) ?_
        rotate_left 1
        · (intro w hSw; (try dsimp only at hSw); first | (go_simp; done) | (go_simp; with_reducible rfl))
        try simp only [Act.put, List.getElem_toArray, List.getElem_cons_succ, List.getElem_cons_zero, List.setIfInBounds_toArray, List.set_cons_zero, List.set_cons_succ]
        refine wpAnyH_take (i := 4) (v := ?_) rfl (by kernel_rfl) (by kernel_rfl) (by kernel_rfl) (fun _ _ _ h => h) (Or.inl ⟨by rfl, ?_⟩) (by assumption) ?_
        rotate_left 1
        · (intro w hSw; (try dsimp only at hSw); first | (go_simp; done) | (go_simp; with_reducible rfl))
        try simp only [Act.put, List.getElem_toArray, List.getElem_cons_succ, List.getElem_cons_zero, List.setIfInBounds_toArray, List.set_cons_zero, List.set_cons_succ]
        refine wpAnyH_take (i := 5) (v := ?_) rfl (by kernel_rfl) (by kernel_rfl) (by kernel_rfl) (fun _ _ _ h => h) (Or.inl ⟨by rfl, ?_⟩) (by assumption) ?_
        rotate_left 1
        · (intro w hSw; (try dsimp only at hSw); first | (go_simp; done) | (go_simp; with_reducible rfl))
        try simp only [Act.put, List.getElem_toArray, List.getElem_cons_succ, List.getElem_cons_zero, List.setIfInBounds_toArray, List.set_cons_zero, List.set_cons_succ]
        refine wpAnyH_take (i := 6) (v := ?_) rfl (by kernel_rfl) (by kernel_rfl) (by kernel_rfl) (fun _ _ _ h => h) (Or.inl ⟨by rfl, ?_⟩) (by assumption) ?_
        rotate_left 1
        · (intro w hSw; (try dsimp only at hSw); first | (go_simp; done) | (go_simp; with_reducible rfl))
        try simp only [Act.put, List.getElem_toArray, List.getElem_cons_succ, List.getElem_cons_zero, List.setIfInBounds_toArray, List.set_cons_zero, List.set_cons_succ]
        refine wpAnyH_take (i := 7) (v := ?_) rfl (by kernel_rfl) (by kernel_rfl) (by kernel_rfl) (fun _ _ _ h => h) (Or.inl ⟨by rfl, ?_⟩) (by assumption) ?_
        rotate_left 1
        · (intro w hSw; (try dsimp only at hSw); first | (go_simp; done) | (go_simp; with_reducible rfl))
        try simp only [Act.put, List.getElem_toArray, List.getElem_cons_succ, List.getElem_cons_zero, List.setIfInBounds_toArray, List.set_cons_zero, List.set_cons_succ]
        refine wpAnyH_take (i := 8) (v := ?_) rfl (by kernel_rfl) (by kernel_rfl) (by kernel_rfl) (fun _ _ _ h => h) (Or.inl ⟨by rfl, ?_⟩) (by assumption) ?_
        rotate_left 1
        · (intro w hSw; (try dsimp only at hSw); first | (go_simp; done) | (go_simp; with_reducible rfl))
        try simp only [Act.put, List.getElem_toArray, List.getElem_cons_succ, List.getElem_cons_zero, List.setIfInBounds_toArray, List.set_cons_zero, List.set_cons_succ]
        refine wpAnyH_take (i := 9) (v := ?_) rfl (by kernel_rfl) (by kernel_rfl) (by kernel_rfl) (fun _ _ _ h => h) (Or.inl ⟨by rfl, ?_⟩) (by assumption) ?_
        rotate_left 1
        · (intro w hSw; (try dsimp only at hSw); first | (go_simp; done) | (go_simp; with_reducible rfl))
        try simp only [Act.put, List.getElem_toArray, List.getElem_cons_succ, List.getElem_cons_zero, List.setIfInBounds_toArray, List.set_cons_zero, List.set_cons_succ]
        refine wpAnyH_take (i := 10) (v := ?_) rfl (by kernel_rfl) (by kernel_rfl) (by kernel_rfl) (fun _ _ _ h => h) (Or.inl ⟨by rfl, ?_⟩) (by assumption) ?_
        rotate_left 1
        · (intro w hSw; (try dsimp only at hSw); first | (go_simp; done) | (go_simp; with_reducible rfl))
        try simp only [Act.put, List.getElem_toArray, List.getElem_cons_succ, List.getElem_cons_zero, List.setIfInBounds_toArray, List.set_cons_zero, List.set_cons_succ]
        refine wpAnyH_take (i := 11) (v := ?_) rfl (by kernel_rfl) (by kernel_rfl) (by kernel_rfl) (fun _ _ _ h => h) (Or.inl ⟨by rfl, ?_⟩) (by assumption) ?_
        rotate_left 1
        · (intro w hSw; (try dsimp only at hSw); first | (go_simp; done) | (go_simp; with_reducible rfl))
        try simp only [Act.put, List.getElem_toArray, List.getElem_cons_succ, List.getElem_cons_zero, List.setIfInBounds_toArray, List.set_cons_zero, List.set_cons_succ]
        refine wpAnyH_take (i := 12) (v := ?_) rfl (by kernel_rfl) (by kernel_rfl) (by kernel_rfl) (fun _ _ _ h => h) (Or.inl ⟨by rfl, ?_⟩) (by assumption) ?_
        rotate_left 1
        · (intro w hSw; (try dsimp only at hSw); first | (go_simp; done) | (go_simp; with_reducible rfl))
        try simp only [Act.put, List.getElem_toArray, List.getElem_cons_succ, List.getElem_cons_zero, List.setIfInBounds_toArray, List.set_cons_zero, List.set_cons_succ]
        refine wpAnyH_take (i := 13) (v := ?_) rfl (by kernel_rfl) (by kernel_rfl) (by kernel_rfl) (fun _ _ _ h => h) (Or.inl ⟨by rfl, ?_⟩) (by assumption) ?_
        rotate_left 1
        · (intro w hSw; (try dsimp only at hSw); first | (go_simp; done) | (go_simp; with_reducible rfl))
        try simp only [Act.put, List.getElem_toArray, List.getElem_cons_succ, List.getElem_cons_zero, List.setIfInBounds_toArray, List.set_cons_zero, List.set_cons_succ]
        refine wpAnyH_take (i := 14) (v := ?_) rfl (by kernel_rfl) (by kernel_rfl) (by kernel_rfl) (fun _ _ _ h => h) (Or.inl ⟨by rfl, ?_⟩) (by assumption) ?_
        rotate_left 1
        · (intro w hSw; (try dsimp only at hSw); first | (go_simp; done) | (go_simp; with_reducible rfl))
        try simp only [Act.put, List.getElem_toArray, List.getElem_cons_succ, List.getElem_cons_zero, List.setIfInBounds_toArray, List.set_cons_zero, List.set_cons_succ]
        refine wpAnyH_take (i := 15) (v := ?_) rfl (by kernel_rfl) (by kernel_rfl) (by kernel_rfl) (fun _ _ _ h => h) (Or.inl ⟨by rfl, ?_⟩) (by assumption) ?_
        rotate_left 1
        · (intro w hSw; (try dsimp only at hSw); first | (go_simp; done) | (go_simp; with_reducible rfl))
        try simp only [Act.put, List.getElem_toArray, List.getElem_cons_succ, List.getElem_cons_zero, List.setIfInBounds_toArray, List.set_cons_zero, List.set_cons_succ]
        refine wpAnyH_take (i := 16) (v := ?_) rfl (by kernel_rfl) (by kernel_rfl) (by kernel_rfl) (fun _ _ _ h => h) (Or.inl ⟨by rfl, ?_⟩) (by assumption) ?_
        rotate_left 1
        · (intro w hSw; (try dsimp only at hSw); first | (go_simp; done) | (go_simp; with_reducible rfl))
        try simp only [Act.put, List.getElem_toArray, List.getElem_cons_succ, List.getElem_cons_zero, List.setIfInBounds_toArray, List.set_cons_zero, List.set_cons_succ]
        refine wpAnyH_ready (rs := [3]) (by kernel_rfl) (by simp) ?_
        refine AllReadyH.cons rfl (fun K hK => ?_) AllReadyH.nil
        go_simp
        refine (stAt_any _ rs p z _ (by exact HT.out.below HB.out) (by exact HR.out) (made_tame HMP.out) (made_savOk HMP.out) (by omega) (by omega) (by omega) (by omega)).mono ?_
        intro e w40 hq; obtain ⟨rfl, hb40⟩ := AtR.to (v := .agg #[.int .i64 sv2, .string le2]) HAO.out (by rw [HBE.out]; rfl) _ _ hq; clear hq
        go_wp2_with fail
        refine hK.out _ _ ?_ (fun hHeld => ?_)
        · exact ⟨cellB (block_below K15.out hb40) (i := 0) rfl, cellB (block_below K15.out hb40) (i := 1) rfl, cellB (block_below K15.out hb40) (i := 2) rfl, cell_below hb40 E9.out, cell_below hb40 E10.out⟩
        clear hK K
        try simp only [Act.put, List.getElem_toArray, List.getElem_cons_succ, List.getElem_cons_zero, List.setIfInBounds_toArray, List.set_cons_zero, List.set_cons_succ]
        have HB := Lib.hid (bel_trans HB.out hb40)
        have HR := Lib.hid (HR.out.below hb40)
        have HA := Lib.hid (HA.out.below hb40)
        have E9 := Lib.hid (cell_below hb40 E9.out)
        have E10 := Lib.hid (cell_below hb40 E10.out)
        have K15 := Lib.hid (block_below K15.out hb40)
        refine wpAnyH_take (i := 17) (v := ?_) rfl (by kernel_rfl) (by kernel_rfl) (by kernel_rfl) (fun _ _ _ h => h) (Or.inl ⟨by rfl, ?_⟩) (by assumption) ?_
        rotate_left 1
        · (intro w hSw; (try dsimp only at hSw); first | (go_simp; done) | (go_simp; with_reducible rfl))
        try simp only [Act.put, List.getElem_toArray, List.getElem_cons_succ, List.getElem_cons_zero, List.setIfInBounds_toArray, List.set_cons_zero, List.set_cons_succ]
        refine wpAnyH_take (i := 18) (v := ?_) rfl (by kernel_rfl) (by kernel_rfl) (by kernel_rfl) (fun _ _ _ h => h) (Or.inl ⟨by rfl, ?_⟩) (by assumption) ?_
        rotate_left 1
        · (intro w hSw; (try dsimp only at hSw); first | (go_simp; done) | (go_simp; with_reducible rfl))
        try simp only [Act.put, List.getElem_toArray, List.getElem_cons_succ, List.getElem_cons_zero, List.setIfInBounds_toArray, List.set_cons_zero, List.set_cons_succ]
        refine wpAnyH_take (i := 19) (v := ?_) rfl (by kernel_rfl) (by kernel_rfl) (by kernel_rfl) (fun _ _ _ h => h) (Or.inl ⟨by rfl, ?_⟩) (by assumption) ?_
        rotate_left 1
        · (intro w hSw; (try dsimp only at hSw); first | (go_simp; done) | (go_simp; with_reducible rfl))
        try simp only [Act.put, List.getElem_toArray, List.getElem_cons_succ, List.getElem_cons_zero, List.setIfInBounds_toArray, List.set_cons_zero, List.set_cons_succ]
        refine wpAnyH_take (i := 20) (v := ?_) rfl (by kernel_rfl) (by kernel_rfl) (by kernel_rfl) (fun _ _ _ h => h) (Or.inl ⟨by rfl, ?_⟩) (by assumption) ?_
        rotate_left 1
        · (intro w hSw; (try dsimp only at hSw); first | (go_simp; done) | (go_simp; with_reducible rfl))
        try simp only [Act.put, List.getElem_toArray, List.getElem_cons_succ, List.getElem_cons_zero, List.setIfInBounds_toArray, List.set_cons_zero, List.set_cons_succ]
        refine wpAnyH_take (i := 21) (v := ?_) rfl (by kernel_rfl) (by kernel_rfl) (by kernel_rfl) (fun _ _ _ h => h) (Or.inl ⟨by rfl, ?_⟩) (by assumption) ?_
        rotate_left 1
        · (intro w hSw; (try dsimp only at hSw); first | (go_simp; done) | (go_simp; with_reducible rfl))
        try simp only [Act.put, List.getElem_toArray, List.getElem_cons_succ, List.getElem_cons_zero, List.setIfInBounds_toArray, List.set_cons_zero, List.set_cons_succ]
        refine wpAnyH_take (i := 22) (v := ?_) rfl (by kernel_rfl) (by kernel_rfl) (by kernel_rfl) (fun _ _ _ h => h) (Or.inl ⟨by rfl, ?_⟩) (by assumption) ?_
        rotate_left 1
        · (intro w hSw; (try dsimp only at hSw); first | (go_simp; done) | (go_simp; with_reducible rfl))
        try simp only [Act.put, List.getElem_toArray, List.getElem_cons_succ, List.getElem_cons_zero, List.setIfInBounds_toArray, List.set_cons_zero, List.set_cons_succ]
        refine wpAnyH_take (i := 24) (v := ?_) rfl (by kernel_rfl) (by kernel_rfl) (by kernel_rfl) (fun _ _ _ h => h) (Or.inl ⟨by rfl, ?_⟩) (by assumption) ?_
        rotate_left 1
        · (intro w hSw; (try dsimp only at hSw); first | (go_simp; done) | (go_simp; with_reducible rfl))
        try simp only [Act.put, List.getElem_toArray, List.getElem_cons_succ, List.getElem_cons_zero, List.setIfInBounds_toArray, List.set_cons_zero, List.set_cons_succ]
        refine wpAnyH_take (i := 25) (v := ?_) rfl (by kernel_rfl) (by kernel_rfl) (by kernel_rfl) (fun _ _ _ h => h) (Or.inl ⟨by rfl, ?_⟩) (by assumption) ?_
        rotate_left 1
        · (intro w hSw; (try dsimp only at hSw); first | (go_simp; done) | (go_simp; with_reducible rfl))
        try simp only [Act.put, List.getElem_toArray, List.getElem_cons_succ, List.getElem_cons_zero, List.setIfInBounds_toArray, List.set_cons_zero, List.set_cons_succ]
        refine wpAnyH_take (i := 26) (v := ?_) rfl (by kernel_rfl) (by kernel_rfl) (by kernel_rfl) (fun _ _ _ h => h) (Or.inl ⟨by rfl, ?_⟩) (by assumption) ?_
        rotate_left 1
        · (intro w hSw; (try dsimp only at hSw); first | (go_simp; done) | (go_simp; with_reducible rfl))
        try simp only [Act.put, List.getElem_toArray, List.getElem_cons_succ, List.getElem_cons_zero, List.setIfInBounds_toArray, List.set_cons_zero, List.set_cons_succ]
        refine wpAnyH_ready (rs := [23]) (by kernel_rfl) (by simp) ?_
        refine AllReadyH.cons rfl (fun K hK => ?_) AllReadyH.nil
        go_simp
        refine (stAt_any _ rs p (z - 1) _ (by exact HT.out.below HB.out) (by exact HR.out) (made_tame HMP.out) (made_savOk HMP.out) (by omega) (by omega) (by omega) (by omega)).mono ?_
        intro e w41 hq; obtain ⟨sp, HSP, he, hb41⟩ := hq; obtain ⟨sps, spl⟩ := sp; obtain rfl : e = .returned (.agg #[.int .i64 sps, .string spl]) := he
        go_wp2_with fail
        refine hK.out _ _ ?_ (fun hHeld => ?_)
        · exact ⟨cellB (block_below K15.out hb41) (i := 0) rfl, cellB (block_below K15.out hb41) (i := 1) rfl, cellB (block_below K15.out hb41) (i := 2) rfl, cell_below hb41 E9.out, cell_below hb41 E10.out⟩
        clear hK K
        try simp only [Act.put, List.getElem_toArray, List.getElem_cons_succ, List.getElem_cons_zero, List.setIfInBounds_toArray, List.set_cons_zero, List.set_cons_succ]
        have HB := Lib.hid (bel_trans HB.out hb41)
        have HR := Lib.hid (HR.out.below hb41)
        have HA := Lib.hid (HA.out.below hb41)
        have E9 := Lib.hid (cell_below hb41 E9.out)
        have E10 := Lib.hid (cell_below hb41 E10.out)
        have K15 := Lib.hid (block_below K15.out hb41)
        refine wpAnyH_ready (rs := [27]) (by kernel_rfl) (by simp) ?_
        refine AllReadyH.cons rfl (fun K hK => ?_) AllReadyH.nil
        go_simp
        refine (stBefore_any _ rs en _ (by exact HT.out.below HB.out) (by exact HR.out) (made_tame HMP.out) (by omega) (by omega)).mono ?_
        intro e w42 hq; obtain ⟨o, ho, he, hb42⟩ := hq; have hbs : befS rs o = ⟨sps, spl⟩ := at_prev HWD.out hsa.out ⟨hp1, hp2⟩ HEE.out HZ.out ho.out HSP.out; rw [hbs] at he; obtain rfl : e = .returned (.agg #[.int .i64 sps, .string spl]) := he; clear hbs
        go_wp2_with fail
        refine hK.out _ _ ?_ (fun hHeld => ?_)
        · exact ⟨cellB (block_below K15.out hb42) (i := 0) rfl, cellB (block_below K15.out hb42) (i := 1) rfl, cellB (block_below K15.out hb42) (i := 2) rfl, cell_below hb42 E9.out, cell_below hb42 E10.out⟩
        clear hK K
        try simp only [Act.put, List.getElem_toArray, List.getElem_cons_succ, List.getElem_cons_zero, List.setIfInBounds_toArray, List.set_cons_zero, List.set_cons_succ]
        have HB := Lib.hid (bel_trans HB.out hb42)
        have HR := Lib.hid (HR.out.below hb42)
        have HA := Lib.hid (HA.out.below hb42)
        have E9 := Lib.hid (cell_below hb42 E9.out)
        have E10 := Lib.hid (cell_below hb42 E10.out)
        have K15 := Lib.hid (block_below K15.out hb42)
        refine wpAnyH_take (i := 28) (v := ?_) rfl (by kernel_rfl) (by kernel_rfl) (by kernel_rfl) (fun _ _ _ h => h) (Or.inl ⟨by rfl, ?_⟩) (by assumption) ?_
        rotate_left 1
        · (intro w hSw; (try dsimp only at hSw); first | (go_simp; done) | (go_simp; with_reducible rfl))
        try simp only [Act.put, List.getElem_toArray, List.getElem_cons_succ, List.getElem_cons_zero, List.setIfInBounds_toArray, List.set_cons_zero, List.set_cons_succ]
        refine wpAnyH_take (i := 29) (v := ?_) rfl (by kernel_rfl) (by kernel_rfl) (by kernel_rfl) (fun _ _ _ h => h) (Or.inl ⟨by rfl, ?_⟩) (by assumption) ?_
        rotate_left 1
        · (intro w hSw; (try dsimp only at hSw); first | (go_simp; done) | (go_simp; with_reducible rfl))
        try simp only [Act.put, List.getElem_toArray, List.getElem_cons_succ, List.getElem_cons_zero, List.setIfInBounds_toArray, List.set_cons_zero, List.set_cons_succ]
        refine wpAnyH_done (by kernel_rfl) ?_ _
        go_wp2_with fail
        go_wp2_with fail
        go_round
        case rel => exact ⟨j + 1, _, by omega, by go_num, rfl, HB, HR, HA⟩
        case measure => simp [intOf] <;> omega
      · have hj1 : (0 : Int) < (j : Int) := by omega
        have hj2 : decide ((0 : Int) < (j : Int)) = true := by simp; omega
        obtain ⟨d, hd⟩ : ∃ d, j = d + 1 := ⟨j - 1, by omega⟩
        have hwd : IntKind.i64.wrap ((j : Int) - 1) = (d : Int) := by rw [IntWalk.i64_in _ (by omega)]; omega
        have hd5 : (0 : Int) ≤ (d : Int) := by omega
        have hd6 : (d : Int) < (n : Int) := by omega
        obtain ⟨c, hc⟩ : ∃ c, L[d]? = some c := ⟨_, _root_.List.getElem?_eq_getElem (by rw [← HLN.out]; omega)⟩
        have hcv := ((HI.out.2 c).1 (_root_.List.mem_of_getElem? hc)).1
        have hcl := in_lt HWD.out HI.out hc HJE.out (by omega)
        obtain ⟨c0, c1, c2⟩ := RdEv.ce HA.out hc
        have HCR := Lib.hid (ev_rule hcv)
        obtain ⟨hn5, hn6⟩ := ev_nomfit hcv
        have HCV := Lib.hid hcv
        obtain ⟨cy, cr, cn⟩ := c
        dsimp only at c0 c1 c2 hcl hn5 hn6
        clear hc hcv
        have y0 := cellB K15.out (i := 0) rfl
        have y1 := cellB K15.out (i := 1) rfl
        have y2 := cellB K15.out (i := 2) rfl
        go_wp2_with fail
        clear y0 y1 y2 c0 c1 c2
        refine (instant_any _ rs cy cr cn p _ (by exact HT.out.below HB.out) (by exact HR.out) (made_tame HMP.out) (made_savOk HMP.out) HCR.out (by omega) (by omega) (by omega) (by omega)).mono ?_
        rintro e wz ⟨zc, hz, rfl, hb⟩
        have hfar := inst_far HWD.out hsa.out ⟨hp1, hp2⟩ HCV.out HEE.out hcl hz.out HZ.out
        have HB := Lib.hid (bel_trans HB.out hb)
        have HR := Lib.hid (HR.out.below hb)
        have HA := Lib.hid (HA.out.below hb)
        have K15 := Lib.hid (block_below K15.out hb)
        have E9 := Lib.hid (cell_below hb E9.out)
        have E10 := Lib.hid (cell_below hb E10.out)
        have hnc := inst_near hsa.out ⟨hp1, hp2⟩ hz.out
        dsimp only at hnc
        obtain ⟨hc1, hc2⟩ := hnc
        have hw3 : IntKind.i64.wrap (z - zc) = z - zc := IntWalk.i64_in _ (by omega)
        have hd7 : decide (z - zc ≤ 144000) = false := by simp; omega
        have hd8 : ¬ (z - zc ≤ 144000) := by omega
        clear hb hz
        go_wp2_with fail
        have hbd : Below wz.heap.size wz wz.drew := Below.drew (Below.refl _ _)
        have HB := Lib.hid (bel_trans HB.out hbd)
        have HR := Lib.hid (HR.out.below hbd)
        have HA := Lib.hid (HA.out.below hbd)
        have E9 := Lib.hid (cell_below hbd E9.out)
        have E10 := Lib.hid (cell_below hbd E10.out)
        have K15 := Lib.hid (block_below K15.out hbd)
        clear hbd
        go_wp2_with fail
        refine wp_region_held_drew (S := (fun w' => w'.cell? ⟨wr.heap.size, 0, none⟩ = some (.int .i64 ey) ∧ w'.cell? ⟨wr.heap.size, 1, none⟩ = some (.int .i64 (i : Int)) ∧ w'.cell? ⟨wr.heap.size, 2, none⟩ = some (.int .i64 en) ∧ w'.cell? ⟨gr, ofr + i * 11 + 9, none⟩ = some (.int .i64 sv2) ∧ w'.cell? ⟨gr, ofr + i * 11 + 10, none⟩ = some (.string le2))) (by kernel_rfl) (by exact ⟨cellB (block_below K15.out (Below.refl _ _)) (i := 0) rfl, cellB (block_below K15.out (Below.refl _ _)) (i := 1) rfl, cellB (block_below K15.out (Below.refl _ _)) (i := 2) rfl, cell_below (Below.refl _ _) E9.out, cell_below (Below.refl _ _) E10.out⟩) (fun hHeld => ?_)
        refine wpAnyH_take (i := 0) (v := ?_) rfl (by kernel_rfl) (by kernel_rfl) (by kernel_rfl) (fun _ _ _ h => h) (Or.inl ⟨by rfl, ?_⟩) (by assumption) ?_
        rotate_left 1
        · (intro w hSw; (try dsimp only at hSw); first | (go_simp; done) | (go_simp; with_reducible rfl))
        try simp only [Act.put, List.getElem_toArray, List.getElem_cons_succ, List.getElem_cons_zero, List.setIfInBounds_toArray, List.set_cons_zero, List.set_cons_succ]
        refine wpAnyH_take (i := 1) (v := ?_) rfl (by kernel_rfl) (by kernel_rfl) (by kernel_rfl) (fun _ _ _ h => h) (Or.inl ⟨by rfl, ?_⟩) (by assumption) ?_
        rotate_left 1
        · (intro w hSw; (try dsimp only at hSw); first | (go_simp; done) | (go_simp; with_reducible rfl))
        try simp only [Act.put, List.getElem_toArray, List.getElem_cons_succ, List.getElem_cons_zero, List.setIfInBounds_toArray, List.set_cons_zero, List.set_cons_succ]
        refine wpAnyH_take (i := 2) (v := ?_) rfl (by kernel_rfl) (by kernel_rfl) (by kernel_rfl) (fun _ _ _ h => h) (Or.inl ⟨by rfl, ?_⟩) (by assumption) ?_
        rotate_left 1
        · (intro w hSw; (try dsimp only at hSw); first | (go_simp; done) | (go_simp; with_reducible rfl))
        try simp only [Act.put, List.getElem_toArray, List.getElem_cons_succ, List.getElem_cons_zero, List.setIfInBounds_toArray, List.set_cons_zero, List.set_cons_succ]
        refine wpAnyH_take (i := 4) (v := ?_) rfl (by kernel_rfl) (by kernel_rfl) (by kernel_rfl) (fun _ _ _ h => h) (Or.inl ⟨by rfl, ?_⟩) (by assumption) ?_
        rotate_left 1
        · (intro w hSw; (try dsimp only at hSw); first | (go_simp; done) | (go_simp; with_reducible rfl))
        try simp only [Act.put, List.getElem_toArray, List.getElem_cons_succ, List.getElem_cons_zero, List.setIfInBounds_toArray, List.set_cons_zero, List.set_cons_succ]
        refine wpAnyH_take (i := 5) (v := ?_) rfl (by kernel_rfl) (by kernel_rfl) (by kernel_rfl) (fun _ _ _ h => h) (Or.inl ⟨by rfl, ?_⟩) (by assumption) ?_
        rotate_left 1
        · (intro w hSw; (try dsimp only at hSw); first | (go_simp; done) | (go_simp; with_reducible rfl))
        try simp only [Act.put, List.getElem_toArray, List.getElem_cons_succ, List.getElem_cons_zero, List.setIfInBounds_toArray, List.set_cons_zero, List.set_cons_succ]
        refine wpAnyH_take (i := 6) (v := ?_) rfl (by kernel_rfl) (by kernel_rfl) (by kernel_rfl) (fun _ _ _ h => h) (Or.inl ⟨by rfl, ?_⟩) (by assumption) ?_
        rotate_left 1
        · (intro w hSw; (try dsimp only at hSw); first | (go_simp; done) | (go_simp; with_reducible rfl))
        try simp only [Act.put, List.getElem_toArray, List.getElem_cons_succ, List.getElem_cons_zero, List.setIfInBounds_toArray, List.set_cons_zero, List.set_cons_succ]
        refine wpAnyH_take (i := 7) (v := ?_) rfl (by kernel_rfl) (by kernel_rfl) (by kernel_rfl) (fun _ _ _ h => h) (Or.inl ⟨by rfl, ?_⟩) (by assumption) ?_
        rotate_left 1
        · (intro w hSw; (try dsimp only at hSw); first | (go_simp; done) | (go_simp; with_reducible rfl))
        try simp only [Act.put, List.getElem_toArray, List.getElem_cons_succ, List.getElem_cons_zero, List.setIfInBounds_toArray, List.set_cons_zero, List.set_cons_succ]
        refine wpAnyH_take (i := 8) (v := ?_) rfl (by kernel_rfl) (by kernel_rfl) (by kernel_rfl) (fun _ _ _ h => h) (Or.inl ⟨by rfl, ?_⟩) (by assumption) ?_
        rotate_left 1
        · (intro w hSw; (try dsimp only at hSw); first | (go_simp; done) | (go_simp; with_reducible rfl))
        try simp only [Act.put, List.getElem_toArray, List.getElem_cons_succ, List.getElem_cons_zero, List.setIfInBounds_toArray, List.set_cons_zero, List.set_cons_succ]
        refine wpAnyH_take (i := 9) (v := ?_) rfl (by kernel_rfl) (by kernel_rfl) (by kernel_rfl) (fun _ _ _ h => h) (Or.inl ⟨by rfl, ?_⟩) (by assumption) ?_
        rotate_left 1
        · (intro w hSw; (try dsimp only at hSw); first | (go_simp; done) | (go_simp; with_reducible rfl))
        try simp only [Act.put, List.getElem_toArray, List.getElem_cons_succ, List.getElem_cons_zero, List.setIfInBounds_toArray, List.set_cons_zero, List.set_cons_succ]
        refine wpAnyH_take (i := 10) (v := ?_) rfl (by kernel_rfl) (by kernel_rfl) (by kernel_rfl) (fun _ _ _ h => h) (Or.inl ⟨by rfl, ?_⟩) (by assumption) ?_
        rotate_left 1
        · (intro w hSw; (try dsimp only at hSw); first | (go_simp; done) | (go_simp; with_reducible rfl))
        try simp only [Act.put, List.getElem_toArray, List.getElem_cons_succ, List.getElem_cons_zero, List.setIfInBounds_toArray, List.set_cons_zero, List.set_cons_succ]
        refine wpAnyH_take (i := 11) (v := ?_) rfl (by kernel_rfl) (by kernel_rfl) (by kernel_rfl) (fun _ _ _ h => h) (Or.inl ⟨by rfl, ?_⟩) (by assumption) ?_
        rotate_left 1
        · (intro w hSw; (try dsimp only at hSw); first | (go_simp; done) | (go_simp; with_reducible rfl))
        try simp only [Act.put, List.getElem_toArray, List.getElem_cons_succ, List.getElem_cons_zero, List.setIfInBounds_toArray, List.set_cons_zero, List.set_cons_succ]
        refine wpAnyH_take (i := 12) (v := ?_) rfl (by kernel_rfl) (by kernel_rfl) (by kernel_rfl) (fun _ _ _ h => h) (Or.inl ⟨by rfl, ?_⟩) (by assumption) ?_
        rotate_left 1
        · (intro w hSw; (try dsimp only at hSw); first | (go_simp; done) | (go_simp; with_reducible rfl))
        try simp only [Act.put, List.getElem_toArray, List.getElem_cons_succ, List.getElem_cons_zero, List.setIfInBounds_toArray, List.set_cons_zero, List.set_cons_succ]
        refine wpAnyH_take (i := 13) (v := ?_) rfl (by kernel_rfl) (by kernel_rfl) (by kernel_rfl) (fun _ _ _ h => h) (Or.inl ⟨by rfl, ?_⟩) (by assumption) ?_
        rotate_left 1
        · (intro w hSw; (try dsimp only at hSw); first | (go_simp; done) | (go_simp; with_reducible rfl))
        try simp only [Act.put, List.getElem_toArray, List.getElem_cons_succ, List.getElem_cons_zero, List.setIfInBounds_toArray, List.set_cons_zero, List.set_cons_succ]
        refine wpAnyH_take (i := 14) (v := ?_) rfl (by kernel_rfl) (by kernel_rfl) (by kernel_rfl) (fun _ _ _ h => h) (Or.inl ⟨by rfl, ?_⟩) (by assumption) ?_
        rotate_left 1
        · (intro w hSw; (try dsimp only at hSw); first | (go_simp; done) | (go_simp; with_reducible rfl))
        try simp only [Act.put, List.getElem_toArray, List.getElem_cons_succ, List.getElem_cons_zero, List.setIfInBounds_toArray, List.set_cons_zero, List.set_cons_succ]
        refine wpAnyH_take (i := 15) (v := ?_) rfl (by kernel_rfl) (by kernel_rfl) (by kernel_rfl) (fun _ _ _ h => h) (Or.inl ⟨by rfl, ?_⟩) (by assumption) ?_
        rotate_left 1
        · (intro w hSw; (try dsimp only at hSw); first | (go_simp; done) | (go_simp; with_reducible rfl))
        try simp only [Act.put, List.getElem_toArray, List.getElem_cons_succ, List.getElem_cons_zero, List.setIfInBounds_toArray, List.set_cons_zero, List.set_cons_succ]
        refine wpAnyH_take (i := 16) (v := ?_) rfl (by kernel_rfl) (by kernel_rfl) (by kernel_rfl) (fun _ _ _ h => h) (Or.inl ⟨by rfl, ?_⟩) (by assumption) ?_
        rotate_left 1
        · (intro w hSw; (try dsimp only at hSw); first | (go_simp; done) | (go_simp; with_reducible rfl))
        try simp only [Act.put, List.getElem_toArray, List.getElem_cons_succ, List.getElem_cons_zero, List.setIfInBounds_toArray, List.set_cons_zero, List.set_cons_succ]
        refine wpAnyH_ready (rs := [3]) (by kernel_rfl) (by simp) ?_
        refine AllReadyH.cons rfl (fun K hK => ?_) AllReadyH.nil
        go_simp
        refine (stAt_any _ rs p z _ (by exact HT.out.below HB.out) (by exact HR.out) (made_tame HMP.out) (made_savOk HMP.out) (by omega) (by omega) (by omega) (by omega)).mono ?_
        intro e w40 hq; obtain ⟨rfl, hb40⟩ := AtR.to (v := .agg #[.int .i64 sv2, .string le2]) HAO.out (by rw [HBE.out]; rfl) _ _ hq; clear hq
        go_wp2_with fail
        refine hK.out _ _ ?_ (fun hHeld => ?_)
        · exact ⟨cellB (block_below K15.out hb40) (i := 0) rfl, cellB (block_below K15.out hb40) (i := 1) rfl, cellB (block_below K15.out hb40) (i := 2) rfl, cell_below hb40 E9.out, cell_below hb40 E10.out⟩
        clear hK K
        try simp only [Act.put, List.getElem_toArray, List.getElem_cons_succ, List.getElem_cons_zero, List.setIfInBounds_toArray, List.set_cons_zero, List.set_cons_succ]
        have HB := Lib.hid (bel_trans HB.out hb40)
        have HR := Lib.hid (HR.out.below hb40)
        have HA := Lib.hid (HA.out.below hb40)
        have E9 := Lib.hid (cell_below hb40 E9.out)
        have E10 := Lib.hid (cell_below hb40 E10.out)
        have K15 := Lib.hid (block_below K15.out hb40)
        refine wpAnyH_take (i := 17) (v := ?_) rfl (by kernel_rfl) (by kernel_rfl) (by kernel_rfl) (fun _ _ _ h => h) (Or.inl ⟨by rfl, ?_⟩) (by assumption) ?_
        rotate_left 1
        · (intro w hSw; (try dsimp only at hSw); first | (go_simp; done) | (go_simp; with_reducible rfl))
        try simp only [Act.put, List.getElem_toArray, List.getElem_cons_succ, List.getElem_cons_zero, List.setIfInBounds_toArray, List.set_cons_zero, List.set_cons_succ]
        refine wpAnyH_take (i := 18) (v := ?_) rfl (by kernel_rfl) (by kernel_rfl) (by kernel_rfl) (fun _ _ _ h => h) (Or.inl ⟨by rfl, ?_⟩) (by assumption) ?_
        rotate_left 1
        · (intro w hSw; (try dsimp only at hSw); first | (go_simp; done) | (go_simp; with_reducible rfl))
        try simp only [Act.put, List.getElem_toArray, List.getElem_cons_succ, List.getElem_cons_zero, List.setIfInBounds_toArray, List.set_cons_zero, List.set_cons_succ]
        refine wpAnyH_take (i := 19) (v := ?_) rfl (by kernel_rfl) (by kernel_rfl) (by kernel_rfl) (fun _ _ _ h => h) (Or.inl ⟨by rfl, ?_⟩) (by assumption) ?_
        rotate_left 1
        · (intro w hSw; (try dsimp only at hSw); first | (go_simp; done) | (go_simp; with_reducible rfl))
        try simp only [Act.put, List.getElem_toArray, List.getElem_cons_succ, List.getElem_cons_zero, List.setIfInBounds_toArray, List.set_cons_zero, List.set_cons_succ]
        refine wpAnyH_take (i := 20) (v := ?_) rfl (by kernel_rfl) (by kernel_rfl) (by kernel_rfl) (fun _ _ _ h => h) (Or.inl ⟨by rfl, ?_⟩) (by assumption) ?_
        rotate_left 1
        · (intro w hSw; (try dsimp only at hSw); first | (go_simp; done) | (go_simp; with_reducible rfl))
        try simp only [Act.put, List.getElem_toArray, List.getElem_cons_succ, List.getElem_cons_zero, List.setIfInBounds_toArray, List.set_cons_zero, List.set_cons_succ]
        refine wpAnyH_take (i := 21) (v := ?_) rfl (by kernel_rfl) (by kernel_rfl) (by kernel_rfl) (fun _ _ _ h => h) (Or.inl ⟨by rfl, ?_⟩) (by assumption) ?_
        rotate_left 1
        · (intro w hSw; (try dsimp only at hSw); first | (go_simp; done) | (go_simp; with_reducible rfl))
        try simp only [Act.put, List.getElem_toArray, List.getElem_cons_succ, List.getElem_cons_zero, List.setIfInBounds_toArray, List.set_cons_zero, List.set_cons_succ]
        refine wpAnyH_take (i := 22) (v := ?_) rfl (by kernel_rfl) (by kernel_rfl) (by kernel_rfl) (fun _ _ _ h => h) (Or.inl ⟨by rfl, ?_⟩) (by assumption) ?_
        rotate_left 1
        · (intro w hSw; (try dsimp only at hSw); first | (go_simp; done) | (go_simp; with_reducible rfl))
        try simp only [Act.put, List.getElem_toArray, List.getElem_cons_succ, List.getElem_cons_zero, List.setIfInBounds_toArray, List.set_cons_zero, List.set_cons_succ]
        refine wpAnyH_take (i := 24) (v := ?_) rfl (by kernel_rfl) (by kernel_rfl) (by kernel_rfl) (fun _ _ _ h => h) (Or.inl ⟨by rfl, ?_⟩) (by assumption) ?_
        rotate_left 1
        · (intro w hSw; (try dsimp only at hSw); first | (go_simp; done) | (go_simp; with_reducible rfl))
        try simp only [Act.put, List.getElem_toArray, List.getElem_cons_succ, List.getElem_cons_zero, List.setIfInBounds_toArray, List.set_cons_zero, List.set_cons_succ]
        refine wpAnyH_take (i := 25) (v := ?_) rfl (by kernel_rfl) (by kernel_rfl) (by kernel_rfl) (fun _ _ _ h => h) (Or.inl ⟨by rfl, ?_⟩) (by assumption) ?_
        rotate_left 1
        · (intro w hSw; (try dsimp only at hSw); first | (go_simp; done) | (go_simp; with_reducible rfl))
        try simp only [Act.put, List.getElem_toArray, List.getElem_cons_succ, List.getElem_cons_zero, List.setIfInBounds_toArray, List.set_cons_zero, List.set_cons_succ]
        refine wpAnyH_take (i := 26) (v := ?_) rfl (by kernel_rfl) (by kernel_rfl) (by kernel_rfl) (fun _ _ _ h => h) (Or.inl ⟨by rfl, ?_⟩) (by assumption) ?_
        rotate_left 1
        · (intro w hSw; (try dsimp only at hSw); first | (go_simp; done) | (go_simp; with_reducible rfl))
        try simp only [Act.put, List.getElem_toArray, List.getElem_cons_succ, List.getElem_cons_zero, List.setIfInBounds_toArray, List.set_cons_zero, List.set_cons_succ]
        refine wpAnyH_ready (rs := [23]) (by kernel_rfl) (by simp) ?_
        refine AllReadyH.cons rfl (fun K hK => ?_) AllReadyH.nil
        go_simp
        refine (stAt_any _ rs p (z - 1) _ (by exact HT.out.below HB.out) (by exact HR.out) (made_tame HMP.out) (made_savOk HMP.out) (by omega) (by omega) (by omega) (by omega)).mono ?_
        intro e w41 hq; obtain ⟨sp, HSP, he, hb41⟩ := hq; obtain ⟨sps, spl⟩ := sp; obtain rfl : e = .returned (.agg #[.int .i64 sps, .string spl]) := he
        go_wp2_with fail
        refine hK.out _ _ ?_ (fun hHeld => ?_)
        · exact ⟨cellB (block_below K15.out hb41) (i := 0) rfl, cellB (block_below K15.out hb41) (i := 1) rfl, cellB (block_below K15.out hb41) (i := 2) rfl, cell_below hb41 E9.out, cell_below hb41 E10.out⟩
        clear hK K
        try simp only [Act.put, List.getElem_toArray, List.getElem_cons_succ, List.getElem_cons_zero, List.setIfInBounds_toArray, List.set_cons_zero, List.set_cons_succ]
        have HB := Lib.hid (bel_trans HB.out hb41)
        have HR := Lib.hid (HR.out.below hb41)
        have HA := Lib.hid (HA.out.below hb41)
        have E9 := Lib.hid (cell_below hb41 E9.out)
        have E10 := Lib.hid (cell_below hb41 E10.out)
        have K15 := Lib.hid (block_below K15.out hb41)
        refine wpAnyH_ready (rs := [27]) (by kernel_rfl) (by simp) ?_
        refine AllReadyH.cons rfl (fun K hK => ?_) AllReadyH.nil
        go_simp
        refine (stBefore_any _ rs en _ (by exact HT.out.below HB.out) (by exact HR.out) (made_tame HMP.out) (by omega) (by omega)).mono ?_
        intro e w42 hq; obtain ⟨o, ho, he, hb42⟩ := hq; have hbs : befS rs o = ⟨sps, spl⟩ := at_prev HWD.out hsa.out ⟨hp1, hp2⟩ HEE.out HZ.out ho.out HSP.out; rw [hbs] at he; obtain rfl : e = .returned (.agg #[.int .i64 sps, .string spl]) := he; clear hbs
        go_wp2_with fail
        refine hK.out _ _ ?_ (fun hHeld => ?_)
        · exact ⟨cellB (block_below K15.out hb42) (i := 0) rfl, cellB (block_below K15.out hb42) (i := 1) rfl, cellB (block_below K15.out hb42) (i := 2) rfl, cell_below hb42 E9.out, cell_below hb42 E10.out⟩
        clear hK K
        try simp only [Act.put, List.getElem_toArray, List.getElem_cons_succ, List.getElem_cons_zero, List.setIfInBounds_toArray, List.set_cons_zero, List.set_cons_succ]
        have HB := Lib.hid (bel_trans HB.out hb42)
        have HR := Lib.hid (HR.out.below hb42)
        have HA := Lib.hid (HA.out.below hb42)
        have E9 := Lib.hid (cell_below hb42 E9.out)
        have E10 := Lib.hid (cell_below hb42 E10.out)
        have K15 := Lib.hid (block_below K15.out hb42)
        refine wpAnyH_take (i := 28) (v := ?_) rfl (by kernel_rfl) (by kernel_rfl) (by kernel_rfl) (fun _ _ _ h => h) (Or.inl ⟨by rfl, ?_⟩) (by assumption) ?_
        rotate_left 1
        · (intro w hSw; (try dsimp only at hSw); first | (go_simp; done) | (go_simp; with_reducible rfl))
        try simp only [Act.put, List.getElem_toArray, List.getElem_cons_succ, List.getElem_cons_zero, List.setIfInBounds_toArray, List.set_cons_zero, List.set_cons_succ]
        refine wpAnyH_take (i := 29) (v := ?_) rfl (by kernel_rfl) (by kernel_rfl) (by kernel_rfl) (fun _ _ _ h => h) (Or.inl ⟨by rfl, ?_⟩) (by assumption) ?_
        rotate_left 1
        · (intro w hSw; (try dsimp only at hSw); first | (go_simp; done) | (go_simp; with_reducible rfl))
        try simp only [Act.put, List.getElem_toArray, List.getElem_cons_succ, List.getElem_cons_zero, List.setIfInBounds_toArray, List.set_cons_zero, List.set_cons_succ]
        refine wpAnyH_done (by kernel_rfl) ?_ _
        go_wp2_with fail
        go_wp2_with fail
        go_round
        case rel => exact ⟨j + 1, _, by omega, by go_num, rfl, HB, HR, HA⟩
        case measure => simp [intOf] <;> omega
    · obtain rfl : j = n := by omega
      go_wp2_with fail
      refine (works19_any _ (by exact HT.out.below HB.out)).mono ?_
      rintro e w9 ⟨rfl, hb⟩
      have HB := Lib.hid (bel_trans HB.out hb)
      clear hb
      go_wp2_with fail
      go_ret
      exact ⟨rfl, HB.out⟩

set_option maxRecDepth 100000 in
theorem stateAfter.stateAfter_walk (W : World) (hL : laidMetH Tryd.prog Rows.stateAfterRow.laid W) (v : Value) {H : Type} {enc : TypeId × Value → H} {base : Nat} {d : DataW H} {p : List MemPlace} (hv : Value.okWide Tryd.prog W .any base 23 v)
    (h : DataW.Trod enc Tryd.prog W 0 (fun _ => true) true 23 v d p) (x : Int) (wx : (Lit.int .i32 x).wf = true) (n : Int) (wn : (Lit.int .u64 n).wf = true) :
    Calls Tryd.prog 6 #[v, .int .i32 x, .int .u64 n] W fun e w' => e = .returned (.bool true) ∧ Below W.heap.size W w' := by
  obtain ⟨bs, hD⟩ := drf_of hv h
  obtain ⟨hx1, hx2⟩ := i32_of wx
  obtain ⟨hn1, hn2⟩ : 0 ≤ n ∧ n ≤ 18446744073709551615 := by
    simp [Lit.wf, IntKind.min, IntKind.max, IntKind.signed, IntKind.bits] at wn
    omega
  have hpb := tmod_bd x 43201 (by omega)
  exact stAft_core v bs x n _ _ W ⟨tab_of hL, ktab_of hL⟩ hD hx1 hx2 hn1 hn2 rfl rfl (by omega) (by omega) (by omega) (by omega)
end Go.Proofs.YtophiphhgcmjpaaDoor
