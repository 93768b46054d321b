/-
  The walk of the law StateInitial.
-/
import Derived.Test.YtophiphhgcmjpaaDoorStEq
import Derived.Test.YtophiphhgcmjpaaDoorStIniM
import Derived.Test.YtophiphhgcmjpaaDoorDrArg
import Derived.Deep.DeepCutAuto
import Derived.Deep.CutBlock
namespace Go.Proofs.YtophiphhgcmjpaaDoor
open Go.RowKit Cv
set_option linter.unusedVariables false
set_option linter.unusedSimpArgs false

set_option maxRecDepth 100000 in
set_option maxHeartbeats 32000000 in
theorem stIni_core (v : Value) (bs : _root_.List Int) (W : World) (hT : Tabs W) (h : Drf v bs W) :
    Calls Tryd.prog 3 #[v] W fun e w' => e = .returned (.bool true) ∧ Below W.heap.size W w' := by
  have hes := eqSta
  have HT := Lib.hid hT
  have HD := Lib.hid h
  clear hT h
  go_enter Tryd.func3, Tryd.ntmps3
  go_wp2_with fail
  refine (made17s_any _ bs ⟨#[82]⟩ _ (by exact HD.out)).mono ?_
  rintro e w1 ⟨ov, rs, sv, rfl, h2, h5, hmp, _, hown, hb1⟩
  have HMP := Lib.hid hmp
  have HR := Lib.hid (rul_of_own hown (by omega) (fun r hr => (hmp.each r hr).ok.fits))
  have HB := Lib.hid hb1
  clear hmp hown hb1 h2 h5 HD
  obtain ⟨Al, cl, hol⟩ := HR.out.sl
  obtain ⟨nl, hnl⟩ : ∃ nl, nl = rs.length := ⟨_, rfl⟩
  rw [← hnl] at hol
  subst hol
  have HN := Lib.hid hnl
  clear hnl
  have hsa := Lib.hid (show ∀ r ∈ rs, -10800 ≤ r.save ∧ r.save ≤ 10800 from fun r hr => by have := made_sav HMP.out r hr; omega)
  have HWD := Lib.hid (made_wide HMP.out)
  go_wp2_with fail
  refine (evIn_any _ rs 1850 2170 _ (by exact HT.out.below HB.out) (by exact HR.out) (by omega) (by omega) (by omega) (by omega)).mono ?_
  rintro e w2 ⟨hb, ⟨_, h2, _⟩ | ⟨_, V, L, hI, rfl, hO, hLL⟩⟩
  · exfalso; omega
  obtain ⟨Aa, ca, hVa⟩ := (RdEv.own hO.out).sl
  subst hVa
  obtain ⟨n, hn⟩ : ∃ n, n = L.length := ⟨_, rfl⟩
  have HA := Lib.hid (RdEv.own hO.out)
  rw [← hn] at HA hLL ⊢
  have HLN := Lib.hid hn
  have HI := hI
  have HB := Lib.hid (bel_trans HB.out hb)
  have HR := Lib.hid (Rul.below HR.out hb)
  obtain ⟨x0, hx0⟩ := in_some HMP.out HI.out
  have hn0 : 0 < n := by have := (_root_.List.getElem?_eq_some_iff.1 hx0).1; omega
  have hn1 : ((n : Int) == 0) = false := by simp; omega
  have HX0 := Lib.hid hx0
  have HEV := Lib.hid ((HI.out.2 _).1 (_root_.List.mem_of_getElem? hx0)).1
  have HLE := Lib.hid (fun (e : Ev) (he : IsEv rs e) => in_least HMP.out HI.out HX0.out he)
  clear hb hO hn hI hx0
  go_upto_block 0 with fail
  go_cut [] (fun w' => Hid (Below W.heap.size W w') ∧ Hid (Rul (.slice Al nl cl) rs w') ∧ Hid (RdEv (.slice Aa n ca) L w'))
  case first =>
    go_wp2_with fail
    go_loopw [30] (fun s wr => ∃ (k : Nat) (wq : World), k ≤ n ∧ s = .int .i64 (k : Int) ∧ wr = wq ∧ Hid (Below W.heap.size W wq) ∧ Hid (Rul (.slice Al nl cl) rs wq) ∧ Hid (RdEv (.slice Aa n ca) L wq)) (fun s _ => n - (intOf s).toNat)
    case atStart => exact ⟨0, _, by omega, rfl, rfl, HB, HR, HA⟩
    case round =>
      clear HB HR HA
      obtain ⟨k, wq, hk, rfl, rfl, HB, HR, HA⟩ := hrel
      by_cases hlt : k < n
      · obtain ⟨e, he⟩ : ∃ e, L[k]? = some e := ⟨_, _root_.List.getElem?_eq_getElem (by rw [← HLN.out]; exact hlt)⟩
        obtain ⟨g, off, rfl, a0, a1, a2⟩ := HA.out.at_ he
        obtain ⟨r, hr⟩ := ev_rule ((HI.out.2 e).1 (_root_.List.mem_of_getElem? he)).1
        obtain ⟨i, hi, _, hil⟩ := ruleAt_ex hr
        obtain ⟨ey, er, en⟩ := e
        dsimp only at a0 a1 a2 hi
        subst hi
        have hi3 : ¬ (i : Int) < 0 := by omega
        have hi5 : (i : Int) < (nl : Int) := by have := HN.out; omega
        have hi4 : decide ((nl : Int) ≤ (i : Int)) = false := by have := HN.out; simp; omega
        have hk0 : (0 : Int) ≤ (k : Int) := by omega
        have hk1 : (k : Int) < (n : Int) := by omega
        have hbl := bel_alloc wr (.cells #[.int .i64 ey, .int .i64 (i : Int), .int .i64 en] 31)
        have HB2 := Lib.hid (bel_trans HB.out hbl)
        have HR2 := Lib.hid (HR.out.below hbl)
        have HA2 := Lib.hid (HA.out.below hbl)
        clear he hr hil hbl
        go_wp2_with fail
        clear a0 a1 a2
        go_round
        case rel => exact ⟨k + 1, _, by omega, by go_num, rfl, HB2, HR2, HA2⟩
        case measure => simp [intOf] <;> omega
      · obtain rfl : k = n := by omega
        go_wp2_with fail
        go_meet
        case rel => exact ⟨HB, HR, HA⟩
  case rest =>
    clear HB HR HA
    obtain ⟨HB, HR, HA⟩ := hcut
    obtain ⟨w3, hw3⟩ : ∃ w3 : World, w3 = wc := ⟨_, rfl⟩
    rw [← hw3] at HB HR HA ⊢
    clear hw3
    have HB3 := HB
    have HRb := HR
    have HAb := HA
    obtain ⟨g, off, rfl, _, a1, _⟩ := HA.out.at_ HX0.out
    obtain ⟨r, hr⟩ := ev_rule HEV.out
    obtain ⟨k, hk, hk1, hkl⟩ := ruleAt_ex hr
    obtain ⟨hn3, hn4⟩ := ev_nomfit HEV.out
    obtain ⟨xy, xr, xn⟩ := x0
    dsimp only at hk hr a1 hn3 hn4
    subst hk
    simp only [Nat.zero_mul, Nat.add_zero] at a1
    have HRU := Lib.hid hr
    obtain ⟨gr, ofr, rfl, hrg⟩ := HR.out.at_ hk1
    obtain ⟨na, fr, ut, mo, kk, ww, dd, sec, base, save, le⟩ := r
    obtain ⟨_, _, _, _, _, _, _, _, _, a9, a10⟩ := range11 hrg
    dsimp only at a9 a10
    have HBE := Lib.hid (show behS rs ⟨xy, (k : Int), xn⟩ = ⟨save, le⟩ by unfold behS; rw [HRU.out])
    have HSA := Lib.hid (show saveAt rs (k : Int) = save by unfold saveAt; rw [HRU.out])
    have hk0 : (0 : Int) ≤ (k : Int) := by omega
    have hk2 : (k : Int) < (nl : Int) := by have := HN.out; omega
    have hnn : (0 : Int) < (n : Int) := by omega
    have b1 := cell_below (bel_alloc w3 (.cells #[.int .i64 0, .string ⟨#[]⟩] 39)) a1
    have b9 := cell_below (bel_alloc w3 (.cells #[.int .i64 0, .string ⟨#[]⟩] 39)) a9
    have b10 := cell_below (bel_alloc w3 (.cells #[.int .i64 0, .string ⟨#[]⟩] 39)) a10
    clear hk1 hkl hrg hr
    go_wp2_with fail
    go_region
    clear a1 a9 a10 b1 b9 b10
    obtain ⟨w4, hw4⟩ : ∃ w4 : World, w4 = (w3.alloc (.cells #[.int .i64 save, .string le] 39)).drew := ⟨_, rfl⟩
    have hb : Below w3.heap.size w3 w4 := by rw [hw4]; exact Below.drew (bel_alloc _ _)
    have K8 := Lib.hid (show w4.heap[w3.heap.size]? = some (.cells #[.int .i64 save, .string le] 39) by rw [hw4]; exact heap_alloc_new _ _)
    have hs4 : w4.heap.size = w3.heap.size + 1 := by rw [hw4]; simp
    rw [← hw4]
    clear hw4
    have HB := Lib.hid (bel_trans HB.out hb)
    have HR := Lib.hid (HR.out.below hb)
    have HA := Lib.hid (HA.out.below hb)
    have H34 := Lib.hid hb
    clear hb
    obtain ⟨s, hs⟩ : ∃ s, s = initS rs := ⟨_, rfl⟩
    have HS := Lib.hid hs
    clear hs
    have HLT := Lib.hid (show W.heap.size ≤ w3.heap.size from HB3.out.size)
    have y0 := cellB K8.out (i := 0) rfl
    have y1 := cellB K8.out (i := 1) rfl
    go_upto_block 2 with fail
    go_cut [] (fun w' => Hid (Below W.heap.size W w') ∧ Hid (Rul (.slice (some ⟨gr, ofr, none⟩) nl cl) rs w') ∧ Hid (RdEv (.slice (some ⟨g, off, none⟩) n ca) L w') ∧ Hid (w'.heap[w3.heap.size]? = some (.cells #[.int .i64 save, .string le] 39)) ∧ Hid (w'.heap[w3.heap.size + 1]? = some (.cells #[.int .i64 s.save, .string s.le] 39)))
    case first =>
      have hb := bel_alloc w4 (.cells #[.int .i64 save, .string le] 39)
      have K9 := Lib.hid (show (w4.alloc (.cells #[.int .i64 save, .string le] 39)).heap[w3.heap.size + 1]? = some (.cells #[.int .i64 save, .string le] 39) from al_new hs4.symm)
      have HB := Lib.hid (bel_trans HB.out hb)
      have HR := Lib.hid (HR.out.below hb)
      have HA := Lib.hid (HA.out.below hb)
      have K8 := Lib.hid (block_below K8.out hb)
      have H35 := Lib.hid (bel_trans H34.out hb)
      clear hb y0 y1
      go_wp2_with fail
      clear hs4
      go_loopw [65] (fun st wr => ∃ (j : Nat) (wq : World), j ≤ n ∧ st = .int .i64 (j : Int) ∧ wr = wq ∧ Hid (Below W.heap.size W wq) ∧ Hid (Below w3.heap.size w3 wq) ∧ Hid (wq.heap[w3.heap.size]? = some (.cells #[.int .i64 save, .string le] 39)) ∧ Hid (wq.heap[w3.heap.size + 1]? = some (.cells #[.int .i64 save, .string le] 39)) ∧ Hid (∀ (i : Nat) (d : Ev), i < j → L[i]? = some d → saveAt rs d.rule = save)) (fun st _ => n - (intOf st).toNat)
      case atStart => exact ⟨0, _, by omega, rfl, rfl, HB, H35, K8, K9, Lib.hid (fun i d hi => by omega)⟩
      case round =>
        clear HB HR HA K8 K9
        obtain ⟨j, wq, hj, rfl, rfl, HB, H3, K8, K9, HJ⟩ := hrel
        have HR := Lib.hid (HRb.out.below H3.out)
        have HA := Lib.hid (HAb.out.below H3.out)
        by_cases hlt : j < n
        · obtain ⟨e, he⟩ : ∃ e, L[j]? = some e := ⟨_, _root_.List.getElem?_eq_getElem (by rw [← HLN.out]; exact hlt)⟩
          have HJE := Lib.hid he
          have hev := ((HI.out.2 e).1 (_root_.List.mem_of_getElem? he)).1
          obtain ⟨a0, a1, a2⟩ := RdEv.ce HA.out he
          obtain ⟨r, hr⟩ := ev_rule hev
          obtain ⟨i, hi, hi1, hil⟩ := ruleAt_ex hr
          have HEE := Lib.hid hev
          obtain ⟨ey, er, en⟩ := e
          dsimp only at a0 a1 a2 hi hr
          subst hi
          have HRI := Lib.hid hr
          obtain ⟨gr', ofr', hgg, hrg⟩ := HR.out.at_ hi1
          injection hgg with hgg
          injection hgg with hg1 hg2
          subst hg1 hg2
          obtain ⟨na, fr, ut, mo, kk, ww, dd, sec, base, sv2, le2⟩ := r
          obtain ⟨e0, e1, e2, e3, e4, e5, e6, e7, e8, e9, e10⟩ := range11 hrg
          dsimp only at e0 e1 e2 e3 e4 e5 e6 e7 e8 e9 e10
          have HSI := Lib.hid (show saveAt rs (i : Int) = sv2 by unfold saveAt; rw [HRI.out])
          have hi3 : (0 : Int) ≤ (i : Int) := by omega
          have hi5 : (i : Int) < (nl : Int) := by have := HN.out; omega
          have hk0 : (0 : Int) ≤ (j : Int) := by omega
          have hk1 : (j : Int) < (n : Int) := by omega
          have hb := bel_trans (bel_alloc wr (.cells #[.int .i64 ey, .int .i64 (i : Int), .int .i64 en] 31)) (bel_alloc _ (.cells #[.string na, .int .i64 fr, .int .i64 ut, .int .i64 mo, .int .i64 kk, .int .i64 ww, .int .i64 dd, .int .i64 sec, .int .i64 base, .int .i64 sv2, .string le2] 37))
          have HB2 := Lib.hid (bel_trans HB.out hb)
          have H32 := Lib.hid (bel_trans H3.out hb)
          have K82 := Lib.hid (block_below K8.out hb)
          have K92 := Lib.hid (block_below K9.out hb)
          have q0 := cell_below (bel_alloc wr (.cells #[.int .i64 ey, .int .i64 (i : Int), .int .i64 en] 31)) e0
          have q1 := cell_below (bel_alloc wr (.cells #[.int .i64 ey, .int .i64 (i : Int), .int .i64 en] 31)) e1
          have q2 := cell_below (bel_alloc wr (.cells #[.int .i64 ey, .int .i64 (i : Int), .int .i64 en] 31)) e2
          have q3 := cell_below (bel_alloc wr (.cells #[.int .i64 ey, .int .i64 (i : Int), .int .i64 en] 31)) e3
          have q4 := cell_below (bel_alloc wr (.cells #[.int .i64 ey, .int .i64 (i : Int), .int .i64 en] 31)) e4
          have q5 := cell_below (bel_alloc wr (.cells #[.int .i64 ey, .int .i64 (i : Int), .int .i64 en] 31)) e5
          have q6 := cell_below (bel_alloc wr (.cells #[.int .i64 ey, .int .i64 (i : Int), .int .i64 en] 31)) e6
          have q7 := cell_below (bel_alloc wr (.cells #[.int .i64 ey, .int .i64 (i : Int), .int .i64 en] 31)) e7
          have q8 := cell_below (bel_alloc wr (.cells #[.int .i64 ey, .int .i64 (i : Int), .int .i64 en] 31)) e8
          have q9 := cell_below (bel_alloc wr (.cells #[.int .i64 ey, .int .i64 (i : Int), .int .i64 en] 31)) e9
          have q10 := cell_below (bel_alloc wr (.cells #[.int .i64 ey, .int .i64 (i : Int), .int .i64 en] 31)) e10
          clear he hev hr hi1 hil hrg hb
          have y0 := cellB K82.out (i := 0) rfl
          have y1 := cellB K82.out (i := 1) rfl
          have z0 := cellB K92.out (i := 0) rfl
          have z1 := cellB K92.out (i := 1) rfl
          have u0 := frzB K92.out 0
          have u1 := frzB K92.out 1
          by_cases hsv : sv2 = save
          · have hq1 : (sv2 != save) = false := by simp [hsv]
            have hq2 : (sv2 == save) = true := by simp [hsv]
            have HJ2 := Lib.hid (show ∀ (i : Nat) (d : Ev), i < j + 1 → L[i]? = some d → saveAt rs d.rule = save from fun q d hq hd => by
              rcases Nat.lt_or_ge q j with h3 | h3
              · exact HJ.out q d h3 hd
              · obtain rfl : q = j := by omega
                rw [HJE.out] at hd
                cases hd
                exact HSI.out.trans hsv)
            clear hsv
            go_wp2_with fail
            clear a0 a1 a2 e0 e1 e2 e3 e4 e5 e6 e7 e8 e9 e10 q0 q1 q2 q3 q4 q5 q6 q7 q8 q9 q10 y0 y1 z0 z1 u0 u1
            go_round
            case rel => exact ⟨j + 1, _, by omega, by go_num, rfl, HB2, H32, K82, K92, HJ2⟩
            case measure => simp [intOf] <;> omega
          · have hq1 : (sv2 != save) = true := by simp [hsv]
            have hq2 : (sv2 == save) = false := by simp [hsv]
            have HSE := Lib.hid (show s = ⟨sv2, le2⟩ from by
              rw [HS.out, init_some HWD.out (made_hasF HMP.out) HEV.out (fun e he => HLE.out e he) HEE.out (by dsimp only; rw [HSI.out, HSA.out]; exact hsv) (fun e he hs => in_other HMP.out HI.out HJE.out HJ.out he (by dsimp only at hs; rw [HSA.out] at hs; exact hs))]
              unfold behS; rw [HRI.out])
            clear hsv
            have H36 := Lib.hid ((H32.out.setCell (p := ⟨w3.heap.size + 1, 0, none⟩) (by simp) (.int .i64 sv2)).setCell (p := ⟨w3.heap.size + 1, 1, none⟩) (by simp) (.string le2))
            go_wp2_with fail
            go_meet
            case rel => exact ⟨Lib.hid ((HB2.out.setCell (p := ⟨w3.heap.size + 1, 0, none⟩) (by have := HLT.out; simp; omega) _).setCell (p := ⟨w3.heap.size + 1, 1, none⟩) (by have := HLT.out; simp; omega) _), Lib.hid (HRb.out.below H36.out), Lib.hid (HAb.out.below H36.out), Lib.hid (setcs_far (setcs_far K82.out (by omega)) (by omega)), Lib.hid (by rw [HSE.out]; exact setcs (setcs K92.out rfl) rfl)⟩
        · obtain rfl : j = n := by omega
          have HSE := Lib.hid (show s = ⟨save, le⟩ from by
            rw [HS.out, init_none HWD.out (made_hasF HMP.out) HEV.out (fun e he => HLE.out e he) (fun e he => by dsimp only; rw [HSA.out]; exact in_none HMP.out HI.out (fun i d hd => HJ.out i d (by rw [HLN.out]; exact (_root_.List.getElem?_eq_some_iff.1 hd).1) hd) he)]
            exact HBE.out)
          go_wp2_with fail
          go_meet
          case rel => exact ⟨HB, HR, HA, K8, Lib.hid (by rw [HSE.out]; exact K9.out)⟩
    case rest =>
      clear HB HR HA K8 y0 y1
      obtain ⟨HB, HR, HA, K8, K9⟩ := hcut
      obtain ⟨w5, hw5⟩ : ∃ w5 : World, w5 = wc := ⟨_, rfl⟩
      rw [← hw5] at HB HR HA K8 K9 ⊢
      clear hw5
      have HB1 := Lib.hid (show BefIs rs xn none from fun e he hl => by have := HLE.out e he; (try dsimp only at this); omega)
      have HB2 := Lib.hid (show BefIs rs (-9223372036854775808) none from fun e he hl => by have := ev_nomfit he; omega)
      have HB3 := Lib.hid (show BefIs rs (xn + 1) (some ⟨xy, (k : Int), xn⟩) from wide_bef HWD.out HEV.out (by (try dsimp only); omega) (fun e he hl => by (try dsimp only at hl); omega))
      have HA1 := Lib.hid (show AtIs rs 0 (-1152921504606846976) 3 (-1152921504606846976 + 259200) (initS rs) from .inl ⟨fun e he hl => by have := ev_nomfit he; omega, rfl⟩)
      have HA2 := Lib.hid (show AtIs rs 0 (xn - 172800) 3 (xn - 172800 + 259200) (initS rs) from by
        obtain ⟨u, hu⟩ := inst_first HEV.out (fun e he => HLE.out e he) 0
        have := inst_near hsa.out (by omega) hu
        exact at_before HWD.out hsa.out (by omega) HEV.out (fun e he => HLE.out e he) hu (by (try dsimp only at this); omega))
      obtain ⟨_, _, a2⟩ := RdEv.ce (HA.out) HX0.out
      simp only [Nat.zero_mul, Nat.add_zero] at a2
      (try dsimp only at a2)
      have hw1 : IntKind.i64.wrap (xn + 1) = xn + 1 := IntWalk.i64_in _ (by omega)
      have hw2 : IntKind.i64.wrap (xn - 172800) = xn - 172800 := IntWalk.i64_in _ (by omega)
      go_wp2_with fail
      clear a2
      have hbd : Below w5.heap.size w5 w5.drew := Below.drew (Below.refl _ _)
      have HB := Lib.hid (bel_trans HB.out hbd)
      have HR := Lib.hid (HR.out.below hbd)
      have K8 := Lib.hid (block_below K8.out hbd)
      have K9 := Lib.hid (block_below K9.out hbd)
      clear hbd
      go_wp2_with fail
      refine wp_region_held_drew (S := (fun w' => w'.cell? ⟨w3.heap.size, 0, none⟩ = some (.int .i64 save) ∧ w'.cell? ⟨w3.heap.size, 1, none⟩ = some (.string le) ∧ w'.cell? ⟨w3.heap.size + 1, 0, none⟩ = some (.int .i64 s.save) ∧ w'.cell? ⟨w3.heap.size + 1, 1, none⟩ = some (.string s.le))) (by kernel_rfl) (by exact ⟨cellB (block_below K8.out (Below.refl _ _)) (i := 0) rfl, cellB (block_below K8.out (Below.refl _ _)) (i := 1) rfl, cellB (block_below K9.out (Below.refl _ _)) (i := 0) rfl, cellB (block_below K9.out (Below.refl _ _)) (i := 1) rfl⟩) (fun hHeld => ?_)
      refine wpAnyH_take (i := 0) (v := ?_) rfl (by kernel_rfl) (by kernel_rfl) (by kernel_rfl) (fun _ _ _ h => h) (Or.inl ⟨by rfl, ?_⟩) (by assumption) ?_
      rotate_left 1
      · (intro w hSw; (try dsimp only at hSw); first | (go_simp; done) | (go_simp; with_reducible rfl))
      try simp only [Act.put, List.getElem_toArray, List.getElem_cons_succ, List.getElem_cons_zero, List.setIfInBounds_toArray, List.set_cons_zero, List.set_cons_succ]
      refine wpAnyH_take (i := 2) (v := ?_) rfl (by kernel_rfl) (by kernel_rfl) (by kernel_rfl) (fun _ _ _ h => h) (Or.inl ⟨by rfl, ?_⟩) (by assumption) ?_
      rotate_left 1
      · (intro w hSw; (try dsimp only at hSw); first | (go_simp; done) | (go_simp; with_reducible rfl))
      try simp only [Act.put, List.getElem_toArray, List.getElem_cons_succ, List.getElem_cons_zero, List.setIfInBounds_toArray, List.set_cons_zero, List.set_cons_succ]
      refine wpAnyH_ready (rs := [1]) (by kernel_rfl) (by simp) ?_
      refine AllReadyH.cons rfl (fun K hK => ?_) AllReadyH.nil
      go_simp
      refine (initial_any _ rs _ (by exact HT.out.below HB.out) (by exact HR.out) (made_tame HMP.out)).mono ?_
      intro e w20 hq; obtain ⟨rfl, hb20⟩ := StaR.to (v := .agg #[.int .i64 s.save, .string s.le]) (by rw [HS.out]; rfl) _ _ hq; clear hq
      go_wp2_with fail
      refine hK.out _ _ ?_ (fun hHeld => ?_)
      · exact ⟨cellB (block_below K8.out hb20) (i := 0) rfl, cellB (block_below K8.out hb20) (i := 1) rfl, cellB (block_below K9.out hb20) (i := 0) rfl, cellB (block_below K9.out hb20) (i := 1) rfl⟩
      clear hK K
      try simp only [Act.put, List.getElem_toArray, List.getElem_cons_succ, List.getElem_cons_zero, List.setIfInBounds_toArray, List.set_cons_zero, List.set_cons_succ]
      have HB := Lib.hid (bel_trans HB.out hb20)
      have HR := Lib.hid (HR.out.below hb20)
      have K8 := Lib.hid (block_below K8.out hb20)
      have K9 := Lib.hid (block_below K9.out hb20)
      refine wpAnyH_take (i := 3) (v := ?_) rfl (by kernel_rfl) (by kernel_rfl) (by kernel_rfl) (fun _ _ _ h => h) (Or.inl ⟨by rfl, ?_⟩) (by assumption) ?_
      rotate_left 1
      · (intro w hSw; (try dsimp only at hSw); first | (go_simp; done) | (go_simp; with_reducible rfl))
      try simp only [Act.put, List.getElem_toArray, List.getElem_cons_succ, List.getElem_cons_zero, List.setIfInBounds_toArray, List.set_cons_zero, List.set_cons_succ]
      refine wpAnyH_take (i := 4) (v := ?_) rfl (by kernel_rfl) (by kernel_rfl) (by kernel_rfl) (fun _ _ _ h => h) (Or.inl ⟨by rfl, ?_⟩) (by assumption) ?_
      rotate_left 1
      · (intro w hSw; (try dsimp only at hSw); first | (go_simp; done) | (go_simp; with_reducible rfl))
      try simp only [Act.put, List.getElem_toArray, List.getElem_cons_succ, List.getElem_cons_zero, List.setIfInBounds_toArray, List.set_cons_zero, List.set_cons_succ]
      refine wpAnyH_take (i := 5) (v := ?_) rfl (by kernel_rfl) (by kernel_rfl) (by kernel_rfl) (fun _ _ _ h => h) (Or.inl ⟨by rfl, ?_⟩) (by assumption) ?_
      rotate_left 1
      · (intro w hSw; (try dsimp only at hSw); first | (go_simp; done) | (go_simp; with_reducible rfl))
      try simp only [Act.put, List.getElem_toArray, List.getElem_cons_succ, List.getElem_cons_zero, List.setIfInBounds_toArray, List.set_cons_zero, List.set_cons_succ]
      refine wpAnyH_take (i := 6) (v := ?_) rfl (by kernel_rfl) (by kernel_rfl) (by kernel_rfl) (fun _ _ _ h => h) (Or.inl ⟨by rfl, ?_⟩) (by assumption) ?_
      rotate_left 1
      · (intro w hSw; (try dsimp only at hSw); first | (go_simp; done) | (go_simp; with_reducible rfl))
      try simp only [Act.put, List.getElem_toArray, List.getElem_cons_succ, List.getElem_cons_zero, List.setIfInBounds_toArray, List.set_cons_zero, List.set_cons_succ]
      refine wpAnyH_take (i := 8) (v := ?_) rfl (by kernel_rfl) (by kernel_rfl) (by kernel_rfl) (fun _ _ _ h => h) (Or.inl ⟨by rfl, ?_⟩) (by assumption) ?_
      rotate_left 1
      · (intro w hSw; (try dsimp only at hSw); first | (go_simp; done) | (go_simp; with_reducible rfl))
      try simp only [Act.put, List.getElem_toArray, List.getElem_cons_succ, List.getElem_cons_zero, List.setIfInBounds_toArray, List.set_cons_zero, List.set_cons_succ]
      refine wpAnyH_ready (rs := [7]) (by kernel_rfl) (by simp) ?_
      refine AllReadyH.cons rfl (fun K hK => ?_) AllReadyH.nil
      go_simp
      refine (stBefore_any _ rs xn _ (by exact HT.out.below HB.out) (by exact HR.out) (made_tame HMP.out) (by omega) (by omega)).mono ?_
      intro e w21 hq; obtain ⟨rfl, hb21⟩ := BefR.to (v := .agg #[.int .i64 s.save, .string s.le]) HB1.out (by unfold befS; simp only; rw [HS.out]; rfl) _ _ hq; clear hq
      go_wp2_with fail
      refine hK.out _ _ ?_ (fun hHeld => ?_)
      · exact ⟨cellB (block_below K8.out hb21) (i := 0) rfl, cellB (block_below K8.out hb21) (i := 1) rfl, cellB (block_below K9.out hb21) (i := 0) rfl, cellB (block_below K9.out hb21) (i := 1) rfl⟩
      clear hK K
      try simp only [Act.put, List.getElem_toArray, List.getElem_cons_succ, List.getElem_cons_zero, List.setIfInBounds_toArray, List.set_cons_zero, List.set_cons_succ]
      have HB := Lib.hid (bel_trans HB.out hb21)
      have HR := Lib.hid (HR.out.below hb21)
      have K8 := Lib.hid (block_below K8.out hb21)
      have K9 := Lib.hid (block_below K9.out hb21)
      refine wpAnyH_take (i := 9) (v := ?_) rfl (by kernel_rfl) (by kernel_rfl) (by kernel_rfl) (fun _ _ _ h => h) (Or.inl ⟨by rfl, ?_⟩) (by assumption) ?_
      rotate_left 1
      · (intro w hSw; (try dsimp only at hSw); first | (go_simp; done) | (go_simp; with_reducible rfl))
      try simp only [Act.put, List.getElem_toArray, List.getElem_cons_succ, List.getElem_cons_zero, List.setIfInBounds_toArray, List.set_cons_zero, List.set_cons_succ]
      refine wpAnyH_take (i := 10) (v := ?_) rfl (by kernel_rfl) (by kernel_rfl) (by kernel_rfl) (fun _ _ _ h => h) (Or.inl ⟨by rfl, ?_⟩) (by assumption) ?_
      rotate_left 1
      · (intro w hSw; (try dsimp only at hSw); first | (go_simp; done) | (go_simp; with_reducible rfl))
      try simp only [Act.put, List.getElem_toArray, List.getElem_cons_succ, List.getElem_cons_zero, List.setIfInBounds_toArray, List.set_cons_zero, List.set_cons_succ]
      refine wpAnyH_take (i := 11) (v := ?_) rfl (by kernel_rfl) (by kernel_rfl) (by kernel_rfl) (fun _ _ _ h => h) (Or.inl ⟨by rfl, ?_⟩) (by assumption) ?_
      rotate_left 1
      · (intro w hSw; (try dsimp only at hSw); first | (go_simp; done) | (go_simp; with_reducible rfl))
      try simp only [Act.put, List.getElem_toArray, List.getElem_cons_succ, List.getElem_cons_zero, List.setIfInBounds_toArray, List.set_cons_zero, List.set_cons_succ]
      refine wpAnyH_take (i := 12) (v := ?_) rfl (by kernel_rfl) (by kernel_rfl) (by kernel_rfl) (fun _ _ _ h => h) (Or.inl ⟨by rfl, ?_⟩) (by assumption) ?_
      rotate_left 1
      · (intro w hSw; (try dsimp only at hSw); first | (go_simp; done) | (go_simp; with_reducible rfl))
      try simp only [Act.put, List.getElem_toArray, List.getElem_cons_succ, List.getElem_cons_zero, List.setIfInBounds_toArray, List.set_cons_zero, List.set_cons_succ]
      refine wpAnyH_take (i := 14) (v := ?_) rfl (by kernel_rfl) (by kernel_rfl) (by kernel_rfl) (fun _ _ _ h => h) (Or.inl ⟨by rfl, ?_⟩) (by assumption) ?_
      rotate_left 1
      · (intro w hSw; (try dsimp only at hSw); first | (go_simp; done) | (go_simp; with_reducible rfl))
      try simp only [Act.put, List.getElem_toArray, List.getElem_cons_succ, List.getElem_cons_zero, List.setIfInBounds_toArray, List.set_cons_zero, List.set_cons_succ]
      refine wpAnyH_ready (rs := [13]) (by kernel_rfl) (by simp) ?_
      refine AllReadyH.cons rfl (fun K hK => ?_) AllReadyH.nil
      go_simp
      refine (stBefore_any _ rs (-9223372036854775808) _ (by exact HT.out.below HB.out) (by exact HR.out) (made_tame HMP.out) (by omega) (by omega)).mono ?_
      intro e w22 hq; obtain ⟨rfl, hb22⟩ := BefR.to (v := .agg #[.int .i64 s.save, .string s.le]) HB2.out (by unfold befS; simp only; rw [HS.out]; rfl) _ _ hq; clear hq
      go_wp2_with fail
      refine hK.out _ _ ?_ (fun hHeld => ?_)
      · exact ⟨cellB (block_below K8.out hb22) (i := 0) rfl, cellB (block_below K8.out hb22) (i := 1) rfl, cellB (block_below K9.out hb22) (i := 0) rfl, cellB (block_below K9.out hb22) (i := 1) rfl⟩
      clear hK K
      try simp only [Act.put, List.getElem_toArray, List.getElem_cons_succ, List.getElem_cons_zero, List.setIfInBounds_toArray, List.set_cons_zero, List.set_cons_succ]
      have HB := Lib.hid (bel_trans HB.out hb22)
      have HR := Lib.hid (HR.out.below hb22)
      have K8 := Lib.hid (block_below K8.out hb22)
      have K9 := Lib.hid (block_below K9.out hb22)
      refine wpAnyH_take (i := 15) (v := ?_) rfl (by kernel_rfl) (by kernel_rfl) (by kernel_rfl) (fun _ _ _ h => h) (Or.inl ⟨by rfl, ?_⟩) (by assumption) ?_
      rotate_left 1
      · (intro w hSw; (try dsimp only at hSw); first | (go_simp; done) | (go_simp; with_reducible rfl))
      try simp only [Act.put, List.getElem_toArray, List.getElem_cons_succ, List.getElem_cons_zero, List.setIfInBounds_toArray, List.set_cons_zero, List.set_cons_succ]
      refine wpAnyH_take (i := 16) (v := ?_) rfl (by kernel_rfl) (by kernel_rfl) (by kernel_rfl) (fun _ _ _ h => h) (Or.inl ⟨by rfl, ?_⟩) (by assumption) ?_
      rotate_left 1
      · (intro w hSw; (try dsimp only at hSw); first | (go_simp; done) | (go_simp; with_reducible rfl))
      try simp only [Act.put, List.getElem_toArray, List.getElem_cons_succ, List.getElem_cons_zero, List.setIfInBounds_toArray, List.set_cons_zero, List.set_cons_succ]
      refine wpAnyH_take (i := 17) (v := ?_) rfl (by kernel_rfl) (by kernel_rfl) (by kernel_rfl) (fun _ _ _ h => h) (Or.inl ⟨by rfl, ?_⟩) (by assumption) ?_
      rotate_left 1
      · (intro w hSw; (try dsimp only at hSw); first | (go_simp; done) | (go_simp; with_reducible rfl))
      try simp only [Act.put, List.getElem_toArray, List.getElem_cons_succ, List.getElem_cons_zero, List.setIfInBounds_toArray, List.set_cons_zero, List.set_cons_succ]
      refine wpAnyH_take (i := 18) (v := ?_) rfl (by kernel_rfl) (by kernel_rfl) (by kernel_rfl) (fun _ _ _ h => h) (Or.inl ⟨by rfl, ?_⟩) (by assumption) ?_
      rotate_left 1
      · (intro w hSw; (try dsimp only at hSw); first | (go_simp; done) | (go_simp; with_reducible rfl))
      try simp only [Act.put, List.getElem_toArray, List.getElem_cons_succ, List.getElem_cons_zero, List.setIfInBounds_toArray, List.set_cons_zero, List.set_cons_succ]
      refine wpAnyH_take (i := 19) (v := ?_) rfl (by kernel_rfl) (by kernel_rfl) (by kernel_rfl) (fun _ _ _ h => h) (Or.inl ⟨by rfl, ?_⟩) (by assumption) ?_
      rotate_left 1
      · (intro w hSw; (try dsimp only at hSw); first | (go_simp; done) | (go_simp; with_reducible rfl))
      try simp only [Act.put, List.getElem_toArray, List.getElem_cons_succ, List.getElem_cons_zero, List.setIfInBounds_toArray, List.set_cons_zero, List.set_cons_succ]
      refine wpAnyH_take (i := 20) (v := ?_) rfl (by kernel_rfl) (by kernel_rfl) (by kernel_rfl) (fun _ _ _ h => h) (Or.inl ⟨by rfl, ?_⟩) (by assumption) ?_
      rotate_left 1
      · (intro w hSw; (try dsimp only at hSw); first | (go_simp; done) | (go_simp; with_reducible rfl))
      try simp only [Act.put, List.getElem_toArray, List.getElem_cons_succ, List.getElem_cons_zero, List.setIfInBounds_toArray, List.set_cons_zero, List.set_cons_succ]
      refine wpAnyH_take (i := 22) (v := ?_) rfl (by kernel_rfl) (by kernel_rfl) (by kernel_rfl) (fun _ _ _ h => h) (Or.inl ⟨by rfl, ?_⟩) (by assumption) ?_
      rotate_left 1
      · (intro w hSw; (try dsimp only at hSw); first | (go_simp; done) | (go_simp; with_reducible rfl))
      try simp only [Act.put, List.getElem_toArray, List.getElem_cons_succ, List.getElem_cons_zero, List.setIfInBounds_toArray, List.set_cons_zero, List.set_cons_succ]
      refine wpAnyH_ready (rs := [21]) (by kernel_rfl) (by simp) ?_
      refine AllReadyH.cons rfl (fun K hK => ?_) AllReadyH.nil
      go_simp
      refine (stBefore_any _ rs (xn + 1) _ (by exact HT.out.below HB.out) (by exact HR.out) (made_tame HMP.out) (by omega) (by omega)).mono ?_
      intro e w23 hq; obtain ⟨rfl, hb23⟩ := BefR.to (v := .agg #[.int .i64 save, .string le]) HB3.out (by unfold befS; simp only; rw [HBE.out]; rfl) _ _ hq; clear hq
      go_wp2_with fail
      refine hK.out _ _ ?_ (fun hHeld => ?_)
      · exact ⟨cellB (block_below K8.out hb23) (i := 0) rfl, cellB (block_below K8.out hb23) (i := 1) rfl, cellB (block_below K9.out hb23) (i := 0) rfl, cellB (block_below K9.out hb23) (i := 1) rfl⟩
      clear hK K
      try simp only [Act.put, List.getElem_toArray, List.getElem_cons_succ, List.getElem_cons_zero, List.setIfInBounds_toArray, List.set_cons_zero, List.set_cons_succ]
      have HB := Lib.hid (bel_trans HB.out hb23)
      have HR := Lib.hid (HR.out.below hb23)
      have K8 := Lib.hid (block_below K8.out hb23)
      have K9 := Lib.hid (block_below K9.out hb23)
      refine wpAnyH_take (i := 23) (v := ?_) rfl (by kernel_rfl) (by kernel_rfl) (by kernel_rfl) (fun _ _ _ h => h) (Or.inl ⟨by rfl, ?_⟩) (by assumption) ?_
      rotate_left 1
      · (intro w hSw; (try dsimp only at hSw); first | (go_simp; done) | (go_simp; with_reducible rfl))
      try simp only [Act.put, List.getElem_toArray, List.getElem_cons_succ, List.getElem_cons_zero, List.setIfInBounds_toArray, List.set_cons_zero, List.set_cons_succ]
      refine wpAnyH_take (i := 24) (v := ?_) rfl (by kernel_rfl) (by kernel_rfl) (by kernel_rfl) (fun _ _ _ h => h) (Or.inl ⟨by rfl, ?_⟩) (by assumption) ?_
      rotate_left 1
      · (intro w hSw; (try dsimp only at hSw); first | (go_simp; done) | (go_simp; with_reducible rfl))
      try simp only [Act.put, List.getElem_toArray, List.getElem_cons_succ, List.getElem_cons_zero, List.setIfInBounds_toArray, List.set_cons_zero, List.set_cons_succ]
      refine wpAnyH_take (i := 25) (v := ?_) rfl (by kernel_rfl) (by kernel_rfl) (by kernel_rfl) (fun _ _ _ h => h) (Or.inl ⟨by rfl, ?_⟩) (by assumption) ?_
      rotate_left 1
      · (intro w hSw; (try dsimp only at hSw); first | (go_simp; done) | (go_simp; with_reducible rfl))
      try simp only [Act.put, List.getElem_toArray, List.getElem_cons_succ, List.getElem_cons_zero, List.setIfInBounds_toArray, List.set_cons_zero, List.set_cons_succ]
      refine wpAnyH_take (i := 26) (v := ?_) rfl (by kernel_rfl) (by kernel_rfl) (by kernel_rfl) (fun _ _ _ h => h) (Or.inl ⟨by rfl, ?_⟩) (by assumption) ?_
      rotate_left 1
      · (intro w hSw; (try dsimp only at hSw); first | (go_simp; done) | (go_simp; with_reducible rfl))
      try simp only [Act.put, List.getElem_toArray, List.getElem_cons_succ, List.getElem_cons_zero, List.setIfInBounds_toArray, List.set_cons_zero, List.set_cons_succ]
      refine wpAnyH_take (i := 28) (v := ?_) rfl (by kernel_rfl) (by kernel_rfl) (by kernel_rfl) (fun _ _ _ h => h) (Or.inl ⟨by rfl, ?_⟩) (by assumption) ?_
      rotate_left 1
      · (intro w hSw; (try dsimp only at hSw); first | (go_simp; done) | (go_simp; with_reducible rfl))
      try simp only [Act.put, List.getElem_toArray, List.getElem_cons_succ, List.getElem_cons_zero, List.setIfInBounds_toArray, List.set_cons_zero, List.set_cons_succ]
      refine wpAnyH_ready (rs := [27]) (by kernel_rfl) (by simp) ?_
      refine AllReadyH.cons rfl (fun K hK => ?_) AllReadyH.nil
      go_simp
      refine (stAt_any _ rs 0 (-1152921504606846976) _ (by exact HT.out.below HB.out) (by exact HR.out) (made_tame HMP.out) (made_savOk HMP.out) (by omega) (by omega) (by omega) (by omega)).mono ?_
      intro e w24 hq; obtain ⟨rfl, hb24⟩ := AtR.to (v := .agg #[.int .i64 s.save, .string s.le]) HA1.out (by rw [HS.out]; rfl) _ _ hq; clear hq
      go_wp2_with fail
      refine hK.out _ _ ?_ (fun hHeld => ?_)
      · exact ⟨cellB (block_below K8.out hb24) (i := 0) rfl, cellB (block_below K8.out hb24) (i := 1) rfl, cellB (block_below K9.out hb24) (i := 0) rfl, cellB (block_below K9.out hb24) (i := 1) rfl⟩
      clear hK K
      try simp only [Act.put, List.getElem_toArray, List.getElem_cons_succ, List.getElem_cons_zero, List.setIfInBounds_toArray, List.set_cons_zero, List.set_cons_succ]
      have HB := Lib.hid (bel_trans HB.out hb24)
      have HR := Lib.hid (HR.out.below hb24)
      have K8 := Lib.hid (block_below K8.out hb24)
      have K9 := Lib.hid (block_below K9.out hb24)
      refine wpAnyH_take (i := 29) (v := ?_) rfl (by kernel_rfl) (by kernel_rfl) (by kernel_rfl) (fun _ _ _ h => h) (Or.inl ⟨by rfl, ?_⟩) (by assumption) ?_
      rotate_left 1
      · (intro w hSw; (try dsimp only at hSw); first | (go_simp; done) | (go_simp; with_reducible rfl))
      try simp only [Act.put, List.getElem_toArray, List.getElem_cons_succ, List.getElem_cons_zero, List.setIfInBounds_toArray, List.set_cons_zero, List.set_cons_succ]
      refine wpAnyH_take (i := 30) (v := ?_) rfl (by kernel_rfl) (by kernel_rfl) (by kernel_rfl) (fun _ _ _ h => h) (Or.inl ⟨by rfl, ?_⟩) (by assumption) ?_
      rotate_left 1
      · (intro w hSw; (try dsimp only at hSw); first | (go_simp; done) | (go_simp; with_reducible rfl))
      try simp only [Act.put, List.getElem_toArray, List.getElem_cons_succ, List.getElem_cons_zero, List.setIfInBounds_toArray, List.set_cons_zero, List.set_cons_succ]
      refine wpAnyH_take (i := 31) (v := ?_) rfl (by kernel_rfl) (by kernel_rfl) (by kernel_rfl) (fun _ _ _ h => h) (Or.inl ⟨by rfl, ?_⟩) (by assumption) ?_
      rotate_left 1
      · (intro w hSw; (try dsimp only at hSw); first | (go_simp; done) | (go_simp; with_reducible rfl))
      try simp only [Act.put, List.getElem_toArray, List.getElem_cons_succ, List.getElem_cons_zero, List.setIfInBounds_toArray, List.set_cons_zero, List.set_cons_succ]
      refine wpAnyH_take (i := 32) (v := ?_) rfl (by kernel_rfl) (by kernel_rfl) (by kernel_rfl) (fun _ _ _ h => h) (Or.inl ⟨by rfl, ?_⟩) (by assumption) ?_
      rotate_left 1
      · (intro w hSw; (try dsimp only at hSw); first | (go_simp; done) | (go_simp; with_reducible rfl))
      try simp only [Act.put, List.getElem_toArray, List.getElem_cons_succ, List.getElem_cons_zero, List.setIfInBounds_toArray, List.set_cons_zero, List.set_cons_succ]
      refine wpAnyH_take (i := 33) (v := ?_) rfl (by kernel_rfl) (by kernel_rfl) (by kernel_rfl) (fun _ _ _ h => h) (Or.inl ⟨by rfl, ?_⟩) (by assumption) ?_
      rotate_left 1
      · (intro w hSw; (try dsimp only at hSw); first | (go_simp; done) | (go_simp; with_reducible rfl))
      try simp only [Act.put, List.getElem_toArray, List.getElem_cons_succ, List.getElem_cons_zero, List.setIfInBounds_toArray, List.set_cons_zero, List.set_cons_succ]
      refine wpAnyH_take (i := 34) (v := ?_) rfl (by kernel_rfl) (by kernel_rfl) (by kernel_rfl) (fun _ _ _ h => h) (Or.inl ⟨by rfl, ?_⟩) (by assumption) ?_
      rotate_left 1
      · (intro w hSw; (try dsimp only at hSw); first | (go_simp; done) | (go_simp; with_reducible rfl))
      try simp only [Act.put, List.getElem_toArray, List.getElem_cons_succ, List.getElem_cons_zero, List.setIfInBounds_toArray, List.set_cons_zero, List.set_cons_succ]
      refine wpAnyH_take (i := 36) (v := ?_) rfl (by kernel_rfl) (by kernel_rfl) (by kernel_rfl) (fun _ _ _ h => h) (Or.inl ⟨by rfl, ?_⟩) (by assumption) ?_
      rotate_left 1
      · (intro w hSw; (try dsimp only at hSw); first | (go_simp; done) | (go_simp; with_reducible rfl))
      try simp only [Act.put, List.getElem_toArray, List.getElem_cons_succ, List.getElem_cons_zero, List.setIfInBounds_toArray, List.set_cons_zero, List.set_cons_succ]
      refine wpAnyH_ready (rs := [35]) (by kernel_rfl) (by simp) ?_
      refine AllReadyH.cons rfl (fun K hK => ?_) AllReadyH.nil
      go_simp
      refine (stAt_any _ rs 0 (xn - 172800) _ (by exact HT.out.below HB.out) (by exact HR.out) (made_tame HMP.out) (made_savOk HMP.out) (by omega) (by omega) (by omega) (by omega)).mono ?_
      intro e w25 hq; obtain ⟨rfl, hb25⟩ := AtR.to (v := .agg #[.int .i64 s.save, .string s.le]) HA2.out (by rw [HS.out]; rfl) _ _ hq; clear hq
      go_wp2_with fail
      refine hK.out _ _ ?_ (fun hHeld => ?_)
      · exact ⟨cellB (block_below K8.out hb25) (i := 0) rfl, cellB (block_below K8.out hb25) (i := 1) rfl, cellB (block_below K9.out hb25) (i := 0) rfl, cellB (block_below K9.out hb25) (i := 1) rfl⟩
      clear hK K
      try simp only [Act.put, List.getElem_toArray, List.getElem_cons_succ, List.getElem_cons_zero, List.setIfInBounds_toArray, List.set_cons_zero, List.set_cons_succ]
      have HB := Lib.hid (bel_trans HB.out hb25)
      have HR := Lib.hid (HR.out.below hb25)
      have K8 := Lib.hid (block_below K8.out hb25)
      have K9 := Lib.hid (block_below K9.out hb25)
      refine wpAnyH_take (i := 37) (v := ?_) rfl (by kernel_rfl) (by kernel_rfl) (by kernel_rfl) (fun _ _ _ h => h) (Or.inl ⟨by rfl, ?_⟩) (by assumption) ?_
      rotate_left 1
      · (intro w hSw; (try dsimp only at hSw); first | (go_simp; done) | (go_simp; with_reducible rfl))
      try simp only [Act.put, List.getElem_toArray, List.getElem_cons_succ, List.getElem_cons_zero, List.setIfInBounds_toArray, List.set_cons_zero, List.set_cons_succ]
      refine wpAnyH_take (i := 38) (v := ?_) rfl (by kernel_rfl) (by kernel_rfl) (by kernel_rfl) (fun _ _ _ h => h) (Or.inl ⟨by rfl, ?_⟩) (by assumption) ?_
      rotate_left 1
      · (intro w hSw; (try dsimp only at hSw); first | (go_simp; done) | (go_simp; with_reducible rfl))
      try simp only [Act.put, List.getElem_toArray, List.getElem_cons_succ, List.getElem_cons_zero, List.setIfInBounds_toArray, List.set_cons_zero, List.set_cons_succ]
      refine wpAnyH_take (i := 39) (v := ?_) rfl (by kernel_rfl) (by kernel_rfl) (by kernel_rfl) (fun _ _ _ h => h) (Or.inl ⟨by rfl, ?_⟩) (by assumption) ?_
      rotate_left 1
      · (intro w hSw; (try dsimp only at hSw); first | (go_simp; done) | (go_simp; with_reducible rfl))
      try simp only [Act.put, List.getElem_toArray, List.getElem_cons_succ, List.getElem_cons_zero, List.setIfInBounds_toArray, List.set_cons_zero, List.set_cons_succ]
      refine wpAnyH_ready (rs := [40]) (by kernel_rfl) (by simp) ?_
      refine AllReadyH.cons rfl (fun K hK => ?_) AllReadyH.nil
      go_simp
      refine (works19_any _ (by exact HT.out.below HB.out)).mono ?_
      rintro e w26 ⟨rfl, hb26⟩
      go_wp2_with fail
      refine hK.out _ _ ?_ (fun hHeld => ?_)
      · exact ⟨cellB (block_below K8.out hb26) (i := 0) rfl, cellB (block_below K8.out hb26) (i := 1) rfl, cellB (block_below K9.out hb26) (i := 0) rfl, cellB (block_below K9.out hb26) (i := 1) rfl⟩
      clear hK K
      try simp only [Act.put, List.getElem_toArray, List.getElem_cons_succ, List.getElem_cons_zero, List.setIfInBounds_toArray, List.set_cons_zero, List.set_cons_succ]
      have HB := Lib.hid (bel_trans HB.out hb26)
      have HR := Lib.hid (HR.out.below hb26)
      have K8 := Lib.hid (block_below K8.out hb26)
      have K9 := Lib.hid (block_below K9.out hb26)
      refine wpAnyH_take (i := 41) (v := ?_) rfl (by kernel_rfl) (by kernel_rfl) (by kernel_rfl) (fun _ _ _ h => h) (Or.inl ⟨by rfl, ?_⟩) (by assumption) ?_
      rotate_left 1
      · (intro w hSw; (try dsimp only at hSw); first | (go_simp; done) | (go_simp; with_reducible rfl))
      try simp only [Act.put, List.getElem_toArray, List.getElem_cons_succ, List.getElem_cons_zero, List.setIfInBounds_toArray, List.set_cons_zero, List.set_cons_succ]
      refine wpAnyH_take (i := 42) (v := ?_) rfl (by kernel_rfl) (by kernel_rfl) (by kernel_rfl) (fun _ _ _ h => h) (Or.inl ⟨by rfl, ?_⟩) (by assumption) ?_
      rotate_left 1
      · (intro w hSw; (try dsimp only at hSw); first | (go_simp; done) | (go_simp; with_reducible rfl))
      try simp only [Act.put, List.getElem_toArray, List.getElem_cons_succ, List.getElem_cons_zero, List.setIfInBounds_toArray, List.set_cons_zero, List.set_cons_succ]
      refine wpAnyH_done (by kernel_rfl) ?_ _
      go_wp2_with fail
      go_ret
      exact ⟨rfl, HB.out⟩

set_option maxRecDepth 100000 in
theorem stateInitial.stateInitial_walk (W : World) (hL : laidMetH Tryd.prog Rows.stateInitialRow.laid W) (v : Value) {H : Type} {enc : TypeId × Value → H} {base : Nat} {d : DataW H} {p : List MemPlace} (hv : Value.okWide Tryd.prog W .any base 23 v)
    (h : DataW.Trod enc Tryd.prog W 0 (fun _ => true) true 23 v d p) :
    Calls Tryd.prog 3 #[v] W fun e w' => e = .returned (.bool true) ∧ Below W.heap.size W w' := by
  obtain ⟨bs, hD⟩ := drf_of hv h
  exact stIni_core v bs W ⟨tab_of hL, ktab_of hL⟩ hD
end Go.Proofs.YtophiphhgcmjpaaDoor
