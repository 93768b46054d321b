/-
  The walk of the law ApartSets.
-/
import Derived.Test.YtghmdaahmijdiaaDoorApEx
import Derived.Test.YtghmdaahmijdiaaDoorApMoreW
import Derived.Test.YtghmdaahmijdiaaDoorApSetsM
import Derived.Test.YtghmdaahmijdiaaDoorDrArg
import Derived.Deep.DeepCutAuto
import Derived.Deep.CutBlock
namespace Go.Proofs.YtghmdaahmijdiaaDoor
open Go.RowKit Cv
set_option linter.unusedVariables false
set_option linter.unusedSimpArgs false

namespace Cv
theorem fromsAt {w : World} {b k : Nat} {t : TypeId} (h : w.heap[b]? = some (.cells #[.int .i64 1900, .int .i64 2140, .int .i64 2540, .int .i64 9000] t)) (hk : k < 4) : ∃ f : Int, 1900 ≤ f ∧ f ≤ 9000 ∧ w.cell? ⟨b, k, none⟩ = some (.int .i64 f) := by
  rcases (show k = 0 ∨ k = 1 ∨ k = 2 ∨ k = 3 by omega) with rfl | rfl | rfl | rfl
  · exact ⟨1900, by omega, by omega, cellB h (i := 0) rfl⟩
  · exact ⟨2140, by omega, by omega, cellB h (i := 1) rfl⟩
  · exact ⟨2540, by omega, by omega, cellB h (i := 2) rfl⟩
  · exact ⟨9000, by omega, by omega, cellB h (i := 3) rfl⟩
theorem RdEv.ces {g off n cap i : Nat} {l : _root_.List Ev} {w : World} {e : Ev} (h : RdEv (.slice (some ⟨g, off, none⟩) n cap) l w) (hr : l[i]? = some e) : w.cell? ⟨g, off + i * 3 + 2, none⟩ = some (.int .i64 e.nom) := by
  obtain ⟨g', off', h1, h2⟩ := h.at_ hr
  injection h1 with h1
  injection h1 with h3 h4
  subst h3 h4
  exact h2.2.2
end Cv

set_option maxRecDepth 100000 in
set_option maxHeartbeats 32000000 in
theorem apSets_core (v : Value) (bs : _root_.List Int) (y month day sec p1 p2 p3 : Int) (W : World) (hT : Tabs W) (h : Drf v bs W) (hy : y.tmod 200 = p1) (hm : month.tmod 12 = p2) (hd : day.tmod 28 = p3) (a1 : 0 ≤ p1) (a2 : p1 ≤ 199) (b1 : 0 ≤ p2) (b2 : p2 ≤ 11) (c1 : 0 ≤ p3) (c2 : p3 ≤ 27) (hs1 : 0 ≤ sec) (hs2 : sec ≤ 65535) :
    Calls Tryd.prog 5 #[v, .int .u8 y, .int .u8 month, .int .u8 day, .int .u16 sec] W fun e w' => e = .returned (.bool true) ∧ Below W.heap.size W w' := by
  have heq := eqEv
  have hne := neEv
  have HT := Lib.hid hT
  have HD := Lib.hid h
  clear hT h
  go_enter Tryd.func5, Tryd.ntmps5
  go_wp2_with fail
  refine (made17s_any _ bs ⟨#[82]⟩ _ (by exact HD.out)).mono ?_
  rintro e w1 ⟨ov, rs, sv, rfl, h2, h5, hmp, _, hown, hb1⟩
  have HMP := Lib.hid hmp
  have HR := Lib.hid (rul_of_own hown (by omega) (fun r hr => (hmp.each r hr).ok.fits))
  have HB := Lib.hid hb1
  have HFI := Lib.hid (fun r hr => (hmp.each r hr).ok.fits)
  clear hmp hown hb1 HD
  obtain ⟨Al, cap, hol⟩ := HR.out.sl
  obtain ⟨n, hnl⟩ : ∃ n, n = rs.length := ⟨_, rfl⟩
  rw [← hnl] at hol h2 h5
  subst hol
  have HN := Lib.hid hnl
  clear hnl
  obtain ⟨ad, had⟩ : ∃ ad, Al = some ad := by
    cases hr : rs with
    | nil => have := HN.out; rw [hr] at this; simp at this; omega
    | cons r l => obtain ⟨g, off, e, _⟩ := HR.out.at_ (i := 0) (r := r) (by rw [hr]; rfl); exact ⟨_, e⟩
  subst had
  go_wp2_with fail
  refine (apCheck_any _ rs _ (by exact HT.out.below HB.out) (by exact HR.out)).mono ?_
  intro e w2 hq; obtain ⟨rfl, hb⟩ := ChkR.to (v := .tuple #[.agg #[.int .i64 0, .int .i64 0, .int .i64 0], .int .i64 0]) (made_close HMP.out) rfl _ _ hq; clear hq
  have HB := Lib.hid (bel_trans (bel_trans HB.out hb) (bel_alloc w2 (.cells #[.int .i64 0, .int .i64 0, .int .i64 0] 25)))
  have HR := Lib.hid (Rul.below HR.out (bel_trans hb (bel_alloc w2 (.cells #[.int .i64 0, .int .i64 0, .int .i64 0] 25))))
  have K := Lib.hid (heap_alloc_new w2 (.cells #[.int .i64 0, .int .i64 0, .int .i64 0] 25))
  clear hb
  have x0 := cellB K.out (i := 0) rfl
  have x1 := cellB K.out (i := 1) rfl
  have x2 := cellB K.out (i := 2) rfl
  go_upto_block 0 with fail
  go_cut [] (fun w' => Hid (Below W.heap.size W w') ∧ Hid (Rul (.slice (some ad) n cap) rs w'))
  case first =>
    clear x0 x1 x2
    go_wp2_with fail
    go_loopw [44] (fun s wr => ∃ (k : Nat) (wz : World), k ≤ 4 ∧ s = .int .i64 (k : Int) ∧ wr = wz ∧ Hid (Below W.heap.size W wz) ∧ Hid (Rul (.slice (some ad) n cap) rs wz) ∧ Hid (wz.heap[w2.heap.size + 1]? = some (.cells #[.int .i64 1900, .int .i64 2140, .int .i64 2540, .int .i64 9000] 2))) (fun s _ => 4 - (intOf s).toNat)
    case atStart => exact ⟨0, _, by omega, rfl, rfl, Lib.hid (bel_trans HB.out (bel_alloc _ _)), Lib.hid (HR.out.below (bel_alloc _ _)), Lib.hid (heap_alloc2_new _ _ _)⟩
    case round =>
      clear HB HR K
      obtain ⟨k, wz, hk, rfl, rfl, HB, HR, K⟩ := hrel
      by_cases hlt : k < 4
      · obtain ⟨f, hf1, hf2, hf⟩ := fromsAt K.out hlt
        have hk0 : (0 : Int) ≤ (k : Int) := by omega
        have hk1 : (k : Int) < 4 := by omega
        go_wp2_with fail
        refine (evIn_any _ rs f (f + 40) _ (by exact HT.out.below HB.out) (by exact HR.out) (by omega) (by omega) (by omega) (by omega)).mono ?_
        rintro e w3 ⟨hb, ⟨_, h2, _⟩ | ⟨_, V, L, hI, rfl, hO, hLL⟩⟩
        · exfalso; omega
        obtain ⟨Aa, ca, hVa⟩ := (RdEv.own hO.out).sl
        subst hVa
        obtain ⟨q, hq⟩ : ∃ q, q = L.length := ⟨_, rfl⟩
        have HA := Lib.hid (RdEv.own hO.out)
        rw [← hq] at HA hLL ⊢
        have HQ := Lib.hid hq
        have HI := hI
        have HB := Lib.hid (bel_trans HB.out hb)
        have HR := Lib.hid (Rul.below HR.out hb)
        have K := Lib.hid (block_below K.out hb)
        clear hb hO hq hI hf
        go_wp2_with fail
        obtain ⟨wo, hwo⟩ : ∃ wo : World, wo = w3 := ⟨_, rfl⟩
        rw [← hwo] at HB HR K HA ⊢
        clear hwo
        go_loopw [18] (fun s wr => ∃ (i : Nat) (wz : World), 1 ≤ i ∧ i ≤ q + 1 ∧ s = .int .i64 (i : Int) ∧ wr = wz ∧ Hid (Below wo.heap.size wo wz)) (fun s _ => q + 1 - (intOf s).toNat)
        case atStart => exact ⟨1, _, by omega, by omega, rfl, rfl, Lib.hid (Below.refl _ _)⟩
        case round =>
          obtain ⟨i, wz, hi1, hi2, rfl, rfl, HBz⟩ := hrel
          by_cases hlt2 : i < q
          · obtain ⟨d, hd⟩ : ∃ d, i = d + 1 := ⟨i - 1, by omega⟩
            obtain ⟨e, he⟩ : ∃ e, L[i]? = some e := ⟨_, _root_.List.getElem?_eq_getElem (by rw [← HQ.out]; exact hlt2)⟩
            obtain ⟨pe, hpe⟩ : ∃ pe, L[d]? = some pe := ⟨_, _root_.List.getElem?_eq_getElem (by rw [← HQ.out]; omega)⟩
            have hgap := in_gap HMP.out HI.out hpe he (by omega)
            obtain ⟨hn1, hn2⟩ := nom_fit ((HI.out.2 e).1 (_root_.List.mem_of_getElem? he)).1
            obtain ⟨hn3, hn4⟩ := nom_fit ((HI.out.2 pe).1 (_root_.List.mem_of_getElem? hpe)).1
            obtain ⟨g, off, rfl, _, _, a2⟩ := (HA.out.below HBz.out).at_ he
            have b2 := RdEv.ces (HA.out.below HBz.out) hpe
            obtain ⟨ey, er, en⟩ := e
            obtain ⟨py, pr, pn⟩ := pe
            dsimp only at a2 b2 hgap hn1 hn2 hn3 hn4
            have hd1 : IntKind.i64.wrap ((i : Int) - 1) = (d : Int) := by rw [IntWalk.i64_in _ (by omega)]; omega
            have hd2 : (0 : Int) ≤ (d : Int) := by omega
            have hd3 : (d : Int) < (q : Int) := by omega
            have hd4 : (0 : Int) ≤ (i : Int) := by omega
            have hd5 : (i : Int) < (q : Int) := by omega
            have hd6 : decide (en - pn < 259200) = false := by simp; omega
            have hd7 : IntKind.i64.wrap (en - pn) = en - pn := IntWalk.i64_in _ (by omega)
            clear he hpe hd
            go_wp2_with fail
            go_quiet (fail)
            clear a2 b2 hd1 hd7
            have HBz := Lib.hid (bel_drew HBz.out nq)
            go_wp2_with fail
            go_round
            case rel => exact ⟨i + 1, _, by omega, by omega, by go_num, rfl, HBz⟩
            case measure => simp [intOf] <;> omega
          · have hlt3 : ¬ ((i : Int) < (q : Int)) := by omega
            have hlt4 : decide ((i : Int) < (q : Int)) = false := by simp; omega
            go_wp2_with fail
            exact ⟨⟨k + 1, _, by omega, by go_num, rfl, Lib.hid (bel_trans HB.out HBz.out), Lib.hid (HR.out.below HBz.out), Lib.hid (block_below K.out HBz.out)⟩, by simp [intOf] <;> omega⟩
      · obtain rfl : k = 4 := by omega
        go_wp2_with fail
        go_meet
        case rel => exact ⟨HB, HR⟩
  case rest =>
    clear x0 x1 x2 HB HR K
    obtain ⟨HB, HR⟩ := hcut
    obtain ⟨wq, hwq⟩ : ∃ wq : World, wq = wc := ⟨_, rfl⟩
    rw [← hwq] at HB HR ⊢
    clear hwq
    have HS1 := Lib.hid (show (wq.alloc (.cells #[.string ⟨#[82]⟩, .int .i64 (1900 + p1), .int .i64 (1900 + p1), .int .i64 (1 + p2), .int .i64 1, .int .i64 0, .int .i64 (1 + p3), .int .i64 sec, .int .i64 0, .int .i64 0, .string ⟨#[]⟩] 34)).heap.size = wq.heap.size + 1 by simp)
    have H := HR
    obtain ⟨i0, hi, hz0, hzs, hzb⟩ := info_parts infoRu
    have HF := Lib.hid (show ∀ r ∈ rs ++ [(moreRu (1900 + p1) (1 + p2) (1 + p3) sec)], r.fits from fun r hr => by
      rcases _root_.List.mem_append.1 hr with h1 | h1
      · exact HFI.out r h1
      · rw [_root_.List.mem_singleton] at h1; subst h1; unfold Ru.fits moreRu; dsimp only; unfold fit; omega)
    go_upto_region 19 with fail
    go_cut [20] (fun s w' => ∃ s' : Value, s = s' ∧ Hid (Rul s' (rs ++ [(moreRu (1900 + p1) (1 + p2) (1 + p3) sec)]) w') ∧ Hid (Below (wq.alloc (.cells #[.string ⟨#[82]⟩, .int .i64 (1900 + p1), .int .i64 (1900 + p1), .int .i64 (1 + p2), .int .i64 1, .int .i64 0, .int .i64 (1 + p3), .int .i64 sec, .int .i64 0, .int .i64 0, .string ⟨#[]⟩] 34)).heap.size (wq.alloc (.cells #[.string ⟨#[82]⟩, .int .i64 (1900 + p1), .int .i64 (1900 + p1), .int .i64 (1 + p2), .int .i64 1, .int .i64 0, .int .i64 (1 + p3), .int .i64 sec, .int .i64 0, .int .i64 0, .string ⟨#[]⟩] 34)) w'))
    case first =>
      have HBc := Lib.hid (Below.drew (Below.refl (wq.alloc (.cells #[.string ⟨#[82]⟩, .int .i64 (1900 + p1), .int .i64 (1900 + p1), .int .i64 (1 + p2), .int .i64 1, .int .i64 0, .int .i64 (1 + p3), .int .i64 sec, .int .i64 0, .int .i64 0, .string ⟨#[]⟩] 34)).heap.size (wq.alloc (.cells #[.string ⟨#[82]⟩, .int .i64 (1900 + p1), .int .i64 (1900 + p1), .int .i64 (1 + p2), .int .i64 1, .int .i64 0, .int .i64 (1 + p3), .int .i64 sec, .int .i64 0, .int .i64 0, .string ⟨#[]⟩] 34))))
      have HSc := Lib.hid (show (wq.alloc (.cells #[.string ⟨#[82]⟩, .int .i64 (1900 + p1), .int .i64 (1900 + p1), .int .i64 (1 + p2), .int .i64 1, .int .i64 0, .int .i64 (1 + p3), .int .i64 sec, .int .i64 0, .int .i64 0, .string ⟨#[]⟩] 34)).drew.heap[wq.heap.size]? = some (.cells #[.string ⟨#[82]⟩, .int .i64 (1900 + p1), .int .i64 (1900 + p1), .int .i64 (1 + p2), .int .i64 1, .int .i64 0, .int .i64 (1 + p3), .int .i64 sec, .int .i64 0, .int .i64 0, .string ⟨#[]⟩] 34) from heap_alloc_new wq (.cells #[.string ⟨#[82]⟩, .int .i64 (1900 + p1), .int .i64 (1900 + p1), .int .i64 (1 + p2), .int .i64 1, .int .i64 0, .int .i64 (1 + p3), .int .i64 sec, .int .i64 0, .int .i64 0, .string ⟨#[]⟩] 34))
      go_wp2_with fail
      refine wp_region_held_drew (S := (fun w' => w'.cell? ⟨wq.heap.size, 0, none⟩ = some (.string ⟨#[82]⟩) ∧ w'.cell? ⟨wq.heap.size, 1, none⟩ = some (.int .i64 (1900 + p1)) ∧ w'.cell? ⟨wq.heap.size, 2, none⟩ = some (.int .i64 (1900 + p1)) ∧ w'.cell? ⟨wq.heap.size, 3, none⟩ = some (.int .i64 (1 + p2)) ∧ w'.cell? ⟨wq.heap.size, 4, none⟩ = some (.int .i64 1) ∧ w'.cell? ⟨wq.heap.size, 5, none⟩ = some (.int .i64 0) ∧ w'.cell? ⟨wq.heap.size, 6, none⟩ = some (.int .i64 (1 + p3)) ∧ w'.cell? ⟨wq.heap.size, 7, none⟩ = some (.int .i64 sec) ∧ w'.cell? ⟨wq.heap.size, 8, none⟩ = some (.int .i64 0) ∧ w'.cell? ⟨wq.heap.size, 9, none⟩ = some (.int .i64 0) ∧ w'.cell? ⟨wq.heap.size, 10, none⟩ = some (.string ⟨#[]⟩))) (by kernel_rfl) (by exact cells11x HSc.out) (fun hHeld => ?_)
      refine wpAnyH_take (i := 1) (v := ?_) rfl (by kernel_rfl) (by kernel_rfl) (by kernel_rfl) (fun _ _ _ h => h) (Or.inl ⟨by rfl, ?_⟩) (by assumption) ?_
      rotate_left 1
      · (intro w hSw; (try dsimp only at hSw); first | (go_simp; done) | (go_simp; with_reducible rfl))
      try simp only [Act.put, List.getElem_toArray, List.getElem_cons_succ, List.getElem_cons_zero, List.setIfInBounds_toArray, List.set_cons_zero, List.set_cons_succ]
      refine wpAnyH_take (i := 3) (v := ?_) rfl (by kernel_rfl) (by kernel_rfl) (by kernel_rfl) (fun _ _ _ h => h) (Or.inl ⟨by rfl, ?_⟩) (by assumption) ?_
      rotate_left 1
      · (intro w hSw; (try dsimp only at hSw); first | (go_simp; done) | (go_simp; with_reducible rfl))
      try simp only [Act.put, List.getElem_toArray, List.getElem_cons_succ, List.getElem_cons_zero, List.setIfInBounds_toArray, List.set_cons_zero, List.set_cons_succ]
      refine wpAnyH_ready (rs := [0, 4]) (by kernel_rfl) (by simp) ?_
      refine AllReadyH.cons rfl (fun K hK => ?_) (AllReadyH.cons rfl (fun K hK => ?_) AllReadyH.nil)
      · skip
        go_simp
        refine hK.out _ _ ?_ (fun hHeld => ?_)
        · exact cells11x (block_below HSc.out (bel_alloc _ _))
        clear hK K
        try simp only [Act.put, List.getElem_toArray, List.getElem_cons_succ, List.getElem_cons_zero, List.setIfInBounds_toArray, List.set_cons_zero, List.set_cons_succ]
        have HOc := Lib.hid (show ((wq.alloc (.cells #[.string ⟨#[82]⟩, .int .i64 (1900 + p1), .int .i64 (1900 + p1), .int .i64 (1 + p2), .int .i64 1, .int .i64 0, .int .i64 (1 + p3), .int .i64 sec, .int .i64 0, .int .i64 0, .string ⟨#[]⟩] 34)).drew.alloc (.cells #[] 34)).ownsRow (wq.heap.size + 1) 34 11 (.slice (some ⟨wq.heap.size + 1, 0, none⟩) 0 0) 0 [] from own_none_at (by first | rfl | simp) (by rw [← HS1.out]; exact HBc.out.size))
        have HSc := Lib.hid (block_below HSc.out (bel_alloc (wq.alloc (.cells #[.string ⟨#[82]⟩, .int .i64 (1900 + p1), .int .i64 (1900 + p1), .int .i64 (1 + p2), .int .i64 1, .int .i64 0, .int .i64 (1 + p3), .int .i64 sec, .int .i64 0, .int .i64 0, .string ⟨#[]⟩] 34)).drew (.cells #[] 34)))
        have HBc := Lib.hid (bel_trans HBc.out (bel_alloc (wq.alloc (.cells #[.string ⟨#[82]⟩, .int .i64 (1900 + p1), .int .i64 (1900 + p1), .int .i64 (1 + p2), .int .i64 1, .int .i64 0, .int .i64 (1 + p3), .int .i64 sec, .int .i64 0, .int .i64 0, .string ⟨#[]⟩] 34)).drew (.cells #[] 34)))
        refine wpAnyH_ready (rs := [2, 4]) (by kernel_rfl) (by simp) ?_
        refine AllReadyH.cons rfl (fun K hK => ?_) (AllReadyH.cons rfl (fun K hK => ?_) AllReadyH.nil)
        · skip
          rw [if_pos (by rfl)]
          refine wp_append_own (w := ((wq.alloc (.cells #[.string ⟨#[82]⟩, .int .i64 (1900 + p1), .int .i64 (1900 + p1), .int .i64 (1 + p2), .int .i64 1, .int .i64 0, .int .i64 (1 + p3), .int .i64 sec, .int .i64 0, .int .i64 0, .string ⟨#[]⟩] 34)).drew.alloc (.cells #[] 34))) (.tmp 98) (.tmp 99) 22 rfl (wq.heap.size + 1) 34 i0 (.agg #[.string ⟨#[]⟩, .int .i64 0, .int .i64 0, .int .i64 0, .int .i64 0, .int .i64 0, .int .i64 0, .int .i64 0, .int .i64 0, .int .i64 0, .string ⟨#[]⟩]) 11 104 Tryd.underlying22 hi hz0 hzs hzb rfl (by decide) _ 0 [] (by rfl) HOc.out ad n cap (flatRu rs) (by rfl) (by rw [flatRu_len, HN.out]) (fun j u hu => cell_below (bel_trans (bel_alloc wq (.cells #[.string ⟨#[82]⟩, .int .i64 (1900 + p1), .int .i64 (1900 + p1), .int .i64 (1 + p2), .int .i64 1, .int .i64 0, .int .i64 (1 + p3), .int .i64 sec, .int .i64 0, .int .i64 0, .string ⟨#[]⟩] 34)) HBc.out) (H.out.news j u hu)) (flat_one rs) (by unfold maxLen; omega) (by omega) (by rw [← HS1.out]; exact HBc.out.size) ?_
          intro s1 v2 hown1 hgrow1 hnil1
          have HSn := Lib.hid (show v2.heap[wq.heap.size]? = some (.cells #[.string ⟨#[82]⟩, .int .i64 (1900 + p1), .int .i64 (1900 + p1), .int .i64 (1 + p2), .int .i64 1, .int .i64 0, .int .i64 (1 + p3), .int .i64 sec, .int .i64 0, .int .i64 0, .string ⟨#[]⟩] 34) by rw [hgrow1.block wq.heap.size (Array.getElem?_eq_some_iff.1 HSc.out).1 (row_ne HOc.out (.inl (Nat.lt_succ_self _)))]; exact HSc.out)
          have HBn := Lib.hid (Below.grown (B := (wq.alloc (.cells #[.string ⟨#[82]⟩, .int .i64 (1900 + p1), .int .i64 (1900 + p1), .int .i64 (1 + p2), .int .i64 1, .int .i64 0, .int .i64 (1 + p3), .int .i64 sec, .int .i64 0, .int .i64 0, .string ⟨#[]⟩] 34)).heap.size) HBc.out hgrow1 HBc.out.size (fun k hk => by rw [HS1.out]; exact (HOc.out.lt k hk).1))
          refine hK.out _ _ ?_ (fun hHeld => ?_)
          · exact cells11x HSn.out
          clear hK K
          try simp only [Act.put, List.getElem_toArray, List.getElem_cons_succ, List.getElem_cons_zero, List.setIfInBounds_toArray, List.set_cons_zero, List.set_cons_succ]
          have HSc := HSn
          have HBc := HBn
          have HOc := Lib.hid hown1
          rw [Nat.zero_add, _root_.List.nil_append] at HOc
          clear hown1 hgrow1 hnil1 HSn HBn
          refine wpAnyH_ready (rs := [4]) (by kernel_rfl) (by simp) ?_
          refine AllReadyH.cons rfl (fun K hK => ?_) AllReadyH.nil
          go_simp
          refine hK.out _ _ ?_ (fun hHeld => ?_)
          · exact cells11x (block_below HSc.out (bel_alloc _ _))
          clear hK K
          try simp only [Act.put, List.getElem_toArray, List.getElem_cons_succ, List.getElem_cons_zero, List.setIfInBounds_toArray, List.set_cons_zero, List.set_cons_succ]
          obtain ⟨bq, hbq⟩ : ∃ bq, bq = v2.heap.size := ⟨_, rfl⟩
          have HQc := Lib.hid (show (v2.alloc (.cells #[.string ⟨#[82]⟩, .int .i64 (1900 + p1), .int .i64 (1900 + p1), .int .i64 (1 + p2), .int .i64 1, .int .i64 0, .int .i64 (1 + p3), .int .i64 sec, .int .i64 0, .int .i64 0, .string ⟨#[]⟩] 34)).heap[bq]? = some (.cells #[.string ⟨#[82]⟩, .int .i64 (1900 + p1), .int .i64 (1900 + p1), .int .i64 (1 + p2), .int .i64 1, .int .i64 0, .int .i64 (1 + p3), .int .i64 sec, .int .i64 0, .int .i64 0, .string ⟨#[]⟩] 34) from new_atx (w := v2) (.cells #[.string ⟨#[82]⟩, .int .i64 (1900 + p1), .int .i64 (1900 + p1), .int .i64 (1 + p2), .int .i64 1, .int .i64 0, .int .i64 (1 + p3), .int .i64 sec, .int .i64 0, .int .i64 0, .string ⟨#[]⟩] 34) (hbq.trans (by first | rfl | simp)))
          have HNE := Lib.hid (row_ne HOc.out (b := bq) (.inr (Nat.le_of_eq (hbq.trans (by first | rfl | simp)).symm)))
          have HOc := Lib.hid (own_below HOc.out (bel_alloc v2 (.cells #[.string ⟨#[82]⟩, .int .i64 (1900 + p1), .int .i64 (1900 + p1), .int .i64 (1 + p2), .int .i64 1, .int .i64 0, .int .i64 (1 + p3), .int .i64 sec, .int .i64 0, .int .i64 0, .string ⟨#[]⟩] 34)))
          have HSc := Lib.hid (block_below HSc.out (bel_alloc v2 (.cells #[.string ⟨#[82]⟩, .int .i64 (1900 + p1), .int .i64 (1900 + p1), .int .i64 (1 + p2), .int .i64 1, .int .i64 0, .int .i64 (1 + p3), .int .i64 sec, .int .i64 0, .int .i64 0, .string ⟨#[]⟩] 34)))
          have HBc := Lib.hid (bel_trans HBc.out (bel_alloc v2 (.cells #[.string ⟨#[82]⟩, .int .i64 (1900 + p1), .int .i64 (1900 + p1), .int .i64 (1 + p2), .int .i64 1, .int .i64 0, .int .i64 (1 + p3), .int .i64 sec, .int .i64 0, .int .i64 0, .string ⟨#[]⟩] 34)))
          rw [← hbq]
          clear hbq
          refine wpAnyH_ready (rs := [5]) (by kernel_rfl) (by simp) ?_
          refine AllReadyH.cons rfl (fun K hK => ?_) AllReadyH.nil
          rw [if_pos (by rfl)]
          refine wp_append_own (w := (v2.alloc (.cells #[.string ⟨#[82]⟩, .int .i64 (1900 + p1), .int .i64 (1900 + p1), .int .i64 (1 + p2), .int .i64 1, .int .i64 0, .int .i64 (1 + p3), .int .i64 sec, .int .i64 0, .int .i64 0, .string ⟨#[]⟩] 34))) (.tmp 100) (.tmp 102) 22 rfl (wq.heap.size + 1) 34 i0 (.agg #[.string ⟨#[]⟩, .int .i64 0, .int .i64 0, .int .i64 0, .int .i64 0, .int .i64 0, .int .i64 0, .int .i64 0, .int .i64 0, .int .i64 0, .string ⟨#[]⟩]) 11 104 Tryd.underlying22 hi hz0 hzs hzb rfl (by decide) _ n (flatRu rs) (by rfl) HOc.out ⟨bq, 0, none⟩ 1 1 [.string ⟨#[82]⟩, .int .i64 (1900 + p1), .int .i64 (1900 + p1), .int .i64 (1 + p2), .int .i64 1, .int .i64 0, .int .i64 (1 + p3), .int .i64 sec, .int .i64 0, .int .i64 0, .string ⟨#[]⟩] (by rfl) (by rfl) (World.news_of_block HQc.out) (by intro u hu; simp at hu; rcases hu with rfl | rfl | rfl | rfl | rfl | rfl | rfl | rfl | rfl | rfl | rfl <;> rfl) (by unfold maxLen; omega) (by omega) (by rw [← HS1.out]; exact HBc.out.size) ?_
          intro s2 vz hown2 hgrow2 hnil2
          have HSn := Lib.hid (show vz.heap[wq.heap.size]? = some (.cells #[.string ⟨#[82]⟩, .int .i64 (1900 + p1), .int .i64 (1900 + p1), .int .i64 (1 + p2), .int .i64 1, .int .i64 0, .int .i64 (1 + p3), .int .i64 sec, .int .i64 0, .int .i64 0, .string ⟨#[]⟩] 34) by rw [hgrow2.block wq.heap.size (Array.getElem?_eq_some_iff.1 HSc.out).1 (row_ne HOc.out (.inl (Nat.lt_succ_self _)))]; exact HSc.out)
          have HBn := Lib.hid (Below.grown (B := (wq.alloc (.cells #[.string ⟨#[82]⟩, .int .i64 (1900 + p1), .int .i64 (1900 + p1), .int .i64 (1 + p2), .int .i64 1, .int .i64 0, .int .i64 (1 + p3), .int .i64 sec, .int .i64 0, .int .i64 0, .string ⟨#[]⟩] 34)).heap.size) HBc.out hgrow2 HBc.out.size (fun k hk => by rw [HS1.out]; exact (HOc.out.lt k hk).1))
          refine hK.out _ _ ?_ (fun hHeld => ?_)
          · exact cells11x HSn.out
          clear hK K
          try simp only [Act.put, List.getElem_toArray, List.getElem_cons_succ, List.getElem_cons_zero, List.setIfInBounds_toArray, List.set_cons_zero, List.set_cons_succ]
          have HRn := Lib.hid (show Rul s2 (rs ++ [(moreRu (1900 + p1) (1 + p2) (1 + p3) sec)]) vz from rul_of_own (by rw [flatRu_more, _root_.List.length_append, ← HN.out]; simpa [flatRu, Ru.arr, moreRu] using hown2) (by rw [_root_.List.length_append, ← HN.out]; simp <;> omega) HF.out)
          refine wpAnyH_take (i := 6) (v := ?_) rfl (by kernel_rfl) (by kernel_rfl) (by kernel_rfl) (fun _ _ _ h => h) (Or.inl ⟨by rfl, ?_⟩) (by assumption) ?_
          rotate_left 1
          · (intro w hSw; (try dsimp only at hSw); first | (go_simp; done) | (go_simp; with_reducible rfl))
          try simp only [Act.put, List.getElem_toArray, List.getElem_cons_succ, List.getElem_cons_zero, List.setIfInBounds_toArray, List.set_cons_zero, List.set_cons_succ]
          refine wpAnyH_done (by kernel_rfl) ?_ _
          go_wp2_with fail
          go_meet
          case rel => exact ⟨s2, rfl, HRn, HBn⟩
        · skip
          go_simp
          refine hK.out _ _ ?_ (fun hHeld => ?_)
          · exact cells11x (block_below HSc.out (bel_alloc _ _))
          clear hK K
          try simp only [Act.put, List.getElem_toArray, List.getElem_cons_succ, List.getElem_cons_zero, List.setIfInBounds_toArray, List.set_cons_zero, List.set_cons_succ]
          obtain ⟨bq, hbq⟩ : ∃ bq, bq = wq.heap.size + 1 + 1 := ⟨_, rfl⟩
          have HQc := Lib.hid (show (((wq.alloc (.cells #[.string ⟨#[82]⟩, .int .i64 (1900 + p1), .int .i64 (1900 + p1), .int .i64 (1 + p2), .int .i64 1, .int .i64 0, .int .i64 (1 + p3), .int .i64 sec, .int .i64 0, .int .i64 0, .string ⟨#[]⟩] 34)).drew.alloc (.cells #[] 34)).alloc (.cells #[.string ⟨#[82]⟩, .int .i64 (1900 + p1), .int .i64 (1900 + p1), .int .i64 (1 + p2), .int .i64 1, .int .i64 0, .int .i64 (1 + p3), .int .i64 sec, .int .i64 0, .int .i64 0, .string ⟨#[]⟩] 34)).heap[bq]? = some (.cells #[.string ⟨#[82]⟩, .int .i64 (1900 + p1), .int .i64 (1900 + p1), .int .i64 (1 + p2), .int .i64 1, .int .i64 0, .int .i64 (1 + p3), .int .i64 sec, .int .i64 0, .int .i64 0, .string ⟨#[]⟩] 34) from new_atx (w := ((wq.alloc (.cells #[.string ⟨#[82]⟩, .int .i64 (1900 + p1), .int .i64 (1900 + p1), .int .i64 (1 + p2), .int .i64 1, .int .i64 0, .int .i64 (1 + p3), .int .i64 sec, .int .i64 0, .int .i64 0, .string ⟨#[]⟩] 34)).drew.alloc (.cells #[] 34))) (.cells #[.string ⟨#[82]⟩, .int .i64 (1900 + p1), .int .i64 (1900 + p1), .int .i64 (1 + p2), .int .i64 1, .int .i64 0, .int .i64 (1 + p3), .int .i64 sec, .int .i64 0, .int .i64 0, .string ⟨#[]⟩] 34) (hbq.trans (by first | rfl | simp)))
          have HNE := Lib.hid (row_ne HOc.out (b := bq) (.inr (Nat.le_of_eq (hbq.trans (by first | rfl | simp)).symm)))
          have HOc := Lib.hid (own_below HOc.out (bel_alloc ((wq.alloc (.cells #[.string ⟨#[82]⟩, .int .i64 (1900 + p1), .int .i64 (1900 + p1), .int .i64 (1 + p2), .int .i64 1, .int .i64 0, .int .i64 (1 + p3), .int .i64 sec, .int .i64 0, .int .i64 0, .string ⟨#[]⟩] 34)).drew.alloc (.cells #[] 34)) (.cells #[.string ⟨#[82]⟩, .int .i64 (1900 + p1), .int .i64 (1900 + p1), .int .i64 (1 + p2), .int .i64 1, .int .i64 0, .int .i64 (1 + p3), .int .i64 sec, .int .i64 0, .int .i64 0, .string ⟨#[]⟩] 34)))
          have HSc := Lib.hid (block_below HSc.out (bel_alloc ((wq.alloc (.cells #[.string ⟨#[82]⟩, .int .i64 (1900 + p1), .int .i64 (1900 + p1), .int .i64 (1 + p2), .int .i64 1, .int .i64 0, .int .i64 (1 + p3), .int .i64 sec, .int .i64 0, .int .i64 0, .string ⟨#[]⟩] 34)).drew.alloc (.cells #[] 34)) (.cells #[.string ⟨#[82]⟩, .int .i64 (1900 + p1), .int .i64 (1900 + p1), .int .i64 (1 + p2), .int .i64 1, .int .i64 0, .int .i64 (1 + p3), .int .i64 sec, .int .i64 0, .int .i64 0, .string ⟨#[]⟩] 34)))
          have HBc := Lib.hid (bel_trans HBc.out (bel_alloc ((wq.alloc (.cells #[.string ⟨#[82]⟩, .int .i64 (1900 + p1), .int .i64 (1900 + p1), .int .i64 (1 + p2), .int .i64 1, .int .i64 0, .int .i64 (1 + p3), .int .i64 sec, .int .i64 0, .int .i64 0, .string ⟨#[]⟩] 34)).drew.alloc (.cells #[] 34)) (.cells #[.string ⟨#[82]⟩, .int .i64 (1900 + p1), .int .i64 (1900 + p1), .int .i64 (1 + p2), .int .i64 1, .int .i64 0, .int .i64 (1 + p3), .int .i64 sec, .int .i64 0, .int .i64 0, .string ⟨#[]⟩] 34)))
          rw [← hbq]
          clear hbq
          refine wpAnyH_ready (rs := [2]) (by kernel_rfl) (by simp) ?_
          refine AllReadyH.cons rfl (fun K hK => ?_) AllReadyH.nil
          rw [if_pos (by rfl)]
          refine wp_append_own (w := (((wq.alloc (.cells #[.string ⟨#[82]⟩, .int .i64 (1900 + p1), .int .i64 (1900 + p1), .int .i64 (1 + p2), .int .i64 1, .int .i64 0, .int .i64 (1 + p3), .int .i64 sec, .int .i64 0, .int .i64 0, .string ⟨#[]⟩] 34)).drew.alloc (.cells #[] 34)).alloc (.cells #[.string ⟨#[82]⟩, .int .i64 (1900 + p1), .int .i64 (1900 + p1), .int .i64 (1 + p2), .int .i64 1, .int .i64 0, .int .i64 (1 + p3), .int .i64 sec, .int .i64 0, .int .i64 0, .string ⟨#[]⟩] 34))) (.tmp 98) (.tmp 99) 22 rfl (wq.heap.size + 1) 34 i0 (.agg #[.string ⟨#[]⟩, .int .i64 0, .int .i64 0, .int .i64 0, .int .i64 0, .int .i64 0, .int .i64 0, .int .i64 0, .int .i64 0, .int .i64 0, .string ⟨#[]⟩]) 11 104 Tryd.underlying22 hi hz0 hzs hzb rfl (by decide) _ 0 [] (by rfl) HOc.out ad n cap (flatRu rs) (by rfl) (by rw [flatRu_len, HN.out]) (fun j u hu => cell_below (bel_trans (bel_alloc wq (.cells #[.string ⟨#[82]⟩, .int .i64 (1900 + p1), .int .i64 (1900 + p1), .int .i64 (1 + p2), .int .i64 1, .int .i64 0, .int .i64 (1 + p3), .int .i64 sec, .int .i64 0, .int .i64 0, .string ⟨#[]⟩] 34)) HBc.out) (H.out.news j u hu)) (flat_one rs) (by unfold maxLen; omega) (by omega) (by rw [← HS1.out]; exact HBc.out.size) ?_
          intro s1 v3 hown1 hgrow1 hnil1
          have HSn := Lib.hid (show v3.heap[wq.heap.size]? = some (.cells #[.string ⟨#[82]⟩, .int .i64 (1900 + p1), .int .i64 (1900 + p1), .int .i64 (1 + p2), .int .i64 1, .int .i64 0, .int .i64 (1 + p3), .int .i64 sec, .int .i64 0, .int .i64 0, .string ⟨#[]⟩] 34) by rw [hgrow1.block wq.heap.size (Array.getElem?_eq_some_iff.1 HSc.out).1 (row_ne HOc.out (.inl (Nat.lt_succ_self _)))]; exact HSc.out)
          have HBn := Lib.hid (Below.grown (B := (wq.alloc (.cells #[.string ⟨#[82]⟩, .int .i64 (1900 + p1), .int .i64 (1900 + p1), .int .i64 (1 + p2), .int .i64 1, .int .i64 0, .int .i64 (1 + p3), .int .i64 sec, .int .i64 0, .int .i64 0, .string ⟨#[]⟩] 34)).heap.size) HBc.out hgrow1 HBc.out.size (fun k hk => by rw [HS1.out]; exact (HOc.out.lt k hk).1))
          have HQn := Lib.hid (show v3.heap[bq]? = some (.cells #[.string ⟨#[82]⟩, .int .i64 (1900 + p1), .int .i64 (1900 + p1), .int .i64 (1 + p2), .int .i64 1, .int .i64 0, .int .i64 (1 + p3), .int .i64 sec, .int .i64 0, .int .i64 0, .string ⟨#[]⟩] 34) by rw [hgrow1.block bq (Array.getElem?_eq_some_iff.1 HQc.out).1 HNE.out]; exact HQc.out)
          refine hK.out _ _ ?_ (fun hHeld => ?_)
          · exact cells11x HSn.out
          clear hK K
          try simp only [Act.put, List.getElem_toArray, List.getElem_cons_succ, List.getElem_cons_zero, List.setIfInBounds_toArray, List.set_cons_zero, List.set_cons_succ]
          have HSc := HSn
          have HBc := HBn
          have HQc := HQn
          have HOc := Lib.hid hown1
          rw [Nat.zero_add, _root_.List.nil_append] at HOc
          clear hown1 hgrow1 hnil1 HSn HBn
          refine wpAnyH_ready (rs := [5]) (by kernel_rfl) (by simp) ?_
          refine AllReadyH.cons rfl (fun K hK => ?_) AllReadyH.nil
          rw [if_pos (by rfl)]
          refine wp_append_own (w := v3) (.tmp 100) (.tmp 102) 22 rfl (wq.heap.size + 1) 34 i0 (.agg #[.string ⟨#[]⟩, .int .i64 0, .int .i64 0, .int .i64 0, .int .i64 0, .int .i64 0, .int .i64 0, .int .i64 0, .int .i64 0, .int .i64 0, .string ⟨#[]⟩]) 11 104 Tryd.underlying22 hi hz0 hzs hzb rfl (by decide) _ n (flatRu rs) (by rfl) HOc.out ⟨bq, 0, none⟩ 1 1 [.string ⟨#[82]⟩, .int .i64 (1900 + p1), .int .i64 (1900 + p1), .int .i64 (1 + p2), .int .i64 1, .int .i64 0, .int .i64 (1 + p3), .int .i64 sec, .int .i64 0, .int .i64 0, .string ⟨#[]⟩] (by rfl) (by rfl) (World.news_of_block HQc.out) (by intro u hu; simp at hu; rcases hu with rfl | rfl | rfl | rfl | rfl | rfl | rfl | rfl | rfl | rfl | rfl <;> rfl) (by unfold maxLen; omega) (by omega) (by rw [← HS1.out]; exact HBc.out.size) ?_
          intro s2 vz hown2 hgrow2 hnil2
          have HSn := Lib.hid (show vz.heap[wq.heap.size]? = some (.cells #[.string ⟨#[82]⟩, .int .i64 (1900 + p1), .int .i64 (1900 + p1), .int .i64 (1 + p2), .int .i64 1, .int .i64 0, .int .i64 (1 + p3), .int .i64 sec, .int .i64 0, .int .i64 0, .string ⟨#[]⟩] 34) by rw [hgrow2.block wq.heap.size (Array.getElem?_eq_some_iff.1 HSc.out).1 (row_ne HOc.out (.inl (Nat.lt_succ_self _)))]; exact HSc.out)
          have HBn := Lib.hid (Below.grown (B := (wq.alloc (.cells #[.string ⟨#[82]⟩, .int .i64 (1900 + p1), .int .i64 (1900 + p1), .int .i64 (1 + p2), .int .i64 1, .int .i64 0, .int .i64 (1 + p3), .int .i64 sec, .int .i64 0, .int .i64 0, .string ⟨#[]⟩] 34)).heap.size) HBc.out hgrow2 HBc.out.size (fun k hk => by rw [HS1.out]; exact (HOc.out.lt k hk).1))
          refine hK.out _ _ ?_ (fun hHeld => ?_)
          · exact cells11x HSn.out
          clear hK K
          try simp only [Act.put, List.getElem_toArray, List.getElem_cons_succ, List.getElem_cons_zero, List.setIfInBounds_toArray, List.set_cons_zero, List.set_cons_succ]
          have HRn := Lib.hid (show Rul s2 (rs ++ [(moreRu (1900 + p1) (1 + p2) (1 + p3) sec)]) vz from rul_of_own (by rw [flatRu_more, _root_.List.length_append, ← HN.out]; simpa [flatRu, Ru.arr, moreRu] using hown2) (by rw [_root_.List.length_append, ← HN.out]; simp <;> omega) HF.out)
          refine wpAnyH_take (i := 6) (v := ?_) rfl (by kernel_rfl) (by kernel_rfl) (by kernel_rfl) (fun _ _ _ h => h) (Or.inl ⟨by rfl, ?_⟩) (by assumption) ?_
          rotate_left 1
          · (intro w hSw; (try dsimp only at hSw); first | (go_simp; done) | (go_simp; with_reducible rfl))
          try simp only [Act.put, List.getElem_toArray, List.getElem_cons_succ, List.getElem_cons_zero, List.setIfInBounds_toArray, List.set_cons_zero, List.set_cons_succ]
          refine wpAnyH_done (by kernel_rfl) ?_ _
          go_wp2_with fail
          go_meet
          case rel => exact ⟨s2, rfl, HRn, HBn⟩
      · skip
        go_simp
        refine hK.out _ _ ?_ (fun hHeld => ?_)
        · exact cells11x (block_below HSc.out (bel_alloc _ _))
        clear hK K
        try simp only [Act.put, List.getElem_toArray, List.getElem_cons_succ, List.getElem_cons_zero, List.setIfInBounds_toArray, List.set_cons_zero, List.set_cons_succ]
        obtain ⟨bq, hbq⟩ : ∃ bq, bq = wq.heap.size + 1 := ⟨_, rfl⟩
        have HQc := Lib.hid (show ((wq.alloc (.cells #[.string ⟨#[82]⟩, .int .i64 (1900 + p1), .int .i64 (1900 + p1), .int .i64 (1 + p2), .int .i64 1, .int .i64 0, .int .i64 (1 + p3), .int .i64 sec, .int .i64 0, .int .i64 0, .string ⟨#[]⟩] 34)).drew.alloc (.cells #[.string ⟨#[82]⟩, .int .i64 (1900 + p1), .int .i64 (1900 + p1), .int .i64 (1 + p2), .int .i64 1, .int .i64 0, .int .i64 (1 + p3), .int .i64 sec, .int .i64 0, .int .i64 0, .string ⟨#[]⟩] 34)).heap[bq]? = some (.cells #[.string ⟨#[82]⟩, .int .i64 (1900 + p1), .int .i64 (1900 + p1), .int .i64 (1 + p2), .int .i64 1, .int .i64 0, .int .i64 (1 + p3), .int .i64 sec, .int .i64 0, .int .i64 0, .string ⟨#[]⟩] 34) from new_atx (w := (wq.alloc (.cells #[.string ⟨#[82]⟩, .int .i64 (1900 + p1), .int .i64 (1900 + p1), .int .i64 (1 + p2), .int .i64 1, .int .i64 0, .int .i64 (1 + p3), .int .i64 sec, .int .i64 0, .int .i64 0, .string ⟨#[]⟩] 34)).drew) (.cells #[.string ⟨#[82]⟩, .int .i64 (1900 + p1), .int .i64 (1900 + p1), .int .i64 (1 + p2), .int .i64 1, .int .i64 0, .int .i64 (1 + p3), .int .i64 sec, .int .i64 0, .int .i64 0, .string ⟨#[]⟩] 34) (hbq.trans (by first | rfl | simp)))
        have HSc := Lib.hid (block_below HSc.out (bel_alloc (wq.alloc (.cells #[.string ⟨#[82]⟩, .int .i64 (1900 + p1), .int .i64 (1900 + p1), .int .i64 (1 + p2), .int .i64 1, .int .i64 0, .int .i64 (1 + p3), .int .i64 sec, .int .i64 0, .int .i64 0, .string ⟨#[]⟩] 34)).drew (.cells #[.string ⟨#[82]⟩, .int .i64 (1900 + p1), .int .i64 (1900 + p1), .int .i64 (1 + p2), .int .i64 1, .int .i64 0, .int .i64 (1 + p3), .int .i64 sec, .int .i64 0, .int .i64 0, .string ⟨#[]⟩] 34)))
        have HBc := Lib.hid (bel_trans HBc.out (bel_alloc (wq.alloc (.cells #[.string ⟨#[82]⟩, .int .i64 (1900 + p1), .int .i64 (1900 + p1), .int .i64 (1 + p2), .int .i64 1, .int .i64 0, .int .i64 (1 + p3), .int .i64 sec, .int .i64 0, .int .i64 0, .string ⟨#[]⟩] 34)).drew (.cells #[.string ⟨#[82]⟩, .int .i64 (1900 + p1), .int .i64 (1900 + p1), .int .i64 (1 + p2), .int .i64 1, .int .i64 0, .int .i64 (1 + p3), .int .i64 sec, .int .i64 0, .int .i64 0, .string ⟨#[]⟩] 34)))
        rw [← hbq]
        clear hbq
        refine wpAnyH_ready (rs := [0]) (by kernel_rfl) (by simp) ?_
        refine AllReadyH.cons rfl (fun K hK => ?_) AllReadyH.nil
        go_simp
        refine hK.out _ _ ?_ (fun hHeld => ?_)
        · exact cells11x (block_below HSc.out (bel_alloc _ _))
        clear hK K
        try simp only [Act.put, List.getElem_toArray, List.getElem_cons_succ, List.getElem_cons_zero, List.setIfInBounds_toArray, List.set_cons_zero, List.set_cons_succ]
        have HOc := Lib.hid (show (((wq.alloc (.cells #[.string ⟨#[82]⟩, .int .i64 (1900 + p1), .int .i64 (1900 + p1), .int .i64 (1 + p2), .int .i64 1, .int .i64 0, .int .i64 (1 + p3), .int .i64 sec, .int .i64 0, .int .i64 0, .string ⟨#[]⟩] 34)).drew.alloc (.cells #[.string ⟨#[82]⟩, .int .i64 (1900 + p1), .int .i64 (1900 + p1), .int .i64 (1 + p2), .int .i64 1, .int .i64 0, .int .i64 (1 + p3), .int .i64 sec, .int .i64 0, .int .i64 0, .string ⟨#[]⟩] 34)).alloc (.cells #[] 34)).ownsRow (wq.heap.size + 1) 34 11 (.slice (some ⟨wq.heap.size + 1 + 1, 0, none⟩) 0 0) 0 [] from own_none_at (by first | rfl | simp) (by rw [← HS1.out]; exact HBc.out.size))
        have HNE := Lib.hid (show some bq ≠ (Value.slice (some ⟨wq.heap.size + 1 + 1, 0, none⟩) 0 0).ownBlock from fun e => by have h1 := (Array.getElem?_eq_some_iff.1 HQc.out).1; have h2 : bq = wq.heap.size + 1 + 1 := (by simpa [Value.ownBlock] using e); rw [h2] at h1; simp at h1)
        have HSc := Lib.hid (block_below HSc.out (bel_alloc ((wq.alloc (.cells #[.string ⟨#[82]⟩, .int .i64 (1900 + p1), .int .i64 (1900 + p1), .int .i64 (1 + p2), .int .i64 1, .int .i64 0, .int .i64 (1 + p3), .int .i64 sec, .int .i64 0, .int .i64 0, .string ⟨#[]⟩] 34)).drew.alloc (.cells #[.string ⟨#[82]⟩, .int .i64 (1900 + p1), .int .i64 (1900 + p1), .int .i64 (1 + p2), .int .i64 1, .int .i64 0, .int .i64 (1 + p3), .int .i64 sec, .int .i64 0, .int .i64 0, .string ⟨#[]⟩] 34)) (.cells #[] 34)))
        have HBc := Lib.hid (bel_trans HBc.out (bel_alloc ((wq.alloc (.cells #[.string ⟨#[82]⟩, .int .i64 (1900 + p1), .int .i64 (1900 + p1), .int .i64 (1 + p2), .int .i64 1, .int .i64 0, .int .i64 (1 + p3), .int .i64 sec, .int .i64 0, .int .i64 0, .string ⟨#[]⟩] 34)).drew.alloc (.cells #[.string ⟨#[82]⟩, .int .i64 (1900 + p1), .int .i64 (1900 + p1), .int .i64 (1 + p2), .int .i64 1, .int .i64 0, .int .i64 (1 + p3), .int .i64 sec, .int .i64 0, .int .i64 0, .string ⟨#[]⟩] 34)) (.cells #[] 34)))
        have HQc := Lib.hid (block_below HQc.out (bel_alloc ((wq.alloc (.cells #[.string ⟨#[82]⟩, .int .i64 (1900 + p1), .int .i64 (1900 + p1), .int .i64 (1 + p2), .int .i64 1, .int .i64 0, .int .i64 (1 + p3), .int .i64 sec, .int .i64 0, .int .i64 0, .string ⟨#[]⟩] 34)).drew.alloc (.cells #[.string ⟨#[82]⟩, .int .i64 (1900 + p1), .int .i64 (1900 + p1), .int .i64 (1 + p2), .int .i64 1, .int .i64 0, .int .i64 (1 + p3), .int .i64 sec, .int .i64 0, .int .i64 0, .string ⟨#[]⟩] 34)) (.cells #[] 34)))
        refine wpAnyH_ready (rs := [2]) (by kernel_rfl) (by simp) ?_
        refine AllReadyH.cons rfl (fun K hK => ?_) AllReadyH.nil
        rw [if_pos (by rfl)]
        refine wp_append_own (w := (((wq.alloc (.cells #[.string ⟨#[82]⟩, .int .i64 (1900 + p1), .int .i64 (1900 + p1), .int .i64 (1 + p2), .int .i64 1, .int .i64 0, .int .i64 (1 + p3), .int .i64 sec, .int .i64 0, .int .i64 0, .string ⟨#[]⟩] 34)).drew.alloc (.cells #[.string ⟨#[82]⟩, .int .i64 (1900 + p1), .int .i64 (1900 + p1), .int .i64 (1 + p2), .int .i64 1, .int .i64 0, .int .i64 (1 + p3), .int .i64 sec, .int .i64 0, .int .i64 0, .string ⟨#[]⟩] 34)).alloc (.cells #[] 34))) (.tmp 98) (.tmp 99) 22 rfl (wq.heap.size + 1) 34 i0 (.agg #[.string ⟨#[]⟩, .int .i64 0, .int .i64 0, .int .i64 0, .int .i64 0, .int .i64 0, .int .i64 0, .int .i64 0, .int .i64 0, .int .i64 0, .string ⟨#[]⟩]) 11 104 Tryd.underlying22 hi hz0 hzs hzb rfl (by decide) _ 0 [] (by rfl) HOc.out ad n cap (flatRu rs) (by rfl) (by rw [flatRu_len, HN.out]) (fun j u hu => cell_below (bel_trans (bel_alloc wq (.cells #[.string ⟨#[82]⟩, .int .i64 (1900 + p1), .int .i64 (1900 + p1), .int .i64 (1 + p2), .int .i64 1, .int .i64 0, .int .i64 (1 + p3), .int .i64 sec, .int .i64 0, .int .i64 0, .string ⟨#[]⟩] 34)) HBc.out) (H.out.news j u hu)) (flat_one rs) (by unfold maxLen; omega) (by omega) (by rw [← HS1.out]; exact HBc.out.size) ?_
        intro s1 v3 hown1 hgrow1 hnil1
        have HSn := Lib.hid (show v3.heap[wq.heap.size]? = some (.cells #[.string ⟨#[82]⟩, .int .i64 (1900 + p1), .int .i64 (1900 + p1), .int .i64 (1 + p2), .int .i64 1, .int .i64 0, .int .i64 (1 + p3), .int .i64 sec, .int .i64 0, .int .i64 0, .string ⟨#[]⟩] 34) by rw [hgrow1.block wq.heap.size (Array.getElem?_eq_some_iff.1 HSc.out).1 (row_ne HOc.out (.inl (Nat.lt_succ_self _)))]; exact HSc.out)
        have HBn := Lib.hid (Below.grown (B := (wq.alloc (.cells #[.string ⟨#[82]⟩, .int .i64 (1900 + p1), .int .i64 (1900 + p1), .int .i64 (1 + p2), .int .i64 1, .int .i64 0, .int .i64 (1 + p3), .int .i64 sec, .int .i64 0, .int .i64 0, .string ⟨#[]⟩] 34)).heap.size) HBc.out hgrow1 HBc.out.size (fun k hk => by rw [HS1.out]; exact (HOc.out.lt k hk).1))
        have HQn := Lib.hid (show v3.heap[bq]? = some (.cells #[.string ⟨#[82]⟩, .int .i64 (1900 + p1), .int .i64 (1900 + p1), .int .i64 (1 + p2), .int .i64 1, .int .i64 0, .int .i64 (1 + p3), .int .i64 sec, .int .i64 0, .int .i64 0, .string ⟨#[]⟩] 34) by rw [hgrow1.block bq (Array.getElem?_eq_some_iff.1 HQc.out).1 HNE.out]; exact HQc.out)
        refine hK.out _ _ ?_ (fun hHeld => ?_)
        · exact cells11x HSn.out
        clear hK K
        try simp only [Act.put, List.getElem_toArray, List.getElem_cons_succ, List.getElem_cons_zero, List.setIfInBounds_toArray, List.set_cons_zero, List.set_cons_succ]
        have HSc := HSn
        have HBc := HBn
        have HQc := HQn
        have HOc := Lib.hid hown1
        rw [Nat.zero_add, _root_.List.nil_append] at HOc
        clear hown1 hgrow1 hnil1 HSn HBn
        refine wpAnyH_ready (rs := [5]) (by kernel_rfl) (by simp) ?_
        refine AllReadyH.cons rfl (fun K hK => ?_) AllReadyH.nil
        rw [if_pos (by rfl)]
        refine wp_append_own (w := v3) (.tmp 100) (.tmp 102) 22 rfl (wq.heap.size + 1) 34 i0 (.agg #[.string ⟨#[]⟩, .int .i64 0, .int .i64 0, .int .i64 0, .int .i64 0, .int .i64 0, .int .i64 0, .int .i64 0, .int .i64 0, .int .i64 0, .string ⟨#[]⟩]) 11 104 Tryd.underlying22 hi hz0 hzs hzb rfl (by decide) _ n (flatRu rs) (by rfl) HOc.out ⟨bq, 0, none⟩ 1 1 [.string ⟨#[82]⟩, .int .i64 (1900 + p1), .int .i64 (1900 + p1), .int .i64 (1 + p2), .int .i64 1, .int .i64 0, .int .i64 (1 + p3), .int .i64 sec, .int .i64 0, .int .i64 0, .string ⟨#[]⟩] (by rfl) (by rfl) (World.news_of_block HQc.out) (by intro u hu; simp at hu; rcases hu with rfl | rfl | rfl | rfl | rfl | rfl | rfl | rfl | rfl | rfl | rfl <;> rfl) (by unfold maxLen; omega) (by omega) (by rw [← HS1.out]; exact HBc.out.size) ?_
        intro s2 vz hown2 hgrow2 hnil2
        have HSn := Lib.hid (show vz.heap[wq.heap.size]? = some (.cells #[.string ⟨#[82]⟩, .int .i64 (1900 + p1), .int .i64 (1900 + p1), .int .i64 (1 + p2), .int .i64 1, .int .i64 0, .int .i64 (1 + p3), .int .i64 sec, .int .i64 0, .int .i64 0, .string ⟨#[]⟩] 34) by rw [hgrow2.block wq.heap.size (Array.getElem?_eq_some_iff.1 HSc.out).1 (row_ne HOc.out (.inl (Nat.lt_succ_self _)))]; exact HSc.out)
        have HBn := Lib.hid (Below.grown (B := (wq.alloc (.cells #[.string ⟨#[82]⟩, .int .i64 (1900 + p1), .int .i64 (1900 + p1), .int .i64 (1 + p2), .int .i64 1, .int .i64 0, .int .i64 (1 + p3), .int .i64 sec, .int .i64 0, .int .i64 0, .string ⟨#[]⟩] 34)).heap.size) HBc.out hgrow2 HBc.out.size (fun k hk => by rw [HS1.out]; exact (HOc.out.lt k hk).1))
        refine hK.out _ _ ?_ (fun hHeld => ?_)
        · exact cells11x HSn.out
        clear hK K
        try simp only [Act.put, List.getElem_toArray, List.getElem_cons_succ, List.getElem_cons_zero, List.setIfInBounds_toArray, List.set_cons_zero, List.set_cons_succ]
        have HRn := Lib.hid (show Rul s2 (rs ++ [(moreRu (1900 + p1) (1 + p2) (1 + p3) sec)]) vz from rul_of_own (by rw [flatRu_more, _root_.List.length_append, ← HN.out]; simpa [flatRu, Ru.arr, moreRu] using hown2) (by rw [_root_.List.length_append, ← HN.out]; simp <;> omega) HF.out)
        refine wpAnyH_take (i := 6) (v := ?_) rfl (by kernel_rfl) (by kernel_rfl) (by kernel_rfl) (fun _ _ _ h => h) (Or.inl ⟨by rfl, ?_⟩) (by assumption) ?_
        rotate_left 1
        · (intro w hSw; (try dsimp only at hSw); first | (go_simp; done) | (go_simp; with_reducible rfl))
        try simp only [Act.put, List.getElem_toArray, List.getElem_cons_succ, List.getElem_cons_zero, List.setIfInBounds_toArray, List.set_cons_zero, List.set_cons_succ]
        refine wpAnyH_done (by kernel_rfl) ?_ _
        go_wp2_with fail
        go_meet
        case rel => exact ⟨s2, rfl, HRn, HBn⟩
    case rest =>
      obtain ⟨s', rfl, hrm, hbw⟩ := hcut
      have HX := Lib.hid (block_below (heap_alloc_new wq (.cells #[.string ⟨#[82]⟩, .int .i64 (1900 + p1), .int .i64 (1900 + p1), .int .i64 (1 + p2), .int .i64 1, .int .i64 0, .int .i64 (1 + p3), .int .i64 sec, .int .i64 0, .int .i64 0, .string ⟨#[]⟩] 34)) hbw.out)
      have HB := Lib.hid (bel_trans HB.out (bel_trans (bel_alloc wq (.cells #[.string ⟨#[82]⟩, .int .i64 (1900 + p1), .int .i64 (1900 + p1), .int .i64 (1 + p2), .int .i64 1, .int .i64 0, .int .i64 (1 + p3), .int .i64 sec, .int .i64 0, .int .i64 0, .string ⟨#[]⟩] 34)) hbw.out))
      have HR := Lib.hid (HR.out.below (bel_trans (bel_alloc wq (.cells #[.string ⟨#[82]⟩, .int .i64 (1900 + p1), .int .i64 (1900 + p1), .int .i64 (1 + p2), .int .i64 1, .int .i64 0, .int .i64 (1 + p3), .int .i64 sec, .int .i64 0, .int .i64 0, .string ⟨#[]⟩] 34)) hbw.out))
      have HM := hrm
      clear hbw H HS1 HF
      obtain ⟨wm, hwm⟩ : ∃ wm : World, wm = wc := ⟨_, rfl⟩
      rw [← hwm] at HB HR HM HX ⊢
      clear hwm
      have hbl := baseL_bd rs
      obtain ⟨N, hN⟩ : ∃ N, N = nomOf (baseL rs) (moreRu (1900 + p1) (1 + p2) (1 + p3) sec) (1900 + p1) := ⟨_, rfl⟩
      have hNb := moreRu_nom hbl.1 hbl.2 (y := 1900 + p1) (mo := 1 + p2) (d := 1 + p3) (sec := sec) (by omega) (by omega) (by omega) (by omega)
      rw [← hN] at hNb
      obtain ⟨hN1, hN2⟩ := hNb
      have HH := Lib.hid (moreRu_has (y := 1900 + p1) (mo := 1 + p2) (d := 1 + p3) (sec := sec) (by omega) (by omega) (by omega) (by omega))
      have HNN := Lib.hid hN
      clear hN hbl
      have HEV := Lib.hid (is_evOn ((more_ev (rs := rs) (m := (moreRu (1900 + p1) (1 + p2) (1 + p3) sec)) (y := 1900 + p1) rfl rfl rfl (by omega) HH.out HNN.out (e := ⟨1900 + p1, (rs.length : Int), N⟩)).2 (.inr rfl)))
      have HFAR2 := Lib.hid (more_far (rs := rs) (m := (moreRu (1900 + p1) (1 + p2) (1 + p3) sec)) (y := 1900 + p1) rfl rfl rfl (by omega) HH.out HNN.out (by omega) (by omega))
      dsimp only at HEV
      rw [← HN.out] at HEV
      have r0 := cellB HX.out (i := 0) rfl
      have r1 := cellB HX.out (i := 1) rfl
      have r2 := cellB HX.out (i := 2) rfl
      have r3 := cellB HX.out (i := 3) rfl
      have r4 := cellB HX.out (i := 4) rfl
      have r5 := cellB HX.out (i := 5) rfl
      have r6 := cellB HX.out (i := 6) rfl
      have r7 := cellB HX.out (i := 7) rfl
      have r8 := cellB HX.out (i := 8) rfl
      have r9 := cellB HX.out (i := 9) rfl
      have r10 := cellB HX.out (i := 10) rfl
      go_wp2_with fail
      go_wp2_with fail
      refine (evOn_any _ (rs ++ [(moreRu (1900 + p1) (1 + p2) (1 + p3) sec)]) (n : Int) (1900 + p1) _ (by exact HT.out.below HB.out) (by exact HM.out) (by omega) (by omega)).mono ?_
      intro e w3 hq; obtain ⟨rfl, hb⟩ := EvR.to (v := .tuple #[.agg #[.int .i64 (1900 + p1), .int .i64 (n : Int), .int .i64 N], .bool true]) (by rw [HEV.out]; rfl) _ _ hq; clear hq
      clear r0 r1 r2 r3 r4 r5 r6 r7 r8 r9 r10 HX
      have HB := Lib.hid (bel_trans HB.out (bel_trans hb (bel_alloc w3 (.cells #[.int .i64 (1900 + p1), .int .i64 (n : Int), .int .i64 N] 25))))
      have HR := Lib.hid (HR.out.below (bel_trans hb (bel_alloc w3 (.cells #[.int .i64 (1900 + p1), .int .i64 (n : Int), .int .i64 N] 25))))
      have HM := Lib.hid (HM.out.below (bel_trans hb (bel_alloc w3 (.cells #[.int .i64 (1900 + p1), .int .i64 (n : Int), .int .i64 N] 25))))
      have KX := Lib.hid (heap_alloc_new w3 (.cells #[.int .i64 (1900 + p1), .int .i64 (n : Int), .int .i64 N] 25))
      clear hb
      have x0 := cellB KX.out (i := 0) rfl
      have x1 := cellB KX.out (i := 1) rfl
      have x2 := cellB KX.out (i := 2) rfl
      go_wp2_with fail
      refine (apFar_any _ rs N _ (by exact HT.out.below HB.out) (by exact HR.out) (by omega) (by omega)).mono ?_
      rintro e w4 ⟨b1, hp, rfl, hb⟩
      have HB := Lib.hid (bel_trans HB.out hb)
      have HM := Lib.hid (HM.out.below hb)
      have KX := Lib.hid (block_below KX.out hb)
      clear hb x0 x1 x2 HR
      go_wp2_with fail
      refine (apCheck_any _ (rs ++ [(moreRu (1900 + p1) (1 + p2) (1 + p3) sec)]) _ (by exact HT.out.below HB.out) (by exact HM.out)).mono ?_
      rintro e w5 ⟨o, ho, he, hb⟩
      have HMO := Lib.hid (more_close HMP.out (m := (moreRu (1900 + p1) (1 + p2) (1 + p3) sec)) (y := 1900 + p1) rfl rfl rfl (by omega) HH.out HNN.out (by omega) (by omega) ho.out)
      cases b1 with
      | true =>
        have ho0 := HMO.out.far (hp.out.1 rfl)
        subst ho0
        obtain rfl : e = .returned (.tuple #[.agg #[.int .i64 0, .int .i64 0, .int .i64 0], .int .i64 0]) := he
        clear hp ho HMO
        have HB := Lib.hid (bel_trans HB.out (bel_trans hb (bel_alloc w5 (.cells #[.int .i64 0, .int .i64 0, .int .i64 0] 25))))
        have HM := Lib.hid (HM.out.below (bel_trans hb (bel_alloc w5 (.cells #[.int .i64 0, .int .i64 0, .int .i64 0] 25))))
        have KX := Lib.hid (block_below KX.out (bel_trans hb (bel_alloc w5 (.cells #[.int .i64 0, .int .i64 0, .int .i64 0] 25))))
        have KO := Lib.hid (heap_alloc_new w5 (.cells #[.int .i64 0, .int .i64 0, .int .i64 0] 25))
        clear hb
        have x0 := cellB KX.out (i := 0) rfl
        have x1 := cellB KX.out (i := 1) rfl
        have x2 := cellB KX.out (i := 2) rfl
        go_wp2_with fail
        go_wp2_with fail
        refine (apFar_any _ (rs ++ [(moreRu (1900 + p1) (1 + p2) (1 + p3) sec)]) N _ (by exact HT.out.below HB.out) (by exact HM.out) (by omega) (by omega)).mono ?_
        intro e w6 hq; obtain ⟨rfl, hb⟩ := FarR.no HFAR2.out _ _ hq; clear hq
        have HB := Lib.hid (bel_trans HB.out hb)
        have KO := Lib.hid (block_below KO.out hb)
        clear hb x0 x1 x2
        have y0 := cellB KO.out (i := 0) rfl
        have y1 := cellB KO.out (i := 1) rfl
        have y2 := cellB KO.out (i := 2) rfl
        go_wp2_with fail
        refine (works18_any _ (by exact HT.out.below HB.out)).mono ?_
        rintro e w7 ⟨rfl, hb⟩
        go_wp2_with fail
        go_ret
        exact ⟨rfl, bel_trans HB.out hb⟩
      | false =>
        obtain ⟨ev, ho1, hev⟩ := HMO.out.near (fun h => by have := hp.out.2 h; cases this)
        subst ho1
        obtain ⟨ey, er, en⟩ := ev
        obtain rfl : e = .returned (.tuple #[.agg #[.int .i64 ey, .int .i64 er, .int .i64 en], .int .i64 13]) := he
        have HEX := Lib.hid hev
        clear hev hp
        have HB := Lib.hid (bel_trans HB.out (bel_trans hb (bel_alloc w5 (.cells #[.int .i64 ey, .int .i64 er, .int .i64 en] 25))))
        have HM := Lib.hid (HM.out.below (bel_trans hb (bel_alloc w5 (.cells #[.int .i64 ey, .int .i64 er, .int .i64 en] 25))))
        have KX := Lib.hid (block_below KX.out (bel_trans hb (bel_alloc w5 (.cells #[.int .i64 ey, .int .i64 er, .int .i64 en] 25))))
        have KO := Lib.hid (heap_alloc_new w5 (.cells #[.int .i64 ey, .int .i64 er, .int .i64 en] 25))
        obtain ⟨hen1, hen2⟩ := nom_fit ho.out.1.1.1
        dsimp only at hen1 hen2
        clear hb ho HMO
        have x0 := cellB KX.out (i := 0) rfl
        have x1 := cellB KX.out (i := 1) rfl
        have x2 := cellB KX.out (i := 2) rfl
        go_wp2_with fail
        go_wp2_with fail
        refine (apFar_any _ (rs ++ [(moreRu (1900 + p1) (1 + p2) (1 + p3) sec)]) N _ (by exact HT.out.below HB.out) (by exact HM.out) (by omega) (by omega)).mono ?_
        intro e w6 hq; obtain ⟨rfl, hb⟩ := FarR.no HFAR2.out _ _ hq; clear hq
        have HB := Lib.hid (bel_trans HB.out hb)
        have HM := Lib.hid (HM.out.below hb)
        have KO := Lib.hid (block_below KO.out hb)
        have KX := Lib.hid (block_below KX.out hb)
        clear hb x0 x1 x2
        have x0 := cellB KX.out (i := 0) rfl
        have x1 := cellB KX.out (i := 1) rfl
        have x2 := cellB KX.out (i := 2) rfl
        go_wp2_with fail
        refine (evAfter_any _ (rs ++ [(moreRu (1900 + p1) (1 + p2) (1 + p3) sec)]) (N - 1) _ (by exact HT.out.below HB.out) (by exact HM.out) (by omega) (by omega)).mono ?_
        intro e w7 hq; obtain ⟨o, ho, he, hb⟩ := hq
        obtain ⟨b, ho1, hbn, hbe⟩ := more_aft (rs := rs) (m := (moreRu (1900 + p1) (1 + p2) (1 + p3) sec)) (y := 1900 + p1) rfl rfl rfl (by omega) HH.out HNN.out ho.out
        subst ho1
        obtain ⟨hb1, hb2⟩ := nom_fit hbe
        obtain ⟨by_, br, bn⟩ := b
        obtain rfl : e = .returned (.tuple #[.agg #[.int .i64 by_, .int .i64 br, .int .i64 bn], .bool true]) := he
        dsimp only at hbn hb1 hb2
        clear ho hbe x0 x1 x2
        have HB := Lib.hid (bel_trans HB.out (bel_trans hb (bel_alloc w7 (.cells #[.int .i64 by_, .int .i64 br, .int .i64 bn] 25))))
        have KO := Lib.hid (block_below KO.out (bel_trans hb (bel_alloc w7 (.cells #[.int .i64 by_, .int .i64 br, .int .i64 bn] 25))))
        have KX := Lib.hid (block_below KX.out (bel_trans hb (bel_alloc w7 (.cells #[.int .i64 by_, .int .i64 br, .int .i64 bn] 25))))
        have KB := Lib.hid (heap_alloc_new w7 (.cells #[.int .i64 by_, .int .i64 br, .int .i64 bn] 25))
        clear hb
        have x0 := cellB KX.out (i := 0) rfl
        have x1 := cellB KX.out (i := 1) rfl
        have x2 := cellB KX.out (i := 2) rfl
        have y0 := cellB KO.out (i := 0) rfl
        have y1 := cellB KO.out (i := 1) rfl
        have y2 := cellB KO.out (i := 2) rfl
        have z0 := cellB KB.out (i := 0) rfl
        have z1 := cellB KB.out (i := 1) rfl
        have z2 := cellB KB.out (i := 2) rfl
        by_cases hex : (⟨ey, er, en⟩ : Ev) = ⟨1900 + p1, (rs.length : Int), N⟩
        · injection hex with q1 q2 q3
          rw [← HN.out] at q2
          have HBZ := HB
          have q1' := q1.symm
          have q2' := q2.symm
          have q3' := q3.symm
          clear q1 q2 q3
          subst q1' q2' q3'
          go_wp2_with fail
          refine (works18_any _ (by exact HT.out.below HBZ.out)).mono ?_
          rintro e w8 ⟨rfl, hb⟩
          go_wp2_with fail
          go_ret
          exact ⟨rfl, bel_trans HBZ.out hb⟩
        · obtain ⟨hq1, hq2⟩ := HEX.out.resolve_left hex
          have hqb : (ey == 1900 + p1 && er == (n : Int) && en == N) = false := by
            rw [Bool.eq_false_iff]; intro h; apply hex; rw [← HN.out]; simpa [and_assoc] using h
          have hq3 : decide (bn ≤ en) = true := by simp; omega
          have hq4 : decide (en - N < 259200) = true := by simp; omega
          have hq5 : bn ≤ en := by omega
          clear hex
          go_wp2_with fail
          refine (works18_any _ (by exact HT.out.below HB.out)).mono ?_
          rintro e w8 ⟨rfl, hb⟩
          go_wp2_with fail
          go_ret
          exact ⟨rfl, bel_trans HB.out hb⟩

set_option maxRecDepth 100000 in
theorem apartSets.apartSets_walk (W : World) (hL : laidMetH Tryd.prog Rows.apartSetsRow.laid W) (v : Value) {H : Type} {enc : TypeId × Value → H} {base : Nat} {d : DataW H} {p : List MemPlace} (hv : Value.okWide Tryd.prog W .any base 38 v)
    (h : DataW.Trod enc Tryd.prog W 0 (fun _ => true) true 38 v d p) (a : Int) (wa : (Lit.int .u8 a).wf = true) (b : Int) (wb : (Lit.int .u8 b).wf = true) (c : Int) (wc : (Lit.int .u8 c).wf = true) (s : Int) (ws : (Lit.int .u16 s).wf = true) :
    Calls Tryd.prog 5 #[v, .int .u8 a, .int .u8 b, .int .u8 c, .int .u16 s] W fun e w' => e = .returned (.bool true) ∧ Below W.heap.size W w' := by
  obtain ⟨bs, hD⟩ := drf_of hv h
  obtain ⟨a1, a2⟩ := byte_of wa
  obtain ⟨b1, b2⟩ := byte_of wb
  obtain ⟨c1, c2⟩ := byte_of wc
  obtain ⟨s1, s2⟩ : 0 ≤ s ∧ s ≤ 65535 := by
    simp [Lit.wf, IntKind.min, IntKind.max, IntKind.signed, IntKind.bits] at ws
    omega
  have ta := Int.tmod_eq_emod_of_nonneg (b := 200) a1
  have tb := Int.tmod_eq_emod_of_nonneg (b := 12) b1
  have tc := Int.tmod_eq_emod_of_nonneg (b := 28) c1
  exact apSets_core v bs a b c s _ _ _ W ⟨tab_of hL, ktab_of hL⟩ hD rfl rfl rfl (by omega) (by omega) (by omega) (by omega) (by omega) (by omega) s1 s2
end Go.Proofs.YtghmdaahmijdiaaDoor
