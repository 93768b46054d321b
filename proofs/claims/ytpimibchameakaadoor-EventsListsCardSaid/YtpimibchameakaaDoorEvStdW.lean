/-
  The walk of the law EventsStd.
-/
import Derived.Test.YtpimibchameakaaDoorEvRefW
namespace Go.Proofs.YtpimibchameakaaDoor
open Go.RowKit Cv
set_option linter.unusedVariables false
set_option linter.unusedSimpArgs false

namespace Cv
theorem own_cell {w : World} {base g n cap size j : Nat} {e : TypeId} {xs : _root_.List Value} (h : w.ownsRow base e size (.slice (some ⟨g, 0, none⟩) n cap) n xs) (hj : j < n * size) : (∃ u, w.cell? ⟨g, j, none⟩ = some u) ∧ w.frozen? ⟨g, j, none⟩ = false ∧ base ≤ g ∧ g < w.heap.size := by
  rcases h.2 with ⟨h1, _⟩ | ⟨g', c', cur, h1, h2, h3, h4, h5, h6, h7⟩
  · cases h1
  · cases h1
    have hsz : j < cur.size := by rw [h6]; exact Nat.lt_of_lt_of_le hj (Nat.mul_le_mul_right size h4)
    exact ⟨⟨cur[j], cellB h3 (by rw [Array.getElem?_eq_getElem hsz])⟩, frzB h3 _, h2, (Array.getElem?_eq_some_iff.1 h3).1⟩
theorem own_other {w : World} {base g n cap size c j : Nat} {e : TypeId} {x : Value} {xs : _root_.List Value} (h : w.ownsRow base e size (.slice (some ⟨g, 0, none⟩) n cap) n xs) (hne : g ≠ c) : (w.setCell ⟨c, j, none⟩ x).ownsRow base e size (.slice (some ⟨g, 0, none⟩) n cap) n xs := by
  obtain ⟨hl, ⟨h1, _⟩ | ⟨g', c', cur, h1, h2, h3, h4⟩⟩ := h
  · cases h1
  · cases h1
    exact ⟨hl, .inr ⟨g, cap, cur, rfl, h2, block_other1 h3 hne, h4⟩⟩
theorem own_rng {w : World} {base g n cap i : Nat} {rs : _root_.List Ru} {r : Ru} (h : w.ownsRow base 32 11 (.slice (some ⟨g, 0, none⟩) n cap) n (flatRu rs)) (hr : rs[i]? = some r) (j : Nat) (hj : j < 11) (hi : i < n) : w.cell? ⟨g, i * 11 + j, none⟩ = r.arr.toList[j]? := by
  rw [h.cellAt (i * 11 + j) (by omega)]
  exact flatRu_get rs i r hr j hj
theorem flatRu_set8 : ∀ (rs : _root_.List Ru) (k : Nat) (r : Ru) (b : Int), rs[k]? = some r → (flatRu rs).set (k * 11 + 8) (.int .i64 b) = flatRu (rs.set k { r with base := b }) := by
  intro rs
  induction rs with
  | nil => intro k r b h; simp at h
  | cons x l ih =>
    intro k r b h
    cases k with
    | zero =>
      simp at h; subst h
      rfl
    | succ k =>
      show (x.arr.toList ++ flatRu l).set _ _ = x.arr.toList ++ flatRu (l.set k _)
      rw [_root_.List.set_append_right _ _ (by rw [arr_len]; omega), arr_len, show (k + 1) * 11 + 8 - 11 = k * 11 + 8 by omega, ih k r b (by simpa using h)]
theorem leastL_eq (rs : _root_.List Ru) : leastL rs = (rs.map (·.save)).foldl min 0 := by
  unfold leastL; rw [_root_.List.foldl_map]
theorem leastL_set {rs : _root_.List Ru} {k : Nat} {r r' : Ru} (h : rs[k]? = some r) (hs : r'.save = r.save) : leastL (rs.set k r') = leastL rs := by
  rw [leastL_eq, leastL_eq, _root_.List.map_set, hs]
  congr 1
  apply _root_.List.ext_getElem?
  intro i
  by_cases e : k = i
  · subst e
    have hk : k < rs.length := (_root_.List.getElem?_eq_some_iff.1 h).1
    rw [_root_.List.getElem?_set_self (by simpa using hk), _root_.List.getElem?_map, h]; rfl
  · rw [_root_.List.getElem?_set_ne e]
theorem leastL_ge (rs : _root_.List Ru) (h : ∀ r ∈ rs, RuOk r) : -3600 ≤ leastL rs := by
  have key : ∀ (l : _root_.List Ru) (x : Int), -3600 ≤ x → (∀ r ∈ l, RuOk r) → -3600 ≤ l.foldl (fun x r => min x r.save) x := by
    intro l
    induction l with
    | nil => intro x h _; exact h
    | cons r l ih =>
      intro x h hl
      have := (hl r (_root_.List.mem_cons_self ..)).save
      exact ih _ (by show -3600 ≤ min x r.save; omega) fun q hq => hl q (_root_.List.mem_cons_of_mem _ hq)
  exact key rs 0 (by decide) h
/-- the rules, one of which has another base -/
structure LOk (n k : Nat) (r : Ru) (least : Int) (l : _root_.List Ru) (b : Int) : Prop where
  len : l.length = n
  at_ : l[k]? = some { r with base := b }
  ok : ∀ q ∈ l, RuOk q
  least : leastL l = least
theorem RuOk.base {r : Ru} (h : RuOk r) {b : Int} (hb : 0 ≤ b ∧ b ≤ 2) : RuOk { r with base := b } := by
  obtain ⟨a1, a2, a3, a4, a5, a6, a7⟩ := h
  exact ⟨a1, a2, a3, a4, ⟨a5.1, a5.2.1, hb⟩, a6, a7⟩
theorem LOk.step {n k : Nat} {r : Ru} {least b c : Int} {l : _root_.List Ru} (h : LOk n k r least l b) (hc : 0 ≤ c ∧ c ≤ 2) : LOk n k r least (l.set k { r with base := c }) c := by
  have hk : k < l.length := (_root_.List.getElem?_eq_some_iff.1 h.at_).1
  refine ⟨by rw [_root_.List.length_set]; exact h.len, by rw [_root_.List.getElem?_set_self hk], fun q hq => ?_, by rw [leastL_set h.at_ (by rfl)]; exact h.least⟩
  rcases _root_.List.mem_or_eq_of_mem_set hq with h1 | h1
  · exact h.ok q h1
  · rw [h1]
    exact (h.ok _ (_root_.List.mem_of_getElem? h.at_)).base hc
theorem DayOk.good {k w d : Int} (h : DayOk k w d) : good k w d ∧ d ≤ 28 := by
  unfold DayOk at h; unfold Cv.good; omega
theorem RuOk.has {r : Ru} (h : RuOk r) {y : Int} (h1 : r.fr ≤ y) (h2 : (r.ut = 1048576 ∧ y ≤ 2000000000) ∨ y ≤ r.ut) (h3 : r.ut ≤ 2000000000) : Has r y := by
  have hf := firstY_ok h
  have hfr := h.fr
  obtain ⟨hg, hd⟩ := h.day.good
  have hm := h.mo
  have hl := len_bd y r.mo
  have hc := h.clk
  have hy : y ≤ 2000000000 := by omega
  refine ⟨by omega, ?_, by show -604799 ≤ r.sec ∧ r.sec ≤ 604799 ∧ 0 ≤ r.base ∧ r.base ≤ 2; omega, on_mk (by unfold inr; omega) hm.1 hm.2 hg (by have := len_in y r.mo hm.1 hm.2; omega)⟩
  unfold lastY
  split <;> omega
end Cv

set_option maxRecDepth 100000 in
set_option maxHeartbeats 16000000 in
theorem evStd_core (v : Value) (bs : _root_.List Int) (q f : Int) (W : World) (hT : Tabs W) (h : Drf v bs W) (hq1 : 0 ≤ q) (hq2 : q ≤ 255) (hf1 : 0 ≤ f) (hf2 : f ≤ 255) :
    Calls Tryd.prog 5 #[v, .int .u8 q, .int .u8 f] W fun e w' => e = .returned (.bool true) ∧ Below W.heap.size W w' := by
  have HT := Lib.hid hT
  have HD := Lib.hid h
  clear hT h
  go_enter Tryd.func5, Tryd.ntmps5
  go_wp2_with fail
  refine (made17_any _ bs ⟨#[82]⟩ _ (by exact HD.out)).mono ?_
  rintro e w1 ⟨ov, rs, rfl, h2, h5, hok, hown, hb1⟩
  have HOK : Hid (∀ r ∈ rs, RuOk r) := Lib.hid (fun r hr => (hok r hr).1)
  have HB1 := Lib.hid hb1
  have HT1 := Lib.hid (HT.out.below hb1)
  obtain ⟨g, cp, n, rfl, hn⟩ : ∃ g c n, ov = .slice (some ⟨g, 0, none⟩) n c ∧ n = rs.length := by
    rcases hown.2 with ⟨_, h0⟩ | ⟨g, c, cur, h1, _⟩
    · omega
    · exact ⟨g, c, _, h1, rfl⟩
  rw [← hn] at hown h2 h5
  have HN := Lib.hid hn
  have HO1 := Lib.hid hown
  have hk0 : 0 ≤ q % (n : Int) := Int.emod_nonneg _ (by omega)
  have hkn : q % (n : Int) < n := Int.emod_lt_of_pos _ (by omega)
  obtain ⟨k, hk⟩ : ∃ k : Nat, q % (n : Int) = (k : Int) := ⟨(q % (n : Int)).toNat, by omega⟩
  have hkl : k < n := by omega
  obtain ⟨r, hr⟩ : ∃ r, rs[k]? = some r := by rw [_root_.List.getElem?_eq_getElem (by rw [← hn]; exact hkl)]; exact ⟨_, rfl⟩
  have hro := (hok r (_root_.List.mem_of_getElem? hr)).1
  obtain ⟨least, hle⟩ : ∃ x, leastL rs = x := ⟨_, rfl⟩
  have hle1 : -3600 ≤ least := by rw [← hle]; exact leastL_ge rs HOK.out
  have hle2 : least ≤ 0 := by rw [← hle]; exact leastL_le0 rs
  have HLO := Lib.hid (show LOk n k r least rs r.base from ⟨hn.symm, by rw [hr], HOK.out, hle⟩)
  obtain ⟨fr, hfr0⟩ : ∃ fr, r.fr = fr := ⟨_, rfl⟩
  obtain ⟨ut, hut0⟩ : ∃ ut, r.ut = ut := ⟨_, rfl⟩
  have hfr := hro.fr
  have hut := hro.ut
  rw [hfr0] at hfr hut
  rw [hut0] at hut
  obtain ⟨hfr1, hfr2⟩ := hfr
  have HRO := Lib.hid hro
  have HRK := Lib.hid hr
  have HFR := Lib.hid hfr0
  have HUT := Lib.hid hut0
  have HLE := Lib.hid hle
  have ht1 : q.tmod (n : Int) = (k : Int) := by rw [Int.tmod_eq_emod_of_nonneg hq1]; exact hk
  clear hk0 hkn hn hok hown hb1 hr hro hfr0 hut0 HD hle
  go_wp2_with fail
  clear hk ht1
  go_loopw [9, 26] (fun s i wr => ∃ (j : Nat) (wq : World), j ≤ n ∧ i = .int .i64 (j : Int) ∧ s = .int .i64 (leastL (rs.take j)) ∧ wr = wq ∧ Hid (Below W.heap.size W wq) ∧ Hid (Tabs wq) ∧ Hid (wq.ownsRow W.heap.size 32 11 (.slice (some ⟨g, 0, none⟩) n cp) n (flatRu rs))) (fun _ i _ => n - (intOf i).toNat)
  case atStart => exact ⟨0, _, by omega, rfl, rfl, rfl, HB1, HT1, HO1⟩
  case round =>
    clear HB1 HT1 HO1
    obtain ⟨j, wq, hj, rfl, rfl, rfl, HB, HTq, HO⟩ := hrel
    by_cases hlt : j < n
    · obtain ⟨p, hp⟩ : ∃ p, rs[j]? = some p := by rw [_root_.List.getElem?_eq_getElem (by rw [← HN.out]; exact hlt)]; exact ⟨_, rfl⟩
      obtain ⟨pna, pfr, put, pmo, pk, pw, pd, psec, pbase, psave, ple⟩ := p
      have e0 : wr.cell? ⟨g, j * 11, none⟩ = some (.string pna) := own_rng HO.out hp 0 (by decide) hlt
      have e1 : wr.cell? ⟨g, j * 11 + 1, none⟩ = some (.int .i64 pfr) := own_rng HO.out hp 1 (by decide) hlt
      have e2 : wr.cell? ⟨g, j * 11 + 2, none⟩ = some (.int .i64 put) := own_rng HO.out hp 2 (by decide) hlt
      have e3 : wr.cell? ⟨g, j * 11 + 3, none⟩ = some (.int .i64 pmo) := own_rng HO.out hp 3 (by decide) hlt
      have e4 : wr.cell? ⟨g, j * 11 + 4, none⟩ = some (.int .i64 pk) := own_rng HO.out hp 4 (by decide) hlt
      have e5 : wr.cell? ⟨g, j * 11 + 5, none⟩ = some (.int .i64 pw) := own_rng HO.out hp 5 (by decide) hlt
      have e6 : wr.cell? ⟨g, j * 11 + 6, none⟩ = some (.int .i64 pd) := own_rng HO.out hp 6 (by decide) hlt
      have e7 : wr.cell? ⟨g, j * 11 + 7, none⟩ = some (.int .i64 psec) := own_rng HO.out hp 7 (by decide) hlt
      have e8 : wr.cell? ⟨g, j * 11 + 8, none⟩ = some (.int .i64 pbase) := own_rng HO.out hp 8 (by decide) hlt
      have e9 : wr.cell? ⟨g, j * 11 + 9, none⟩ = some (.int .i64 psave) := own_rng HO.out hp 9 (by decide) hlt
      have e10 : wr.cell? ⟨g, j * 11 + 10, none⟩ = some (.string ple) := own_rng HO.out hp 10 (by decide) hlt
      have HS := Lib.hid (leastL_take hp)
      clear hp
      go_wp2_with fail
      go_round
      case rel => exact ⟨j + 1, _, by omega, by go_num, by rw [HS.out]; first | done | exact congrArg _ (min_if _ _), rfl, Lib.hid (bel_trans HB.out (bel_alloc _ _)), Lib.hid (HTq.out.alloc _), Lib.hid (own_below17 HO.out (bel_alloc _ _))⟩
      case measure => simp [intOf]; omega
    · obtain rfl : n = j := by omega
      have HLL := Lib.hid (show leastL (rs.take n) = least by rw [HN.out, _root_.List.take_length]; exact HLE.out)
      rw [HLL.out]
      obtain ⟨W2, hW2⟩ : ∃ x, x = wr := ⟨_, rfl⟩
      subst hW2
      have e1 : W2.cell? ⟨g, k * 11 + 1, none⟩ = some (.int .i64 fr) := by rw [← HFR.out]; exact own_rng HO.out HRK.out 1 (by decide) hkl
      have e2 : W2.cell? ⟨g, k * 11 + 2, none⟩ = some (.int .i64 ut) := by rw [← HUT.out]; exact own_rng HO.out HRK.out 2 (by decide) hkl
      go_upto_if 45 with fail
      go_cut [12] (fun s w' => ∃ y : Int, s = .int .i64 y ∧ fr ≤ y ∧ y ≤ fr + 255 ∧ Hid ((ut = 1048576) ∨ y ≤ ut) ∧ w' = W2)
      case first =>
        by_cases hu : ut = 1048576
        · have hub : (ut == 1048576) = true := by rw [hu]; rfl
          go_wp2_with fail
          go_meet
          case rel => exact ⟨fr + f, rfl, by omega, by omega, Lib.hid (.inl hu), rfl⟩
        · have hub : (ut == 1048576) = false := by simp [hu]
          go_wp2_with fail
          go_meet
          case rel => exact ⟨fr, rfl, by omega, by omega, Lib.hid (by omega), rfl⟩
      case rest =>
      obtain ⟨y, rfl, hy1, hy2, HYU, hww⟩ := hcut
      have hww' := hww.symm; subst hww'; clear hww
      clear e1 e2
      have HHAS := Lib.hid (fun (b : Int) (hb : 0 ≤ b ∧ b ≤ 2) => RuOk.has (r := { r with base := b }) (HRO.out.base hb) (y := y) (by have := HFR.out; show r.fr ≤ y; omega) (by have := HYU.out; have := HUT.out; show (r.ut = 1048576 ∧ y ≤ 2000000000) ∨ y ≤ r.ut; omega) (by have := HUT.out; show r.ut ≤ 2000000000; omega))
      obtain ⟨N, hN⟩ : ∃ N, 86400 * (on y r.mo r.k r.w r.d).1 + r.sec = N := ⟨_, rfl⟩
      have hnb : -100000000000000 ≤ N ∧ N ≤ 100000000000000 := by
        have h1 := nom_bd (bs := 0) (by decide) (by decide) (HHAS.out 0 (by decide))
        unfold nomOf at h1
        dsimp only at h1
        rw [hN] at h1
        have h3 : 0 ≤ fst y + 1000000 ∧ fst (y + 1) ≤ 1000000 := by unfold fst; omega
        simp at h1
        omega
      have HNM0 := Lib.hid (fun (l : _root_.List Ru) (b : Int) (hl : LOk n k r least l b) (hb : b ≠ 1) => (by unfold nomOf; dsimp only; rw [if_neg hb, hN]; omega : nomOf (baseL l) { r with base := b } y = N))
      have HNM1 := Lib.hid (fun (l : _root_.List Ru) (b : Int) (hl : LOk n k r least l b) (hb : b = 1) => (by unfold nomOf; dsimp only; rw [if_pos hb, hN]; unfold baseL; rw [hl.least]; omega : nomOf (baseL l) { r with base := b } y = N + least))
      obtain ⟨hnb1, hnb2⟩ := hnb
      clear hN hut HLL
      have hgs := (own_cell HO.out (j := 0) (by omega)).2.2
      have HGS := Lib.hid hgs
      clear hgs
      go_wp2_with fail
      go_loopw [50] (fun i wr => ∃ (b : Int) (wq : World) (l : _root_.List Ru) (c : Int), 0 ≤ b ∧ b ≤ 3 ∧ i = .int .i64 b ∧ wr = wq ∧ Hid (Below W.heap.size W wq) ∧ Hid (Tabs wq) ∧ Hid (wq.ownsRow W.heap.size 32 11 (.slice (some ⟨g, 0, none⟩) n cp) n (flatRu l)) ∧ Hid (LOk n k r least l c) ∧ Hid (wq.heap[W2.heap.size]? = some (.cells #[.int .i64 (if 0 < b then N else 0), .int .i64 (if 1 < b then N + least else 0), .int .i64 (if 2 < b then N else 0)] 44))) (fun i _ => (3 - intOf i).toNat)
      case atStart => exact ⟨0, _, rs, r.base, by omega, by omega, rfl, rfl, Lib.hid (bel_trans HB.out (bel_alloc _ _)), Lib.hid (HTq.out.alloc _), Lib.hid (own_below17 HO.out (bel_alloc _ _)), HLO, Lib.hid (heap_alloc_new _ _)⟩
      case round =>
      clear HB HTq HO HLO
      obtain ⟨b, wq, l, c, hb1, hb2, rfl, rfl, HB, HTq, HO, HLO, HG⟩ := hrel
      have hbc : b = 0 ∨ b = 1 ∨ b = 2 ∨ b = 3 := by omega
      clear hb1 hb2
      rcases hbc with rfl | rfl | rfl | rfl
      · skip
        have HG0 : Hid (wr.heap[W2.heap.size]? = some (.cells #[.int .i64 0, .int .i64 0, .int .i64 0] 44)) := Lib.hid (by exact HG.out)
        clear HG
        obtain ⟨⟨u, hcu⟩, hfu, hgb, hgl⟩ := own_cell HO.out (j := k * 11 + 8) (by omega)
        have HLS := Lib.hid (HLO.out.step (c := 0) (by decide))
        have HOS := Lib.hid (show (wr.setCell ⟨g, k * 11 + 8, none⟩ (.int .i64 0)).ownsRow W.heap.size 32 11 (.slice (some ⟨g, 0, none⟩) n cp) n (flatRu (l.set k { r with base := 0 })) by rw [← flatRu_set8 l k _ 0 HLO.out.at_]; exact own_set HO.out)
        have HGS2 := Lib.hid (block_other1 (j := k * 11 + 8) (v := .int .i64 0) HG0.out (by have := HGS.out; omega : W2.heap.size ≠ g))
        have HBS := Lib.hid (HB.out.setCell (p := ⟨g, k * 11 + 8, none⟩) hgb (.int .i64 0))
        have HTS := Lib.hid (show Tabs (wr.setCell ⟨g, k * 11 + 8, none⟩ (.int .i64 0)) from HT.out.below HBS.out)
        go_upto_region 17 with (fail)
        generalize wr.setCell ⟨g, k * 11 + 8, none⟩ (.int .i64 0) = W4 at HOS HGS2 HBS HTS ⊢
        clear hcu hfu hgb hgl HO HB HTq HG0 HLO
        have HRS := Lib.hid (rul_of_own (by rw [HLS.out.len]; exact HOS.out) (by rw [HLS.out.len]; omega) (fun q hq => (HLS.out.ok q hq).fits))
        go_wp2_with fail
        refine (evOn_any (.slice (some ⟨g, 0, none⟩) n cp) _ (k : Int) y _ (by exact HTS.out) (by exact HRS.out) (by omega) (by omega)).mono ?_
        intro e w5 hq; obtain ⟨rfl, hb5⟩ := EvR.to (v := .tuple #[.agg #[.int .i64 y, .int .i64 (k : Int), .int .i64 N], .bool true]) (evV_yes HLS.out.at_ (HHAS.out 0 (by decide)) (HNM0.out _ 0 HLS.out (by decide))) _ _ hq; clear hq
        have HG5 := Lib.hid (block_below (block_below HGS2.out hb5) (bel_alloc w5 (.cells #[.int .i64 y, .int .i64 (k : Int), .int .i64 N] 34)))
        have HB5 := Lib.hid (bel_trans (bel_trans HBS.out hb5) (bel_alloc w5 (.cells #[.int .i64 y, .int .i64 (k : Int), .int .i64 N] 34)))
        have HT5 := Lib.hid (Tabs.alloc (HTS.out.below hb5) (.cells #[.int .i64 y, .int .i64 (k : Int), .int .i64 N] 34))
        have HO5 := Lib.hid (own_below17 (own_below17 HOS.out hb5) (bel_alloc w5 (.cells #[.int .i64 y, .int .i64 (k : Int), .int .i64 N] 34)))
        have hgc := cellB HG5.out (i := 0) rfl
        have hgf := frzB HG5.out 0
        clear hb5 HOS HGS2 HBS HTS HRS
        have HB6 := Lib.hid (HB5.out.setCell (p := ⟨W2.heap.size, 0, none⟩) (by have := HGS.out; show W.heap.size ≤ W2.heap.size; omega) (.int .i64 N))
        go_wp2_with fail
        go_round
        case rel => exact ⟨1, _, _, 0, by omega, by omega, rfl, rfl, HB6, Lib.hid (HT.out.below HB6.out), Lib.hid (own_other HO5.out (by have := HGS.out; omega)), HLS, Lib.hid (setc HG5.out (by rfl))⟩
        case measure => simp [intOf]
      · skip
        have HG0 : Hid (wr.heap[W2.heap.size]? = some (.cells #[.int .i64 N, .int .i64 0, .int .i64 0] 44)) := Lib.hid (by exact HG.out)
        clear HG
        obtain ⟨⟨u, hcu⟩, hfu, hgb, hgl⟩ := own_cell HO.out (j := k * 11 + 8) (by omega)
        have HLS := Lib.hid (HLO.out.step (c := 1) (by decide))
        have HOS := Lib.hid (show (wr.setCell ⟨g, k * 11 + 8, none⟩ (.int .i64 1)).ownsRow W.heap.size 32 11 (.slice (some ⟨g, 0, none⟩) n cp) n (flatRu (l.set k { r with base := 1 })) by rw [← flatRu_set8 l k _ 1 HLO.out.at_]; exact own_set HO.out)
        have HGS2 := Lib.hid (block_other1 (j := k * 11 + 8) (v := .int .i64 1) HG0.out (by have := HGS.out; omega : W2.heap.size ≠ g))
        have HBS := Lib.hid (HB.out.setCell (p := ⟨g, k * 11 + 8, none⟩) hgb (.int .i64 1))
        have HTS := Lib.hid (show Tabs (wr.setCell ⟨g, k * 11 + 8, none⟩ (.int .i64 1)) from HT.out.below HBS.out)
        go_upto_region 17 with (fail)
        generalize wr.setCell ⟨g, k * 11 + 8, none⟩ (.int .i64 1) = W4 at HOS HGS2 HBS HTS ⊢
        clear hcu hfu hgb hgl HO HB HTq HG0 HLO
        have HRS := Lib.hid (rul_of_own (by rw [HLS.out.len]; exact HOS.out) (by rw [HLS.out.len]; omega) (fun q hq => (HLS.out.ok q hq).fits))
        go_wp2_with fail
        refine (evOn_any (.slice (some ⟨g, 0, none⟩) n cp) _ (k : Int) y _ (by exact HTS.out) (by exact HRS.out) (by omega) (by omega)).mono ?_
        intro e w5 hq; obtain ⟨rfl, hb5⟩ := EvR.to (v := .tuple #[.agg #[.int .i64 y, .int .i64 (k : Int), .int .i64 (N + least)], .bool true]) (evV_yes HLS.out.at_ (HHAS.out 1 (by decide)) (HNM1.out _ 1 HLS.out rfl)) _ _ hq; clear hq
        have HG5 := Lib.hid (block_below (block_below HGS2.out hb5) (bel_alloc w5 (.cells #[.int .i64 y, .int .i64 (k : Int), .int .i64 (N + least)] 34)))
        have HB5 := Lib.hid (bel_trans (bel_trans HBS.out hb5) (bel_alloc w5 (.cells #[.int .i64 y, .int .i64 (k : Int), .int .i64 (N + least)] 34)))
        have HT5 := Lib.hid (Tabs.alloc (HTS.out.below hb5) (.cells #[.int .i64 y, .int .i64 (k : Int), .int .i64 (N + least)] 34))
        have HO5 := Lib.hid (own_below17 (own_below17 HOS.out hb5) (bel_alloc w5 (.cells #[.int .i64 y, .int .i64 (k : Int), .int .i64 (N + least)] 34)))
        have hgc := cellB HG5.out (i := 1) rfl
        have hgf := frzB HG5.out 1
        clear hb5 HOS HGS2 HBS HTS HRS
        have HB6 := Lib.hid (HB5.out.setCell (p := ⟨W2.heap.size, 1, none⟩) (by have := HGS.out; show W.heap.size ≤ W2.heap.size; omega) (.int .i64 (N + least)))
        go_wp2_with fail
        go_round
        case rel => exact ⟨2, _, _, 1, by omega, by omega, rfl, rfl, HB6, Lib.hid (HT.out.below HB6.out), Lib.hid (own_other HO5.out (by have := HGS.out; omega)), HLS, Lib.hid (setc HG5.out (by rfl))⟩
        case measure => simp [intOf]
      · skip
        have HG0 : Hid (wr.heap[W2.heap.size]? = some (.cells #[.int .i64 N, .int .i64 (N + least), .int .i64 0] 44)) := Lib.hid (by exact HG.out)
        clear HG
        obtain ⟨⟨u, hcu⟩, hfu, hgb, hgl⟩ := own_cell HO.out (j := k * 11 + 8) (by omega)
        have HLS := Lib.hid (HLO.out.step (c := 2) (by decide))
        have HOS := Lib.hid (show (wr.setCell ⟨g, k * 11 + 8, none⟩ (.int .i64 2)).ownsRow W.heap.size 32 11 (.slice (some ⟨g, 0, none⟩) n cp) n (flatRu (l.set k { r with base := 2 })) by rw [← flatRu_set8 l k _ 2 HLO.out.at_]; exact own_set HO.out)
        have HGS2 := Lib.hid (block_other1 (j := k * 11 + 8) (v := .int .i64 2) HG0.out (by have := HGS.out; omega : W2.heap.size ≠ g))
        have HBS := Lib.hid (HB.out.setCell (p := ⟨g, k * 11 + 8, none⟩) hgb (.int .i64 2))
        have HTS := Lib.hid (show Tabs (wr.setCell ⟨g, k * 11 + 8, none⟩ (.int .i64 2)) from HT.out.below HBS.out)
        go_upto_region 17 with (fail)
        generalize wr.setCell ⟨g, k * 11 + 8, none⟩ (.int .i64 2) = W4 at HOS HGS2 HBS HTS ⊢
        clear hcu hfu hgb hgl HO HB HTq HG0 HLO
        have HRS := Lib.hid (rul_of_own (by rw [HLS.out.len]; exact HOS.out) (by rw [HLS.out.len]; omega) (fun q hq => (HLS.out.ok q hq).fits))
        go_wp2_with fail
        refine (evOn_any (.slice (some ⟨g, 0, none⟩) n cp) _ (k : Int) y _ (by exact HTS.out) (by exact HRS.out) (by omega) (by omega)).mono ?_
        intro e w5 hq; obtain ⟨rfl, hb5⟩ := EvR.to (v := .tuple #[.agg #[.int .i64 y, .int .i64 (k : Int), .int .i64 N], .bool true]) (evV_yes HLS.out.at_ (HHAS.out 2 (by decide)) (HNM0.out _ 2 HLS.out (by decide))) _ _ hq; clear hq
        have HG5 := Lib.hid (block_below (block_below HGS2.out hb5) (bel_alloc w5 (.cells #[.int .i64 y, .int .i64 (k : Int), .int .i64 N] 34)))
        have HB5 := Lib.hid (bel_trans (bel_trans HBS.out hb5) (bel_alloc w5 (.cells #[.int .i64 y, .int .i64 (k : Int), .int .i64 N] 34)))
        have HT5 := Lib.hid (Tabs.alloc (HTS.out.below hb5) (.cells #[.int .i64 y, .int .i64 (k : Int), .int .i64 N] 34))
        have HO5 := Lib.hid (own_below17 (own_below17 HOS.out hb5) (bel_alloc w5 (.cells #[.int .i64 y, .int .i64 (k : Int), .int .i64 N] 34)))
        have hgc := cellB HG5.out (i := 2) rfl
        have hgf := frzB HG5.out 2
        clear hb5 HOS HGS2 HBS HTS HRS
        have HB6 := Lib.hid (HB5.out.setCell (p := ⟨W2.heap.size, 2, none⟩) (by have := HGS.out; show W.heap.size ≤ W2.heap.size; omega) (.int .i64 N))
        go_wp2_with fail
        go_round
        case rel => exact ⟨3, _, _, 2, by omega, by omega, rfl, rfl, HB6, Lib.hid (HT.out.below HB6.out), Lib.hid (own_other HO5.out (by have := HGS.out; omega)), HLS, Lib.hid (setc HG5.out (by rfl))⟩
        case measure => simp [intOf]
      · skip
        have HG0 : Hid (wr.heap[W2.heap.size]? = some (.cells #[.int .i64 N, .int .i64 (N + least), .int .i64 N] 44)) := Lib.hid (by exact HG.out)
        have g0 := cellB HG0.out (i := 0) rfl
        have g1 := cellB HG0.out (i := 1) rfl
        have g2 := cellB HG0.out (i := 2) rfl
        go_wp2_with fail
        refine (works_any _ (by exact HTq.out)).mono ?_
        rintro e w6 ⟨rfl, hb6⟩
        go_wp2_with fail
        go_ret
        exact ⟨rfl, bel_trans HB.out hb6⟩

set_option maxRecDepth 100000 in
theorem eventsStd.eventsStd_walk (W : World) (hL : laidMetH Tryd.prog Rows.eventsStdRow.laid W) (v : Value) {H : Type} {enc : TypeId × Value → H} {base : Nat} {d : DataW H} {p : List MemPlace} (hv : Value.okWide Tryd.prog W .any base 23 v)
    (h : DataW.Trod enc Tryd.prog W 0 (fun _ => true) true 23 v d p) (q : Int) (wq : (Lit.int .u8 q).wf = true) (f : Int) (wf : (Lit.int .u8 f).wf = true) :
    Calls Tryd.prog 5 #[v, .int .u8 q, .int .u8 f] W fun e w' => e = .returned (.bool true) ∧ Below W.heap.size W w' := by
  obtain ⟨bs, hD⟩ := drf_of hv h
  obtain ⟨hq1, hq2⟩ := byte_of wq
  obtain ⟨hf1, hf2⟩ := byte_of wf
  exact evStd_core v bs q f W ⟨tab_of hL, ktab_of hL⟩ hD hq1 hq2 hf1 hf2
end Go.Proofs.YtpimibchameakaaDoor
