/-
  Draft.Made, its rules said by the bytes: the same bytes, the same rules.
-/
import Derived.Test.YtdppmeeobpbfnaaDoorDrSet
import Derived.Test.YtdppmeeobpbfnaaDoorDrPairV
namespace Go.Proofs.YtdppmeeobpbfnaaDoor
open Go.RowKit Cv
set_option linter.unusedVariables false
set_option linter.unusedSimpArgs false

namespace Cv
def saveV (k : Nat) : Int := if k = 0 then 3600 else if k = 1 then 3600 else if k = 2 then 1800 else if k = 3 then 7200 else -3600
/-- the rule of its own, if there is one -/
def FstV (bs : _root_.List Int) (f1 : Int) (l1 : _root_.List Ru) : Prop :=
  (atv bs 2 3 = 0 ∧ f1 = 1900 + atv bs 1 80 + 1 ∧ l1 = [⟨⟨#[]⟩, 1900 + atv bs 1 80, 1900 + atv bs 1 80, 6, 1, 0, 1 + atv bs 3 28, atv bs 4 49 * 1800, atv bs (4 + 1) 3, 0, ⟨#[83]⟩⟩]) ∨ (atv bs 2 3 ≠ 0 ∧ f1 = 1900 + atv bs 1 80 ∧ l1 = [])
/-- the pair for some years, if there is one -/
def SndV (bs : _root_.List Int) (sv f1 : Int) (l1 : _root_.List Ru) (f2 : Int) (l2 : _root_.List Ru) : Prop :=
  (atv bs 5 2 = 0 ∧ (∃ ra rb, PairV bs 7 f1 (f1 + atv bs 6 12) sv ra rb ∧ l2 = l1 ++ [ra, rb]) ∧ f2 = f1 + atv bs 6 12 + 1 + atv bs 8 5) ∨ (atv bs 5 2 ≠ 0 ∧ f2 = f1 ∧ l2 = l1)
def UtV (bs : _root_.List Int) (f2 ut : Int) : Prop := (0 < atv bs 10 3 ∧ ut = 1048576) ∨ (¬ 0 < atv bs 10 3 ∧ ut = f2 + atv bs 9 6)
/-- the rules of a draft, without their name -/
def MadeV (bs : _root_.List Int) (sv : Int) (rs : _root_.List Ru) : Prop :=
  ∃ (f1 : Int) (l1 : _root_.List Ru) (f2 : Int) (l2 : _root_.List Ru) (ut : Int) (ra rb : Ru) (k : Nat), atv bs 0 5 = (k : Int) ∧ sv = saveV k ∧ FstV bs f1 l1 ∧ SndV bs sv f1 l1 f2 l2 ∧ UtV bs f2 ut ∧ PairV bs 11 f2 ut sv ra rb ∧ rs = l2 ++ [ra, rb]
theorem FstV.uniq {bs : _root_.List Int} {f f' : Int} {l l' : _root_.List Ru} (h : FstV bs f l) (h' : FstV bs f' l') : f = f' ∧ l = l' := by
  rcases h with ⟨h1, h2, h3⟩ | ⟨h1, h2, h3⟩ <;> rcases h' with ⟨g1, g2, g3⟩ | ⟨g1, g2, g3⟩
  · exact ⟨h2.trans g2.symm, h3.trans g3.symm⟩
  · exact absurd h1 g1
  · exact absurd g1 h1
  · exact ⟨h2.trans g2.symm, h3.trans g3.symm⟩
theorem SndV.uniq {bs : _root_.List Int} {sv f1 f f' : Int} {l1 l l' : _root_.List Ru} (h : SndV bs sv f1 l1 f l) (h' : SndV bs sv f1 l1 f' l') : f = f' ∧ l = l' := by
  rcases h with ⟨h1, ⟨ra, rb, hp, h2⟩, h3⟩ | ⟨h1, h2, h3⟩ <;> rcases h' with ⟨g1, ⟨ra', rb', gp, g2⟩, g3⟩ | ⟨g1, g2, g3⟩
  · obtain ⟨rfl, rfl⟩ := hp.uniq gp
    exact ⟨h3.trans g3.symm, h2.trans g2.symm⟩
  · exact absurd h1 g1
  · exact absurd g1 h1
  · exact ⟨h2.trans g2.symm, h3.trans g3.symm⟩
theorem MadeV.uniq {bs : _root_.List Int} {sv sv' : Int} {rs rs' : _root_.List Ru} (h : MadeV bs sv rs) (h' : MadeV bs sv' rs') : sv = sv' ∧ rs = rs' := by
  obtain ⟨f1, l1, f2, l2, ut, ra, rb, k, h0, h1, h2, h3, h4, h5, h6⟩ := h
  obtain ⟨f1', l1', f2', l2', ut', ra', rb', k', g0, g1, g2, g3, g4, g5, g6⟩ := h'
  obtain rfl : k = k' := by omega
  obtain rfl : sv = sv' := h1.trans g1.symm
  obtain ⟨rfl, rfl⟩ := h2.uniq g2
  obtain ⟨rfl, rfl⟩ := h3.uniq g3
  obtain rfl : ut = ut' := by
    rcases h4 with ⟨a, b⟩ | ⟨a, b⟩ <;> rcases g4 with ⟨c, d⟩ | ⟨c, d⟩ <;> omega
  obtain ⟨rfl, rfl⟩ := h5.uniq g5
  exact ⟨rfl, h6.trans g6.symm⟩
def OutV (P : _root_.List Ru → Prop) (sv f : Int) (W : World) (m : Nat) (o : Value) (w' : World) : Prop := ∃ l : _root_.List Ru, l.length ≤ m ∧ SetP sv f l ∧ w'.ownsRow W.heap.size 56 11 o l.length (flatRu l) ∧ Below W.heap.size W w' ∧ P l
/-- what Made returns -/
def MadeSV (bs : _root_.List Int) (nm : ByteArray) (W : World) (e : Ending) (W' : World) : Prop :=
  ∃ (v : Value) (rs : _root_.List Ru) (sv : Int), e = .returned v ∧ 2 ≤ rs.length ∧ rs.length ≤ 5 ∧ MadeP sv rs ∧ (∀ r ∈ rs, r.na = nm) ∧ (∃ rs0, MadeV bs sv rs0 ∧ rs = rs0.map fun r => { r with na := nm }) ∧ W'.ownsRow W.heap.size 56 11 v rs.length (flatRu rs) ∧ Below W.heap.size W W'
end Cv

set_option maxRecDepth 100000 in
set_option maxHeartbeats 8000000 in
theorem made17v_any (v : Value) (bs : _root_.List Int) (nm : ByteArray) (W : World) (h : Drf v bs W) :
    Calls Tryd.prog 19 #[v, .string nm] W (MadeSV bs nm W) := by
  have H := Lib.hid h
  obtain ⟨A, cap, rfl⟩ := h.sl
  obtain ⟨n, hN⟩ : ∃ n, n = bs.length := ⟨_, rfl⟩
  clear h
  rw [← hN] at H ⊢
  clear hN
  obtain ⟨i0, hi, hz0, hzs, hzb⟩ := info_parts infoRu
  obtain ⟨x0, hx0⟩ : ∃ y, atv bs 0 5 = y := ⟨_, rfl⟩
  have hbd := atv_bd bs 0 5 (by decide)
  rw [hx0] at hbd
  obtain ⟨s0, rfl⟩ : ∃ k : Nat, x0 = (k : Int) := ⟨x0.toNat, by omega⟩
  have hs0 : s0 < 5 := by omega
  clear hbd
  have HA0 := Lib.hid (at_is (v := (.slice A n cap)) (Lib.hid hx0) (by decide) (by decide) (by decide) (by decide))
  have HX0 := Lib.hid hx0
  clear hx0
  obtain ⟨x1, hx1⟩ : ∃ y, atv bs 1 80 = y := ⟨_, rfl⟩
  have hbd := atv_bd bs 1 80 (by decide)
  rw [hx1] at hbd
  obtain ⟨hx11, hx12⟩ := hbd
  have HA1 := Lib.hid (at_is (v := (.slice A n cap)) (Lib.hid hx1) (by decide) (by decide) (by decide) (by decide))
  have HX1 := Lib.hid hx1
  clear hx1
  obtain ⟨x2, hx2⟩ : ∃ y, atv bs 2 3 = y := ⟨_, rfl⟩
  have hbd := atv_bd bs 2 3 (by decide)
  rw [hx2] at hbd
  obtain ⟨hx21, hx22⟩ := hbd
  have HA2 := Lib.hid (at_is (v := (.slice A n cap)) (Lib.hid hx2) (by decide) (by decide) (by decide) (by decide))
  have HX2 := Lib.hid hx2
  clear hx2
  obtain ⟨x3, hx3⟩ : ∃ y, atv bs 3 28 = y := ⟨_, rfl⟩
  have hbd := atv_bd bs 3 28 (by decide)
  rw [hx3] at hbd
  obtain ⟨hx31, hx32⟩ := hbd
  have HA3 := Lib.hid (at_is (v := (.slice A n cap)) (Lib.hid hx3) (by decide) (by decide) (by decide) (by decide))
  have HX3 := Lib.hid hx3
  clear hx3
  obtain ⟨x5, hx5⟩ : ∃ y, atv bs 5 2 = y := ⟨_, rfl⟩
  have hbd := atv_bd bs 5 2 (by decide)
  rw [hx5] at hbd
  obtain ⟨hx51, hx52⟩ := hbd
  have HA5 := Lib.hid (at_is (v := (.slice A n cap)) (Lib.hid hx5) (by decide) (by decide) (by decide) (by decide))
  have HX5 := Lib.hid hx5
  clear hx5
  obtain ⟨x6, hx6⟩ : ∃ y, atv bs 6 12 = y := ⟨_, rfl⟩
  have hbd := atv_bd bs 6 12 (by decide)
  rw [hx6] at hbd
  obtain ⟨hx61, hx62⟩ := hbd
  have HA6 := Lib.hid (at_is (v := (.slice A n cap)) (Lib.hid hx6) (by decide) (by decide) (by decide) (by decide))
  have HX6 := Lib.hid hx6
  clear hx6
  obtain ⟨x8, hx8⟩ : ∃ y, atv bs 8 5 = y := ⟨_, rfl⟩
  have hbd := atv_bd bs 8 5 (by decide)
  rw [hx8] at hbd
  obtain ⟨hx81, hx82⟩ := hbd
  have HA8 := Lib.hid (at_is (v := (.slice A n cap)) (Lib.hid hx8) (by decide) (by decide) (by decide) (by decide))
  have HX8 := Lib.hid hx8
  clear hx8
  obtain ⟨x9, hx9⟩ : ∃ y, atv bs 9 6 = y := ⟨_, rfl⟩
  have hbd := atv_bd bs 9 6 (by decide)
  rw [hx9] at hbd
  obtain ⟨hx91, hx92⟩ := hbd
  have HA9 := Lib.hid (at_is (v := (.slice A n cap)) (Lib.hid hx9) (by decide) (by decide) (by decide) (by decide))
  have HX9 := Lib.hid hx9
  clear hx9
  obtain ⟨x10, hx10⟩ : ∃ y, atv bs 10 3 = y := ⟨_, rfl⟩
  have hbd := atv_bd bs 10 3 (by decide)
  rw [hx10] at hbd
  obtain ⟨hx101, hx102⟩ := hbd
  have HA10 := Lib.hid (at_is (v := (.slice A n cap)) (Lib.hid hx10) (by decide) (by decide) (by decide) (by decide))
  have HX10 := Lib.hid hx10
  clear hx10
  obtain ⟨t4, ht4⟩ : ∃ y, atv bs 4 49 = y := ⟨_, rfl⟩
  obtain ⟨b4, hb4⟩ : ∃ y, atv bs (4 + 1) 3 = y := ⟨_, rfl⟩
  have hbt := atv_bd bs 4 49 (by decide)
  have hbb := atv_bd bs (4 + 1) 3 (by decide)
  rw [ht4] at hbt
  rw [hb4] at hbb
  obtain ⟨ht1, ht2⟩ := hbt
  obtain ⟨hb1, hb2⟩ := hbb
  have HK4 := Lib.hid (clock17_is (v := (.slice A n cap)) (Lib.hid ht4) (Lib.hid hb4) (by decide) (by decide))
  have HT4 := Lib.hid ht4
  have HB4 := Lib.hid hb4
  clear ht4 hb4
  obtain ⟨save, hse, hsm, hsv, hsb⟩ : ∃ save : Int, save = saveV s0 ∧ (save = 3600 ∨ save = 1800 ∨ save = 7200 ∨ save = -3600) ∧ (W.alloc (.cells #[.int .i64 3600, .int .i64 3600, .int .i64 1800, .int .i64 7200, .int .i64 (-3600)] 2)).cell? ⟨W.heap.size, s0, none⟩ = some (.int .i64 save) ∧ -3600 ≤ save ∧ save ≤ 7200 := by
    have hc : s0 = 0 ∨ s0 = 1 ∨ s0 = 2 ∨ s0 = 3 ∨ s0 = 4 := by omega
    rcases hc with rfl | rfl | rfl | rfl | rfl
    · exact ⟨_, rfl, by decide, cellB (heap_alloc_new _ _) rfl, by decide, by decide⟩
    · exact ⟨_, rfl, by decide, cellB (heap_alloc_new _ _) rfl, by decide, by decide⟩
    · exact ⟨_, rfl, by decide, cellB (heap_alloc_new _ _) rfl, by decide, by decide⟩
    · exact ⟨_, rfl, by decide, cellB (heap_alloc_new _ _) rfl, by decide, by decide⟩
    · exact ⟨_, rfl, by decide, cellB (heap_alloc_new _ _) rfl, by decide, by decide⟩
  have HSV := Lib.hid hsb
  have HSM := Lib.hid hsm
  have HSE := Lib.hid hse
  clear hsm hse
  have HB1 := Lib.hid (bel_alloc W (.cells #[.int .i64 3600, .int .i64 3600, .int .i64 1800, .int .i64 7200, .int .i64 (-3600)] 2))
  have HD1 := Lib.hid (H.out.below HB1.out)
  clear hsb
  go_enter Tryd.func19, Tryd.ntmps19
  go_wp2_with fail
  refine (HA0.out _ (by exact HD1.out)).mono ?_
  intro e w' hq; obtain ⟨rfl, hw⟩ := hq; have hw' := hw.symm; subst hw'; clear hw
  go_wp2_with fail
  refine (HA1.out _ (by exact HD1.out)).mono ?_
  intro e w' hq; obtain ⟨rfl, hw⟩ := hq; have hw' := hw.symm; subst hw'; clear hw
  go_upto_if 21 with (go_at_call 28; refine (HA2.out _ (by exact HD1.out)).mono ?_; intro e w' hq; obtain ⟨rfl, hw⟩ := hq; have hw' := hw.symm; subst hw'; clear hw)
  clear hsv hs0
  go_cut [6, 7] (fun f o w' => ∃ f1 : Int, f = .int .i64 f1 ∧ 1900 ≤ f1 ∧ f1 ≤ 1980 ∧ Hid (OutV (FstV bs f1) save f1 W 1 o w'))
  case first =>
    by_cases hsw : x2 = 0
    · subst hsw
      go_wp2_with fail
      refine (HA3.out _ (by exact HD1.out)).mono ?_
      intro e w' hq; obtain ⟨rfl, hw⟩ := hq; have hw' := hw.symm; subst hw'; clear hw
      go_wp2_with fail
      refine (HK4.out _ (by exact HD1.out)).mono ?_
      rintro e w2 ⟨rfl, hb2⟩
      have HB2 := Lib.hid (bel_trans HB1.out hb2)
      clear hb2
      have HOK1 := Lib.hid (setP_one (sv := save) (f := 1900 + x1 + 1) (r := (⟨⟨#[]⟩, 1900 + x1, 1900 + x1, 6, 1, 0, 1 + x3, t4 * 1800, b4, 0, ⟨#[83]⟩⟩ : Ru)) ⟨⟨by dsimp only; omega, by dsimp only; omega, by dsimp only; omega, .inr (.inr ⟨rfl, rfl, by dsimp only; omega⟩), by dsimp only; omega, by dsimp only; omega, by show (⟨#[83]⟩ : ByteArray).size ≤ 2; decide⟩, .inl rfl, .inr (.inl ⟨rfl, rfl, rfl, rfl⟩)⟩ (by dsimp only; omega))
      go_wp2_with (at_builtin; refine wpList_append_own _ rfl (.tmp 22) (.tmp 32) 36 rfl W.heap.size 56 i0 (.agg #[.string ⟨#[]⟩, .int .i64 0, .int .i64 0, .int .i64 0, .int .i64 0, .int .i64 0, .int .i64 0, .int .i64 0, .int .i64 0, .int .i64 0, .string ⟨#[]⟩]) 11 104 Tryd.underlying36 hi hz0 hzs hzb rfl (by decide) _ 0 [] rfl (World.ownsRow_nil _ _ _ _) ⟨w2.heap.size, 0, none⟩ 1 1 (⟨⟨#[]⟩, 1900 + x1, 1900 + x1, 6, 1, 0, 1 + x3, t4 * 1800, b4, 0, ⟨#[83]⟩⟩ : Ru).arr.toList rfl rfl (World.news_of_block (heap_alloc_new _ _)) (arr_one _) (by unfold maxLen; omega) (by omega) (by have := HB2.out.size; simp; omega) ?_; intro v1 w3 hown3 hgrow3 hnil3)
      have hB3 := Below.grown (bel_trans HB2.out (bel_alloc _ _)) hgrow3 (by have := HB2.out.size; simp; omega) (fun q hq => by cases hq)
      have HO3 : Hid (OutV (FstV bs (1900 + x1 + 1)) save (1900 + x1 + 1) W 1 v1 w3) := Lib.hid ⟨[(⟨⟨#[]⟩, 1900 + x1, 1900 + x1, 6, 1, 0, 1 + x3, t4 * 1800, b4, 0, ⟨#[83]⟩⟩ : Ru)], by simp, HOK1.out, by simpa [flatRu] using hown3, hB3, .inl ⟨HX2.out, by rw [HX1.out], by rw [HX1.out, HX3.out, HT4.out, HB4.out]⟩⟩
      clear hown3 hgrow3 hnil3 hB3
      go_wp2_with fail
      go_meet
      case rel => exact ⟨_, rfl, by omega, by omega, HO3⟩
    · have hswb : (x2 == 0) = false := by simp [hsw]
      go_wp2_with fail
      go_meet
      case rel => exact ⟨1900 + x1, rfl, by omega, by omega, Lib.hid ⟨[], by simp, setP_nil _ _, World.ownsRow_nil _ _ _ _, HB1.out, .inr ⟨by rw [HX2.out]; exact hsw, by rw [HX1.out], rfl⟩⟩⟩
  case rest =>
  obtain ⟨f1, rfl, hf1, hf2, HO⟩ := hcut
  obtain ⟨l1, hl1, hr1, ho1, hB1, hv1⟩ := HO.out
  have HF1 := Lib.hid hv1
  clear hv1
  have HR1 := Lib.hid hr1; have HO1 := Lib.hid ho1; have HBc := Lib.hid hB1; have HDc := Lib.hid (H.out.below hB1)
  clear HO hr1 ho1 hB1 HB1 HD1
  go_upto_if 38 with (go_at_call 28; refine (HA5.out _ (by exact HDc.out)).mono ?_; intro e w' hq; obtain ⟨rfl, hw⟩ := hq; have hw' := hw.symm; subst hw'; clear hw)
  go_cut [6, 7] (fun f o w' => ∃ f2 : Int, f = .int .i64 f2 ∧ 1900 ≤ f2 ∧ f2 ≤ 2000 ∧ Hid (OutV (SndV bs save f1 l1 f2) save f2 W 3 o w'))
  case first =>
    by_cases hsw : x5 = 0
    · subst hsw
      go_wp2_with fail
      refine (HA6.out _ (by exact HDc.out)).mono ?_
      intro e w' hq; obtain ⟨rfl, hw⟩ := hq; have hw' := hw.symm; subst hw'; clear hw
      go_wp2_with fail
      refine (pairv_any (.slice A n cap) bs 7 f1 (f1 + x6) save _ (by exact HDc.out) (by decide) (by decide)).mono ?_
      rintro e w2 ⟨ra, rb, b, hpk, hpv, rfl, hblk, hbb, hb2⟩
      have HPV := Lib.hid hpv; clear hpv; have HPK := Lib.hid hpk; have HB2 := Lib.hid (bel_trans HBc.out hb2); have HO2 := Lib.hid (own_below17 HO1.out hb2); have hblk := Lib.hid hblk
      clear hpk hbb hb2
      go_wp2_with (at_builtin; refine wpList_append_own _ rfl (.tmp 43) (.tmp 48) 36 rfl W.heap.size 56 i0 (.agg #[.string ⟨#[]⟩, .int .i64 0, .int .i64 0, .int .i64 0, .int .i64 0, .int .i64 0, .int .i64 0, .int .i64 0, .int .i64 0, .int .i64 0, .string ⟨#[]⟩]) 11 104 Tryd.underlying36 hi hz0 hzs hzb rfl (by decide) _ l1.length (flatRu l1) rfl HO2.out ⟨b, 0, none⟩ 2 2 (ra.arr.toList ++ rb.arr.toList) rfl rfl (World.news_of_block hblk.out) (arr_one2 _ _) (by unfold maxLen; omega) (by omega) HB2.out.size ?_; intro v1 w3 hown3 hgrow3 hnil3)
      have hB3 := Below.grown HB2.out hgrow3 HB2.out.size (fun q hq => (HO2.out.lt q (by exact hq)).1)
      have HO3 := Lib.hid (show w3.ownsRow W.heap.size 56 11 v1 (l1 ++ [ra, rb]).length (flatRu (l1 ++ [ra, rb])) by rw [_root_.List.length_append, flatRu_app]; simpa [flatRu] using hown3)
      have HR3 := Lib.hid (setP_pair (f' := f1 + x6 + 1) HR1.out HPK.out (by omega) (by omega) HSV.out (by omega))
      have HB3 := Lib.hid hB3
      clear hown3 hgrow3 hnil3 hB3 HO2 hblk HB2 HPK
      have HDd := Lib.hid (H.out.below HB3.out)
      go_wp2_with fail
      refine (HA8.out _ (by exact HDd.out)).mono ?_
      intro e w' hq; obtain ⟨rfl, hw⟩ := hq; have hw' := hw.symm; subst hw'; clear hw
      go_wp2_with fail
      go_meet
      case rel => exact ⟨_, rfl, by omega, by omega, Lib.hid ⟨l1 ++ [ra, rb], by simp; omega, HR3.out.mono (by omega), HO3.out, HB3.out, .inl ⟨HX5.out, ⟨ra, rb, by rw [HX6.out]; exact HPV.out, rfl⟩, by rw [HX6.out, HX8.out]⟩⟩⟩
    · have hswb : (x5 == 0) = false := by simp [hsw]
      go_wp2_with fail
      go_meet
      case rel => exact ⟨f1, rfl, by omega, by omega, Lib.hid ⟨l1, by omega, HR1.out, HO1.out, HBc.out, .inr ⟨by rw [HX5.out]; exact hsw, rfl, rfl⟩⟩⟩
  case rest =>
  clear hf1 hf2 hl1 HR1 HO1 HBc HDc
  obtain ⟨f2, rfl, hf1, hf2, HO⟩ := hcut
  obtain ⟨l2, hl2, hr1, ho1, hB1, hv1⟩ := HO.out
  have HF2 := Lib.hid hv1
  clear hv1
  have HR1 := Lib.hid hr1; have HO1 := Lib.hid ho1; have HBc := Lib.hid hB1; have HDc := Lib.hid (H.out.below hB1)
  clear HO hr1 ho1 hB1
  go_wp2_with fail
  refine (HA9.out _ (by exact HDc.out)).mono ?_
  intro e w' hq; obtain ⟨rfl, hw⟩ := hq; have hw' := hw.symm; subst hw'; clear hw
  go_upto_if 61 with (go_at_call 28; refine (HA10.out _ (by exact HDc.out)).mono ?_; intro e w' hq; obtain ⟨rfl, hw⟩ := hq; have hw' := hw.symm; subst hw'; clear hw)
  skip
  go_cut [9] (fun t w' => ∃ ut : Int, t = .int .i64 ut ∧ (ut = 1048576 ∨ (f2 ≤ ut ∧ ut ≤ 2030)) ∧ Hid (UtV bs f2 ut) ∧ w' = wc)
  case first =>
    by_cases hsw : 0 < x10
    · go_wp2_with fail
      go_meet
      case rel => exact ⟨_, rfl, .inl rfl, Lib.hid (.inl ⟨by rw [HX10.out]; exact hsw, rfl⟩), rfl⟩
    · have hswb : x10 ≤ 0 := by omega
      go_wp2_with fail
      go_meet
      case rel => exact ⟨f2 + x9, rfl, .inr (by omega), Lib.hid (.inr ⟨by rw [HX10.out]; omega, by rw [HX9.out]⟩), rfl⟩
  case rest =>
  obtain ⟨ut, rfl, hut, HUT, hww⟩ := hcut
  have hww' := hww.symm; subst hww'; clear hww
  go_wp2_with fail
  refine (pairv_any (.slice A n cap) bs 11 f2 ut save _ (by exact HDc.out) (by decide) (by decide)).mono ?_
  rintro e w2 ⟨ra, rb, b, hpk, hpv, rfl, hblk, hbb, hb2⟩
  have HPV := Lib.hid hpv; clear hpv; have HPK := Lib.hid hpk; have HB2 := Lib.hid (bel_trans HBc.out hb2); have HO2 := Lib.hid (own_below17 HO1.out hb2); have hblk := Lib.hid hblk
  clear hpk hbb hb2
  go_wp2_with (at_builtin; refine wpList_append_own _ rfl (.tmp 62) (.tmp 67) 36 rfl W.heap.size 56 i0 (.agg #[.string ⟨#[]⟩, .int .i64 0, .int .i64 0, .int .i64 0, .int .i64 0, .int .i64 0, .int .i64 0, .int .i64 0, .int .i64 0, .int .i64 0, .string ⟨#[]⟩]) 11 104 Tryd.underlying36 hi hz0 hzs hzb rfl (by decide) _ l2.length (flatRu l2) rfl HO2.out ⟨b, 0, none⟩ 2 2 (ra.arr.toList ++ rb.arr.toList) rfl rfl (World.news_of_block hblk.out) (arr_one2 _ _) (by unfold maxLen; omega) (by omega) HB2.out.size ?_; intro v1 w3 hown3 hgrow3 hnil3)
  have hB3 := Below.grown HB2.out hgrow3 HB2.out.size (fun q hq => (HO2.out.lt q (by exact hq)).1)
  have HO3 := Lib.hid (show w3.ownsRow W.heap.size 56 11 v1 (l2 ++ [ra, rb]).length (flatRu (l2 ++ [ra, rb])) by rw [_root_.List.length_append, flatRu_app]; simpa [flatRu] using hown3)
  have HR3 := Lib.hid (madeP_of HR1.out HPK.out (by omega) (by omega) HSV.out HSM.out)
  have HB3 := Lib.hid hB3
  clear hown3 hgrow3 hnil3 hB3 HO2 hblk HB2 HPK
  obtain ⟨rs, hrs⟩ : ∃ rs, rs = l2 ++ [ra, rb] := ⟨_, rfl⟩
  rw [← hrs] at HO3 HR3
  have hlen : 2 ≤ rs.length ∧ rs.length ≤ 5 := by rw [hrs, _root_.List.length_append]; simp; omega
  have HMV : Hid (MadeV bs save rs) := Lib.hid ⟨f1, l1, f2, l2, ut, ra, rb, s0, HX0.out, HSE.out, HF1.out, HF2.out, HUT.out, HPV.out, hrs⟩
  clear hrs HO1 HR1 HBc HDc HX0 HX1 HX2 HX3 HX5 HX6 HX8 HX9 HX10 HT4 HB4 HSE HF1 HF2 HUT HPV
  obtain ⟨nn, hnn⟩ : ∃ nn, nn = rs.length := ⟨_, rfl⟩
  have HNN := Lib.hid hnn
  rw [← hnn] at hlen
  obtain ⟨hlen1, hlen2⟩ := hlen
  obtain ⟨g, cp, rfl⟩ : ∃ g cp, v1 = .slice (some ⟨g, 0, none⟩) nn cp := by
    rcases HO3.out.2 with ⟨_, h0⟩ | ⟨g, c, cur, h1, _⟩
    · omega
    · exact ⟨g, c, by rw [h1, hnn]⟩
  rw [← hnn] at HO3
  clear hnn
  go_simp
  go_wp2_with fail
  go_loopw [71] (fun i wr => ∃ (k : Nat) (wq : World), k ≤ nn ∧ i = .int .i64 (k : Int) ∧ wr = wq ∧ Hid (Below W.heap.size W wq) ∧ Hid (wq.ownsRow W.heap.size 56 11 (.slice (some ⟨g, 0, none⟩) nn cp) nn (flatRu (named nm k rs)))) (fun i _ => nn - (intOf i).toNat)
  case atStart => exact ⟨0, _, by omega, rfl, rfl, HB3, HO3⟩
  case round =>
    obtain ⟨k, wq, hk, rfl, rfl, HBq, HOq⟩ := hrel
    by_cases hlt : k < nn
    · have HS := Lib.hid (named_succ (nm := nm) (k := k) (rs := rs) (by rw [← HNN.out]; exact hlt))
      obtain ⟨u, hcu, hfu, hgb⟩ : ∃ u, wr.cell? ⟨g, k * 11, none⟩ = some u ∧ wr.frozen? ⟨g, k * 11, none⟩ = false ∧ W.heap.size ≤ g := by
        rcases HOq.out.2 with ⟨h1, _⟩ | ⟨g', c', cur, h1, h2, h3, h4, h5, h6, h7⟩
        · cases h1
        · cases h1
          have hsz : k * 11 < cur.size := by rw [h6]; exact Nat.lt_of_lt_of_le (by omega : k * 11 < nn * 11) (Nat.mul_le_mul_right 11 h4)
          exact ⟨cur[k * 11], cellB h3 (by rw [Array.getElem?_eq_getElem hsz]), frzB h3 _, h2⟩
      go_wp2_with fail
      go_round
      case rel => exact ⟨k + 1, _, by omega, by go_num, rfl, Lib.hid (HBq.out.setCell (p := ⟨g, k * 11, none⟩) hgb _), Lib.hid (by rw [HS.out]; exact own_set HOq.out)⟩
      case measure => simp [intOf]; omega
    · obtain rfl : k = nn := by omega
      go_wp2_with fail
      go_ret
      refine ⟨_, rs.map (fun r => { r with na := nm }), save, rfl, by rw [_root_.List.length_map, ← HNN.out]; exact hlen1, by rw [_root_.List.length_map, ← HNN.out]; exact hlen2, madeP_name nm HR3.out, fun r hr => ?_, ⟨rs, HMV.out, rfl⟩, ?_, HBq.out⟩
      · obtain ⟨r0, hr0, rfl⟩ := _root_.List.mem_map.1 hr; rfl
      · have ho := HOq.out
        rw [HNN.out] at ho ⊢
        rw [named_all] at ho
        rw [_root_.List.length_map]
        exact ho
end Go.Proofs.YtdppmeeobpbfnaaDoor

