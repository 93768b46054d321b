/-
  Draft.Made: what it returns, said in full: which years and months its rules have, and which saves.
-/
import Derived.Test.YtdppmeeobpbfnaaDoorDrMade
namespace Go.Proofs.YtdppmeeobpbfnaaDoor
open Go.RowKit Cv
set_option linter.unusedVariables false
set_option linter.unusedSimpArgs false

namespace Cv
/-- one rule's years lie before another's; or they are a pair, in spring and in autumn -/
def OrdR (r s : Ru) : Prop := r.ut < s.fr ∨ (r.fr = s.fr ∧ r.ut = s.ut ∧ 2 ≤ r.mo ∧ r.mo ≤ 4 ∧ 8 ≤ s.mo ∧ s.mo ≤ 10)
structure RuP (sv : Int) (r : Ru) : Prop where
  ok : RuOk r
  save : r.save = 0 ∨ r.save = sv
  mo : (2 ≤ r.mo ∧ r.mo ≤ 4) ∨ (r.mo = 6 ∧ r.k = 1 ∧ r.save = 0 ∧ r.fr = r.ut) ∨ (8 ≤ r.mo ∧ r.mo ≤ 10)
/-- so far, all before a year -/
def SetP (sv f : Int) (l : _root_.List Ru) : Prop := l.Pairwise OrdR ∧ ∀ r ∈ l, RuP sv r ∧ r.ut < f
structure MadeP (sv : Int) (rs : _root_.List Ru) : Prop where
  ord : rs.Pairwise OrdR
  each : ∀ r ∈ rs, RuP sv r
  svs : sv = 3600 ∨ sv = 1800 ∨ sv = 7200 ∨ sv = -3600
  last : ∃ l ra rb, rs = l ++ [ra, rb] ∧ ra.fr = rb.fr ∧ ra.ut = rb.ut ∧ (2 ≤ ra.mo ∧ ra.mo ≤ 4) ∧ (8 ≤ rb.mo ∧ rb.mo ≤ 10) ∧ ((ra.save = sv ∧ rb.save = 0) ∨ (ra.save = 0 ∧ rb.save = sv)) ∧ ∀ r ∈ l, r.ut < ra.fr
theorem setP_nil (sv f : Int) : SetP sv f [] := ⟨_root_.List.Pairwise.nil, fun r hr => (by cases hr)⟩
theorem setP_one {sv f : Int} {r : Ru} (h : RuP sv r) (hf : r.ut < f) : SetP sv f [r] := ⟨_root_.List.pairwise_singleton _ _, fun q hq => by rw [_root_.List.mem_singleton] at hq; subst hq; exact ⟨h, hf⟩⟩
theorem SetP.mono {sv f g : Int} {l : _root_.List Ru} (h : SetP sv f l) (hf : f ≤ g) : SetP sv g l := ⟨h.1, fun r hr => ⟨(h.2 r hr).1, by have := (h.2 r hr).2; omega⟩⟩
theorem pair_ruP {fr ut save : Int} {ra rb : Ru} (h : PairOk fr ut save ra rb) (hf : 1900 ≤ fr ∧ fr ≤ 2010) (hu : ut = 1048576 ∨ (fr ≤ ut ∧ ut ≤ 2030)) (hs : -3600 ≤ save ∧ save ≤ 7200) : RuP save ra ∧ RuP save rb := by
  have hok := h.ruok hf hu hs
  have hsv := h.saves
  exact ⟨⟨hok ra (by simp), by omega, .inl h.moa⟩, ⟨hok rb (by simp), by omega, .inr (.inr h.mob)⟩⟩
theorem pair_ord {sv fr ut : Int} {l : _root_.List Ru} {ra rb : Ru} (h : SetP sv fr l) (hp : PairOk fr ut sv ra rb) : (l ++ [ra, rb]).Pairwise OrdR := by
  have h1 := hp.fra
  have h2 := hp.frb
  have h3 := hp.uta
  have h4 := hp.utb
  have h5 := hp.moa
  have h6 := hp.mob
  refine _root_.List.pairwise_append.2 ⟨h.1, _root_.List.pairwise_cons.2 ⟨fun s hs => ?_, _root_.List.pairwise_singleton _ _⟩, fun r hr s hs => ?_⟩
  · rw [_root_.List.mem_singleton] at hs
    subst hs
    exact .inr ⟨by omega, by omega, by omega, by omega, by omega, by omega⟩
  · have := (h.2 r hr).2
    have hs : s = ra ∨ s = rb := by simpa using hs
    rcases hs with rfl | rfl
    · exact .inl (by omega)
    · exact .inl (by omega)
theorem setP_pair {sv fr ut f' : Int} {l : _root_.List Ru} {ra rb : Ru} (h : SetP sv fr l) (hp : PairOk fr ut sv ra rb) (hf : 1900 ≤ fr ∧ fr ≤ 2010) (hu : ut = 1048576 ∨ (fr ≤ ut ∧ ut ≤ 2030)) (hs : -3600 ≤ sv ∧ sv ≤ 7200) (hf' : fr ≤ ut ∧ ut < f') : SetP sv f' (l ++ [ra, rb]) := by
  obtain ⟨pa, pb⟩ := pair_ruP hp hf hu hs
  have h3 := hp.uta
  have h4 := hp.utb
  refine ⟨pair_ord h hp, fun r hr => ?_⟩
  rcases _root_.List.mem_append.1 hr with h1 | h1
  · exact ⟨(h.2 r h1).1, by have := (h.2 r h1).2; omega⟩
  · have h1 : r = ra ∨ r = rb := by simpa using h1
    rcases h1 with rfl | rfl
    · exact ⟨pa, by omega⟩
    · exact ⟨pb, by omega⟩
theorem madeP_of {sv fr ut : Int} {l : _root_.List Ru} {ra rb : Ru} (h : SetP sv fr l) (hp : PairOk fr ut sv ra rb) (hf : 1900 ≤ fr ∧ fr ≤ 2010) (hu : ut = 1048576 ∨ (fr ≤ ut ∧ ut ≤ 2030)) (hs : -3600 ≤ sv ∧ sv ≤ 7200) (hm : sv = 3600 ∨ sv = 1800 ∨ sv = 7200 ∨ sv = -3600) : MadeP sv (l ++ [ra, rb]) := by
  obtain ⟨pa, pb⟩ := pair_ruP hp hf hu hs
  have h1 := hp.fra
  have h2 := hp.frb
  have h3 := hp.uta
  have h4 := hp.utb
  refine ⟨pair_ord h hp, fun r hr => ?_, hm, l, ra, rb, rfl, by omega, by omega, hp.moa, hp.mob, hp.saves, fun r hr => by have := (h.2 r hr).2; omega⟩
  rcases _root_.List.mem_append.1 hr with h1 | h1
  · exact (h.2 r h1).1
  · have h1 : r = ra ∨ r = rb := by simpa using h1
    rcases h1 with rfl | rfl
    · exact pa
    · exact pb
theorem RuP.name {sv : Int} {r : Ru} (nm : ByteArray) (h : RuP sv r) : RuP sv { r with na := nm } := by
  obtain ⟨⟨a1, a2, a3, a4, a5, a6, a7⟩, hs, hm⟩ := h
  exact ⟨⟨a1, a2, a3, a4, a5, a6, a7⟩, hs, hm⟩
theorem madeP_name {sv : Int} {rs : _root_.List Ru} (nm : ByteArray) (h : MadeP sv rs) : MadeP sv (rs.map fun r => { r with na := nm }) := by
  obtain ⟨l, ra, rb, e, h1, h2, h3, h4, h5, h6⟩ := h.last
  refine ⟨_root_.List.pairwise_map.2 (h.ord.imp fun hh => hh), fun r hr => ?_, h.svs, l.map (fun r => { r with na := nm }), { ra with na := nm }, { rb with na := nm }, by rw [e]; simp, h1, h2, h3, h4, h5, fun r hr => ?_⟩
  · obtain ⟨r0, hr0, rfl⟩ := _root_.List.mem_map.1 hr
    exact (h.each r0 hr0).name nm
  · obtain ⟨r0, hr0, rfl⟩ := _root_.List.mem_map.1 hr
    exact h6 r0 hr0
/-- what Made returns -/
def MadeS (nm : ByteArray) (W : World) (e : Ending) (W' : World) : Prop :=
  ∃ (v : Value) (rs : _root_.List Ru) (sv : Int), e = .returned v ∧ 2 ≤ rs.length ∧ rs.length ≤ 5 ∧ MadeP sv rs ∧ (∀ r ∈ rs, r.na = nm) ∧ W'.ownsRow W.heap.size 56 11 v rs.length (flatRu rs) ∧ Below W.heap.size W W'
def OutS (sv f : Int) (W : World) (m : Nat) (o : Value) (w' : World) : Prop := ∃ l : _root_.List Ru, l.length ≤ m ∧ SetP sv f l ∧ w'.ownsRow W.heap.size 56 11 o l.length (flatRu l) ∧ Below W.heap.size W w'
end Cv

set_option maxRecDepth 100000 in
set_option maxHeartbeats 8000000 in
theorem made17s_any (v : Value) (bs : _root_.List Int) (nm : ByteArray) (W : World) (h : Drf v bs W) :
    Calls Tryd.prog 19 #[v, .string nm] W (MadeS nm W) := by
  have H := Lib.hid h
  obtain ⟨A, cap, rfl⟩ := h.sl
  obtain ⟨n, hN⟩ : ∃ n, n = bs.length := ⟨_, rfl⟩
  clear h
  rw [← hN] at H ⊢
  clear hN
  obtain ⟨i0, hi, hz0, hzs, hzb⟩ := info_parts infoRu
  obtain ⟨x0, hx0⟩ : ∃ y, atv bs 0 5 = y := ⟨_, rfl⟩
  have hbd := atv_bd bs 0 5 (by decide)
  rw [hx0] at hbd
  obtain ⟨s0, rfl⟩ : ∃ k : Nat, x0 = (k : Int) := ⟨x0.toNat, by omega⟩
  have hs0 : s0 < 5 := by omega
  clear hbd
  have HA0 := Lib.hid (at_is (v := (.slice A n cap)) (Lib.hid hx0) (by decide) (by decide) (by decide) (by decide))
  clear hx0
  obtain ⟨x1, hx1⟩ : ∃ y, atv bs 1 80 = y := ⟨_, rfl⟩
  have hbd := atv_bd bs 1 80 (by decide)
  rw [hx1] at hbd
  obtain ⟨hx11, hx12⟩ := hbd
  have HA1 := Lib.hid (at_is (v := (.slice A n cap)) (Lib.hid hx1) (by decide) (by decide) (by decide) (by decide))
  clear hx1
  obtain ⟨x2, hx2⟩ : ∃ y, atv bs 2 3 = y := ⟨_, rfl⟩
  have hbd := atv_bd bs 2 3 (by decide)
  rw [hx2] at hbd
  obtain ⟨hx21, hx22⟩ := hbd
  have HA2 := Lib.hid (at_is (v := (.slice A n cap)) (Lib.hid hx2) (by decide) (by decide) (by decide) (by decide))
  clear hx2
  obtain ⟨x3, hx3⟩ : ∃ y, atv bs 3 28 = y := ⟨_, rfl⟩
  have hbd := atv_bd bs 3 28 (by decide)
  rw [hx3] at hbd
  obtain ⟨hx31, hx32⟩ := hbd
  have HA3 := Lib.hid (at_is (v := (.slice A n cap)) (Lib.hid hx3) (by decide) (by decide) (by decide) (by decide))
  clear hx3
  obtain ⟨x5, hx5⟩ : ∃ y, atv bs 5 2 = y := ⟨_, rfl⟩
  have hbd := atv_bd bs 5 2 (by decide)
  rw [hx5] at hbd
  obtain ⟨hx51, hx52⟩ := hbd
  have HA5 := Lib.hid (at_is (v := (.slice A n cap)) (Lib.hid hx5) (by decide) (by decide) (by decide) (by decide))
  clear hx5
  obtain ⟨x6, hx6⟩ : ∃ y, atv bs 6 12 = y := ⟨_, rfl⟩
  have hbd := atv_bd bs 6 12 (by decide)
  rw [hx6] at hbd
  obtain ⟨hx61, hx62⟩ := hbd
  have HA6 := Lib.hid (at_is (v := (.slice A n cap)) (Lib.hid hx6) (by decide) (by decide) (by decide) (by decide))
  clear hx6
  obtain ⟨x8, hx8⟩ : ∃ y, atv bs 8 5 = y := ⟨_, rfl⟩
  have hbd := atv_bd bs 8 5 (by decide)
  rw [hx8] at hbd
  obtain ⟨hx81, hx82⟩ := hbd
  have HA8 := Lib.hid (at_is (v := (.slice A n cap)) (Lib.hid hx8) (by decide) (by decide) (by decide) (by decide))
  clear hx8
  obtain ⟨x9, hx9⟩ : ∃ y, atv bs 9 6 = y := ⟨_, rfl⟩
  have hbd := atv_bd bs 9 6 (by decide)
  rw [hx9] at hbd
  obtain ⟨hx91, hx92⟩ := hbd
  have HA9 := Lib.hid (at_is (v := (.slice A n cap)) (Lib.hid hx9) (by decide) (by decide) (by decide) (by decide))
  clear hx9
  obtain ⟨x10, hx10⟩ : ∃ y, atv bs 10 3 = y := ⟨_, rfl⟩
  have hbd := atv_bd bs 10 3 (by decide)
  rw [hx10] at hbd
  obtain ⟨hx101, hx102⟩ := hbd
  have HA10 := Lib.hid (at_is (v := (.slice A n cap)) (Lib.hid hx10) (by decide) (by decide) (by decide) (by decide))
  clear hx10
  obtain ⟨t4, ht4⟩ : ∃ y, atv bs 4 49 = y := ⟨_, rfl⟩
  obtain ⟨b4, hb4⟩ : ∃ y, atv bs (4 + 1) 3 = y := ⟨_, rfl⟩
  have hbt := atv_bd bs 4 49 (by decide)
  have hbb := atv_bd bs (4 + 1) 3 (by decide)
  rw [ht4] at hbt
  rw [hb4] at hbb
  obtain ⟨ht1, ht2⟩ := hbt
  obtain ⟨hb1, hb2⟩ := hbb
  have HK4 := Lib.hid (clock17_is (v := (.slice A n cap)) (Lib.hid ht4) (Lib.hid hb4) (by decide) (by decide))
  clear ht4 hb4
  obtain ⟨save, hsm, hsv, hsb⟩ : ∃ save : Int, (save = 3600 ∨ save = 1800 ∨ save = 7200 ∨ save = -3600) ∧ (W.alloc (.cells #[.int .i64 3600, .int .i64 3600, .int .i64 1800, .int .i64 7200, .int .i64 (-3600)] 2)).cell? ⟨W.heap.size, s0, none⟩ = some (.int .i64 save) ∧ -3600 ≤ save ∧ save ≤ 7200 := by
    have hc : s0 = 0 ∨ s0 = 1 ∨ s0 = 2 ∨ s0 = 3 ∨ s0 = 4 := by omega
    rcases hc with rfl | rfl | rfl | rfl | rfl
    · exact ⟨_, by decide, cellB (heap_alloc_new _ _) rfl, by decide, by decide⟩
    · exact ⟨_, by decide, cellB (heap_alloc_new _ _) rfl, by decide, by decide⟩
    · exact ⟨_, by decide, cellB (heap_alloc_new _ _) rfl, by decide, by decide⟩
    · exact ⟨_, by decide, cellB (heap_alloc_new _ _) rfl, by decide, by decide⟩
    · exact ⟨_, by decide, cellB (heap_alloc_new _ _) rfl, by decide, by decide⟩
  have HSV := Lib.hid hsb
  have HSM := Lib.hid hsm
  clear hsm
  have HB1 := Lib.hid (bel_alloc W (.cells #[.int .i64 3600, .int .i64 3600, .int .i64 1800, .int .i64 7200, .int .i64 (-3600)] 2))
  have HD1 := Lib.hid (H.out.below HB1.out)
  clear hsb
  go_enter Tryd.func19, Tryd.ntmps19
  go_wp2_with fail
  refine (HA0.out _ (by exact HD1.out)).mono ?_
  intro e w' hq; obtain ⟨rfl, hw⟩ := hq; have hw' := hw.symm; subst hw'; clear hw
  go_wp2_with fail
  refine (HA1.out _ (by exact HD1.out)).mono ?_
  intro e w' hq; obtain ⟨rfl, hw⟩ := hq; have hw' := hw.symm; subst hw'; clear hw
  go_upto_if 21 with (go_at_call 28; refine (HA2.out _ (by exact HD1.out)).mono ?_; intro e w' hq; obtain ⟨rfl, hw⟩ := hq; have hw' := hw.symm; subst hw'; clear hw)
  clear hsv hs0
  go_cut [6, 7] (fun f o w' => ∃ f1 : Int, f = .int .i64 f1 ∧ 1900 ≤ f1 ∧ f1 ≤ 1980 ∧ Hid (OutS save f1 W 1 o w'))
  case first =>
    by_cases hsw : x2 = 0
    · subst hsw
      go_wp2_with fail
      refine (HA3.out _ (by exact HD1.out)).mono ?_
      intro e w' hq; obtain ⟨rfl, hw⟩ := hq; have hw' := hw.symm; subst hw'; clear hw
      go_wp2_with fail
      refine (HK4.out _ (by exact HD1.out)).mono ?_
      rintro e w2 ⟨rfl, hb2⟩
      have HB2 := Lib.hid (bel_trans HB1.out hb2)
      clear hb2
      have HOK1 := Lib.hid (setP_one (sv := save) (f := 1900 + x1 + 1) (r := (⟨⟨#[]⟩, 1900 + x1, 1900 + x1, 6, 1, 0, 1 + x3, t4 * 1800, b4, 0, ⟨#[83]⟩⟩ : Ru)) ⟨⟨by dsimp only; omega, by dsimp only; omega, by dsimp only; omega, .inr (.inr ⟨rfl, rfl, by dsimp only; omega⟩), by dsimp only; omega, by dsimp only; omega, by show (⟨#[83]⟩ : ByteArray).size ≤ 2; decide⟩, .inl rfl, .inr (.inl ⟨rfl, rfl, rfl, rfl⟩)⟩ (by dsimp only; omega))
      go_wp2_with (at_builtin; refine wpList_append_own _ rfl (.tmp 22) (.tmp 32) 36 rfl W.heap.size 56 i0 (.agg #[.string ⟨#[]⟩, .int .i64 0, .int .i64 0, .int .i64 0, .int .i64 0, .int .i64 0, .int .i64 0, .int .i64 0, .int .i64 0, .int .i64 0, .string ⟨#[]⟩]) 11 104 Tryd.underlying36 hi hz0 hzs hzb rfl (by decide) _ 0 [] rfl (World.ownsRow_nil _ _ _ _) ⟨w2.heap.size, 0, none⟩ 1 1 (⟨⟨#[]⟩, 1900 + x1, 1900 + x1, 6, 1, 0, 1 + x3, t4 * 1800, b4, 0, ⟨#[83]⟩⟩ : Ru).arr.toList rfl rfl (World.news_of_block (heap_alloc_new _ _)) (arr_one _) (by unfold maxLen; omega) (by omega) (by have := HB2.out.size; simp; omega) ?_; intro v1 w3 hown3 hgrow3 hnil3)
      have hB3 := Below.grown (bel_trans HB2.out (bel_alloc _ _)) hgrow3 (by have := HB2.out.size; simp; omega) (fun q hq => by cases hq)
      have HO3 : Hid (OutS save (1900 + x1 + 1) W 1 v1 w3) := Lib.hid ⟨[(⟨⟨#[]⟩, 1900 + x1, 1900 + x1, 6, 1, 0, 1 + x3, t4 * 1800, b4, 0, ⟨#[83]⟩⟩ : Ru)], by simp, HOK1.out, by simpa [flatRu] using hown3, hB3⟩
      clear hown3 hgrow3 hnil3 hB3
      go_wp2_with fail
      go_meet
      case rel => exact ⟨_, rfl, by omega, by omega, HO3⟩
    · have hswb : (x2 == 0) = false := by simp [hsw]
      go_wp2_with fail
      go_meet
      case rel => exact ⟨1900 + x1, rfl, by omega, by omega, Lib.hid ⟨[], by simp, setP_nil _ _, World.ownsRow_nil _ _ _ _, HB1.out⟩⟩
  case rest =>
  obtain ⟨f1, rfl, hf1, hf2, HO⟩ := hcut
  obtain ⟨l1, hl1, hr1, ho1, hB1⟩ := HO.out
  have HR1 := Lib.hid hr1; have HO1 := Lib.hid ho1; have HBc := Lib.hid hB1; have HDc := Lib.hid (H.out.below hB1)
  clear HO hr1 ho1 hB1 HB1 HD1
  go_upto_if 38 with (go_at_call 28; refine (HA5.out _ (by exact HDc.out)).mono ?_; intro e w' hq; obtain ⟨rfl, hw⟩ := hq; have hw' := hw.symm; subst hw'; clear hw)
  go_cut [6, 7] (fun f o w' => ∃ f2 : Int, f = .int .i64 f2 ∧ 1900 ≤ f2 ∧ f2 ≤ 2000 ∧ Hid (OutS save f2 W 3 o w'))
  case first =>
    by_cases hsw : x5 = 0
    · subst hsw
      go_wp2_with fail
      refine (HA6.out _ (by exact HDc.out)).mono ?_
      intro e w' hq; obtain ⟨rfl, hw⟩ := hq; have hw' := hw.symm; subst hw'; clear hw
      go_wp2_with fail
      refine (pair_any (.slice A n cap) bs 7 f1 (f1 + x6) save _ (by exact HDc.out) (by decide) (by decide)).mono ?_
      rintro e w2 ⟨ra, rb, b, hpk, rfl, hblk, hbb, hb2⟩
      have HPK := Lib.hid hpk; have HB2 := Lib.hid (bel_trans HBc.out hb2); have HO2 := Lib.hid (own_below17 HO1.out hb2); have hblk := Lib.hid hblk
      clear hpk hbb hb2
      go_wp2_with (at_builtin; refine wpList_append_own _ rfl (.tmp 43) (.tmp 48) 36 rfl W.heap.size 56 i0 (.agg #[.string ⟨#[]⟩, .int .i64 0, .int .i64 0, .int .i64 0, .int .i64 0, .int .i64 0, .int .i64 0, .int .i64 0, .int .i64 0, .int .i64 0, .string ⟨#[]⟩]) 11 104 Tryd.underlying36 hi hz0 hzs hzb rfl (by decide) _ l1.length (flatRu l1) rfl HO2.out ⟨b, 0, none⟩ 2 2 (ra.arr.toList ++ rb.arr.toList) rfl rfl (World.news_of_block hblk.out) (arr_one2 _ _) (by unfold maxLen; omega) (by omega) HB2.out.size ?_; intro v1 w3 hown3 hgrow3 hnil3)
      have hB3 := Below.grown HB2.out hgrow3 HB2.out.size (fun q hq => (HO2.out.lt q (by exact hq)).1)
      have HO3 := Lib.hid (show w3.ownsRow W.heap.size 56 11 v1 (l1 ++ [ra, rb]).length (flatRu (l1 ++ [ra, rb])) by rw [_root_.List.length_append, flatRu_app]; simpa [flatRu] using hown3)
      have HR3 := Lib.hid (setP_pair (f' := f1 + x6 + 1) HR1.out HPK.out (by omega) (by omega) HSV.out (by omega))
      have HB3 := Lib.hid hB3
      clear hown3 hgrow3 hnil3 hB3 HO2 hblk HB2 HPK
      have HDd := Lib.hid (H.out.below HB3.out)
      go_wp2_with fail
      refine (HA8.out _ (by exact HDd.out)).mono ?_
      intro e w' hq; obtain ⟨rfl, hw⟩ := hq; have hw' := hw.symm; subst hw'; clear hw
      go_wp2_with fail
      go_meet
      case rel => exact ⟨_, rfl, by omega, by omega, Lib.hid ⟨l1 ++ [ra, rb], by simp; omega, HR3.out.mono (by omega), HO3.out, HB3.out⟩⟩
    · have hswb : (x5 == 0) = false := by simp [hsw]
      go_wp2_with fail
      go_meet
      case rel => exact ⟨f1, rfl, by omega, by omega, Lib.hid ⟨l1, by omega, HR1.out, HO1.out, HBc.out⟩⟩
  case rest =>
  clear hf1 hf2 hl1 HR1 HO1 HBc HDc
  obtain ⟨f2, rfl, hf1, hf2, HO⟩ := hcut
  obtain ⟨l2, hl2, hr1, ho1, hB1⟩ := HO.out
  have HR1 := Lib.hid hr1; have HO1 := Lib.hid ho1; have HBc := Lib.hid hB1; have HDc := Lib.hid (H.out.below hB1)
  clear HO hr1 ho1 hB1
  go_wp2_with fail
  refine (HA9.out _ (by exact HDc.out)).mono ?_
  intro e w' hq; obtain ⟨rfl, hw⟩ := hq; have hw' := hw.symm; subst hw'; clear hw
  go_upto_if 61 with (go_at_call 28; refine (HA10.out _ (by exact HDc.out)).mono ?_; intro e w' hq; obtain ⟨rfl, hw⟩ := hq; have hw' := hw.symm; subst hw'; clear hw)
  skip
  go_cut [9] (fun t w' => ∃ ut : Int, t = .int .i64 ut ∧ (ut = 1048576 ∨ (f2 ≤ ut ∧ ut ≤ 2030)) ∧ w' = wc)
  case first =>
    by_cases hsw : 0 < x10
    · go_wp2_with fail
      go_meet
      case rel => exact ⟨_, rfl, .inl rfl, rfl⟩
    · have hswb : x10 ≤ 0 := by omega
      go_wp2_with fail
      go_meet
      case rel => exact ⟨f2 + x9, rfl, .inr (by omega), rfl⟩
  case rest =>
  obtain ⟨ut, rfl, hut, hww⟩ := hcut
  have hww' := hww.symm; subst hww'; clear hww
  go_wp2_with fail
  refine (pair_any (.slice A n cap) bs 11 f2 ut save _ (by exact HDc.out) (by decide) (by decide)).mono ?_
  rintro e w2 ⟨ra, rb, b, hpk, rfl, hblk, hbb, hb2⟩
  have HPK := Lib.hid hpk; have HB2 := Lib.hid (bel_trans HBc.out hb2); have HO2 := Lib.hid (own_below17 HO1.out hb2); have hblk := Lib.hid hblk
  clear hpk hbb hb2
  go_wp2_with (at_builtin; refine wpList_append_own _ rfl (.tmp 62) (.tmp 67) 36 rfl W.heap.size 56 i0 (.agg #[.string ⟨#[]⟩, .int .i64 0, .int .i64 0, .int .i64 0, .int .i64 0, .int .i64 0, .int .i64 0, .int .i64 0, .int .i64 0, .int .i64 0, .string ⟨#[]⟩]) 11 104 Tryd.underlying36 hi hz0 hzs hzb rfl (by decide) _ l2.length (flatRu l2) rfl HO2.out ⟨b, 0, none⟩ 2 2 (ra.arr.toList ++ rb.arr.toList) rfl rfl (World.news_of_block hblk.out) (arr_one2 _ _) (by unfold maxLen; omega) (by omega) HB2.out.size ?_; intro v1 w3 hown3 hgrow3 hnil3)
  have hB3 := Below.grown HB2.out hgrow3 HB2.out.size (fun q hq => (HO2.out.lt q (by exact hq)).1)
  have HO3 := Lib.hid (show w3.ownsRow W.heap.size 56 11 v1 (l2 ++ [ra, rb]).length (flatRu (l2 ++ [ra, rb])) by rw [_root_.List.length_append, flatRu_app]; simpa [flatRu] using hown3)
  have HR3 := Lib.hid (madeP_of HR1.out HPK.out (by omega) (by omega) HSV.out HSM.out)
  have HB3 := Lib.hid hB3
  clear hown3 hgrow3 hnil3 hB3 HO2 hblk HB2 HPK
  obtain ⟨rs, hrs⟩ : ∃ rs, rs = l2 ++ [ra, rb] := ⟨_, rfl⟩
  rw [← hrs] at HO3 HR3
  have hlen : 2 ≤ rs.length ∧ rs.length ≤ 5 := by rw [hrs, _root_.List.length_append]; simp; omega
  clear hrs HO1 HR1 HBc HDc
  obtain ⟨nn, hnn⟩ : ∃ nn, nn = rs.length := ⟨_, rfl⟩
  have HNN := Lib.hid hnn
  rw [← hnn] at hlen
  obtain ⟨hlen1, hlen2⟩ := hlen
  obtain ⟨g, cp, rfl⟩ : ∃ g cp, v1 = .slice (some ⟨g, 0, none⟩) nn cp := by
    rcases HO3.out.2 with ⟨_, h0⟩ | ⟨g, c, cur, h1, _⟩
    · omega
    · exact ⟨g, c, by rw [h1, hnn]⟩
  rw [← hnn] at HO3
  clear hnn
  go_simp
  go_wp2_with fail
  go_loopw [71] (fun i wr => ∃ (k : Nat) (wq : World), k ≤ nn ∧ i = .int .i64 (k : Int) ∧ wr = wq ∧ Hid (Below W.heap.size W wq) ∧ Hid (wq.ownsRow W.heap.size 56 11 (.slice (some ⟨g, 0, none⟩) nn cp) nn (flatRu (named nm k rs)))) (fun i _ => nn - (intOf i).toNat)
  case atStart => exact ⟨0, _, by omega, rfl, rfl, HB3, HO3⟩
  case round =>
    obtain ⟨k, wq, hk, rfl, rfl, HBq, HOq⟩ := hrel
    by_cases hlt : k < nn
    · have HS := Lib.hid (named_succ (nm := nm) (k := k) (rs := rs) (by rw [← HNN.out]; exact hlt))
      obtain ⟨u, hcu, hfu, hgb⟩ : ∃ u, wr.cell? ⟨g, k * 11, none⟩ = some u ∧ wr.frozen? ⟨g, k * 11, none⟩ = false ∧ W.heap.size ≤ g := by
        rcases HOq.out.2 with ⟨h1, _⟩ | ⟨g', c', cur, h1, h2, h3, h4, h5, h6, h7⟩
        · cases h1
        · cases h1
          have hsz : k * 11 < cur.size := by rw [h6]; exact Nat.lt_of_lt_of_le (by omega : k * 11 < nn * 11) (Nat.mul_le_mul_right 11 h4)
          exact ⟨cur[k * 11], cellB h3 (by rw [Array.getElem?_eq_getElem hsz]), frzB h3 _, h2⟩
      go_wp2_with fail
      go_round
      case rel => exact ⟨k + 1, _, by omega, by go_num, rfl, Lib.hid (HBq.out.setCell (p := ⟨g, k * 11, none⟩) hgb _), Lib.hid (by rw [HS.out]; exact own_set HOq.out)⟩
      case measure => simp [intOf]; omega
    · obtain rfl : k = nn := by omega
      go_wp2_with fail
      go_ret
      refine ⟨_, rs.map (fun r => { r with na := nm }), save, rfl, by rw [_root_.List.length_map, ← HNN.out]; exact hlen1, by rw [_root_.List.length_map, ← HNN.out]; exact hlen2, madeP_name nm HR3.out, fun r hr => ?_, ?_, HBq.out⟩
      · obtain ⟨r0, hr0, rfl⟩ := _root_.List.mem_map.1 hr; rfl
      · have ho := HOq.out
        rw [HNN.out] at ho ⊢
        rw [named_all] at ho
        rw [_root_.List.length_map]
        exact ho
end Go.Proofs.YtdppmeeobpbfnaaDoor

