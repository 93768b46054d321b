/-
  The maker of rule sets by numbers (analemmalaw17's Draft.Made).
-/
import Derived.Test.YtdppmeeobpbfnaaDoorDrPair
import Derived.Laws.AppendOwn
import Derived.Deep.DeepCutAuto
namespace Go.Proofs.YtdppmeeobpbfnaaDoor
open Go.RowKit Cv
set_option linter.unusedVariables false
set_option linter.unusedSimpArgs false

namespace Cv
/-- the cells of some rules -/
def flatRu (rs : _root_.List Ru) : _root_.List Value := rs.flatMap fun r => r.arr.toList
theorem arr_len (r : Ru) : r.arr.toList.length = 11 := rfl
theorem flatRu_len (rs : _root_.List Ru) : (flatRu rs).length = rs.length * 11 := by
  induction rs with
  | nil => rfl
  | cons a l ih =>
    show (a.arr.toList ++ flatRu l).length = _
    rw [_root_.List.length_append, ih, arr_len, _root_.List.length_cons]; omega
theorem flatRu_app (l k : _root_.List Ru) : flatRu (l ++ k) = flatRu l ++ flatRu k := by unfold flatRu; rw [_root_.List.flatMap_append]
theorem flatRu_get : ∀ (rs : _root_.List Ru) (i : Nat) (r : Ru), rs[i]? = some r → ∀ j, j < 11 → (flatRu rs)[i * 11 + j]? = r.arr.toList[j]? := by
  intro rs
  induction rs with
  | nil => intro i r h; simp at h
  | cons a l ih =>
    intro i r h j hj
    show (a.arr.toList ++ flatRu l)[i * 11 + j]? = _
    cases i with
    | zero =>
      simp at h; subst h
      rw [_root_.List.getElem?_append_left (by rw [arr_len]; omega)]; congr 1; omega
    | succ i =>
      rw [_root_.List.getElem?_append_right (by rw [arr_len]; omega), arr_len, show (i + 1) * 11 + j - 11 = i * 11 + j by omega]
      exact ih i r (by simpa using h) j hj
theorem own_below17 {base size n : Nat} {t : TypeId} {v : Value} {xs : _root_.List Value} {A B : World} (h : A.ownsRow base t size v n xs) (hb : Below A.heap.size A B) : B.ownsRow base t size v n xs := by
  obtain ⟨hl, h0 | ⟨g, cap, cur, h1, h2, h3, h4⟩⟩ := h
  · exact ⟨hl, .inl h0⟩
  · exact ⟨hl, .inr ⟨g, cap, cur, h1, h2, block_below h3 hb, h4⟩⟩
/-- rules of the call's own read as rules -/
theorem rul_of_own {w : World} {base : Nat} {v : Value} {rs : _root_.List Ru} (h : w.ownsRow base 56 11 v rs.length (flatRu rs)) (hn : rs.length ≤ 1000) (hf : ∀ r ∈ rs, r.fits) : Rul v rs w := by
  rcases h.2 with ⟨rfl, h0⟩ | ⟨g, c, cur, rfl, hg, hh, hc1, hc2, hc3, hc4⟩
  · obtain rfl : rs = [] := List.eq_nil_of_length_eq_zero h0
    exact ⟨none, 0, rfl, by simp, fun r hr => (by cases hr), fun i r hr => by simp at hr⟩
  · refine ⟨some ⟨g, 0, none⟩, c, rfl, hn, hf, fun i r hr => ⟨g, 0, rfl, fun j u hu => ?_⟩⟩
    have hj : j < 11 := (_root_.List.getElem?_eq_some_iff.1 hu).1
    have hi : i < rs.length := (_root_.List.getElem?_eq_some_iff.1 hr).1
    have h1 := h.cellAt (i * 11 + j) (by omega)
    rw [flatRu_get rs i r hr j hj, hu] at h1
    show w.cell? ⟨g, 0 + i * 11 + j, none⟩ = some u
    rw [Nat.zero_add]
    exact h1
theorem arr_one (r : Ru) : ∀ u ∈ r.arr.toList, u.oneCell' = true := by
  intro u hu
  have hu : u ∈ [Value.string r.na, .int .i64 r.fr, .int .i64 r.ut, .int .i64 r.mo, .int .i64 r.k, .int .i64 r.w, .int .i64 r.d, .int .i64 r.sec, .int .i64 r.base, .int .i64 r.save, .string r.le] := hu
  simp at hu
  rcases hu with rfl | rfl | rfl | rfl | rfl | rfl | rfl | rfl | rfl | rfl | rfl <;> rfl
theorem arr_one2 (r q : Ru) : ∀ u ∈ r.arr.toList ++ q.arr.toList, u.oneCell' = true := by
  intro u hu
  rcases _root_.List.mem_append.1 hu with h | h
  · exact arr_one r u h
  · exact arr_one q u h
/-- the rules with the first k named -/
def named (nm : ByteArray) (k : Nat) (rs : _root_.List Ru) : _root_.List Ru := (rs.take k).map (fun r => { r with na := nm }) ++ rs.drop k
theorem named_len (nm : ByteArray) (k : Nat) (rs : _root_.List Ru) : (named nm k rs).length = rs.length := by
  unfold named; simp; omega
theorem named_all (nm : ByteArray) (rs : _root_.List Ru) : named nm rs.length rs = rs.map (fun r => { r with na := nm }) := by
  unfold named; simp
theorem named_succ {nm : ByteArray} {k : Nat} {rs : _root_.List Ru} (hk : k < rs.length) : flatRu (named nm (k + 1) rs) = (flatRu (named nm k rs)).set (k * 11) (.string nm) := by
  obtain ⟨r, hr⟩ : ∃ r, rs[k]? = some r := by rw [_root_.List.getElem?_eq_getElem hk]; exact ⟨_, rfl⟩
  have hd : rs.drop k = r :: rs.drop (k + 1) := by
    rw [_root_.List.drop_eq_getElem_cons hk]
    congr 1
    rw [_root_.List.getElem?_eq_getElem hk] at hr
    exact Option.some.inj hr
  have ht : rs.take (k + 1) = rs.take k ++ [r] := by
    rw [_root_.List.take_add_one, hr]; rfl
  unfold named
  rw [ht, hd, _root_.List.map_append, flatRu_app, flatRu_app, flatRu_app]
  have hl : (flatRu ((rs.take k).map (fun r => { r with na := nm }))).length = k * 11 := by
    rw [flatRu_len, _root_.List.length_map, _root_.List.length_take, Nat.min_eq_left (by omega)]
  rw [_root_.List.set_append_right _ _ (by omega), hl, Nat.sub_self, _root_.List.append_assoc]
  rfl
theorem own_set {w : World} {base g n cap size j : Nat} {e : TypeId} {x : Value} {xs : _root_.List Value} (h : w.ownsRow base e size (.slice (some ⟨g, 0, none⟩) n cap) n xs) : (w.setCell ⟨g, j, none⟩ x).ownsRow base e size (.slice (some ⟨g, 0, none⟩) n cap) n (xs.set j x) := by
  obtain ⟨hl, ⟨h1, _⟩ | ⟨g', c', cur, h1, h2, h3, h4, h5, h6, h7⟩⟩ := h
  · cases h1
  · cases h1
    refine ⟨by rw [_root_.List.length_set]; exact hl, .inr ⟨g, cap, cur.setIfInBounds j x, rfl, h2, ?_, h4, h5, by simpa using h6, ?_⟩⟩
    · simp [World.setCell, Array.getElem?_modify, h3]
    · rw [Array.toList_setIfInBounds, _root_.List.take_set, h7]
/-- a rule of a draft, named or not -/
structure RuOk (r : Ru) : Prop where
  fr : 1900 ≤ r.fr ∧ r.fr ≤ 2010
  ut : r.ut = 1048576 ∨ (r.fr ≤ r.ut ∧ r.ut ≤ 2030)
  mo : 1 ≤ r.mo ∧ r.mo ≤ 12
  day : DayOk r.k r.w r.d
  clk : 0 ≤ r.sec ∧ r.sec ≤ 86400 ∧ 0 ≤ r.base ∧ r.base ≤ 2
  save : -3600 ≤ r.save ∧ r.save ≤ 7200
  le : r.le.size ≤ 2
theorem RuOk.fits {r : Ru} (h : RuOk r) : r.fits := by
  obtain ⟨h1, h2, h3, h4, h5, h6, _⟩ := h
  unfold DayOk at h4
  unfold Ru.fits fit
  omega
theorem PairOk.ruok {fr ut save : Int} {ra rb : Ru} (h : PairOk fr ut save ra rb) (hf : 1900 ≤ fr ∧ fr ≤ 2010) (hu : ut = 1048576 ∨ (fr ≤ ut ∧ ut ≤ 2030)) (hs : -3600 ≤ save ∧ save ≤ 7200) : ∀ r ∈ [ra, rb], RuOk r := by
  intro r hr
  obtain ⟨a1, a2, a3, a4, a5, a6, a7, a8, a9, a10, a11, a12, a13⟩ := h
  have hr : r = ra ∨ r = rb := by simpa using hr
  rcases hr with rfl | rfl
  · exact ⟨by omega, by omega, by omega, a7, a9, by omega, a12.1⟩
  · exact ⟨by omega, by omega, by omega, a8, a10, by omega, a12.2⟩
theorem all_app {l k : _root_.List Ru} (h : ∀ r ∈ l, RuOk r) (h' : ∀ r ∈ k, RuOk r) : ∀ r ∈ l ++ k, RuOk r := fun r hr => by
  rcases _root_.List.mem_append.1 hr with h1 | h1
  · exact h r h1
  · exact h' r h1
/-- what Made returns: at least two rules, with a name -/
def MadeL (nm : ByteArray) (W : World) (e : Ending) (W' : World) : Prop :=
  ∃ (v : Value) (rs : _root_.List Ru), e = .returned v ∧ 2 ≤ rs.length ∧ rs.length ≤ 5 ∧ (∀ r ∈ rs, RuOk r ∧ r.na = nm) ∧ W'.ownsRow W.heap.size 56 11 v rs.length (flatRu rs) ∧ Below W.heap.size W W'
/-- rules of the call's own, so far -/
def Outs (W : World) (m : Nat) (o : Value) (w' : World) : Prop := ∃ l : _root_.List Ru, l.length ≤ m ∧ (∀ r ∈ l, RuOk r) ∧ w'.ownsRow W.heap.size 56 11 o l.length (flatRu l) ∧ Below W.heap.size W w'
end Cv

theorem infoRu : (Tryd.prog.info? 56).map (fun i => (i.zero, i.size, i.bytes)) = some (some (.agg #[.string ⟨#[]⟩, .int .i64 0, .int .i64 0, .int .i64 0, .int .i64 0, .int .i64 0, .int .i64 0, .int .i64 0, .int .i64 0, .int .i64 0, .string ⟨#[]⟩]), 11, 104) := by kernel_rfl

set_option maxRecDepth 100000 in
set_option maxHeartbeats 8000000 in
theorem made17_any (v : Value) (bs : _root_.List Int) (nm : ByteArray) (W : World) (h : Drf v bs W) :
    Calls Tryd.prog 19 #[v, .string nm] W (MadeL nm W) := by
  have H := Lib.hid h
  obtain ⟨A, cap, rfl⟩ := h.sl
  obtain ⟨n, hN⟩ : ∃ n, n = bs.length := ⟨_, rfl⟩
  clear h
  rw [← hN] at H ⊢
  clear hN
  obtain ⟨i0, hi, hz0, hzs, hzb⟩ := info_parts infoRu
  obtain ⟨x0, hx0⟩ : ∃ y, atv bs 0 5 = y := ⟨_, rfl⟩
  have hbd := atv_bd bs 0 5 (by decide)
  rw [hx0] at hbd
  obtain ⟨s0, rfl⟩ : ∃ k : Nat, x0 = (k : Int) := ⟨x0.toNat, by omega⟩
  have hs0 : s0 < 5 := by omega
  clear hbd
  have HA0 := Lib.hid (at_is (v := (.slice A n cap)) (Lib.hid hx0) (by decide) (by decide) (by decide) (by decide))
  clear hx0
  obtain ⟨x1, hx1⟩ : ∃ y, atv bs 1 80 = y := ⟨_, rfl⟩
  have hbd := atv_bd bs 1 80 (by decide)
  rw [hx1] at hbd
  obtain ⟨hx11, hx12⟩ := hbd
  have HA1 := Lib.hid (at_is (v := (.slice A n cap)) (Lib.hid hx1) (by decide) (by decide) (by decide) (by decide))
  clear hx1
  obtain ⟨x2, hx2⟩ : ∃ y, atv bs 2 3 = y := ⟨_, rfl⟩
  have hbd := atv_bd bs 2 3 (by decide)
  rw [hx2] at hbd
  obtain ⟨hx21, hx22⟩ := hbd
  have HA2 := Lib.hid (at_is (v := (.slice A n cap)) (Lib.hid hx2) (by decide) (by decide) (by decide) (by decide))
  clear hx2
  obtain ⟨x3, hx3⟩ : ∃ y, atv bs 3 28 = y := ⟨_, rfl⟩
  have hbd := atv_bd bs 3 28 (by decide)
  rw [hx3] at hbd
  obtain ⟨hx31, hx32⟩ := hbd
  have HA3 := Lib.hid (at_is (v := (.slice A n cap)) (Lib.hid hx3) (by decide) (by decide) (by decide) (by decide))
  clear hx3
  obtain ⟨x5, hx5⟩ : ∃ y, atv bs 5 2 = y := ⟨_, rfl⟩
  have hbd := atv_bd bs 5 2 (by decide)
  rw [hx5] at hbd
  obtain ⟨hx51, hx52⟩ := hbd
  have HA5 := Lib.hid (at_is (v := (.slice A n cap)) (Lib.hid hx5) (by decide) (by decide) (by decide) (by decide))
  clear hx5
  obtain ⟨x6, hx6⟩ : ∃ y, atv bs 6 12 = y := ⟨_, rfl⟩
  have hbd := atv_bd bs 6 12 (by decide)
  rw [hx6] at hbd
  obtain ⟨hx61, hx62⟩ := hbd
  have HA6 := Lib.hid (at_is (v := (.slice A n cap)) (Lib.hid hx6) (by decide) (by decide) (by decide) (by decide))
  clear hx6
  obtain ⟨x8, hx8⟩ : ∃ y, atv bs 8 5 = y := ⟨_, rfl⟩
  have hbd := atv_bd bs 8 5 (by decide)
  rw [hx8] at hbd
  obtain ⟨hx81, hx82⟩ := hbd
  have HA8 := Lib.hid (at_is (v := (.slice A n cap)) (Lib.hid hx8) (by decide) (by decide) (by decide) (by decide))
  clear hx8
  obtain ⟨x9, hx9⟩ : ∃ y, atv bs 9 6 = y := ⟨_, rfl⟩
  have hbd := atv_bd bs 9 6 (by decide)
  rw [hx9] at hbd
  obtain ⟨hx91, hx92⟩ := hbd
  have HA9 := Lib.hid (at_is (v := (.slice A n cap)) (Lib.hid hx9) (by decide) (by decide) (by decide) (by decide))
  clear hx9
  obtain ⟨x10, hx10⟩ : ∃ y, atv bs 10 3 = y := ⟨_, rfl⟩
  have hbd := atv_bd bs 10 3 (by decide)
  rw [hx10] at hbd
  obtain ⟨hx101, hx102⟩ := hbd
  have HA10 := Lib.hid (at_is (v := (.slice A n cap)) (Lib.hid hx10) (by decide) (by decide) (by decide) (by decide))
  clear hx10
  obtain ⟨t4, ht4⟩ : ∃ y, atv bs 4 49 = y := ⟨_, rfl⟩
  obtain ⟨b4, hb4⟩ : ∃ y, atv bs (4 + 1) 3 = y := ⟨_, rfl⟩
  have hbt := atv_bd bs 4 49 (by decide)
  have hbb := atv_bd bs (4 + 1) 3 (by decide)
  rw [ht4] at hbt
  rw [hb4] at hbb
  obtain ⟨ht1, ht2⟩ := hbt
  obtain ⟨hb1, hb2⟩ := hbb
  have HK4 := Lib.hid (clock17_is (v := (.slice A n cap)) (Lib.hid ht4) (Lib.hid hb4) (by decide) (by decide))
  clear ht4 hb4
  obtain ⟨save, hsv, hsb⟩ : ∃ save : Int, (W.alloc (.cells #[.int .i64 3600, .int .i64 3600, .int .i64 1800, .int .i64 7200, .int .i64 (-3600)] 2)).cell? ⟨W.heap.size, s0, none⟩ = some (.int .i64 save) ∧ -3600 ≤ save ∧ save ≤ 7200 := by
    have hc : s0 = 0 ∨ s0 = 1 ∨ s0 = 2 ∨ s0 = 3 ∨ s0 = 4 := by omega
    rcases hc with rfl | rfl | rfl | rfl | rfl
    · exact ⟨_, cellB (heap_alloc_new _ _) rfl, by decide, by decide⟩
    · exact ⟨_, cellB (heap_alloc_new _ _) rfl, by decide, by decide⟩
    · exact ⟨_, cellB (heap_alloc_new _ _) rfl, by decide, by decide⟩
    · exact ⟨_, cellB (heap_alloc_new _ _) rfl, by decide, by decide⟩
    · exact ⟨_, cellB (heap_alloc_new _ _) rfl, by decide, by decide⟩
  have HSV := Lib.hid hsb
  have HB1 := Lib.hid (bel_alloc W (.cells #[.int .i64 3600, .int .i64 3600, .int .i64 1800, .int .i64 7200, .int .i64 (-3600)] 2))
  have HD1 := Lib.hid (H.out.below HB1.out)
  clear hsb
  go_enter Tryd.func19, Tryd.ntmps19
  go_wp2_with fail
  refine (HA0.out _ (by exact HD1.out)).mono ?_
  intro e w' hq; obtain ⟨rfl, hw⟩ := hq; have hw' := hw.symm; subst hw'; clear hw
  go_wp2_with fail
  refine (HA1.out _ (by exact HD1.out)).mono ?_
  intro e w' hq; obtain ⟨rfl, hw⟩ := hq; have hw' := hw.symm; subst hw'; clear hw
  go_upto_if 21 with (go_at_call 28; refine (HA2.out _ (by exact HD1.out)).mono ?_; intro e w' hq; obtain ⟨rfl, hw⟩ := hq; have hw' := hw.symm; subst hw'; clear hw)
  clear hsv hs0
  go_cut [6, 7] (fun f o w' => ∃ f1 : Int, f = .int .i64 f1 ∧ 1900 ≤ f1 ∧ f1 ≤ 1980 ∧ Hid (Outs W 1 o w'))
  case first =>
    by_cases hsw : x2 = 0
    · subst hsw
      go_wp2_with fail
      refine (HA3.out _ (by exact HD1.out)).mono ?_
      intro e w' hq; obtain ⟨rfl, hw⟩ := hq; have hw' := hw.symm; subst hw'; clear hw
      go_wp2_with fail
      refine (HK4.out _ (by exact HD1.out)).mono ?_
      rintro e w2 ⟨rfl, hb2⟩
      have HB2 := Lib.hid (bel_trans HB1.out hb2)
      clear hb2
      have HOK1 : Hid (∀ r ∈ [(⟨⟨#[]⟩, 1900 + x1, 1900 + x1, 6, 1, 0, 1 + x3, t4 * 1800, b4, 0, ⟨#[83]⟩⟩ : Ru)], RuOk r) := Lib.hid (by
        intro r hr
        have hr := _root_.List.eq_of_mem_singleton hr
        subst hr
        exact ⟨by dsimp only; omega, by dsimp only; omega, by dsimp only; omega, .inr (.inr ⟨rfl, rfl, by dsimp only; omega⟩), by dsimp only; omega, by dsimp only; omega, by show (⟨#[83]⟩ : ByteArray).size ≤ 2; decide⟩)
      go_wp2_with (at_builtin; refine wpList_append_own _ rfl (.tmp 22) (.tmp 32) 36 rfl W.heap.size 56 i0 (.agg #[.string ⟨#[]⟩, .int .i64 0, .int .i64 0, .int .i64 0, .int .i64 0, .int .i64 0, .int .i64 0, .int .i64 0, .int .i64 0, .int .i64 0, .string ⟨#[]⟩]) 11 104 Tryd.underlying36 hi hz0 hzs hzb rfl (by decide) _ 0 [] rfl (World.ownsRow_nil _ _ _ _) ⟨w2.heap.size, 0, none⟩ 1 1 (⟨⟨#[]⟩, 1900 + x1, 1900 + x1, 6, 1, 0, 1 + x3, t4 * 1800, b4, 0, ⟨#[83]⟩⟩ : Ru).arr.toList rfl rfl (World.news_of_block (heap_alloc_new _ _)) (arr_one _) (by unfold maxLen; omega) (by omega) (by have := HB2.out.size; simp; omega) ?_; intro v1 w3 hown3 hgrow3 hnil3)
      have hB3 := Below.grown (bel_trans HB2.out (bel_alloc _ _)) hgrow3 (by have := HB2.out.size; simp; omega) (fun q hq => by cases hq)
      have HO3 : Hid (Outs W 1 v1 w3) := Lib.hid ⟨[(⟨⟨#[]⟩, 1900 + x1, 1900 + x1, 6, 1, 0, 1 + x3, t4 * 1800, b4, 0, ⟨#[83]⟩⟩ : Ru)], by simp, HOK1.out, by simpa [flatRu] using hown3, hB3⟩
      clear hown3 hgrow3 hnil3 hB3
      go_wp2_with fail
      go_meet
      case rel => exact ⟨_, rfl, by omega, by omega, HO3⟩
    · have hswb : (x2 == 0) = false := by simp [hsw]
      go_wp2_with fail
      go_meet
      case rel => exact ⟨1900 + x1, rfl, by omega, by omega, Lib.hid ⟨[], by simp, fun r hr => (by cases hr), World.ownsRow_nil _ _ _ _, HB1.out⟩⟩
  case rest =>
  obtain ⟨f1, rfl, hf1, hf2, HO⟩ := hcut
  obtain ⟨l1, hl1, hr1, ho1, hB1⟩ := HO.out
  have HR1 := Lib.hid hr1; have HO1 := Lib.hid ho1; have HBc := Lib.hid hB1; have HDc := Lib.hid (H.out.below hB1)
  clear HO hr1 ho1 hB1 HB1 HD1
  go_upto_if 38 with (go_at_call 28; refine (HA5.out _ (by exact HDc.out)).mono ?_; intro e w' hq; obtain ⟨rfl, hw⟩ := hq; have hw' := hw.symm; subst hw'; clear hw)
  go_cut [6, 7] (fun f o w' => ∃ f2 : Int, f = .int .i64 f2 ∧ 1900 ≤ f2 ∧ f2 ≤ 2000 ∧ Hid (Outs W 3 o w'))
  case first =>
    by_cases hsw : x5 = 0
    · subst hsw
      go_wp2_with fail
      refine (HA6.out _ (by exact HDc.out)).mono ?_
      intro e w' hq; obtain ⟨rfl, hw⟩ := hq; have hw' := hw.symm; subst hw'; clear hw
      go_wp2_with fail
      refine (pair_any (.slice A n cap) bs 7 f1 (f1 + x6) save _ (by exact HDc.out) (by decide) (by decide)).mono ?_
      rintro e w2 ⟨ra, rb, b, hpk, rfl, hblk, hbb, hb2⟩
      have HPK := Lib.hid hpk; have HB2 := Lib.hid (bel_trans HBc.out hb2); have HO2 := Lib.hid (own_below17 HO1.out hb2); have hblk := Lib.hid hblk
      clear hpk hbb hb2
      go_wp2_with (at_builtin; refine wpList_append_own _ rfl (.tmp 43) (.tmp 48) 36 rfl W.heap.size 56 i0 (.agg #[.string ⟨#[]⟩, .int .i64 0, .int .i64 0, .int .i64 0, .int .i64 0, .int .i64 0, .int .i64 0, .int .i64 0, .int .i64 0, .int .i64 0, .string ⟨#[]⟩]) 11 104 Tryd.underlying36 hi hz0 hzs hzb rfl (by decide) _ l1.length (flatRu l1) rfl HO2.out ⟨b, 0, none⟩ 2 2 (ra.arr.toList ++ rb.arr.toList) rfl rfl (World.news_of_block hblk.out) (arr_one2 _ _) (by unfold maxLen; omega) (by omega) HB2.out.size ?_; intro v1 w3 hown3 hgrow3 hnil3)
      have hB3 := Below.grown HB2.out hgrow3 HB2.out.size (fun q hq => (HO2.out.lt q (by exact hq)).1)
      have HO3 := Lib.hid (show w3.ownsRow W.heap.size 56 11 v1 (l1 ++ [ra, rb]).length (flatRu (l1 ++ [ra, rb])) by rw [_root_.List.length_append, flatRu_app]; simpa [flatRu] using hown3)
      have HR3 := Lib.hid (all_app HR1.out (HPK.out.ruok (by omega) (by omega) HSV.out))
      have HB3 := Lib.hid hB3
      clear hown3 hgrow3 hnil3 hB3 HO2 hblk HB2 HPK
      have HDd := Lib.hid (H.out.below HB3.out)
      go_wp2_with fail
      refine (HA8.out _ (by exact HDd.out)).mono ?_
      intro e w' hq; obtain ⟨rfl, hw⟩ := hq; have hw' := hw.symm; subst hw'; clear hw
      go_wp2_with fail
      go_meet
      case rel => exact ⟨_, rfl, by omega, by omega, Lib.hid ⟨l1 ++ [ra, rb], by simp; omega, HR3.out, HO3.out, HB3.out⟩⟩
    · have hswb : (x5 == 0) = false := by simp [hsw]
      go_wp2_with fail
      go_meet
      case rel => exact ⟨f1, rfl, by omega, by omega, Lib.hid ⟨l1, by omega, HR1.out, HO1.out, HBc.out⟩⟩
  case rest =>
  clear hf1 hf2 hl1 HR1 HO1 HBc HDc
  obtain ⟨f2, rfl, hf1, hf2, HO⟩ := hcut
  obtain ⟨l2, hl2, hr1, ho1, hB1⟩ := HO.out
  have HR1 := Lib.hid hr1; have HO1 := Lib.hid ho1; have HBc := Lib.hid hB1; have HDc := Lib.hid (H.out.below hB1)
  clear HO hr1 ho1 hB1
  go_wp2_with fail
  refine (HA9.out _ (by exact HDc.out)).mono ?_
  intro e w' hq; obtain ⟨rfl, hw⟩ := hq; have hw' := hw.symm; subst hw'; clear hw
  go_upto_if 61 with (go_at_call 28; refine (HA10.out _ (by exact HDc.out)).mono ?_; intro e w' hq; obtain ⟨rfl, hw⟩ := hq; have hw' := hw.symm; subst hw'; clear hw)
  skip
  go_cut [9] (fun t w' => ∃ ut : Int, t = .int .i64 ut ∧ (ut = 1048576 ∨ (f2 ≤ ut ∧ ut ≤ 2030)) ∧ w' = wc)
  case first =>
    by_cases hsw : 0 < x10
    · go_wp2_with fail
      go_meet
      case rel => exact ⟨_, rfl, .inl rfl, rfl⟩
    · have hswb : x10 ≤ 0 := by omega
      go_wp2_with fail
      go_meet
      case rel => exact ⟨f2 + x9, rfl, .inr (by omega), rfl⟩
  case rest =>
  obtain ⟨ut, rfl, hut, hww⟩ := hcut
  have hww' := hww.symm; subst hww'; clear hww
  go_wp2_with fail
  refine (pair_any (.slice A n cap) bs 11 f2 ut save _ (by exact HDc.out) (by decide) (by decide)).mono ?_
  rintro e w2 ⟨ra, rb, b, hpk, rfl, hblk, hbb, hb2⟩
  have HPK := Lib.hid hpk; have HB2 := Lib.hid (bel_trans HBc.out hb2); have HO2 := Lib.hid (own_below17 HO1.out hb2); have hblk := Lib.hid hblk
  clear hpk hbb hb2
  go_wp2_with (at_builtin; refine wpList_append_own _ rfl (.tmp 62) (.tmp 67) 36 rfl W.heap.size 56 i0 (.agg #[.string ⟨#[]⟩, .int .i64 0, .int .i64 0, .int .i64 0, .int .i64 0, .int .i64 0, .int .i64 0, .int .i64 0, .int .i64 0, .int .i64 0, .string ⟨#[]⟩]) 11 104 Tryd.underlying36 hi hz0 hzs hzb rfl (by decide) _ l2.length (flatRu l2) rfl HO2.out ⟨b, 0, none⟩ 2 2 (ra.arr.toList ++ rb.arr.toList) rfl rfl (World.news_of_block hblk.out) (arr_one2 _ _) (by unfold maxLen; omega) (by omega) HB2.out.size ?_; intro v1 w3 hown3 hgrow3 hnil3)
  have hB3 := Below.grown HB2.out hgrow3 HB2.out.size (fun q hq => (HO2.out.lt q (by exact hq)).1)
  have HO3 := Lib.hid (show w3.ownsRow W.heap.size 56 11 v1 (l2 ++ [ra, rb]).length (flatRu (l2 ++ [ra, rb])) by rw [_root_.List.length_append, flatRu_app]; simpa [flatRu] using hown3)
  have HR3 := Lib.hid (all_app HR1.out (HPK.out.ruok (by omega) (by omega) HSV.out))
  have HB3 := Lib.hid hB3
  clear hown3 hgrow3 hnil3 hB3 HO2 hblk HB2 HPK
  obtain ⟨rs, hrs⟩ : ∃ rs, rs = l2 ++ [ra, rb] := ⟨_, rfl⟩
  rw [← hrs] at HO3 HR3
  have hlen : 2 ≤ rs.length ∧ rs.length ≤ 5 := by rw [hrs, _root_.List.length_append]; simp; omega
  clear hrs HO1 HR1 HBc HDc
  obtain ⟨nn, hnn⟩ : ∃ nn, nn = rs.length := ⟨_, rfl⟩
  have HNN := Lib.hid hnn
  rw [← hnn] at hlen
  obtain ⟨hlen1, hlen2⟩ := hlen
  obtain ⟨g, cp, rfl⟩ : ∃ g cp, v1 = .slice (some ⟨g, 0, none⟩) nn cp := by
    rcases HO3.out.2 with ⟨_, h0⟩ | ⟨g, c, cur, h1, _⟩
    · omega
    · exact ⟨g, c, by rw [h1, hnn]⟩
  rw [← hnn] at HO3
  clear hnn
  go_simp
  go_wp2_with fail
  go_loopw [71] (fun i wr => ∃ (k : Nat) (wq : World), k ≤ nn ∧ i = .int .i64 (k : Int) ∧ wr = wq ∧ Hid (Below W.heap.size W wq) ∧ Hid (wq.ownsRow W.heap.size 56 11 (.slice (some ⟨g, 0, none⟩) nn cp) nn (flatRu (named nm k rs)))) (fun i _ => nn - (intOf i).toNat)
  case atStart => exact ⟨0, _, by omega, rfl, rfl, HB3, HO3⟩
  case round =>
    obtain ⟨k, wq, hk, rfl, rfl, HBq, HOq⟩ := hrel
    by_cases hlt : k < nn
    · have HS := Lib.hid (named_succ (nm := nm) (k := k) (rs := rs) (by rw [← HNN.out]; exact hlt))
      obtain ⟨u, hcu, hfu, hgb⟩ : ∃ u, wr.cell? ⟨g, k * 11, none⟩ = some u ∧ wr.frozen? ⟨g, k * 11, none⟩ = false ∧ W.heap.size ≤ g := by
        rcases HOq.out.2 with ⟨h1, _⟩ | ⟨g', c', cur, h1, h2, h3, h4, h5, h6, h7⟩
        · cases h1
        · cases h1
          have hsz : k * 11 < cur.size := by rw [h6]; exact Nat.lt_of_lt_of_le (by omega : k * 11 < nn * 11) (Nat.mul_le_mul_right 11 h4)
          exact ⟨cur[k * 11], cellB h3 (by rw [Array.getElem?_eq_getElem hsz]), frzB h3 _, h2⟩
      go_wp2_with fail
      go_round
      case rel => exact ⟨k + 1, _, by omega, by go_num, rfl, Lib.hid (HBq.out.setCell (p := ⟨g, k * 11, none⟩) hgb _), Lib.hid (by rw [HS.out]; exact own_set HOq.out)⟩
      case measure => simp [intOf]; omega
    · obtain rfl : k = nn := by omega
      go_wp2_with fail
      go_ret
      refine ⟨_, rs.map (fun r => { r with na := nm }), rfl, by rw [_root_.List.length_map, ← HNN.out]; exact hlen1, by rw [_root_.List.length_map, ← HNN.out]; exact hlen2, fun r hr => ?_, ?_, HBq.out⟩
      · obtain ⟨r0, hr0, rfl⟩ := _root_.List.mem_map.1 hr
        obtain ⟨a1, a2, a3, a4, a5, a6, a7⟩ := HR3.out r0 hr0
        exact ⟨⟨a1, a2, a3, a4, a5, a6, a7⟩, rfl⟩
      · have ho := HOq.out
        rw [HNN.out] at ho ⊢
        rw [named_all] at ho
        rw [_root_.List.length_map]
        exact ho
end Go.Proofs.YtdppmeeobpbfnaaDoor
