/-
  The walk of the law EventsCycle.
-/
import Derived.Test.YtpimibchameakaaDoorEvStdW
import Derived.Deep.RegionHeld3
namespace Go.Proofs.YtpimibchameakaaDoor
open Go.RowKit Cv
set_option linter.unusedVariables false
set_option linter.unusedSimpArgs false

namespace Cv
theorem lp_cyc (y c : Int) : lp (y + 400 * c) = lp y := by unfold lp; split <;> split <;> omega
theorem len_cyc (y c m : Int) : len (y + 400 * c) m = len y m := by unfold len; rw [lp_cyc]
theorem cum_cyc (y c m : Int) : cum (y + 400 * c) m = cum y m := by unfold cum; rw [lp_cyc]
theorem num_cyc (y c m d : Int) : num (y + 400 * c) m d = num y m d + 146097 * c := by unfold num; rw [cum_cyc]; unfold fst; omega
theorem find_cyc (f l k w d c : Int) : find (f + 146097 * c) (l + 146097 * c) k w d = find f l k w d + 146097 * c := by
  unfold find bef beh
  split
  · omega
  · split
    · omega
    · split <;> omega
theorem nom_cyc {bs : Int} {r : Ru} {y c : Int} (hy : Has r y) (hz : Has r (y + 400 * c)) : nomOf bs r (y + 400 * c) - nomOf bs r y = c * 146097 * 86400 := by
  obtain ⟨i1, m1, m2, g1, l1, _⟩ := on_ok hy.2.2.2
  obtain ⟨i2, _, _, _, l2, _⟩ := on_ok hz.2.2.2
  unfold nomOf
  rw [on_day ⟨i1, (ok_first y r.mo).2 ⟨m1, m2⟩⟩ g1 l1, on_day ⟨i2, (ok_first (y + 400 * c) r.mo).2 ⟨m1, m2⟩⟩ g1 l2]
  dsimp only
  rw [len_cyc, num_cyc, show num y r.mo 1 + 146097 * c + len y r.mo - 1 = num y r.mo 1 + len y r.mo - 1 + 146097 * c by omega, find_cyc]
  omega
theorem one_ev {r : Ru} {e : Ev} (h : IsEv [r] e) : e.rule = 0 ∧ Has r e.year ∧ e.nom = nomOf (baseL [r]) r e.year := by
  obtain ⟨p, hp, hh, hn⟩ := h
  unfold ruleAt at hp
  split at hp
  · rename_i h0
    have hi : e.rule.toNat < 1 := (_root_.List.getElem?_eq_some_iff.1 hp).1
    have e0 : e.rule = 0 := by omega
    rw [e0] at hp
    simp at hp
    subst hp
    exact ⟨e0, hh, hn⟩
  · cases hp
theorem one_is {r : Ru} {y : Int} (h : Has r y) : IsEv [r] ⟨y, 0, nomOf (baseL [r]) r y⟩ := ⟨r, rfl, h, rfl⟩
theorem one_bef {r : Ru} {y : Int} (h : Has r y) : BefIs [r] (nomOf (baseL [r]) r y + 1) (some ⟨y, 0, nomOf (baseL [r]) r y⟩) := by
  refine ⟨one_is h, by dsimp only; omega, fun e he hn hlt => ?_⟩
  obtain ⟨e0, e1, e2⟩ := one_ev he
  unfold Ev.lt at hlt
  dsimp only at hlt
  rcases Int.lt_trichotomy e.year y with h1 | h1 | h1
  · have := nom_gap (bs := baseL [r]) e1 h h1; omega
  · rw [h1] at e2; omega
  · have := nom_gap (bs := baseL [r]) h e1 h1; omega
theorem one_aft {r : Ru} {y : Int} (h : Has r y) : AftIs [r] (nomOf (baseL [r]) r y - 1) (some ⟨y, 0, nomOf (baseL [r]) r y⟩) := by
  refine ⟨one_is h, by dsimp only; omega, fun e he hn hlt => ?_⟩
  obtain ⟨e0, e1, e2⟩ := one_ev he
  unfold Ev.lt at hlt
  dsimp only at hlt
  rcases Int.lt_trichotomy e.year y with h1 | h1 | h1
  · have := nom_gap (bs := baseL [r]) e1 h h1; omega
  · rw [h1] at e2; omega
  · have := nom_gap (bs := baseL [r]) h e1 h1; omega
theorem flatRu_set2 : ∀ (rs : _root_.List Ru) (k : Nat) (r : Ru) (b : Int), rs[k]? = some r → (flatRu rs).set (k * 11 + 2) (.int .i64 b) = flatRu (rs.set k { r with ut := b }) := by
  intro rs
  induction rs with
  | nil => intro k r b h; simp at h
  | cons x l ih =>
    intro k r b h
    cases k with
    | zero =>
      simp at h; subst h
      rfl
    | succ k =>
      show (x.arr.toList ++ flatRu l).set _ _ = x.arr.toList ++ flatRu (l.set k _)
      rw [_root_.List.set_append_right _ _ (by rw [arr_len]; omega), arr_len, show (k + 1) * 11 + 2 - 11 = k * 11 + 2 by omega, ih k r b (by simpa using h)]
theorem rul_one {w : World} {base g n cp k : Nat} {rs : _root_.List Ru} {r : Ru} (h : w.ownsRow base 32 11 (.slice (some ⟨g, 0, none⟩) n cp) n (flatRu rs)) (hr : rs[k]? = some r) (hk : k < n) (hf : r.fits) : Rul (.slice (some ⟨g, k * 11, none⟩) 1 (cp - k)) [r] w := by
  refine ⟨some ⟨g, k * 11, none⟩, cp - k, rfl, by simp, fun q hq => ?_, fun i q hq => ⟨g, k * 11, rfl, fun j u hu => ?_⟩⟩
  · obtain rfl : q = r := by simpa using hq
    exact hf
  · have hi : i < 1 := (_root_.List.getElem?_eq_some_iff.1 hq).1
    obtain rfl : i = 0 := by omega
    simp at hq; subst hq
    have hj : j < 11 := (_root_.List.getElem?_eq_some_iff.1 hu).1
    rw [Nat.zero_mul, Nat.add_zero, own_rng h hr j hj hk]
    exact hu
theorem lt_set {V : World} {g b j : Nat} {x : Value} (h : g < V.heap.size) : g < (V.setCell ⟨b, j, none⟩ x).heap.size := by
  have e : (V.setCell ⟨b, j, none⟩ x).heap.size = V.heap.size := by simp [World.setCell]
  rw [e]; exact h
theorem Rul.other {g o n c b j : Nat} {x : Value} {rs : _root_.List Ru} {w : World} (h : Rul (.slice (some ⟨g, o, none⟩) n c) rs w) (hne : g ≠ b) : Rul (.slice (some ⟨g, o, none⟩) n c) rs (w.setCell ⟨b, j, none⟩ x) := by
  obtain ⟨A, c', h1, h2, h3, h4⟩ := h
  refine ⟨A, c', h1, h2, h3, fun i r hr => ?_⟩
  obtain ⟨g', o', e, hrg⟩ := h4 i r hr
  injection h1 with e1 e2 e3
  have e4 := e1.trans e
  injection e4 with e5
  injection e5 with e6 e7 e8
  refine ⟨g', o', e, fun j' u hu => ?_⟩
  rw [World.cell?_setCell_far _ _ _ _ (by show b ≠ g'; rw [← e6]; exact Ne.symm hne)]
  exact hrg j' u hu
theorem RuOk.ever {r : Ru} (h : RuOk r) : RuOk { r with ut := 1048576 } := by
  obtain ⟨a1, a2, a3, a4, a5, a6, a7⟩ := h
  exact ⟨a1, .inl rfl, a3, a4, a5, a6, a7⟩
end Cv

set_option maxRecDepth 100000 in
set_option maxHeartbeats 16000000 in
theorem evCyc_core (v : Value) (bs : _root_.List Int) (q yr f : Int) (W : World) (hT : Tabs W) (h : Drf v bs W) (hq1 : 0 ≤ q) (hq2 : q ≤ 255) (hyr1 : 0 ≤ yr) (hyr2 : yr ≤ 255) (hf1 : 0 ≤ f) (hf2 : f ≤ 4294967295) :
    Calls Tryd.prog 3 #[v, .int .u8 q, .int .u8 yr, .int .u32 f] W fun e w' => e = .returned (.bool true) ∧ Below W.heap.size W w' := by
  have HT := Lib.hid hT
  have HD := Lib.hid h
  have heq := eqEv
  clear hT h
  obtain ⟨c, hc⟩ : ∃ c, f % 4900000 = c := ⟨_, rfl⟩
  have hc1 : 0 ≤ c := by omega
  have hc2 : c ≤ 4899999 := by omega
  have htc : f.tmod 4900000 = c := by rw [Int.tmod_eq_emod_of_nonneg hf1]; exact hc
  go_enter Tryd.func3, Tryd.ntmps3
  go_wp2_with fail
  refine (made17_any _ bs ⟨#[82]⟩ _ (by exact HD.out)).mono ?_
  rintro e w1 ⟨ov, rs, rfl, h2, h5, hok, hown, hb1⟩
  have HB1 := Lib.hid hb1
  obtain ⟨g, cp, n, rfl, hn⟩ : ∃ g c n, ov = .slice (some ⟨g, 0, none⟩) n c ∧ n = rs.length := by
    rcases hown.2 with ⟨_, h0⟩ | ⟨g, c, cur, h1, _⟩
    · omega
    · exact ⟨g, c, _, h1, rfl⟩
  rw [← hn] at hown h2 h5
  have hcp : n ≤ cp ∧ cp ≤ 9223372036854775807 := by
    rcases hown.2 with ⟨h1, _⟩ | ⟨g', c', cur, h1, _, _, h4, h6, _⟩
    · cases h1
    · cases h1
      unfold maxLen at h6
      exact ⟨h4, by omega⟩
  obtain ⟨hcp1, hcp2⟩ := hcp
  have hk0 : 0 ≤ q % (n : Int) := Int.emod_nonneg _ (by omega)
  have hkn : q % (n : Int) < n := Int.emod_lt_of_pos _ (by omega)
  obtain ⟨k, hk⟩ : ∃ k : Nat, q % (n : Int) = (k : Int) := ⟨(q % (n : Int)).toNat, by omega⟩
  have hkl : k < n := by omega
  obtain ⟨r, hr⟩ : ∃ r, rs[k]? = some r := by rw [_root_.List.getElem?_eq_getElem (by rw [← hn]; exact hkl)]; exact ⟨_, rfl⟩
  have hro := (hok r (_root_.List.mem_of_getElem? hr)).1
  obtain ⟨r1, hr1⟩ : ∃ r1 : Ru, r1 = { r with ut := 1048576 } := ⟨_, rfl⟩
  obtain ⟨l, hl⟩ : ∃ l, l = rs.set k r1 := ⟨_, rfl⟩
  have hlk : l[k]? = some r1 := by rw [hl, _root_.List.getElem?_set_self (by rw [← hn]; exact hkl)]
  have hll : l.length = n := by rw [hl, _root_.List.length_set]; exact hn.symm
  have hr1o : RuOk r1 := by rw [hr1]; exact hro.ever
  have hlo : ∀ p ∈ l, RuOk p := fun p hp => by
    rw [hl] at hp
    rcases _root_.List.mem_or_eq_of_mem_set hp with h1 | h1
    · exact (hok p h1).1
    · rw [h1]; exact hr1o
  have HSET := Lib.hid (show (flatRu rs).set (k * 11 + 2) (.int .i64 1048576) = flatRu l by rw [hl, hr1]; exact flatRu_set2 rs k r _ hr)
  obtain ⟨fr, hfr0⟩ : ∃ fr, r1.fr = fr := ⟨_, rfl⟩
  have hfr := hr1o.fr
  rw [hfr0] at hfr
  obtain ⟨hfr1, hfr2⟩ := hfr
  have hut : r1.ut = 1048576 := by rw [hr1]
  have HLK := Lib.hid hlk; have HLL := Lib.hid hll; have HR1O := Lib.hid hr1o; have HLO := Lib.hid hlo; have HFR := Lib.hid hfr0
  have HH1 := Lib.hid (hr1o.has (y := fr + yr) (by omega) (.inl ⟨hut, by omega⟩) (by omega))
  have HH2 := Lib.hid (hr1o.has (y := fr + yr + 400 * c) (by omega) (.inl ⟨hut, by omega⟩) (by omega))
  obtain ⟨N1, hN1⟩ : ∃ N, nomOf (baseL l) r1 (fr + yr) = N := ⟨_, rfl⟩
  obtain ⟨N2, hN2⟩ : ∃ N, nomOf (baseL l) r1 (fr + yr + 400 * c) = N := ⟨_, rfl⟩
  obtain ⟨M, hM⟩ : ∃ N, nomOf (baseL [r1]) r1 (fr + yr + 400 * c) = N := ⟨_, rfl⟩
  have hsub : N2 - N1 = c * 146097 * 86400 := by rw [← hN1, ← hN2]; exact nom_cyc HH1.out HH2.out
  obtain ⟨z1, z2⟩ := baseL_bd l
  obtain ⟨z3, z4⟩ := baseL_bd [r1]
  have b1 := nom_bd z1 z2 HH1.out
  have b2 := nom_bd z1 z2 HH2.out
  have b3 := nom_bd z3 z4 HH2.out
  rw [hN1] at b1
  rw [hN2] at b2
  rw [hM] at b3
  have f1 : 0 ≤ fst (fr + yr) + 800000000000 ∧ fst (fr + yr + 1) ≤ 800000000000 := by unfold fst; omega
  have f2 : 0 ≤ fst (fr + yr + 400 * c) + 800000000000 ∧ fst (fr + yr + 400 * c + 1) ≤ 800000000000 := by unfold fst; omega
  have nb : -100000000000000000 ≤ N1 ∧ N1 ≤ 100000000000000000 ∧ -100000000000000000 ≤ N2 ∧ N2 ≤ 100000000000000000 ∧ -100000000000000000 ≤ M ∧ M ≤ 100000000000000000 := by omega
  obtain ⟨nb1, nb2, nb3, nb4, nb5, nb6⟩ := nb
  have HN1 := Lib.hid hN1; have HN2 := Lib.hid hN2
  have HBF : Hid (BefIs [r1] (M + 1) (some ⟨fr + yr + 400 * c, 0, M⟩)) := Lib.hid (by rw [← hM]; exact one_bef HH2.out)
  have HAF : Hid (AftIs [r1] (M - 1) (some ⟨fr + yr + 400 * c, 0, M⟩)) := Lib.hid (by rw [← hM]; exact one_aft HH2.out)
  have HM := Lib.hid hM
  obtain ⟨⟨u, hcu⟩, hfu, hgb, hgl⟩ := own_cell hown (j := k * 11 + 2) (by omega)
  have HO := Lib.hid (show (w1.setCell ⟨g, k * 11 + 2, none⟩ (.int .i64 1048576)).ownsRow W.heap.size 32 11 (.slice (some ⟨g, 0, none⟩) n cp) n (flatRu l) by rw [← HSET.out]; exact own_set hown)
  have HB := Lib.hid (hb1.setCell (p := ⟨g, k * 11 + 2, none⟩) hgb (.int .i64 1048576))
  have ht1 : q.tmod (n : Int) = (k : Int) := by rw [Int.tmod_eq_emod_of_nonneg hq1]; exact hk
  obtain ⟨y, hy⟩ : ∃ y, fr + yr = y := ⟨_, rfl⟩
  have hy1 : 1900 ≤ y := by omega
  have hy2 : y ≤ 2265 := by omega
  rw [hy] at HH1 HH2 HN1 HN2 HBF HAF HM
  have HYY := Lib.hid hy
  clear hk0 hkn hn hok hown hb1 hr hro hr1 hl hlk hll hr1o hlo hfr0 hut HSET hN1 hN2 hM z1 z2 z3 z4 b1 b2 b3 f1 f2 HD HB1
  have HGL := Lib.hid (lt_set (b := g) (j := k * 11 + 2) (x := .int .i64 1048576) hgl)
  go_upto_region 4 with (fail)
  generalize w1.setCell ⟨g, k * 11 + 2, none⟩ (.int .i64 1048576) = V at HO HB HGL ⊢
  clear hcu hfu hgb hgl hk ht1
  have e1 : V.cell? ⟨g, k * 11 + 1, none⟩ = some (.int .i64 fr) := by rw [← HFR.out]; exact own_rng HO.out HLK.out 1 (by decide) hkl
  have HRL := Lib.hid (rul_of_own (by rw [HLL.out]; exact HO.out) (by rw [HLL.out]; omega) (fun p hp => (HLO.out p hp).fits))
  have HON := Lib.hid (rul_one HO.out HLK.out hkl HR1O.out.fits)
  clear HO
  go_wp2_with fail
  clear e1 hy
  refine (evOn_any (.slice (some ⟨g, 0, none⟩) n cp) l (k : Int) y _ (by exact HT.out.below HB.out) (by exact HRL.out) (by omega) (by omega)).mono ?_
  intro e w2 hq; obtain ⟨rfl, hb⟩ := EvR.to (v := .tuple #[.agg #[.int .i64 y, .int .i64 (k : Int), .int .i64 N1], .bool true]) (evV_yes HLK.out HH1.out HN1.out) _ _ hq; clear hq
  have HB2 := Lib.hid (bel_trans (bel_trans HB.out hb) (bel_alloc w2 (.cells #[.int .i64 y, .int .i64 (k : Int), .int .i64 N1] 34)))
  have HRL2 := Lib.hid (Rul.below HRL.out (bel_trans hb (bel_alloc w2 (.cells #[.int .i64 y, .int .i64 (k : Int), .int .i64 N1] 34))))
  have HON2 := Lib.hid (Rul.below HON.out (bel_trans hb (bel_alloc w2 (.cells #[.int .i64 y, .int .i64 (k : Int), .int .i64 N1] 34))))
  have HGL2 := Lib.hid (Nat.lt_of_lt_of_le HGL.out hb.size)
  have HA2 := Lib.hid (heap_alloc_new w2 (.cells #[.int .i64 y, .int .i64 (k : Int), .int .i64 N1] 34))
  clear hb HRL HON HB
  go_wp2_with fail
  refine (evOn_any (.slice (some ⟨g, 0, none⟩) n cp) l (k : Int) (y + 400 * c) _ (by exact HT.out.below HB2.out) (by exact HRL2.out) (by omega) (by omega)).mono ?_
  intro e w3 hq; obtain ⟨rfl, hb⟩ := EvR.to (v := .tuple #[.agg #[.int .i64 (y + 400 * c), .int .i64 (k : Int), .int .i64 N2], .bool true]) (evV_yes HLK.out HH2.out HN2.out) _ _ hq; clear hq
  have HB3 := Lib.hid (bel_trans (bel_trans HB2.out hb) (bel_alloc w3 (.cells #[.int .i64 (y + 400 * c), .int .i64 (k : Int), .int .i64 N2] 34)))
  have HON3 := Lib.hid (Rul.below HON2.out (bel_trans hb (bel_alloc w3 (.cells #[.int .i64 (y + 400 * c), .int .i64 (k : Int), .int .i64 N2] 34))))
  have HA3 := Lib.hid (block_below HA2.out (bel_trans hb (bel_alloc w3 (.cells #[.int .i64 (y + 400 * c), .int .i64 (k : Int), .int .i64 N2] 34))))
  have HGE := Lib.hid (bel_trans HB2.out hb).size
  have HGL3 := Lib.hid (show g < w3.heap.size by have h1 := hb.size; have h2 := HGL2.out; simp at h1; omega)
  have HE3 := Lib.hid (heap_alloc_new w3 (.cells #[.int .i64 (y + 400 * c), .int .i64 (k : Int), .int .i64 N2] 34))
  clear hb HRL2 HON2 HB2 HA2
  have c0 := cellB HA3.out (i := 0) rfl
  have c1 := cellB HA3.out (i := 1) rfl
  have c2 := cellB HA3.out (i := 2) rfl
  have d0 := cellB HE3.out (i := 0) rfl
  have d1 := cellB HE3.out (i := 1) rfl
  have d2 := cellB HE3.out (i := 2) rfl
  have hkk : (k : Int) + 1 ≤ (cp : Int) := by omega
  go_wp2_with fail
  clear c0 c1 c2 d0 d1 d2
  refine (evOn_any (.slice (some ⟨g, k * 11, none⟩) 1 (cp - k)) [r1] 0 (y + 400 * c) _ (by exact HT.out.below HB3.out) (by exact HON3.out) (by omega) (by omega)).mono ?_
  intro e w4 hq; obtain ⟨rfl, hb⟩ := EvR.to (v := .tuple #[.agg #[.int .i64 (y + 400 * c), .int .i64 0, .int .i64 M], .bool true]) (evV_yes (k := 0) rfl HH2.out HM.out) _ _ hq; clear hq
  have HB4 := Lib.hid (bel_trans HB3.out hb)
  have HON4 := Lib.hid (Rul.below HON3.out hb)
  have HE4 := Lib.hid (block_below HE3.out hb)
  have d0 := cellB HE4.out (i := 0) rfl
  have d1 := cellB HE4.out (i := 1) rfl
  have d2 := cellB HE4.out (i := 2) rfl
  have h0 := frzB HE4.out 0
  have h1 := frzB HE4.out 1
  have h2 := frzB HE4.out 2
  have HE5 : Hid ((((w4.setCell ⟨w3.heap.size, 0, none⟩ (.int .i64 (y + 400 * c))).setCell ⟨w3.heap.size, 1, none⟩ (.int .i64 0)).setCell ⟨w3.heap.size, 2, none⟩ (.int .i64 M)).heap[w3.heap.size]? = some (.cells #[.int .i64 (y + 400 * c), .int .i64 0, .int .i64 M] 34)) := Lib.hid (setc (setc (setc HE4.out (by rfl)) (by rfl)) (by rfl))
  have HB5 := Lib.hid (((HB4.out.setCell (p := ⟨w3.heap.size, 0, none⟩) HGE.out (.int .i64 (y + 400 * c))).setCell (p := ⟨w3.heap.size, 1, none⟩) HGE.out (.int .i64 0)).setCell (p := ⟨w3.heap.size, 2, none⟩) HGE.out (.int .i64 M))
  have HON5 : Hid (Rul (.slice (some ⟨g, k * 11, none⟩) 1 (cp - k)) [r1] (((w4.setCell ⟨w3.heap.size, 0, none⟩ (.int .i64 (y + 400 * c))).setCell ⟨w3.heap.size, 1, none⟩ (.int .i64 0)).setCell ⟨w3.heap.size, 2, none⟩ (.int .i64 M))) := Lib.hid (Rul.other (Rul.other (Rul.other HON4.out (Nat.ne_of_lt HGL3.out)) (Nat.ne_of_lt HGL3.out)) (Nat.ne_of_lt HGL3.out))
  go_upto_region 12 with (fail)
  clear d0 d1 d2 h0 h1 h2 hb HB4 HON4 HE4 HB3 HON3 HE3 HA3
  generalize (((w4.setCell ⟨w3.heap.size, 0, none⟩ (.int .i64 (y + 400 * c))).setCell ⟨w3.heap.size, 1, none⟩ (.int .i64 0)).setCell ⟨w3.heap.size, 2, none⟩ (.int .i64 M)) = V5 at HE5 HB5 HON5 ⊢
  have d0 := cellB HE5.out (i := 0) rfl
  have d1 := cellB HE5.out (i := 1) rfl
  have d2 := cellB HE5.out (i := 2) rfl
  go_wp2_with fail
  clear d0 d1 d2
  refine (evBefore_any (.slice (some ⟨g, k * 11, none⟩) 1 (cp - k)) [r1] (M + 1) _ (by exact HT.out.below HB5.out) (by exact HON5.out) (by omega) (by omega)).mono ?_
  intro e w6 hq; obtain ⟨rfl, hb⟩ := LookR.bef (v := .tuple #[.agg #[.int .i64 (y + 400 * c), .int .i64 0, .int .i64 M], .bool true]) HBF.out rfl _ _ hq; clear hq
  have HB6 := Lib.hid (bel_trans (bel_trans HB5.out hb) (bel_alloc w6 (.cells #[.int .i64 (y + 400 * c), .int .i64 0, .int .i64 M] 34)))
  have HON6 := Lib.hid (Rul.below HON5.out (bel_trans hb (bel_alloc w6 (.cells #[.int .i64 (y + 400 * c), .int .i64 0, .int .i64 M] 34))))
  have HE6 := Lib.hid (block_below HE5.out (bel_trans hb (bel_alloc w6 (.cells #[.int .i64 (y + 400 * c), .int .i64 0, .int .i64 M] 34))))
  have HP6 := Lib.hid (heap_alloc_new w6 (.cells #[.int .i64 (y + 400 * c), .int .i64 0, .int .i64 M] 34))
  clear hb HB5 HON5 HE5
  have d0 := cellB HE6.out (i := 0) rfl
  have d1 := cellB HE6.out (i := 1) rfl
  have d2 := cellB HE6.out (i := 2) rfl
  go_wp2_with fail
  clear d0 d1 d2
  refine (evAfter_any (.slice (some ⟨g, k * 11, none⟩) 1 (cp - k)) [r1] (M - 1) _ (by exact HT.out.below HB6.out) (by exact HON6.out) (by omega) (by omega)).mono ?_
  intro e w7 hq; obtain ⟨rfl, hb⟩ := LookR.aft (v := .tuple #[.agg #[.int .i64 (y + 400 * c), .int .i64 0, .int .i64 M], .bool true]) HAF.out rfl _ _ hq; clear hq
  have HB7 := Lib.hid (bel_trans (bel_trans HB6.out hb) (bel_alloc w7 (.cells #[.int .i64 (y + 400 * c), .int .i64 0, .int .i64 M] 34)))
  have HE7 := Lib.hid (block_below HE6.out (bel_trans hb (bel_alloc w7 (.cells #[.int .i64 (y + 400 * c), .int .i64 0, .int .i64 M] 34))))
  have HP7 := Lib.hid (block_below HP6.out (bel_trans hb (bel_alloc w7 (.cells #[.int .i64 (y + 400 * c), .int .i64 0, .int .i64 M] 34))))
  have HQ7 := Lib.hid (heap_alloc_new w7 (.cells #[.int .i64 (y + 400 * c), .int .i64 0, .int .i64 M] 34))
  clear hb HB6 HON6 HE6 HP6
  have d0 := cellB HE7.out (i := 0) rfl
  have d1 := cellB HE7.out (i := 1) rfl
  have d2 := cellB HE7.out (i := 2) rfl
  have p0 := cellB HP7.out (i := 0) rfl
  have p1 := cellB HP7.out (i := 1) rfl
  have p2 := cellB HP7.out (i := 2) rfl
  have s0 := cellB HQ7.out (i := 0) rfl
  have s1 := cellB HQ7.out (i := 1) rfl
  have s2 := cellB HQ7.out (i := 2) rfl
  go_wp2_with fail
  refine (works_any _ (by exact HT.out.below HB7.out)).mono ?_
  rintro e w8 ⟨rfl, hb8⟩
  go_wp2_with fail
  go_ret
  exact ⟨rfl, bel_trans HB7.out hb8⟩

set_option maxRecDepth 100000 in
theorem eventsCycle.eventsCycle_walk (W : World) (hL : laidMetH Tryd.prog Rows.eventsCycleRow.laid W) (v : Value) {H : Type} {enc : TypeId × Value → H} {base : Nat} {d : DataW H} {p : List MemPlace} (hv : Value.okWide Tryd.prog W .any base 23 v)
    (h : DataW.Trod enc Tryd.prog W 0 (fun _ => true) true 23 v d p) (q : Int) (wq : (Lit.int .u8 q).wf = true) (yr : Int) (wy : (Lit.int .u8 yr).wf = true) (f : Int) (wf : (Lit.int .u32 f).wf = true) :
    Calls Tryd.prog 3 #[v, .int .u8 q, .int .u8 yr, .int .u32 f] W fun e w' => e = .returned (.bool true) ∧ Below W.heap.size W w' := by
  obtain ⟨bs, hD⟩ := drf_of hv h
  obtain ⟨hq1, hq2⟩ := byte_of wq
  obtain ⟨hy1, hy2⟩ := byte_of wy
  obtain ⟨hf1, hf2⟩ := u32_of wf
  exact evCyc_core v bs q yr f W ⟨tab_of hL, ktab_of hL⟩ hD hq1 hq2 hy1 hy2 hf1 hf2
end Go.Proofs.YtpimibchameakaaDoor
