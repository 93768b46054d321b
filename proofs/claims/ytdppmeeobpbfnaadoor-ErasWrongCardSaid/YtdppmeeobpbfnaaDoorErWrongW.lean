/-
  The walk of the law ErasWrong.
-/
import Derived.Test.YtdppmeeobpbfnaaDoorErWrM
import Derived.Test.YtdppmeeobpbfnaaDoorErWk
namespace Go.Proofs.YtdppmeeobpbfnaaDoor
open Go.RowKit Cv
set_option linter.unusedVariables false
set_option linter.unusedSimpArgs false

namespace Cv
theorem OwnZp.at_ {base gz n cz i : Nat} {zs : _root_.List (ByteArray × _root_.List Er)} {ps : _root_.List (ByteArray × Value)} {A : World} {nm : ByteArray} {es : _root_.List Er} (h : OwnZp base (.slice (some ⟨gz, 0, none⟩) n cz) zs ps A) (hz : zs[i]? = some (nm, es)) :
    ∃ p, ps[i]? = some p ∧ A.ownsRow base 60 13 p.2 es.length (flatEr es) ∧ A.cell? ⟨gz, i * 2 + 1, none⟩ = some p.2 := by
  obtain ⟨h1, h2, h3, h4⟩ := h
  obtain ⟨p, q1, q2, q3⟩ := h3 i _ hz
  have hi := (_root_.List.getElem?_eq_some_iff.1 hz).1
  have hn : n = zs.length := by
    rcases h2.2 with ⟨h5, _⟩ | ⟨g', c', cur, h5, _⟩
    · cases h5
    · injection h5
  subst hn
  have c1 := h2.cellAt (i * 2 + 1) (by omega)
  rw [flatZo_get ps i p q1 1 (by omega)] at c1
  exact ⟨p, q1, q3, c1⟩
theorem ownE {w : World} {base g n cap i : Nat} {es : _root_.List Er} {e : Er} (h : w.ownsRow base 60 13 (.slice (some ⟨g, 0, none⟩) n cap) n (flatEr es)) (he : es[i]? = some e) (hi : i < n) : ∀ (j : Nat) (u : Value), e.arr.toList[j]? = some u → w.cell? ⟨g, i * 13 + j, none⟩ = some u := by
  intro j u hu
  have hj : j < 13 := (_root_.List.getElem?_eq_some_iff.1 hu).1
  rw [h.cellAt (i * 13 + j) (by omega), flatEr_get es i e he j hj]
  exact hu
theorem first_k {S : Int} {l : _root_.List (_root_.List De)} {i : Nat} {nm : ByteArray} {es : _root_.List Er} {e : Er} {n : Nat} (h : (zonesUp S l n)[i]? = some (nm, es)) (he : es[0]? = some e) : e.k = 0 ∨ e.k = 1 := by
  have hk := (_root_.List.getElem?_eq_some_iff.1 h).1
  rw [zonesUp_len] at hk
  rw [zonesUp_get hk] at h
  injection (Option.some.inj h) with _ h2
  subst h2
  have h0 := (_root_.List.getElem?_eq_some_iff.1 he).1
  unfold ersL at he h0
  rw [ersUp_len] at h0
  rw [ersUp_get h0] at he
  obtain rfl := Option.some.inj he
  show kq (decide (0 = 0)) _ = 0 ∨ kq (decide (0 = 0)) _ = 1
  unfold kq
  simp only [decide_true, true_and]
  split <;> omega
theorem own_cap {w : World} {base g n cap size : Nat} {e : TypeId} {xs : _root_.List Value} (h : w.ownsRow base e size (.slice (some ⟨g, 0, none⟩) n cap) n xs) : n ≤ cap ∧ cap ≤ maxLen := by
  rcases h.2 with ⟨h1, _⟩ | ⟨g', c', cur, h1, h2, h3, h4, h5, h6, h7⟩
  · cases h1
  · cases h1
    exact ⟨h4, h5⟩
theorem ownCz {w : World} {base g n m cap size j : Nat} {e : TypeId} {xs : _root_.List Value} (h : w.ownsRow base e size (.slice (some ⟨g, 0, none⟩) m cap) n xs) (hj : j < n * size) : (∃ u, w.cell? ⟨g, j, none⟩ = some u) ∧ w.frozen? ⟨g, j, none⟩ = false := by
  rcases h.2 with ⟨h1, _⟩ | ⟨g', c', cur, h1, h2, h3, h4, h5, h6, h7⟩
  · cases h1
  · cases h1
    have hsz : j < cur.size := by rw [h6]; exact Nat.lt_of_lt_of_le hj (Nat.mul_le_mul_right size h4)
    exact ⟨⟨cur[j], cellB h3 (by rw [Array.getElem?_eq_getElem hsz])⟩, frzB h3 _⟩
theorem flatEr_one (es : _root_.List Er) : ∀ u ∈ flatEr es, u.oneCell' = true := by
  intro u hu
  obtain ⟨e, _, he⟩ := _root_.List.mem_flatMap.1 hu
  obtain ⟨a, b, c, d, f, g, h, i, j, k, l, m, n⟩ := e
  simp [Er.arr] at he
  rcases he with rfl | rfl | rfl | rfl | rfl | rfl | rfl | rfl | rfl | rfl | rfl | rfl | rfl <;> rfl
/-- the eras behind the first, as they lie -/
theorem own_tail {w : World} {base g n cap : Nat} {e : Er} {l : _root_.List Er} (h : w.ownsRow base 60 13 (.slice (some ⟨g, 0, none⟩) n cap) n (flatEr (e :: l))) : ∀ j u, (flatEr l)[j]? = some u → w.cell? ((⟨g, 13, none⟩ : Addr).add j) = some u := by
  intro j u hu
  have hj := (_root_.List.getElem?_eq_some_iff.1 hu).1
  have hl := h.1
  have h2 : (flatEr (e :: l)).length = 13 + (flatEr l).length := by
    show (e.arr.toList ++ flatEr l).length = _
    rw [_root_.List.length_append, er_len]
  have e2 : (⟨g, 13, none⟩ : Addr).add j = ⟨g, 13 + j, none⟩ := by rw [Addr.add_mid]
  rw [e2, h.cellAt (13 + j) (by omega)]
  show (e.arr.toList ++ flatEr l)[13 + j]? = _
  rw [_root_.List.getElem?_append_right (by rw [er_len]; omega), er_len, show 13 + j - 13 = j by omega]
  exact hu
theorem u8b {n : Int} (h : (Lit.int .u8 n).wf = true) : 0 ≤ n ∧ n ≤ 255 := byte_of h
theorem own_own {w : World} {base : Nat} {t : TypeId} {size n : Nat} {v : Value} {xs : _root_.List Value} (h : w.ownsRow base t size v n xs) {b : Nat} (hb : w.heap.size ≤ b) : v.ownBlock ≠ some b := fun e => by have := (h.lt b e).2; omega
end Cv

set_option maxRecDepth 100000 in
set_option maxHeartbeats 16000000 in
theorem erasWrong_core (A1 A2 A3 : Option Addr) (n1 n2 n3 c1 c2 c3 : Nat) (sl : _root_.List (_root_.List Int)) (zr : _root_.List (Nat × _root_.List De)) (ll : _root_.List Int) (zn wh : Int) (W : World) (hT : Tabs W) (hS : RdDs (.slice A1 n1 c1) n1 sl W) (hZ : RdDz (.slice A2 n2 c2) n2 zr W) (hLk : RdDl (.slice A3 n3 c3) n3 ll W) (wz : (Lit.int .u8 zn).wf = true) (ww : (Lit.int .u8 wh).wf = true) :
    Calls Tryd.prog 6 #[.agg #[.slice A1 n1 c1, .slice A2 n2 c2, .slice A3 n3 c3], .int .u8 zn, .int .u8 wh] W fun e w' => e = .returned (.bool true) ∧ Below W.heap.size W w' := by
  have HT := Lib.hid hT
  have HB := Lib.hid (bel_alloc W (.cells #[.slice A1 n1 c1, .slice A2 n2 c2, .slice A3 n3 c3] 35))
  have KD := Lib.hid (heap_alloc_new W (.cells #[.slice A1 n1 c1, .slice A2 n2 c2, .slice A3 n3 c3] 35))
  have HZ4 := Lib.hid (rdDz_four hZ)
  have HS := Lib.hid (hS.below HB.out); have HZ := Lib.hid (hZ.below HB.out); have HLk := Lib.hid (hLk.below HB.out)
  obtain ⟨wz1, wz2⟩ := u8b wz
  obtain ⟨ww1, ww2⟩ := u8b ww
  clear hT hS hZ hLk wz ww
  go_enter Tryd.func6, Tryd.ntmps6
  have d0 := cellB KD.out (i := 0) rfl
  have d1 := cellB KD.out (i := 1) rfl
  have d2 := cellB KD.out (i := 2) rfl
  go_wp2_with fail
  clear d0 d1 d2
  refine (made23_any A1 A2 A3 n1 n2 n3 c1 c2 c3 sl zr ll _ (by exact HS.out) (by exact HZ.out) (by exact HLk.out)).mono ?_
  rintro e w1 ⟨rv, zv, la, ln, lc, rs, ps, rfl, hrv, hro, hzp, hb⟩
  have hSd := normD_13 sl (rdDs_three HS.out)
  obtain ⟨S, hSe⟩ : ∃ S, S = (normD sl).length := ⟨_, rfl⟩
  rw [← hSe] at hrv hzp hSd
  have hlen := hrv.len
  have hrl : rs.length ≤ 1000 := by omega
  have HFIT := Lib.hid hrv.fits
  have hzok := zones_ok (S := S) hrv hSd HZ4.out
  have hzf : ∀ (i : Nat) (nm : ByteArray) (es : _root_.List Er) (e : Er), (zonesUp (S : Int) (normZ (zr.map fun p => p.2)) (normZ (zr.map fun p => p.2)).length)[i]? = some (nm, es) → es[0]? = some e → e.k = 0 ∨ e.k = 1 := fun i nm es e h he => first_k h he
  have hzl := normZ_len (zr.map fun p => p.2)
  have hz3 := rdDz_three HZ.out
  obtain ⟨ra, rc, rfl⟩ := own_sl hro
  generalize hzs : zonesUp (S : Int) (normZ (zr.map fun p => p.2)) (normZ (zr.map fun p => p.2)).length = zs at *
  have hZl : zs.length = (normZ (zr.map fun p => p.2)).length := by rw [← hzs, zonesUp_len]
  have hZ3 : 1 ≤ zs.length ∧ zs.length ≤ 3 := by rw [hZl, hzl, _root_.List.length_map]; omega
  obtain ⟨gz, zc, rfl, hgz, hlz⟩ := hzp.2.1.form (by omega)
  obtain ⟨Z, hZe⟩ : ∃ Z, Z = zs.length := ⟨_, rfl⟩
  obtain ⟨nr, hnr⟩ : ∃ nr, nr = rs.length := ⟨_, rfl⟩
  rw [← hZe] at hZ3
  have HZP := Lib.hid hzp
  rw [← hZe] at HZP ⊢
  have HRO := Lib.hid hro
  rw [← hnr] at HRO ⊢ hrl
  have HNR := Lib.hid hnr
  have HZOK := Lib.hid hzok
  have HZF := Lib.hid hzf
  have HZE := Lib.hid hZe
  have HB := Lib.hid (bel_trans HB.out hb)
  have hbase : W.heap.size ≤ (W.alloc (.cells #[.slice A1 n1 c1, .slice A2 n2 c2, .slice A3 n3 c3] 35)).heap.size := (bel_alloc W _).size
  generalize (W.alloc (.cells #[.slice A1 n1 c1, .slice A2 n2 c2, .slice A3 n3 c3] 35)).heap.size = B0 at *
  clear hb hro hzp hzok hzf hzl hz3 hzs hZl hlen hrv hSe hSd HS HZ HLk HZ4 hnr hZe KD
  have hps := HZP.out.lt
  have hbs := bel_alloc w1 (.cells #[.slice ra nr rc, .slice (some ⟨gz, 0, none⟩) Z zc, .slice la ln lc, .slice none 0 0] 41)
  have KS := Lib.hid (heap_alloc_new w1 (.cells #[.slice ra nr rc, .slice (some ⟨gz, 0, none⟩) Z zc, .slice la ln lc, .slice none 0 0] 41))
  have HZP := Lib.hid (HZP.out.below hbs)
  have HRO := Lib.hid (own_below17 HRO.out hbs)
  have HB := Lib.hid (bel_trans HB.out hbs)
  have HPS := Lib.hid hps
  clear hbs hps
  obtain ⟨i, hqi, hi⟩ := tmod_nat (n := Z) wz1 (by omega)
  have i0 : (0 : Int) ≤ (i : Int) := by omega
  have i1 : (i : Int) < (Z : Int) := by omega
  have iz : (Z : Int) ≠ 0 := by omega
  obtain ⟨⟨nm, es⟩, hz⟩ : ∃ z, zs[i]? = some z := ⟨_, _root_.List.getElem?_eq_getElem (by rw [← HZE.out]; exact hi)⟩
  obtain ⟨Y, hj, hm1, hm4⟩ := HZOK.out i nm es hz
  have HJ := Lib.hid hj
  have HF0 := Lib.hid (HZF.out i nm es · hz)
  obtain ⟨⟨pn, pv⟩, hp, hpr, hpc⟩ := HZP.out.at_ hz
  dsimp only at hpr hpc
  obtain ⟨ge, ce, rfl, hge, hlge⟩ := hpr.form (by omega)
  have hgb : ge < w1.heap.size := HPS.out i _ ge hp rfl
  obtain ⟨m, hm⟩ : ∃ m, m = es.length := ⟨_, rfl⟩
  rw [← hm] at hm1 hm4
  have HER := Lib.hid hpr
  rw [← hm] at HER hpc hp
  have HM := Lib.hid hm
  have HZI := Lib.hid hz
  have HP := Lib.hid hp
  have hgzge : gz ≠ ge := fun e => by
    have := own_two HZP.out.2.1 HER.out (by decide)
    rw [e] at this
    simp [Value.ownBlock] at this
  clear hj hm hz hp hpr HZOK HZF HPS
  have hgzb : gz < w1.heap.size := hlz
  have s0 := cellB KS.out (i := 0) rfl
  have s1 := cellB KS.out (i := 1) rfl
  have s2 := cellB KS.out (i := 2) rfl
  have s3 := cellB KS.out (i := 3) rfl
  go_wp2_with fail
  clear s0 s1 s2 s3
  generalize hw2 : w1.alloc (.cells #[.slice ra nr rc, .slice (some ⟨gz, 0, none⟩) Z zc, .slice la ln lc, .slice none 0 0] 41) = w2 at *
  generalize w1.heap.size = bs at *
  clear hw2
  refine (spansO_any (some ⟨gz, 0, none⟩) Z zc i ra la none nr rc ln lc 0 0 rs zs nm es _ (by exact HT.out.below HB.out) (by exact rul_of_own (rs := rs) (by rw [← HNR.out]; exact HRO.out) (by rw [← HNR.out]; exact hrl) HFIT.out) (by exact (HZE.out ▸ HZP.out.rd)) HZI.out (by omega) (by rw [← HM.out]; omega) (by rw [← HM.out]; omega) (by exact HJ.out.ok)).mono ?_
  rintro ex w3 ⟨(⟨v, ts, h1, h2, h3, rfl, h5⟩ | ⟨hw, -⟩), hb⟩
  rotate_left 1
  · exact absurd hw HJ.out.notWrong
  have HTS := Lib.hid (And.intro h1 h2)
  have hLl : (spl (-9223372036854775808) 0 (ts ++ [9223372036854775807])).length = m := by rw [spl_len, HM.out, ← h1]; simp
  obtain ⟨L, hLs⟩ : ∃ L, spl (-9223372036854775808) 0 (ts ++ [9223372036854775807]) = L := ⟨_, rfl⟩
  have HLS := Lib.hid hLs
  rw [hLs] at h5 hLl
  have HRL := Lib.hid h5
  have HLL := Lib.hid hLl
  replace HER := Lib.hid (own_below17 HER.out hb)
  replace HZP := Lib.hid (HZP.out.below hb)
  replace HRO := Lib.hid (own_below17 HRO.out hb)
  replace KS := Lib.hid (block_below KS.out hb)
  replace HB := Lib.hid (bel_trans HB.out hb)
  clear h1 h2 h3 h5 hLl hb hLs hpc
  have s0 := cellB KS.out (i := 0) rfl
  have s1 := cellB KS.out (i := 1) rfl
  have s2 := cellB KS.out (i := 2) rfl
  have s3 := cellB KS.out (i := 3) rfl
  go_wp2_with fail
  clear s0 s1 s2 s3
  refine (spansNeg_any (some ⟨gz, 0, none⟩) Z zc ra la none nr rc ln lc 0 0 (-1 - wh) _ (by omega)).mono ?_
  rintro ex w4 ⟨rfl, hb⟩
  replace HER := Lib.hid (own_below17 HER.out hb)
  replace HZP := Lib.hid (HZP.out.below hb)
  replace HRO := Lib.hid (own_below17 HRO.out hb)
  replace KS := Lib.hid (block_below KS.out hb)
  replace HB := Lib.hid (bel_trans HB.out hb)
  replace HRL := Lib.hid (own_below17 HRL.out hb)
  clear hb
  have s0 := cellB KS.out (i := 0) rfl
  have s1 := cellB KS.out (i := 1) rfl
  have s2 := cellB KS.out (i := 2) rfl
  have s3 := cellB KS.out (i := 3) rfl
  go_wp2_with fail
  clear s0 s1 s2 s3
  refine (spansBad_any (some ⟨gz, 0, none⟩) Z zc ra la none nr rc ln lc 0 0 ((Z : Int) + wh) _ (by omega)).mono ?_
  rintro ex w5 ⟨rfl, hb⟩
  replace HER := Lib.hid (own_below17 HER.out hb)
  replace HZP := Lib.hid (HZP.out.below hb)
  replace HRO := Lib.hid (own_below17 HRO.out hb)
  replace KS := Lib.hid (block_below KS.out hb)
  replace HB := Lib.hid (bel_trans HB.out hb)
  replace HRL := Lib.hid (own_below17 HRL.out hb)
  clear hb
  obtain ⟨r, hr, hr2⟩ : ∃ r : Int, wh.tmod 200 = r ∧ (0 ≤ r ∧ r < 200) := by
    refine ⟨_, rfl, ?_⟩
    rw [Int.tmod_eq_emod_of_nonneg ww1]
    omega
  obtain ⟨q, hq⟩ : ∃ q, m = q + 1 := ⟨m - 1, by omega⟩
  have m1 : (m : Int) - 1 = (q : Int) := by omega
  have m2 : IntKind.i64.wrap (q : Int) = (q : Int) := IntWalk.i64_in _ (by omega)
  have m3 : (0 : Int) ≤ (q : Int) := by omega
  have m4 : (q : Int) < (m : Int) := by omega
  have hqm : q < m := by omega
  have HQ := Lib.hid hq
  clear hq
  go_wp2_with fail
  refine (untilM_any (1860 + r) 6 15 _).mono ?_
  rintro ex w6 ⟨rfl, hb⟩
  replace HER := Lib.hid (own_below17 HER.out hb)
  replace HZP := Lib.hid (HZP.out.below hb)
  replace HRO := Lib.hid (own_below17 HRO.out hb)
  replace KS := Lib.hid (block_below KS.out hb)
  replace HB := Lib.hid (bel_trans HB.out hb)
  replace HRL := Lib.hid (own_below17 HRL.out hb)
  clear hb
  obtain ⟨el, hel⟩ : ∃ e, es[q]? = some e := ⟨_, _root_.List.getElem?_eq_getElem (by rw [← HM.out]; exact hqm)⟩
  have HEL := Lib.hid hel
  clear hel
  have hlg : ge < w6.heap.size := (HER.out.lt ge rfl).2
  go_wp2_with (refine wpList_store_mid rfl _ _ _ rfl ge (q * 13 + 5) #[.bool true, .int .i64 (1860 + r), .int .i64 6, .int .i64 1, .int .i64 0, .int .i64 15, .int .i64 0, .int .i64 0] rfl rfl (there_end HER.out hqm) (by kernel_rfl) (by simp [Value.oneCell']) ?_; have hgr := grown_end (w := w6) (g := ge) (o := q * 13 + 5) [.bool true, .int .i64 (1860 + r), .int .i64 6, .int .i64 1, .int .i64 0, .int .i64 15, .int .i64 0, .int .i64 0]; have her := own_end HER.out HEL.out true (1860 + r) 6 1 0 15 0 0; generalize w6.setCells ge (q * 13 + 5) _ = w7 at *; replace HB := Lib.hid (HB.out.trans (below_grownM hgr (by omega) hlg)); replace KS := Lib.hid (blk_grownM KS.out hgr (by omega)); have s0 := cellB KS.out (i := 0) rfl; have s1 := cellB KS.out (i := 1) rfl; have s2 := cellB KS.out (i := 2) rfl; have s3 := cellB KS.out (i := 3) rfl)
  clear s0 s1 s2 s3
  have hl1 : (es.set q (el.endIs true (1860 + r) 6 1 0 15 0 0)).length = m := by rw [_root_.List.length_set]; exact HM.out.symm
  have hs1 : ∀ k, k + 1 < es.length → (es.set q (el.endIs true (1860 + r) 6 1 0 15 0 0))[k]? = es[k]? := fun k hk => by rw [_root_.List.getElem?_set_ne]; have := HM.out; have := HQ.out; omega
  have HEL1 := Lib.hid (gete_same (a := el.endIs true (1860 + r) 6 1 0 15 0 0) HEL.out)
  generalize es.set q (el.endIs true (1860 + r) 6 1 0 15 0 0) = es1 at *
  replace HRO := Lib.hid (HRO.out.kept hgr (own_two HRO.out HER.out (by decide)))
  have hne2 := own_two HZP.out.2.1 HER.out (by decide)
  replace HZP := Lib.hid (OwnZp.chg (es' := es1) HZP.out HZI.out HP.out (by rw [hl1]; exact HM.out) hgr (by rw [hl1]; exact her))
  replace HER := Lib.hid her
  have HS1 := Lib.hid hs1
  have HL1 := Lib.hid hl1
  have HJ1 := Lib.hid (HJ.out.last (es' := es1) (by rw [hl1]; exact HM.out) hs1)
  have HZI1 := Lib.hid (show (zs.set i (nm, es1))[i]? = some (nm, es1) from _root_.List.getElem?_set_self (_root_.List.getElem?_eq_some_iff.1 HZI.out).1)
  have hZE1 : (zs.set i (nm, es1)).length = Z := by rw [_root_.List.length_set]; exact HZE.out.symm
  replace HRL := Lib.hid (own_grownM HRL.out hgr hlge)
  generalize zs.set i (nm, es1) = zs1 at *
  have HZE1 := Lib.hid hZE1
  clear her hgr hne2 hl1 hs1 hZE1
  refine (spansO_any (some ⟨gz, 0, none⟩) Z zc i ra la none nr rc ln lc 0 0 rs zs1 nm es1 _ (by exact HT.out.below HB.out) (by exact rul_of_own (rs := rs) (by rw [← HNR.out]; exact HRO.out) (by rw [← HNR.out]; exact hrl) HFIT.out) (by exact (HZE1.out ▸ HZP.out.rd)) HZI1.out (by omega) (by rw [HL1.out]; omega) (by rw [HL1.out]; omega) (by exact HJ1.out.ok)).mono ?_
  rintro ex w8 ⟨(⟨v', ts', h1, h2, h3, rfl, h5⟩ | ⟨hw, -⟩), hb⟩
  rotate_left 1
  · exact absurd hw HJ1.out.notWrong
  have hts : ts' = ts := insts_same HTS.out.2 h2 HTS.out.1 h1 (by rw [HL1.out]; exact HM.out) HS1.out
  rw [hts, HLS.out] at h5
  have HR8 := Lib.hid (RdSp.own h5)
  replace HER := Lib.hid (own_below17 HER.out hb)
  replace HZP := Lib.hid (HZP.out.below hb)
  replace HRO := Lib.hid (own_below17 HRO.out hb)
  replace KS := Lib.hid (block_below KS.out hb)
  replace HB := Lib.hid (bel_trans HB.out hb)
  replace HRL := Lib.hid (own_below17 HRL.out hb)
  clear h1 h2 h3 h5 hb hts
  go_wp2_with fail
  refine (equalSp_any v' v L _ (by exact HR8.out) (by exact (RdSp.own HRL.out)) (by rw [HLL.out]; omega)).mono ?_
  rintro ex w9 ⟨rfl, hb⟩
  replace HER := Lib.hid (own_below17 HER.out hb)
  replace HZP := Lib.hid (HZP.out.below hb)
  replace HRO := Lib.hid (own_below17 HRO.out hb)
  replace KS := Lib.hid (block_below KS.out hb)
  replace HB := Lib.hid (bel_trans HB.out hb)
  clear hb HR8 HRL
  by_cases hm2 : m = 1
  · have hm3 : (m : Int) < 2 := by omega
    have hm4 : decide ((m : Int) < 2) = true := decide_eq_true hm3
    go_wp2_with fail
    refine (works23_any _ (by exact (HT.out.below HB.out))).mono ?_
    rintro e w9 ⟨rfl, hb⟩
    have HB := Lib.hid (bel_trans HB.out hb)
    clear hb
    go_wp2_with fail
    go_ret
    exact ⟨rfl, HB.out⟩
  have hm3 : ¬ (m : Int) < 2 := by omega
  have hm4 : decide ((m : Int) < 2) = false := decide_eq_false hm3
  have hq1 : 1 ≤ q := by have := HQ.out; omega
  obtain ⟨e0, he0⟩ : ∃ e, es[0]? = some e := ⟨_, _root_.List.getElem?_eq_getElem (by rw [← HM.out]; omega)⟩
  have hk0 := HF0.out e0 he0
  obtain ⟨-, hA0, -⟩ := HJ.out 0 e0 (by rw [← HM.out]; omega) he0
  have h10 : es1[0]? = some e0 := by rw [HS1.out 0 (by rw [← HM.out]; omega)]; exact he0
  have HE0 := Lib.hid h10
  have hAo := hA0.off
  have hAs := hA0.save
  clear he0 h10 hA0
  obtain ⟨eo, ek, ev, et, ef, ei, ey, em, ed, ew, ea, ec, eb⟩ := e0
  dsimp only at hk0 hAo hAs
  have hlg : ge < w9.heap.size := (HER.out.lt ge rfl).2
  have hwc : wh.tmod 2 = 0 ∨ wh.tmod 2 = 1 := by rw [Int.tmod_eq_emod_of_nonneg ww1]; omega
  rcases hwc with hw2 | hw2
  · go_wp2_with (refine wpList_store_mid rfl _ _ _ rfl ge (0 * 13 + 5) #[.bool false, .int .i64 0, .int .i64 0, .int .i64 0, .int .i64 0, .int .i64 0, .int .i64 0, .int .i64 0] rfl rfl (there_end HER.out (by omega)) (by kernel_rfl) (by simp [Value.oneCell']) ?_; have hgr := grown_end (w := w9) (g := ge) (o := 0 * 13 + 5) [.bool false, .int .i64 0, .int .i64 0, .int .i64 0, .int .i64 0, .int .i64 0, .int .i64 0, .int .i64 0]; have her := own_end HER.out HE0.out false 0 0 0 0 0 0 0; generalize w9.setCells ge (0 * 13 + 5) _ = w10 at *; replace HB := Lib.hid (HB.out.trans (below_grownM hgr (by omega) hlg)); replace KS := Lib.hid (blk_grownM KS.out hgr (by omega)); have s0 := cellB KS.out (i := 0) rfl; have s1 := cellB KS.out (i := 1) rfl; have s2 := cellB KS.out (i := 2) rfl; have s3 := cellB KS.out (i := 3) rfl)
    clear s0 s1 s2 s3
    have hz2 := OwnZp.chg (es' := es1.set 0 ((⟨eo, ek, ev, et, ef, ei, ey, em, ed, ew, ea, ec, eb⟩ : Er).endIs false 0 0 0 0 0 0 0)) HZP.out HZI1.out HP.out (by rw [_root_.List.length_set]) hgr (by rw [_root_.List.length_set, HL1.out]; exact her)
    have HRZ := Lib.hid hz2.rd
    have hlz2 : (zs1.set i (nm, es1.set 0 ((⟨eo, ek, ev, et, ef, ei, ey, em, ed, ew, ea, ec, eb⟩ : Er).endIs false 0 0 0 0 0 0 0))).length = Z := by rw [_root_.List.length_set]; exact HZE1.out
    refine (spansFirst_any (some ⟨gz, 0, none⟩) Z zc i ra la none nr rc ln lc 0 0 _ nm _ eo ek ev et ef _ (by exact HT.out.below HB.out) (by exact (hlz2 ▸ HRZ.out)) (_root_.List.getElem?_set_self (_root_.List.getElem?_eq_some_iff.1 HZI1.out).1) (by omega) (by rw [_root_.List.length_set, HL1.out]; omega) (by rw [_root_.List.length_set, HL1.out]; omega) (gete_same HE0.out) hk0 (by omega) (by omega) (by omega) (by omega)).mono ?_
    rintro ex w11 ⟨rfl, hb⟩
    replace HB := Lib.hid (bel_trans HB.out hb)
    clear hb
    go_wp2_with fail
    refine (works23_any _ (by exact (HT.out.below HB.out))).mono ?_
    rintro e w9 ⟨rfl, hb⟩
    have HB := Lib.hid (bel_trans HB.out hb)
    clear hb
    go_wp2_with fail
    go_ret
    exact ⟨rfl, HB.out⟩
  · obtain ⟨i9, hi9, hz9, hzs9, hzb9⟩ := info_parts infoEr
    obtain ⟨t9, ht9⟩ : ∃ t, es1 = (⟨eo, ek, ev, et, ef, ei, ey, em, ed, ew, ea, ec, eb⟩ : Er) :: t := by
      have h := HE0.out
      cases es1 with
      | nil => simp at h
      | cons a t => simp at h; exact ⟨t, by rw [h]⟩
    have htq : t9.length = q := by have h := HL1.out; rw [ht9] at h; simp only [_root_.List.length_cons] at h; have := HQ.out; omega
    obtain ⟨hcp1, hcp2⟩ := own_cap HER.out
    have n1 : (1 : Int) ≤ (m : Int) := by omega
    have n2 : (m : Int) ≤ (ce : Int) := by omega
    have n3 : m ≤ ce := hcp1
    have n4 : 1 ≤ m := by omega
    have n5 : m - 1 = q := by have := HQ.out; omega
    have n6 : (0 : Int) < (m : Int) := by omega
    have n7 : 0 < m := by omega
    have hbd : Below w9.heap.size w9 w9.drew := Below.drew (Below.refl _ _)
    replace HER := Lib.hid (own_below17 HER.out hbd)
    replace HZP := Lib.hid (HZP.out.below hbd)
    replace HRO := Lib.hid (own_below17 HRO.out hbd)
    replace KS := Lib.hid (block_below KS.out hbd)
    replace HB := Lib.hid (bel_trans HB.out hbd)
    clear hbd
    have hx := ownE HER.out HE0.out (by omega)
    have x0 := Lib.hid (show w9.drew.cell? ⟨ge, 0, none⟩ = some (.int .i64 eo) by simpa using hx 0 _ rfl)
    have x1 := Lib.hid (show w9.drew.cell? ⟨ge, 1, none⟩ = some (.int .i64 ek) by simpa using hx 1 _ rfl)
    have x2 := Lib.hid (show w9.drew.cell? ⟨ge, 2, none⟩ = some (.int .i64 ev) by simpa using hx 2 _ rfl)
    have x3 := Lib.hid (show w9.drew.cell? ⟨ge, 3, none⟩ = some (.string et) by simpa using hx 3 _ rfl)
    have x4 := Lib.hid (show w9.drew.cell? ⟨ge, 4, none⟩ = some (.string ef) by simpa using hx 4 _ rfl)
    have x5 := Lib.hid (show w9.drew.cell? ⟨ge, 5, none⟩ = some (.bool ei) by simpa using hx 5 _ rfl)
    have x6 := Lib.hid (show w9.drew.cell? ⟨ge, 6, none⟩ = some (.int .i64 ey) by simpa using hx 6 _ rfl)
    have x7 := Lib.hid (show w9.drew.cell? ⟨ge, 7, none⟩ = some (.int .i64 em) by simpa using hx 7 _ rfl)
    have x8 := Lib.hid (show w9.drew.cell? ⟨ge, 8, none⟩ = some (.int .i64 ed) by simpa using hx 8 _ rfl)
    have x9 := Lib.hid (show w9.drew.cell? ⟨ge, 9, none⟩ = some (.int .i64 ew) by simpa using hx 9 _ rfl)
    have x10 := Lib.hid (show w9.drew.cell? ⟨ge, 10, none⟩ = some (.int .i64 ea) by simpa using hx 10 _ rfl)
    have x11 := Lib.hid (show w9.drew.cell? ⟨ge, 11, none⟩ = some (.int .i64 ec) by simpa using hx 11 _ rfl)
    have x12 := Lib.hid (show w9.drew.cell? ⟨ge, 12, none⟩ = some (.int .i64 eb) by simpa using hx 12 _ rfl)
    clear hx
    go_wp2_with fail
    refine wp_region_noPanic ?_
    refine wp_region_held_drew (S := (fun w' => w'.cell? ⟨bs, 1, none⟩ = some (.slice (some ⟨gz, 0, none⟩) Z zc) ∧ w'.cell? ⟨ge, 0, none⟩ = some (.int .i64 eo) ∧ w'.cell? ⟨ge, 1, none⟩ = some (.int .i64 ek) ∧ w'.cell? ⟨ge, 2, none⟩ = some (.int .i64 ev) ∧ w'.cell? ⟨ge, 3, none⟩ = some (.string et) ∧ w'.cell? ⟨ge, 4, none⟩ = some (.string ef) ∧ w'.cell? ⟨ge, 5, none⟩ = some (.bool ei) ∧ w'.cell? ⟨ge, 6, none⟩ = some (.int .i64 ey) ∧ w'.cell? ⟨ge, 7, none⟩ = some (.int .i64 em) ∧ w'.cell? ⟨ge, 8, none⟩ = some (.int .i64 ed) ∧ w'.cell? ⟨ge, 9, none⟩ = some (.int .i64 ew) ∧ w'.cell? ⟨ge, 10, none⟩ = some (.int .i64 ea) ∧ w'.cell? ⟨ge, 11, none⟩ = some (.int .i64 ec) ∧ w'.cell? ⟨ge, 12, none⟩ = some (.int .i64 eb))) (by kernel_rfl) (by exact ⟨cellB KS.out (i := 1) rfl, x0.out, x1.out, x2.out, x3.out, x4.out, x5.out, x6.out, x7.out, x8.out, x9.out, x10.out, x11.out, x12.out⟩) (fun hHeld => ?_)
    refine wpAnyH_take (i := 0) (v := ?_) rfl (by kernel_rfl) (by kernel_rfl) (by kernel_rfl) (fun _ _ _ h => h) (Or.inl ⟨by rfl, ?_⟩) (by assumption) ?_
    rotate_left 1
    · (intro w hSw; (try dsimp only at hSw); first | (go_simp; done) | (go_simp; with_reducible rfl))
    try simp only [Act.put, List.getElem_toArray, List.getElem_cons_succ, List.getElem_cons_zero, List.setIfInBounds_toArray, List.set_cons_zero, List.set_cons_succ]
    refine wpAnyH_take (i := 1) (v := ?_) rfl (by kernel_rfl) (by kernel_rfl) (by kernel_rfl) (fun _ _ _ h => h) (Or.inl ⟨by rfl, ?_⟩) (by assumption) ?_
    rotate_left 1
    · (intro w hSw; (try dsimp only at hSw); first | (go_simp; done) | (go_simp; with_reducible rfl))
    try simp only [Act.put, List.getElem_toArray, List.getElem_cons_succ, List.getElem_cons_zero, List.setIfInBounds_toArray, List.set_cons_zero, List.set_cons_succ]
    refine wpAnyH_take (i := 2) (v := ?_) rfl (by kernel_rfl) (by kernel_rfl) (by kernel_rfl) (fun _ _ _ h => h) (Or.inl ⟨by rfl, ?_⟩) (by assumption) ?_
    rotate_left 1
    · (intro w hSw; (try dsimp only at hSw); first | (go_simp; done) | (go_simp; with_reducible rfl))
    try simp only [Act.put, List.getElem_toArray, List.getElem_cons_succ, List.getElem_cons_zero, List.setIfInBounds_toArray, List.set_cons_zero, List.set_cons_succ]
    refine wpAnyH_take (i := 3) (v := ?_) rfl (by kernel_rfl) (by kernel_rfl) (by kernel_rfl) (fun _ _ _ h => h) (Or.inl ⟨by rfl, ?_⟩) (by assumption) ?_
    rotate_left 1
    · (intro w hSw; (try dsimp only at hSw); first | (go_simp; done) | (go_simp; with_reducible rfl))
    try simp only [Act.put, List.getElem_toArray, List.getElem_cons_succ, List.getElem_cons_zero, List.setIfInBounds_toArray, List.set_cons_zero, List.set_cons_succ]
    refine wpAnyH_take (i := 4) (v := ?_) rfl (by kernel_rfl) (by kernel_rfl) (by kernel_rfl) (fun _ _ _ h => h) (Or.inl ⟨by rfl, ?_⟩) (by assumption) ?_
    rotate_left 1
    · (intro w hSw; (try dsimp only at hSw); first | (go_simp; done) | (go_simp; with_reducible rfl))
    try simp only [Act.put, List.getElem_toArray, List.getElem_cons_succ, List.getElem_cons_zero, List.setIfInBounds_toArray, List.set_cons_zero, List.set_cons_succ]
    refine wpAnyH_take (i := 5) (v := ?_) rfl (by kernel_rfl) (by kernel_rfl) (by kernel_rfl) (fun _ _ _ h => h) (Or.inl ⟨by rfl, ?_⟩) (by assumption) ?_
    rotate_left 1
    · (intro w hSw; (try dsimp only at hSw); first | (go_simp; done) | (go_simp; with_reducible rfl))
    try simp only [Act.put, List.getElem_toArray, List.getElem_cons_succ, List.getElem_cons_zero, List.setIfInBounds_toArray, List.set_cons_zero, List.set_cons_succ]
    refine wpAnyH_take (i := 9) (v := ?_) rfl (by kernel_rfl) (by kernel_rfl) (by kernel_rfl) (fun _ _ _ h => h) (Or.inl ⟨by rfl, ?_⟩) (by assumption) ?_
    rotate_left 1
    · (intro w hSw; (try dsimp only at hSw); first | (go_simp; done) | (go_simp; with_reducible rfl))
    try simp only [Act.put, List.getElem_toArray, List.getElem_cons_succ, List.getElem_cons_zero, List.setIfInBounds_toArray, List.set_cons_zero, List.set_cons_succ]
    refine wpAnyH_take (i := 10) (v := ?_) rfl (by kernel_rfl) (by kernel_rfl) (by kernel_rfl) (fun _ _ _ h => h) (Or.inl ⟨by rfl, ?_⟩) (by assumption) ?_
    rotate_left 1
    · (intro w hSw; (try dsimp only at hSw); first | (go_simp; done) | (go_simp; with_reducible rfl))
    try simp only [Act.put, List.getElem_toArray, List.getElem_cons_succ, List.getElem_cons_zero, List.setIfInBounds_toArray, List.set_cons_zero, List.set_cons_succ]
    refine wpAnyH_ready (rs := [6]) (by kernel_rfl) (by simp) ?_
    refine AllReadyH.cons rfl (fun K hK => ?_) AllReadyH.nil
    rw [if_pos (by rfl)]
    go_simp
    refine (untilM_any 1870 6 15 _).mono ?_
    rintro ex w10 ⟨rfl, hb⟩
    go_wp2_with fail
    refine hK.out _ _ ⟨cellB (block_below KS.out hb) (i := 1) rfl, cell_below hb x0.out, cell_below hb x1.out, cell_below hb x2.out, cell_below hb x3.out, cell_below hb x4.out, cell_below hb x5.out, cell_below hb x6.out, cell_below hb x7.out, cell_below hb x8.out, cell_below hb x9.out, cell_below hb x10.out, cell_below hb x11.out, cell_below hb x12.out⟩ (fun hHeld => ?_)
    clear hK K
    try simp only [Act.put, List.getElem_toArray, List.getElem_cons_succ, List.getElem_cons_zero, List.setIfInBounds_toArray, List.set_cons_zero, List.set_cons_succ]
    replace x0 := Lib.hid (cell_below hb x0.out)
    replace x1 := Lib.hid (cell_below hb x1.out)
    replace x2 := Lib.hid (cell_below hb x2.out)
    replace x3 := Lib.hid (cell_below hb x3.out)
    replace x4 := Lib.hid (cell_below hb x4.out)
    replace x5 := Lib.hid (cell_below hb x5.out)
    replace x6 := Lib.hid (cell_below hb x6.out)
    replace x7 := Lib.hid (cell_below hb x7.out)
    replace x8 := Lib.hid (cell_below hb x8.out)
    replace x9 := Lib.hid (cell_below hb x9.out)
    replace x10 := Lib.hid (cell_below hb x10.out)
    replace x11 := Lib.hid (cell_below hb x11.out)
    replace x12 := Lib.hid (cell_below hb x12.out)
    replace HER := Lib.hid (own_below17 HER.out hb)
    replace HZP := Lib.hid (HZP.out.below hb)
    replace HRO := Lib.hid (own_below17 HRO.out hb)
    replace KS := Lib.hid (block_below KS.out hb)
    replace HB := Lib.hid (bel_trans HB.out hb)
    clear hb
    refine wpAnyH_take (i := 7) (v := ?_) rfl (by kernel_rfl) (by kernel_rfl) (by kernel_rfl) (fun _ _ _ h => h) (Or.inl ⟨by rfl, ?_⟩) (by assumption) ?_
    rotate_left 1
    · (intro w hSw; (try dsimp only at hSw); first | (go_simp; done) | (go_simp; with_reducible rfl))
    try simp only [Act.put, List.getElem_toArray, List.getElem_cons_succ, List.getElem_cons_zero, List.setIfInBounds_toArray, List.set_cons_zero, List.set_cons_succ]
    refine wpAnyH_ready (rs := [8]) (by kernel_rfl) (by simp) ?_
    refine AllReadyH.cons rfl (fun K hK => ?_) AllReadyH.nil
    rw [if_pos (by rfl)]
    go_simp
    go_wp2_with fail
    have hb := bel_alloc w10 (.cells #[.int .i64 eo, .int .i64 ek, .int .i64 ev, .string et, .string ef, .bool ei, .int .i64 ey, .int .i64 em, .int .i64 ed, .int .i64 ew, .int .i64 ea, .int .i64 ec, .int .i64 eb, .int .i64 0, .int .i64 0, .int .i64 0, .string ⟨#[]⟩, .string ⟨#[76, 77, 84]⟩, .bool true, .int .i64 1870, .int .i64 6, .int .i64 1, .int .i64 0, .int .i64 15, .int .i64 0, .int .i64 0] 60)
    have KE := Lib.hid (heap_alloc_new w10 (.cells #[.int .i64 eo, .int .i64 ek, .int .i64 ev, .string et, .string ef, .bool ei, .int .i64 ey, .int .i64 em, .int .i64 ed, .int .i64 ew, .int .i64 ea, .int .i64 ec, .int .i64 eb, .int .i64 0, .int .i64 0, .int .i64 0, .string ⟨#[]⟩, .string ⟨#[76, 77, 84]⟩, .bool true, .int .i64 1870, .int .i64 6, .int .i64 1, .int .i64 0, .int .i64 15, .int .i64 0, .int .i64 0] 60))
    have HW10 := Lib.hid (show B0 ≤ w10.heap.size from Nat.le_trans hge (Nat.le_of_lt (HER.out.lt ge rfl).2))
    refine hK.out _ _ ⟨cellB (block_below KS.out hb) (i := 1) rfl, cell_below hb x0.out, cell_below hb x1.out, cell_below hb x2.out, cell_below hb x3.out, cell_below hb x4.out, cell_below hb x5.out, cell_below hb x6.out, cell_below hb x7.out, cell_below hb x8.out, cell_below hb x9.out, cell_below hb x10.out, cell_below hb x11.out, cell_below hb x12.out⟩ (fun hHeld => ?_)
    clear hK K
    try simp only [Act.put, List.getElem_toArray, List.getElem_cons_succ, List.getElem_cons_zero, List.setIfInBounds_toArray, List.set_cons_zero, List.set_cons_succ]
    have HW11 := Lib.hid hb.size
    have HW10b := Lib.hid (show gz < w10.heap.size from (HZP.out.2.1.lt gz rfl).2)
    generalize w10.alloc (.cells #[.int .i64 eo, .int .i64 ek, .int .i64 ev, .string et, .string ef, .bool ei, .int .i64 ey, .int .i64 em, .int .i64 ed, .int .i64 ew, .int .i64 ea, .int .i64 ec, .int .i64 eb, .int .i64 0, .int .i64 0, .int .i64 0, .string ⟨#[]⟩, .string ⟨#[76, 77, 84]⟩, .bool true, .int .i64 1870, .int .i64 6, .int .i64 1, .int .i64 0, .int .i64 15, .int .i64 0, .int .i64 0] 60) = w11 at *
    have HON := Lib.hid (show w11.ownsRow w10.heap.size 60 13 (.slice (some ⟨w10.heap.size, 0, none⟩) 2 2) 2 (flatEr [⟨eo, ek, ev, et, ef, ei, ey, em, ed, ew, ea, ec, eb⟩, erL]) from ⟨rfl, .inr ⟨_, _, _, rfl, Nat.le_refl _, KE.out, Nat.le_refl _, by unfold maxLen; omega, rfl, rfl⟩⟩)
    have htl := own_tail (ht9 ▸ own_below17 HER.out hb)
    refine wpAnyH_ready (rs := [11]) (by kernel_rfl) (by simp) ?_
    refine AllReadyH.cons rfl (fun K hK => ?_) AllReadyH.nil
    refine step_append_lies _ (by rfl) (.tmp 110) (.tmp 112) 43 (by rfl) w10.heap.size 60 i9 (.agg #[.int .i64 0, .int .i64 0, .int .i64 0, .string ⟨#[]⟩, .string ⟨#[]⟩, .bool false, .int .i64 0, .int .i64 0, .int .i64 0, .int .i64 0, .int .i64 0, .int .i64 0, .int .i64 0]) 13 120 Tryd.underlying43 hi9 hz9 hzs9 hzb9 rfl (by decide) (.slice (some ⟨w10.heap.size, 0, none⟩) 2 2) 2 (flatEr [⟨eo, ek, ev, et, ef, ei, ey, em, ed, ew, ea, ec, eb⟩, erL]) (by rfl) HON.out ⟨ge, 13, none⟩ q (ce - 1) (flatEr t9) (by rfl) (by rw [flatEr_len, htq]) htl (flatEr_one t9) (by omega) (by unfold maxLen; omega) (by omega) (by exact HW11.out) _ rfl ?_
    intro g4 c4 w12 hown4 hgrow4 hat4 hlt4
    have hb12 : Below w10.heap.size w10 w12 := hb.trans (below_grownM hgrow4 (Nat.le_refl _) (bk2m KE.out))
    refine hK.out _ _ ⟨cellB (block_below KS.out hb12) (i := 1) rfl, cell_below hb12 x0.out, cell_below hb12 x1.out, cell_below hb12 x2.out, cell_below hb12 x3.out, cell_below hb12 x4.out, cell_below hb12 x5.out, cell_below hb12 x6.out, cell_below hb12 x7.out, cell_below hb12 x8.out, cell_below hb12 x9.out, cell_below hb12 x10.out, cell_below hb12 x11.out, cell_below hb12 x12.out⟩ (fun hHeld => ?_)
    clear hK K
    try simp only [Act.put, List.getElem_toArray, List.getElem_cons_succ, List.getElem_cons_zero, List.setIfInBounds_toArray, List.set_cons_zero, List.set_cons_succ]
    replace x0 := Lib.hid (cell_below hb12 x0.out)
    replace x1 := Lib.hid (cell_below hb12 x1.out)
    replace x2 := Lib.hid (cell_below hb12 x2.out)
    replace x3 := Lib.hid (cell_below hb12 x3.out)
    replace x4 := Lib.hid (cell_below hb12 x4.out)
    replace x5 := Lib.hid (cell_below hb12 x5.out)
    replace x6 := Lib.hid (cell_below hb12 x6.out)
    replace x7 := Lib.hid (cell_below hb12 x7.out)
    replace x8 := Lib.hid (cell_below hb12 x8.out)
    replace x9 := Lib.hid (cell_below hb12 x9.out)
    replace x10 := Lib.hid (cell_below hb12 x10.out)
    replace x11 := Lib.hid (cell_below hb12 x11.out)
    replace x12 := Lib.hid (cell_below hb12 x12.out)
    replace HER := Lib.hid (own_below17 HER.out hb12)
    replace HZP := Lib.hid (HZP.out.below hb12)
    replace HRO := Lib.hid (own_below17 HRO.out hb12)
    replace KS := Lib.hid (block_below KS.out hb12)
    replace HB := Lib.hid (bel_trans HB.out hb12)
    have hg4 := (hown4.lt g4 rfl).1
    have hrd : RdEr (.slice (some ⟨g4, 0, none⟩) (2 + q) c4) (⟨eo, ek, ev, et, ef, ei, ey, em, ed, ew, ea, ec, eb⟩ :: erL :: t9) w12 := by
      have e7 : ((⟨eo, ek, ev, et, ef, ei, ey, em, ed, ew, ea, ec, eb⟩ : Er) :: erL :: t9).length = 2 + q := by simp only [_root_.List.length_cons]; omega
      rw [← flatEr_app] at hown4
      have h := rdEr_own (es := (⟨eo, ek, ev, et, ef, ei, ey, em, ed, ew, ea, ec, eb⟩ : Er) :: erL :: t9) (v := .slice (some ⟨g4, 0, none⟩) (2 + q) c4) (w := w12) (base := w10.heap.size) (by rw [e7]; exact hown4)
      exact h
    have HRDE := Lib.hid hrd
    have hgz10 : gz < w10.heap.size := by have := HW10b.out; omega
    have hput := OwnZp.put HZP.out HZE1.out.symm HZI1.out hrd (fun b hbq => by simp [Value.ownBlock] at hbq; omega) ⟨g4, 2 + q, c4, rfl⟩
    obtain ⟨⟨y0, hy0⟩, hf0⟩ := ownCz HZP.out.2.1 (j := i * 2 + 1) (by rw [HZE1.out]; omega)
    clear hown4 hgrow4 hat4 hlt4 hb12 hb HON htl KE hrd
    refine wpAnyH_take (i := 12) (v := ?_) rfl (by kernel_rfl) (by kernel_rfl) (by kernel_rfl) (fun _ _ _ h => h) (Or.inl ⟨by rfl, ?_⟩) (by assumption) ?_
    rotate_left 1
    · (intro w hSw; (try dsimp only at hSw); first | (go_simp; done) | (go_simp; with_reducible rfl))
    try simp only [Act.put, List.getElem_toArray, List.getElem_cons_succ, List.getElem_cons_zero, List.setIfInBounds_toArray, List.set_cons_zero, List.set_cons_succ]
    refine wpAnyH_take (i := 13) (v := ?_) rfl (by kernel_rfl) (by kernel_rfl) (by kernel_rfl) (fun _ _ _ h => h) (Or.inl ⟨by rfl, ?_⟩) (by assumption) ?_
    rotate_left 1
    · (intro w hSw; (try dsimp only at hSw); first | (go_simp; done) | (go_simp; with_reducible rfl))
    try simp only [Act.put, List.getElem_toArray, List.getElem_cons_succ, List.getElem_cons_zero, List.setIfInBounds_toArray, List.set_cons_zero, List.set_cons_succ]
    refine wpAnyH_ready (rs := [14]) (by kernel_rfl) (by simp) ?_
    refine AllReadyH.cons rfl (fun K hK => ?_) AllReadyH.nil
    rw [if_pos (by rfl)]
    go_simp
    have hgs := grownM_set (j := i * 2 + 1) (v := .slice (some ⟨g4, 0, none⟩) (2 + q) c4) (grownM_refl w12 (some gz))
    have hlg12 : gz < w12.heap.size := (HZP.out.2.1.lt gz rfl).2
    refine hK.out _ _ ⟨cellB (blk_grownM KS.out hgs (by omega)) (i := 1) rfl, hgs.cell x0.out (fun e => hgzge (Option.some.inj e).symm), hgs.cell x1.out (fun e => hgzge (Option.some.inj e).symm), hgs.cell x2.out (fun e => hgzge (Option.some.inj e).symm), hgs.cell x3.out (fun e => hgzge (Option.some.inj e).symm), hgs.cell x4.out (fun e => hgzge (Option.some.inj e).symm), hgs.cell x5.out (fun e => hgzge (Option.some.inj e).symm), hgs.cell x6.out (fun e => hgzge (Option.some.inj e).symm), hgs.cell x7.out (fun e => hgzge (Option.some.inj e).symm), hgs.cell x8.out (fun e => hgzge (Option.some.inj e).symm), hgs.cell x9.out (fun e => hgzge (Option.some.inj e).symm), hgs.cell x10.out (fun e => hgzge (Option.some.inj e).symm), hgs.cell x11.out (fun e => hgzge (Option.some.inj e).symm), hgs.cell x12.out (fun e => hgzge (Option.some.inj e).symm)⟩ (fun hHeld => ?_)
    clear hK K hy0 hf0
    try simp only [Act.put, List.getElem_toArray, List.getElem_cons_succ, List.getElem_cons_zero, List.setIfInBounds_toArray, List.set_cons_zero, List.set_cons_succ]
    refine wpAnyH_done (by kernel_rfl) ?_ _
    refine NoPanic.normal ?_
    clear hHeld
    have HRZ := Lib.hid hput
    replace KS := Lib.hid (blk_grownM KS.out hgs (by omega))
    replace HRO := Lib.hid (HRO.out.kept hgs (own_two HRO.out HZP.out.2.1 (by decide)))
    replace HB := Lib.hid (HB.out.trans (below_grownM hgs (by omega) hlg12))
    have hlz3 : (zs1.set i (nm, ⟨eo, ek, ev, et, ef, ei, ey, em, ed, ew, ea, ec, eb⟩ :: erL :: t9)).length = Z := by rw [_root_.List.length_set]; exact HZE1.out
    clear hput hgs
    generalize w12.setCell ⟨gz, i * 2 + 1, none⟩ _ = w13 at *
    have s0 := cellB KS.out (i := 0) rfl
    have s1 := cellB KS.out (i := 1) rfl
    have s2 := cellB KS.out (i := 2) rfl
    have s3 := cellB KS.out (i := 3) rfl
    go_wp2_with fail
    clear s0 s1 s2 s3
    refine (spansO_any (some ⟨gz, 0, none⟩) Z zc i ra la none nr rc ln lc 0 0 rs (zs1.set i (nm, ⟨eo, ek, ev, et, ef, ei, ey, em, ed, ew, ea, ec, eb⟩ :: erL :: t9)) nm (⟨eo, ek, ev, et, ef, ei, ey, em, ed, ew, ea, ec, eb⟩ :: erL :: t9) _ (by exact HT.out.below HB.out) (by exact rul_of_own (rs := rs) (by rw [← HNR.out]; exact HRO.out) (by rw [← HNR.out]; exact hrl) HFIT.out) (by exact (hlz3 ▸ HRZ.out)) (_root_.List.getElem?_set_self (_root_.List.getElem?_eq_some_iff.1 HZI1.out).1) (by omega) (by simp only [_root_.List.length_cons]; omega) (by simp only [_root_.List.length_cons]; omega) (by exact putIn_ok HJ1.out ht9 (fun e => by rw [e] at htq; simp at htq; omega))).mono ?_
    rintro ex w14 ⟨(⟨v2, ts2, h1, h2, h3, rfl, h5⟩ | ⟨-, rfl⟩), hb⟩
    · exact (putIn_wrong HJ1.out ht9 (fun e => by rw [e] at htq; simp at htq; omega) h1 h2 h3).elim
    replace HB := Lib.hid (bel_trans HB.out hb)
    clear hb
    go_wp2_with fail
    refine (works23_any _ (by exact (HT.out.below HB.out))).mono ?_
    rintro e w9 ⟨rfl, hb⟩
    have HB := Lib.hid (bel_trans HB.out hb)
    clear hb
    go_wp2_with fail
    go_ret
    exact ⟨rfl, HB.out⟩

set_option maxRecDepth 100000 in
theorem erasWrong.erasWrong_walk (W : World) (hL : laidMetH Tryd.prog Rows.erasWrongRow.laid W) (v : Value) {H : Type} {enc : TypeId × Value → H} {base : Nat} {d : DataW H} {p : List MemPlace} (hv : Value.okWide Tryd.prog W .any base 35 v)
    (h : DataW.Trod enc Tryd.prog W 0 (fun _ => true) true 35 v d p) (zn : Int) (wz : (Lit.int .u8 zn).wf = true) (wh : Int) (ww : (Lit.int .u8 wh).wf = true) :
    Calls Tryd.prog 6 #[v, .int .u8 zn, .int .u8 wh] W fun e w' => e = .returned (.bool true) ∧ Below W.heap.size W w' := by
  obtain ⟨v1, v2, v3, n1, n2, n3, sl, zr, ll, rfl, h1, h2, h3⟩ := draft23_of hv h
  have hT : Tabs W := tabs5_of (show laidMetH Tryd.prog Rows.erasWholeRow.laid W from hL)
  have k1 := h1; have k2 := h2; have k3 := h3
  obtain ⟨A1, c1, rfl, _⟩ := k1
  obtain ⟨A2, c2, rfl, _⟩ := k2
  obtain ⟨A3, c3, rfl, _⟩ := k3
  exact erasWrong_core A1 A2 A3 n1 n2 n3 c1 c2 c3 sl zr ll zn wh W hT h1 h2 h3 wz ww
end Go.Proofs.YtdppmeeobpbfnaaDoor
