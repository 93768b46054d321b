/-
  The walk of the law ErasWhole.
-/
import Derived.Test.YtdppmeeobpbfnaaDoorErMdV
import Derived.Test.YtdppmeeobpbfnaaDoorErWholeL
namespace Go.Proofs.YtdppmeeobpbfnaaDoor
open Go.RowKit Cv
set_option linter.unusedVariables false
set_option linter.unusedSimpArgs false


set_option maxRecDepth 100000 in
set_option maxHeartbeats 16000000 in
theorem erasWhole_core (A1 A2 A3 : Option Addr) (n1 n2 n3 c1 c2 c3 : Nat) (sl : _root_.List (_root_.List Int)) (zr : _root_.List (Nat × _root_.List De)) (ll : _root_.List Int) (t : Int) (W : World) (hT : Tabs W) (hS : RdDs (.slice A1 n1 c1) n1 sl W) (hZ : RdDz (.slice A2 n2 c2) n2 zr W) (hLk : RdDl (.slice A3 n3 c3) n3 ll W) (wt : (Lit.int .i64 t).wf = true) :
    Calls Tryd.prog 4 #[.agg #[.slice A1 n1 c1, .slice A2 n2 c2, .slice A3 n3 c3], .int .i64 t] W fun e w' => e = .returned (.bool true) ∧ Below W.heap.size W w' := by
  have HT := Lib.hid hT
  have HB := Lib.hid (bel_alloc W (.cells #[.slice A1 n1 c1, .slice A2 n2 c2, .slice A3 n3 c3] 35))
  have KD := Lib.hid (heap_alloc_new W (.cells #[.slice A1 n1 c1, .slice A2 n2 c2, .slice A3 n3 c3] 35))
  have HZ4 := Lib.hid (rdDz_four hZ)
  have HS := Lib.hid (hS.below HB.out); have HZ := Lib.hid (hZ.below HB.out); have HLk := Lib.hid (hLk.below HB.out)
  have HWT := Lib.hid (i64_of wt)
  have hne := neSp
  clear hT hS hZ hLk wt
  go_enter Tryd.func4, Tryd.ntmps4
  have d0 := cellB KD.out (i := 0) rfl
  have d1 := cellB KD.out (i := 1) rfl
  have d2 := cellB KD.out (i := 2) rfl
  go_wp2_with fail
  clear d0 d1 d2
  refine (made23_any A1 A2 A3 n1 n2 n3 c1 c2 c3 sl zr ll _ (by exact HS.out) (by exact HZ.out) (by exact HLk.out)).mono ?_
  rintro e w1 ⟨rv, zv, la, ln, lc, rs, ps, rfl, hrv, hro, hzp, hb⟩
  have hSd := normD_13 sl (rdDs_three HS.out)
  obtain ⟨S, hSe⟩ : ∃ S, S = (normD sl).length := ⟨_, rfl⟩
  rw [← hSe] at hrv hzp hSd
  have hlen := hrv.len
  have HRUL := Lib.hid (rul_of_own hro (by omega) hrv.fits)
  have hzok := zones_ok (S := S) hrv hSd HZ4.out
  have hrz := hzp.rd
  have hzl := normZ_len (zr.map fun p => p.2)
  have hz3 := rdDz_three HZ.out
  obtain ⟨ra, rc, rfl⟩ := own_sl hro
  obtain ⟨za, zc, rfl⟩ := own_sl hzp.2.1
  generalize hzs : zonesUp (S : Int) (normZ (zr.map fun p => p.2)) (normZ (zr.map fun p => p.2)).length = zs at *
  have hZl : zs.length = (normZ (zr.map fun p => p.2)).length := by rw [← hzs, zonesUp_len]
  have hZ3 : zs.length ≤ 3 := by rw [hZl, hzl, _root_.List.length_map]; omega
  obtain ⟨Z, hZe⟩ : ∃ Z, Z = zs.length := ⟨_, rfl⟩
  obtain ⟨nr, hnr⟩ : ∃ nr, nr = rs.length := ⟨_, rfl⟩
  have HZOK := Lib.hid hzok
  have HRZ := Lib.hid hrz
  rw [← hZe] at hZ3 HRZ
  rw [← hZe]
  rw [← hnr] at HRUL ⊢
  have HZE := Lib.hid hZe
  have HB := Lib.hid (bel_trans HB.out hb)
  clear hb hro hzp hrz hzok hzl hz3 hzs hZl hlen hrv hSe hSd HS HZ HLk HZ4 hnr hZe KD
  have hbs := bel_alloc w1 (.cells #[.slice ra nr rc, .slice za Z zc, .slice la ln lc, .slice none 0 0] 41)
  have KS := Lib.hid (heap_alloc_new w1 (.cells #[.slice ra nr rc, .slice za Z zc, .slice la ln lc, .slice none 0 0] 41))
  have HRUL := Lib.hid (HRUL.out.below hbs)
  have HRZ := Lib.hid (HRZ.out.below hbs)
  have HB := Lib.hid (bel_trans HB.out hbs)
  clear hbs
  have s0 := cellB KS.out (i := 0) rfl
  have s1 := cellB KS.out (i := 1) rfl
  have s2 := cellB KS.out (i := 2) rfl
  have s3 := cellB KS.out (i := 3) rfl
  go_wp2_with fail
  clear s0 s1 s2 s3
  have HTs := Lib.hid (HT.out.below HB.out)
  generalize hw2 : w1.alloc (.cells #[.slice ra nr rc, .slice za Z zc, .slice la ln lc, .slice none 0 0] 41) = w2 at *
  clear hw2
  generalize w1.heap.size = bs at *
  go_loopw [26] (fun tv wr => ∃ (i : Nat) (wq : World), i ≤ Z ∧ tv = .int .i64 (i : Int) ∧ wr = wq ∧ Hid (Below w2.heap.size w2 wq)) (fun tv _ => Z - (intOf tv).toNat)
  case atStart => exact ⟨0, _, by omega, rfl, rfl, Lib.hid (Below.refl _ _)⟩
  case round =>
    obtain ⟨i, wq, hi, rfl, rfl, HBR⟩ := hrel
    by_cases hlt : i < Z
    · have k0 : (0 : Int) ≤ (i : Int) := by omega
      have kS : (i : Int) < (Z : Int) := by omega
      obtain ⟨⟨nm, es⟩, hz⟩ : ∃ z, zs[i]? = some z := ⟨_, _root_.List.getElem?_eq_getElem (by rw [← HZE.out]; exact hlt)⟩
      obtain ⟨Y, hj, hm1, hm4⟩ := HZOK.out i nm es hz
      have HJ := Lib.hid hj
      have HRZ2 := HRZ.out.below HBR.out
      obtain ⟨g, off, vz, rfl, z0, z1, hE⟩ := RdZo.at_ HRZ2 hz
      obtain ⟨Ae, ce, rfl⟩ := hE.sl
      obtain ⟨m, hm⟩ : ∃ m, m = es.length := ⟨_, rfl⟩
      rw [← hm] at z1 hm1 hm4
      have HM := Lib.hid hm
      have HZI := Lib.hid hz
      have HRZ2 := Lib.hid HRZ2
      clear hE hj hm hz
      skip
      have hbz := bel_alloc wr (.cells #[.string nm, .slice Ae m ce] 45)
      have KZ := Lib.hid (heap_alloc_new wr (.cells #[.string nm, .slice Ae m ce] 45))
      have KS2 := Lib.hid (block_below (block_below KS.out HBR.out) hbz)
      have HR2 := Lib.hid ((HRUL.out.below HBR.out).below hbz)
      have HRZ3 := Lib.hid (HRZ2.out.below hbz)
      have HT2 := Lib.hid ((HTs.out.below HBR.out).below hbz)
      have HB2 := Lib.hid (bel_trans HBR.out hbz)
      clear hbz HRZ2
      have s0 := cellB KS2.out (i := 0) rfl
      have s1 := cellB KS2.out (i := 1) rfl
      have s2 := cellB KS2.out (i := 2) rfl
      have s3 := cellB KS2.out (i := 3) rfl
      go_wp2_with fail
      clear z0 z1 s0 s1 s2 s3
      refine (spansG_any (some ⟨g, off, none⟩) Z zc i ra la none nr rc ln lc 0 0 rs zs nm es _ (by exact HT2.out) (by exact HR2.out) (by exact HRZ3.out) HZI.out (by omega) (by rw [← HM.out]; omega) (by rw [← HM.out]; omega) (by exact HJ.out.ok)).mono ?_
      rintro ex w3 ⟨(⟨v, ts, h1, h2, h3, rfl, h5⟩ | ⟨hw, -⟩), hb⟩
      rotate_left 1
      · exact absurd hw HJ.out.notWrong
      have HG := Lib.hid (spans_ok HJ.out (by rw [← HM.out]; omega) h1 h2)
      have hLl : (spl (-9223372036854775808) 0 (ts ++ [9223372036854775807])).length = m := by rw [spl_len, HM.out, ← h1]; simp
      generalize spl (-9223372036854775808) 0 (ts ++ [9223372036854775807]) = L at *
      obtain ⟨Al, cl, hv⟩ := h5.sl
      rw [hLl] at hv
      subst hv
      have HRL := Lib.hid h5
      have HLL := Lib.hid hLl
      have KZ := Lib.hid (block_below KZ.out hb)
      have HB2 := Lib.hid (bel_trans HB2.out hb)
      obtain ⟨q, hq⟩ : ∃ q, m = q + 1 := ⟨m - 1, by omega⟩
      have x0 := _root_.List.getElem?_eq_getElem (l := L) (i := 0) (by omega)
      obtain ⟨xz, xq⟩ : ∃ z, L[q]? = some z := ⟨_, _root_.List.getElem?_eq_getElem (by omega)⟩
      obtain ⟨g0, o0, ha0, p0, -, -⟩ := RdSp.at_ h5 x0
      obtain ⟨g1, o1, ha1, -, p1, -⟩ := RdSp.at_ h5 xq
      rw [HG.out.first _ x0, Nat.zero_mul, Nat.add_zero] at p0
      have elq : L.length - 1 = q := by omega
      have xl : L[L.length - 1]? = some xz := by rw [elq]; exact xq
      rw [HG.out.last _ xl] at p1
      subst ha0
      injection ha1 with ha1
      injection ha1 with hg9 ho9 _
      subst hg9 ho9
      have m1 : (m : Int) - 1 = (q : Int) := by omega
      have m2 : IntKind.i64.wrap (q : Int) = (q : Int) := IntWalk.i64_in _ (by omega)
      have m3 : (0 : Int) ≤ (q : Int) := by omega
      have m4 : (q : Int) < (m : Int) := by omega
      have m5 : ((m : Int) == 0) = false := by simp; omega
      have m6 : (0 : Int) < (m : Int) := by omega
      have m7 : 0 < m := by omega
      have m8 : (m == 0) = false := by simp; omega
      have m9 : (m : Int) ≠ 0 := by omega
      have m10 : m ≠ 0 := by omega
      have hm10 : m ≤ 10 := by omega
      clear h1 h2 h3 h5 hLl hb hq x0 xq xl elq
      have y0 := cellB KZ.out (i := 0) rfl
      have y1 := cellB KZ.out (i := 1) rfl
      go_wp2_with fail
      clear p0 p1 y0 y1 m1 m2 m3 m4 m5 m6 m8 m9 m10
      refine wh_loop2 (by kernel_rfl) m cl _ t L w3 (by rw [HLL.out]; omega) hm10 HLL HG HRL _ _ _ _ _ _ _ _ _ _ _ _ _ _ _ _ _ _ _ _ _ _ _ _ _ _ _ _ _ _ _ _ _ _ _ _ _ _ _ _ _ _ _ _ _ _ _ _ _ _ _ _ _ _ _ _ _ _ _ _ _ _ _ _ _ _ _ _ _ _ _ _ _ _ _ _ _ _ _ _ _ _ _ _ _ _ _ _ _ _ _ _ _ _ _ _ _ _ _ _ _ _ _ _ _ _ _ _ _ _ _ _ _ _ _ _ _ _ _ _ _ _ _ _ _ _ _ _ _ _ _ _ _ _ _ _ _ _ _ _ _ _ _ _ _ _ _ _ _ _ _ _ _ _ _ _ _ _ _ _ _ _ _ _ _ _ _ _ _ _ _ _ _ _ _ _ _ _ _ _ _ _ _ (Lib.hid ?_)
      intro v4 v10 v11 v12 v14 v15 v16 v17 v18 v71 v72 v73 v74 v75 v76 v77 v78 v79 v80 v81 v82 v83 v84 v85 v86 v87 v88 v89 v90 v91 v92 v93 v94 v95 v96 v97 v98 v99 v100 v101 v102 v103 v104 v105 v106 v107 v108 v109 v110 v111 v112 v113 v114 v115 v116 v117 v118 v119 v120 v121 v122 v123 v124 v125 v126 v127 v128 v129 v130 v131 v132 v133 v134 v135 v136 v137 v138 v139 v140 v141 v142 v143 v144 v145 v146 v147 v148 v149 v150 v151 v152 v153 v154 v155 v156 v157 v158 v159 v160 v161 v162 v163 v164 v165 v166 v167 v168 v169 v170 v171 v172 w5 HQ
      obtain ⟨fnd, rfl, hfm, HFN, HB3⟩ := HQ
      have HRL := Lib.hid (HRL.out.below HB3.out)
      have HB2 := Lib.hid (bel_trans HB2.out HB3.out)
      clear HB3
      go_wp2_with fail
      refine (find_any _ L 9223372036854775807 _ (by exact HRL.out) (by rw [HLL.out]; omega)).mono ?_
      intro e w6 hq; obtain ⟨rfl, hb⟩ := FindR.to (v := .tuple #[.agg #[.int .i64 0, .int .i64 0, .int .i64 0], .bool false]) HG.out.notMax rfl _ _ hq; clear hq
      have HB2 := Lib.hid (bel_trans HB2.out (bel_trans hb (bel_alloc w6 (.cells #[.int .i64 0, .int .i64 0, .int .i64 0] 26))))
      clear hb
      by_cases ht : t = 9223372036854775807
      · subst ht
        by_cases hf1 : fnd = 1
        · subst hf1
          go_wp2_with fail
          go_round
          case rel => exact ⟨i + 1, _, by omega, by go_num, rfl, HB2⟩
          case measure => simp [intOf]; omega
        · have f1 : (fnd : Int) ≠ 1 := by omega
          have f2 : ((fnd : Int) == 1) = false := by simp; omega
          have f3 : ((fnd : Int) != 1) = true := by simp; omega
          go_wp2_with fail
          go_round
          case rel => exact ⟨i + 1, _, by omega, by go_num, rfl, HB2⟩
          case measure => simp [intOf]; omega
      · have hf1 : fnd = 1 := by have := HG.out.one (t := t) (by have := HWT.out; omega) (by have := HWT.out; omega); rw [HLL.out] at this; rw [HFN.out]; exact this
        subst hf1
        go_wp2_with fail
        go_round
        case rel => exact ⟨i + 1, _, by omega, by go_num, rfl, HB2⟩
        case measure => simp [intOf]; omega
    · obtain rfl : i = Z := by omega
      have kS : ¬ (i : Int) < (i : Int) := by omega
      go_wp2_with fail
      refine (works23_any _ (by exact (HTs.out.below HBR.out))).mono ?_
      rintro e w5 ⟨rfl, hb⟩
      have HB := Lib.hid (bel_trans (bel_trans HB.out HBR.out) hb)
      clear hb
      go_wp2_with fail
      go_ret
      exact ⟨rfl, HB.out⟩

set_option maxRecDepth 100000 in
theorem erasWhole.erasWhole_walk (W : World) (hL : laidMetH Tryd.prog Rows.erasWholeRow.laid W) (v : Value) {H : Type} {enc : TypeId × Value → H} {base : Nat} {d : DataW H} {p : List MemPlace} (hv : Value.okWide Tryd.prog W .any base 35 v)
    (h : DataW.Trod enc Tryd.prog W 0 (fun _ => true) true 35 v d p) (t : Int) (wt : (Lit.int .i64 t).wf = true) :
    Calls Tryd.prog 4 #[v, .int .i64 t] W fun e w' => e = .returned (.bool true) ∧ Below W.heap.size W w' := by
  obtain ⟨v1, v2, v3, n1, n2, n3, sl, zr, ll, rfl, h1, h2, h3⟩ := draft23_of hv h
  have hT : Tabs W := tabs5_of hL
  have k1 := h1; have k2 := h2; have k3 := h3
  obtain ⟨A1, c1, rfl, _⟩ := k1
  obtain ⟨A2, c2, rfl, _⟩ := k2
  obtain ⟨A3, c3, rfl, _⟩ := k3
  exact erasWhole_core A1 A2 A3 n1 n2 n3 c1 c2 c3 sl zr ll t W hT h1 h2 h3 wt
end Go.Proofs.YtdppmeeobpbfnaaDoor
