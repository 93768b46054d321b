/-
  What analemmalaw23.Draft.Made answers: its three loops put together.
-/
import Derived.Test.YtdppmeeobpbfnaaDoorErMdZ
import Derived.Test.YtdppmeeobpbfnaaDoorErMdL
namespace Go.Proofs.YtdppmeeobpbfnaaDoor
open Go.RowKit Cv
set_option linter.unusedVariables false
set_option linter.unusedSimpArgs false

namespace Cv
def normD (l : _root_.List (_root_.List Int)) : _root_.List (_root_.List Int) := if l = [] then [[]] else l
def normR (l : _root_.List (Nat × _root_.List De)) : _root_.List (Nat × _root_.List De) := if l = [] then [(0, [])] else l
theorem normR_z (l : _root_.List (Nat × _root_.List De)) : (normR l).map (fun p => normE p.2) = normZ (l.map fun p => p.2) := by
  unfold normR normZ
  by_cases h : l = []
  · subst h; rfl
  · rw [if_neg h, if_neg (by simpa using h), _root_.List.map_map]; rfl
theorem normR_len (l : _root_.List (Nat × _root_.List De)) : (normR l).length = max 1 l.length := by
  unfold normR
  cases l with
  | nil => rfl
  | cons a r => rw [if_neg (by simp)]; simp only [_root_.List.length_cons]; omega
theorem normD_len (l : _root_.List (_root_.List Int)) : (normD l).length = max 1 l.length := by
  unfold normD
  cases l with
  | nil => rfl
  | cons a r => rw [if_neg (by simp)]; simp only [_root_.List.length_cons]; omega
theorem OwnZp.grownM {base mb : Nat} {v : Value} {zs : _root_.List (ByteArray × _root_.List Er)} {ps : _root_.List (ByteArray × Value)} {A B : World} (h : OwnZp base v zs ps A) (hg : A.grownBy B (some mb)) (hm : mb < base) : OwnZp base v zs ps B := by
  obtain ⟨h1, h2, h3, h4⟩ := h
  exact ⟨h1, own_grownM h2 hg hm, fun i z hz => by obtain ⟨p, q1, q2, q3⟩ := h3 i z hz; exact ⟨p, q1, q2, own_grownM q3 hg hm⟩, h4⟩
theorem OwnZp.mono {b0 base : Nat} {v : Value} {zs : _root_.List (ByteArray × _root_.List Er)} {ps : _root_.List (ByteArray × Value)} {A : World} (h : OwnZp base v zs ps A) (hb : b0 ≤ base) : OwnZp b0 v zs ps A := by
  obtain ⟨h1, h2, h3, h4⟩ := h
  exact ⟨h1, h2.mono hb, fun i z hz => by obtain ⟨p, q1, q2, q3⟩ := h3 i z hz; exact ⟨p, q1, q2, q3.mono hb⟩, h4⟩
theorem rdDe_nil (w : World) : RdDe (.slice none 0 0) 0 [] w := ⟨none, 0, rfl, Nat.le_refl _, Nat.zero_le _, rfl, fun i x h => by simp at h⟩
end Cv


set_option maxRecDepth 100000 in
set_option maxHeartbeats 16000000 in
theorem made23_any (A1 A2 A3 : Option Addr) (n1 n2 n3 c1 c2 c3 : Nat) (sl : _root_.List (_root_.List Int)) (zr : _root_.List (Nat × _root_.List De)) (ll : _root_.List Int) (W : World) (hS : RdDs (.slice A1 n1 c1) n1 sl W) (hZ : RdDz (.slice A2 n2 c2) n2 zr W) (hLk : RdDl (.slice A3 n3 c3) n3 ll W) :
    Calls Tryd.prog 12 #[.agg #[.slice A1 n1 c1, .slice A2 n2 c2, .slice A3 n3 c3]] W (SrcR (normD sl) (normZ (zr.map fun p => p.2)) W) := by
  have HB := Lib.hid (show Below W.heap.size W (((W.alloc (.cells #[.slice A1 n1 c1, .slice A2 n2 c2, .slice A3 n3 c3] 35)).alloc (.cells #[.slice none 0 0, .slice none 0 0, .slice none 0 0, .slice none 0 0] 41)).alloc (.cells #[.slice none 0 0, .slice none 0 0, .slice none 0 0, .slice none 0 0] 41)) from bel_trans (bel_trans (bel_alloc W _) (bel_alloc _ _)) (bel_alloc _ _))
  have K1 := Lib.hid (show (((W.alloc (.cells #[.slice A1 n1 c1, .slice A2 n2 c2, .slice A3 n3 c3] 35)).alloc (.cells #[.slice none 0 0, .slice none 0 0, .slice none 0 0, .slice none 0 0] 41)).alloc (.cells #[.slice none 0 0, .slice none 0 0, .slice none 0 0, .slice none 0 0] 41)).heap[W.heap.size]? = some (.cells #[.slice A1 n1 c1, .slice A2 n2 c2, .slice A3 n3 c3] 35) from alo (alo (aln (by simp))))
  have K2 := Lib.hid (show (((W.alloc (.cells #[.slice A1 n1 c1, .slice A2 n2 c2, .slice A3 n3 c3] 35)).alloc (.cells #[.slice none 0 0, .slice none 0 0, .slice none 0 0, .slice none 0 0] 41)).alloc (.cells #[.slice none 0 0, .slice none 0 0, .slice none 0 0, .slice none 0 0] 41)).heap[(W.heap.size + 1)]? = some (.cells #[.slice none 0 0, .slice none 0 0, .slice none 0 0, .slice none 0 0] 41) from alo (aln (by simp)))
  have K3 := Lib.hid (show (((W.alloc (.cells #[.slice A1 n1 c1, .slice A2 n2 c2, .slice A3 n3 c3] 35)).alloc (.cells #[.slice none 0 0, .slice none 0 0, .slice none 0 0, .slice none 0 0] 41)).alloc (.cells #[.slice none 0 0, .slice none 0 0, .slice none 0 0, .slice none 0 0] 41)).heap[(W.heap.size + 1 + 1)]? = some (.cells #[.slice none 0 0, .slice none 0 0, .slice none 0 0, .slice none 0 0] 41) from aln (by simp))
  obtain ⟨_, _, hs0, hs1, hs2, hs3, hs4⟩ := hS
  injection hs0 with hsa hsb hsc
  subst hsa hsc
  obtain ⟨_, _, hz0, hz1, hz2, hz3, hz4⟩ := hZ
  injection hz0 with hza hzb hzc
  subst hza hzc
  obtain ⟨_, _, hl0, hl1, hl2, hl3, hl4⟩ := hLk
  injection hl0 with hla hlb hlc
  subst hla hlc
  have HS := Lib.hid hs4; have HZ := Lib.hid hz4; have HLK := Lib.hid hl4
  have HLN := Lib.hid (And.intro hs3 (And.intro hz3 hl3))
  clear hs4 hz4 hl4 hsb hzb hlb hs3 hz3 hl3
  obtain ⟨S, hSe⟩ : ∃ S, S = (normD sl).length := ⟨_, rfl⟩
  have hSl := normD_len sl
  rw [← hSe, HLN.out.1] at hSl
  have HSE := Lib.hid hSe
  have hS13 : 1 ≤ S ∧ S ≤ 3 := by omega
  have HSL := Lib.hid hSl
  clear hSe hSl
  go_enter Tryd.func12, Tryd.ntmps12
  go_upto_region 2 with fail
  have d0 := cellB K1.out (i := 0) rfl
  go_cut [4] (fun v w' => v = .int .i64 (S : Int) ∧ w' = (((W.alloc (.cells #[.slice A1 n1 c1, .slice A2 n2 c2, .slice A3 n3 c3] 35)).alloc (.cells #[.slice none 0 0, .slice none 0 0, .slice none 0 0, .slice none 0 0] 41)).alloc (.cells #[.slice none 0 0, .slice none 0 0, .slice none 0 0, .slice none 0 0] 41)))
  case first =>
    by_cases h1 : n1 = 0
    · have hSS : S = 1 := by have := HSL.out; omega
      subst h1 hSS
      go_wp2_with fail
      go_meet
      case rel => exact ⟨rfl, rfl⟩
    · by_cases h2 : n1 ≤ 3
      · have hSS : S = n1 := by have := HSL.out; omega
        subst hSS
        have e1 : ¬ (3 : Int) < (S : Int) := by omega
        have e2 : decide ((3 : Int) < (S : Int)) = false := decide_eq_false e1
        by_cases h3 : S = 1
        · subst h3
          go_wp2_with fail
          go_meet
          case rel => exact ⟨rfl, rfl⟩
        · have e3 : (1 : Int) < (S : Int) := by omega
          have e4 : ¬ (S : Int) < 1 := by omega
          go_wp2_with fail
          go_meet
          case rel => exact ⟨rfl, rfl⟩
      · have hSS : S = 3 := by have := HSL.out; omega
        subst hSS
        have e1 : (3 : Int) < (n1 : Int) := by omega
        have e2 : ¬ (n1 : Int) < 3 := by omega
        go_wp2_with fail
        go_meet
        case rel => exact ⟨rfl, rfl⟩
  case rest =>
    obtain ⟨rfl, rfl⟩ := hcut
    clear d0
    have hw0 : (((W.alloc (.cells #[.slice A1 n1 c1, .slice A2 n2 c2, .slice A3 n3 c3] 35)).alloc (.cells #[.slice none 0 0, .slice none 0 0, .slice none 0 0, .slice none 0 0] 41)).alloc (.cells #[.slice none 0 0, .slice none 0 0, .slice none 0 0, .slice none 0 0] 41)).heap.size = W.heap.size + 1 + 1 + 1 := by rw [sz_alloc2, sz_alloc2, sz_alloc2]
    generalize hwe : (((W.alloc (.cells #[.slice A1 n1 c1, .slice A2 n2 c2, .slice A3 n3 c3] 35)).alloc (.cells #[.slice none 0 0, .slice none 0 0, .slice none 0 0, .slice none 0 0] 41)).alloc (.cells #[.slice none 0 0, .slice none 0 0, .slice none 0 0, .slice none 0 0] 41)) = w0 at *
    clear hwe
    go_wp2_with fail
    refine md_loop1 (by kernel_rfl) W S n1 c1 W.heap.size (W.heap.size + 1) (W.heap.size + 1 + 1) A1 _ _ sl (normD sl) w0 hS13 (by omega) HB (Lib.hid ⟨HLN.out.1, fun h => by have := HLN.out.1; rw [h] at this; have := _root_.List.length_eq_zero_iff.1 (this.trans rfl); rw [this]; rfl, fun h => by have := HLN.out.1; unfold normD; rw [if_neg (fun e => by rw [e] at this; simp at this; omega)], HSE.out.symm⟩) (Lib.hid HS.out) K1 K3 _ _ _ _ _ _ _ _ _ _ _ _ _ _ _ _ _ _ _ _ _ _ _ _ _ _ _ _ _ _ _ _ _ _ _ _ _ _ _ _ _ _ _ _ _ _ _ _ _ _ _ _ _ _ _ _ _ _ _ _ _ _ _ _ _ _ _ _ _ _ _ _ _ _ _ _ _ _ _ _ _ _ _ _ _ _ _ _ _ _ _ _ _ _ _ _ _ _ _ _ _ _ _ _ _ _ _ _ _ _ _ _ _ _ _ _ _ _ _ _ _ _ _ _ _ _ _ _ _ _ _ _ _ _ _ _ _ _ _ _ _ _ _ _ _ _ _ _ _ _ _ _ _ _ _ _ _ _ _ _ (Lib.hid ?_)
    intro v5 v6 v24 v25 v26 v27 v28 v29 v30 v31 v32 v33 v34 v35 v36 v37 v38 v39 v40 v41 v42 v43 v44 v45 v46 w1 HQ
    obtain ⟨rs, vr, HB1, K3, HR, HRV⟩ := HQ
    have hsz1 := HB1.out.size
    have HBa := Lib.hid (HB.out.trans (HB1.out.mono (by omega)))
    have K1 := Lib.hid ((HB1.out.block W.heap.size (by omega)).trans K1.out)
    have K2 := Lib.hid ((HB1.out.block (W.heap.size + 1) (by omega)).trans K2.out)
    clear HB HB1
    go_upto_region 11 with fail
    have d1 := cellB K1.out (i := 1) rfl
    go_cut [7] (fun v w' => ∃ m : Nat, v = .slice A2 m c2 ∧ Hid (m = zr.length) ∧ w1 = w')
    case first =>
      by_cases h2 : n2 ≤ 3
      · have e1 : ¬ (3 : Int) < (n2 : Int) := by omega
        have e2 : decide ((3 : Int) < (n2 : Int)) = false := decide_eq_false e1
        go_wp2_with fail
        go_meet
        case rel => exact ⟨n2, rfl, Lib.hid (by have := HLN.out.2.1; omega), rfl⟩
      · have e1 : (3 : Int) < (n2 : Int) := by omega
        have e2 : ¬ (n2 : Int) < 3 := by omega
        have e3 : 3 ≤ c2 := by omega
        go_wp2_with fail
        go_meet
        case rel => exact ⟨3, rfl, Lib.hid (by have := HLN.out.2.1; omega), rfl⟩
    case rest =>
      obtain ⟨m2, rfl, HM2, rfl⟩ := hcut
      clear d1
      go_upto_if 56 with fail
      go_cut [7] (fun v w' => ∃ (Az : Option Addr) (Z cz : Nat) (wz : World), v = .slice Az Z cz ∧ wz = w' ∧ Hid (Z = (normR zr).length) ∧ Hid (∀ (i : Nat) (x : Nat × _root_.List De), (normR zr)[i]? = some x → ∃ g off u, Az = some ⟨g, off, none⟩ ∧ g ≠ (W.heap.size + 1 + 1) ∧ w'.cell? ⟨g, off + i, none⟩ = some u ∧ RdDe u x.1 x.2 W) ∧ Hid (Below w1.heap.size w1 w'))
      case first =>
        by_cases h0 : zr = []
        · have hm0 : m2 = 0 := by have := HM2.out; rw [h0] at this; exact this
          have HN0 := Lib.hid (show normR zr = [(0, [])] by unfold normR; rw [if_pos h0])
          subst hm0
          go_wp2_with fail
          have hnw := heap_alloc_new w1 (.cells #[.slice none 0 0] 71)
          go_meet
          case rel =>
            refine ⟨_, 1, 1, _, rfl, rfl, Lib.hid (by rw [HN0.out]; rfl), Lib.hid (fun i x hx => ?_), Lib.hid (bel_alloc _ _)⟩
            rw [HN0.out] at hx
            obtain ⟨rfl, rfl⟩ : i = 0 ∧ (0, []) = x := by
              cases i with
              | zero => simp at hx; exact ⟨rfl, hx⟩
              | succ i => simp at hx
            exact ⟨_, 0, _, rfl, by omega, cellB hnw (i := 0) rfl, rdDe_nil W⟩
        · have HN0 := Lib.hid (show normR zr = zr by unfold normR; rw [if_neg h0])
          have hm0 : 0 < m2 := by have := HM2.out; have := _root_.List.length_pos_iff.2 h0; omega
          have hmi : (m2 : Int) ≠ 0 := by omega
          have hmd : ((m2 : Int) == 0) = false := by simp; omega
          go_wp2_with fail
          go_meet
          case rel =>
            refine ⟨A2, m2, c2, _, rfl, rfl, Lib.hid (by rw [HN0.out]; exact HM2.out), Lib.hid (fun i x hx => ?_), Lib.hid (Below.refl _ _)⟩
            rw [HN0.out] at hx
            obtain ⟨g, off, u, q1, q2, q3⟩ := HZ.out i x hx
            have hgl := lt_of_cell q2
            dsimp only at hgl
            exact ⟨g, off, u, q1, by omega, cell_below HBa.out q2, q3⟩
      case rest =>
        obtain ⟨Az, Z, cz, wz, rfl, rfl, HZL, HZD, HBz⟩ := hcut
        have hZ13 : 1 ≤ Z ∧ Z ≤ 3 := by have h1 := HZL.out; rw [normR_len] at h1; have := HLN.out.2.1; omega
        have K1 := Lib.hid (block_below K1.out HBz.out)
        have K2 := Lib.hid (block_below K2.out HBz.out)
        have K3 := Lib.hid (block_below K3.out HBz.out)
        have HR := Lib.hid (own_below17 HR.out HBz.out)
        have hszz := HBz.out.size
        have HBb := Lib.hid (HBa.out.trans (HBz.out.mono (by omega)))
        clear HBa HBz HM2
        go_wp2_with fail
        refine md_loop2 (by kernel_rfl) W S Z cz W.heap.size (W.heap.size + 1) (W.heap.size + 1 + 1) Az vr (normR zr) (normZ (zr.map fun p => p.2)) wz hS13 hZ13.2 (by omega) HBb (Lib.hid ⟨HZL.out.symm, (normR_z zr).symm⟩) HZD K3 _ _ _ _ _ _ _ _ _ _ _ _ _ _ _ _ _ _ _ _ _ _ _ _ _ _ _ _ _ _ _ _ _ _ _ _ _ _ _ _ _ _ _ _ _ _ _ _ _ _ _ _ _ _ _ _ _ _ _ _ _ _ _ _ _ _ _ _ _ _ _ _ _ _ _ _ _ _ _ _ _ _ _ _ _ _ _ _ _ _ _ _ _ _ _ _ _ _ _ _ _ _ _ _ _ _ _ _ _ _ _ _ _ _ _ _ _ _ _ _ _ _ _ _ _ _ _ _ _ _ _ _ _ _ _ _ _ _ _ _ _ _ _ _ _ _ _ _ _ _ _ _ _ _ _ _ _ _ _ (Lib.hid ?_)
        intro v8 v9 v10 v11 v12 v13 v60 v61 v62 v63 v64 v65 v66 v67 v68 v69 v70 v71 v72 v73 v74 v75 v76 v77 v78 v79 v80 v81 v82 v83 v84 v85 v86 v87 v88 v89 v90 v91 v92 v93 v94 v95 v96 v97 v98 v99 v100 v101 v102 v103 v104 v105 v106 v107 v108 v109 v110 v111 v112 v113 v114 v115 v116 w2 HQ
        obtain ⟨zv, ps, HG2, K3, HZP⟩ := HQ
        have hb3z : (W.heap.size + 1 + 1) < wz.heap.size := by omega
        have K1 := Lib.hid (blk_grownM K1.out HG2.out (by omega))
        have K2 := Lib.hid (blk_grownM K2.out HG2.out (by omega))
        have HR := Lib.hid (own_grownM HR.out HG2.out (by omega))
        have hsz2 := HG2.out.size
        have HBc := Lib.hid (HBb.out.trans (below_grownM HG2.out (show W.heap.size ≤ (W.heap.size + 1 + 1) by omega) hb3z))
        clear HBb HG2 HZD
        go_upto_region 30 with fail
        have d2 := cellB K1.out (i := 2) rfl
        go_cut [123, 124, 125] (fun a b c w' => ∃ m : Nat, a = .slice A3 m c3 ∧ b = .int .i64 (m : Int) ∧ c = .int .i64 0 ∧ Hid (m = ll.length) ∧ w2 = w')
        case first =>
          by_cases h2 : n3 ≤ 4
          · have e1 : ¬ (4 : Int) < (n3 : Int) := by omega
            have e2 : decide ((4 : Int) < (n3 : Int)) = false := decide_eq_false e1
            go_wp2_with fail
            go_meet
            case rel => exact ⟨n3, rfl, rfl, rfl, Lib.hid (by have := HLN.out.2.2; omega), rfl⟩
          · have e1 : (4 : Int) < (n3 : Int) := by omega
            have e2 : ¬ (n3 : Int) < 4 := by omega
            have e3 : 4 ≤ c3 := by omega
            go_wp2_with fail
            go_meet
            case rel => exact ⟨4, rfl, rfl, rfl, Lib.hid (by have := HLN.out.2.2; omega), rfl⟩
        case rest =>
          obtain ⟨ml, rfl, rfl, rfl, HML, rfl⟩ := hcut
          clear d2
          have hml4 : ml ≤ 4 := by have := HML.out; have := HLN.out.2.2; omega
          go_wp2_with fail
          refine md_loop4 (by kernel_rfl) S Z cz ml c3 W.heap.size (W.heap.size + 1) (W.heap.size + 1 + 1) Az A3 vr zv ll w2 hZ13 hml4 HML (Lib.hid (fun i x hx => by obtain ⟨q0, g, off, q1, q2⟩ := HLK.out i x hx; have hgl := lt_of_cell q2; dsimp only at hgl; exact ⟨q0, g, off, q1, by omega, cell_below HBc.out q2⟩)) K3 _ _ _ _ _ _ _ _ _ _ _ _ _ _ _ _ _ _ _ _ _ _ _ _ _ _ _ _ _ _ _ _ _ _ _ _ _ _ _ _ _ _ _ _ _ _ _ _ _ _ _ _ _ _ _ _ _ _ _ _ _ _ _ _ _ _ _ _ _ _ _ _ _ _ _ _ _ _ _ _ _ _ _ _ _ _ _ _ _ _ _ _ _ _ _ _ _ _ _ _ _ _ _ _ _ _ _ _ _ _ _ _ _ _ _ _ _ _ _ _ _ _ _ _ _ _ _ _ _ _ _ _ _ _ _ _ _ _ _ _ _ _ _ _ _ _ _ _ _ _ _ _ _ _ _ _ _ _ _ (Lib.hid ?_)
          intro v14 v15 v16 v17 v125 v126 v127 v128 v129 v130 v131 v132 v133 v134 v135 v136 v137 v138 v139 v140 v141 v142 v143 v144 v145 v146 v147 v148 v149 v150 v151 v152 v153 v154 v155 v156 v157 v158 v159 v160 v161 v162 v163 v164 w4 HQ
          obtain ⟨lv, xs, HG4, K3, HLO⟩ := HQ
          obtain ⟨la, lc, rfl⟩ := own_sl HLO.out
          have K2 := Lib.hid (blk_grownM K2.out HG4.out (by omega))
          have HR := Lib.hid (own_grownM HR.out HG4.out (by omega))
          have HZP := Lib.hid (HZP.out.grownM HG4.out (by omega))
          have HBd := Lib.hid (HBc.out.trans (below_grownM HG4.out (show W.heap.size ≤ (W.heap.size + 1 + 1) by omega) (by omega)))
          obtain ⟨ra, rc, rfl⟩ := own_sl HR.out
          obtain ⟨za, zc, rfl⟩ := own_sl HZP.out.2.1
          have y0 := cellB K3.out (i := 0) rfl
          have y1 := cellB K3.out (i := 1) rfl
          have y2 := cellB K3.out (i := 2) rfl
          have y3 := cellB K3.out (i := 3) rfl
          have v0 := frzB K3.out 0
          have v1 := frzB K3.out 1
          have v2 := frzB K3.out 2
          have v3 := frzB K3.out 3
          have x0 := cellB K2.out (i := 0) rfl
          have x1 := cellB K2.out (i := 1) rfl
          have x2 := cellB K2.out (i := 2) rfl
          have x3 := cellB K2.out (i := 3) rfl
          have u0 := frzB K2.out 0
          have u1 := frzB K2.out 1
          have u2 := frzB K2.out 2
          have u3 := frzB K2.out 3
          go_wp2_with fail
          clear y0 y1 y2 y3 v0 v1 v2 v3 x0 x1 x2 x3 u0 u1 u2 u3
          have HV := Lib.hid (show w4.grownBy ((((w4.setCell ⟨W.heap.size + 1, 0, none⟩ (.slice ra rs.length rc)).setCell ⟨W.heap.size + 1, 1, none⟩ (.slice za (zonesUp (S : Int) (normZ (zr.map fun p => p.2)) Z).length zc)).setCell ⟨W.heap.size + 1, 2, none⟩ (.slice la ml lc)).setCell ⟨W.heap.size + 1, 3, none⟩ (.slice none 0 0)) (some (W.heap.size + 1)) from grownM_set (grownM_set (grownM_set (grownM_set (grownM_refl w4 _)))))
          have K5 := Lib.hid (set4d (d0 := .slice ra rs.length rc) (d1 := .slice za (zonesUp (S : Int) (normZ (zr.map fun p => p.2)) Z).length zc) (d2 := .slice la ml lc) (d3 := .slice none 0 0) K2.out)
          have hszw : (W.heap.size + 1) < w4.heap.size := bk2m K2.out
          generalize ((((w4.setCell ⟨W.heap.size + 1, 0, none⟩ (.slice ra rs.length rc)).setCell ⟨W.heap.size + 1, 1, none⟩ (.slice za (zonesUp (S : Int) (normZ (zr.map fun p => p.2)) Z).length zc)).setCell ⟨W.heap.size + 1, 2, none⟩ (.slice la ml lc)).setCell ⟨W.heap.size + 1, 3, none⟩ (.slice none 0 0)) = V at *
          refine bodyPost_ret (results_cell_row rfl _ _ _ _ _ _ _ rfl K5.out Tryd.underlying41 rfl (by kernel_rfl)) rfl ?_
          have hZl : (normZ (zr.map fun p => p.2)).length = Z := by rw [← normR_z, _root_.List.length_map]; exact HZL.out.symm
          refine ⟨_, _, la, ml, lc, rs, ps, rfl, ?_, ?_, ?_, ?_⟩
          · rw [← HSE.out]; exact HRV.out
          · exact (own_grownM HR.out HV.out (by omega)).mono (by omega)
          · rw [← HSE.out, hZl]; exact (HZP.out.grownM HV.out (by omega)).mono (by omega)
          · exact HBd.out.trans (below_grownM HV.out (by omega) hszw)
end Go.Proofs.YtdppmeeobpbfnaaDoor
