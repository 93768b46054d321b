/-
  The loops of the law ErasShifted.
-/
import Derived.Test.YtdppmeeobpbfnaaDoorErShM
import Derived.Test.YtdppmeeobpbfnaaDoorErWk
namespace Go.Proofs.YtdppmeeobpbfnaaDoor
open Go.RowKit Cv
set_option linter.unusedVariables false
set_option linter.unusedSimpArgs false

noncomputable def shLoop (n : Nat) : Code := ((Tryd.f5).body.bind (loopAt n)).getD .skip
namespace Cv
theorem strq_eq {a b : ByteArray} (h : a = b) : (a.toList == b.toList) = true := by rw [strq]; exact decide_eq_true h
/-- blocks that hold no eras are kept -/
def KeptT (a b : World) : Prop := ∀ (q : Nat) (cs : Array Value) (t : TypeId), t ≠ 60 → a.heap[q]? = some (.cells cs t) → b.heap[q]? = some (.cells cs t)
theorem keptT_refl (a : World) : KeptT a a := fun _ _ _ _ h => h
theorem keptT_below {a b c : World} (h : KeptT a b) (hb : Below b.heap.size b c) : KeptT a c := fun q cs t ht hq => block_below (h q cs t ht hq) hb
theorem keptT_grown {a b c : World} {g : Nat} {cs : Array Value} (h : KeptT a b) (hg : b.grownBy c (some g)) (hc : b.heap[g]? = some (.cells cs 60)) : KeptT a c := fun q ds t ht hq => by
  have h1 := h q ds t ht hq
  refine blk_grownM h1 hg (fun e => ?_)
  subst e
  rw [hc] at h1
  injection h1 with h1
  injection h1 with _ h2
  exact ht h2.symm
end Cv


set_option maxRecDepth 100000 in
set_option maxHeartbeats 16000000 in
theorem sh_loop1 {code : Code} {Q0 : Exit → Act → World → Prop} (hc : shLoop 5 = code) (n : ByteArray) (nr rc : Nat) (ra : Option Addr) (sv : Int) (rs : _root_.List Ru) (w : World) (HN : Hid (nr = rs.length)) (hnb : nr ≤ 1000) (HR : Hid (Rul (.slice ra nr rc) rs w)) (HM : Hid (MadeP sv (ofS n rs))) (u0 u1 u2 u3 u4 u7 u8 u9 u10 u11 u12 u13 u14 u15 u16 u17 u18 u19 u20 u21 u22 u23 u24 u28 u29 u30 u31 u32 u33 u34 u35 u36 u37 u38 u39 u40 u41 u42 u43 u44 u45 u46 u47 u48 u49 u50 u51 u52 u53 u54 u55 u56 u57 u58 u59 u60 u61 u62 u63 u64 u65 u66 u67 u68 u69 u70 u71 u72 u73 u74 u75 u76 u77 u78 u79 u80 u81 u82 u83 u84 u85 u86 u87 u88 u89 u90 u91 u92 u93 u94 u95 u96 u97 u98 u99 u100 u101 u102 u103 u104 u105 u106 u107 u108 u109 u110 u111 u112 u113 u114 u115 u116 u117 u118 u119 u120 u121 u122 u123 u124 u125 u126 u127 u128 u129 u130 u131 u132 u133 u134 u135 u136 u137 u138 u139 u140 u141 u142 u143 u144 u145 u146 u147 u148 u149 u150 u151 u152 u153 u154 u155 u156 u157 u158 u159 u160 u161 u162 u163 u164 u165 u166 u167 u168 u169 u170 u171 u172 u173 u174 u175 u176 u177 u178 u179 : Value)
    (hexit : Hid (∀ (v6 v8 v27 v28 v29 v30 v31 v32 v33 v34 v35 v36 v37 v38 v39 v40 v41 v42 v43 : Value) (w' : World), (∃ xx : Int, v6 = .int .i64 xx ∧ xx = -sv ∧ Hid (Below w.heap.size w w')) → Q0 (.exit 0) ⟨List.toArray (u0 :: u1 :: u2 :: u3 :: u4 :: .string n :: v6 :: u7 :: v8 :: u9 :: u10 :: u11 :: u12 :: u13 :: u14 :: u15 :: u16 :: u17 :: u18 :: u19 :: u20 :: u21 :: u22 :: u23 :: u24 :: .slice ra nr rc :: .int .i64 (nr : Int) :: v27 :: v28 :: v29 :: v30 :: v31 :: v32 :: v33 :: v34 :: v35 :: v36 :: v37 :: v38 :: v39 :: v40 :: v41 :: v42 :: v43 :: u44 :: u45 :: u46 :: u47 :: u48 :: u49 :: u50 :: u51 :: u52 :: u53 :: u54 :: u55 :: u56 :: u57 :: u58 :: u59 :: u60 :: u61 :: u62 :: u63 :: u64 :: u65 :: u66 :: u67 :: u68 :: u69 :: u70 :: u71 :: u72 :: u73 :: u74 :: u75 :: u76 :: u77 :: u78 :: u79 :: u80 :: u81 :: u82 :: u83 :: u84 :: u85 :: u86 :: u87 :: u88 :: u89 :: u90 :: u91 :: u92 :: u93 :: u94 :: u95 :: u96 :: u97 :: u98 :: u99 :: u100 :: u101 :: u102 :: u103 :: u104 :: u105 :: u106 :: u107 :: u108 :: u109 :: u110 :: u111 :: u112 :: u113 :: u114 :: u115 :: u116 :: u117 :: u118 :: u119 :: u120 :: u121 :: u122 :: u123 :: u124 :: u125 :: u126 :: u127 :: u128 :: u129 :: u130 :: u131 :: u132 :: u133 :: u134 :: u135 :: u136 :: u137 :: u138 :: u139 :: u140 :: u141 :: u142 :: u143 :: u144 :: u145 :: u146 :: u147 :: u148 :: u149 :: u150 :: u151 :: u152 :: u153 :: u154 :: u155 :: u156 :: u157 :: u158 :: u159 :: u160 :: u161 :: u162 :: u163 :: u164 :: u165 :: u166 :: u167 :: u168 :: u169 :: u170 :: u171 :: u172 :: u173 :: u174 :: u175 :: u176 :: u177 :: u178 :: u179 :: []), []⟩ w')) :
    Code.wp Tryd.prog (.loop code) Q0 ⟨List.toArray (u0 :: u1 :: u2 :: u3 :: u4 :: .string n :: .int .i64 0 :: u7 :: u8 :: u9 :: u10 :: u11 :: u12 :: u13 :: u14 :: u15 :: u16 :: u17 :: u18 :: u19 :: u20 :: u21 :: u22 :: u23 :: u24 :: .slice ra nr rc :: .int .i64 (nr : Int) :: .int .i64 0 :: u28 :: u29 :: u30 :: u31 :: u32 :: u33 :: u34 :: u35 :: u36 :: u37 :: u38 :: u39 :: u40 :: u41 :: u42 :: u43 :: u44 :: u45 :: u46 :: u47 :: u48 :: u49 :: u50 :: u51 :: u52 :: u53 :: u54 :: u55 :: u56 :: u57 :: u58 :: u59 :: u60 :: u61 :: u62 :: u63 :: u64 :: u65 :: u66 :: u67 :: u68 :: u69 :: u70 :: u71 :: u72 :: u73 :: u74 :: u75 :: u76 :: u77 :: u78 :: u79 :: u80 :: u81 :: u82 :: u83 :: u84 :: u85 :: u86 :: u87 :: u88 :: u89 :: u90 :: u91 :: u92 :: u93 :: u94 :: u95 :: u96 :: u97 :: u98 :: u99 :: u100 :: u101 :: u102 :: u103 :: u104 :: u105 :: u106 :: u107 :: u108 :: u109 :: u110 :: u111 :: u112 :: u113 :: u114 :: u115 :: u116 :: u117 :: u118 :: u119 :: u120 :: u121 :: u122 :: u123 :: u124 :: u125 :: u126 :: u127 :: u128 :: u129 :: u130 :: u131 :: u132 :: u133 :: u134 :: u135 :: u136 :: u137 :: u138 :: u139 :: u140 :: u141 :: u142 :: u143 :: u144 :: u145 :: u146 :: u147 :: u148 :: u149 :: u150 :: u151 :: u152 :: u153 :: u154 :: u155 :: u156 :: u157 :: u158 :: u159 :: u160 :: u161 :: u162 :: u163 :: u164 :: u165 :: u166 :: u167 :: u168 :: u169 :: u170 :: u171 :: u172 :: u173 :: u174 :: u175 :: u176 :: u177 :: u178 :: u179 :: []), []⟩ w := by
  subst hc
  conv => arg 2; arg 1; whnf
  go_loopw [6, 27] (fun xv tv wr => ∃ (k : Nat) (xx : Int) (wq : World), k ≤ nr ∧ xv = .int .i64 xx ∧ tv = .int .i64 (k : Int) ∧ wr = wq ∧ (-8000 ≤ xx ∧ xx ≤ 8000) ∧ Hid (Xso n sv xx rs k) ∧ Hid (Below w.heap.size w wq)) (fun _ tv _ => nr - (intOf tv).toNat)
  case atStart => exact ⟨0, 0, _, by omega, rfl, rfl, rfl, by omega, Lib.hid (xso_zero _ _ _), Lib.hid (Below.refl _ _)⟩
  case round =>
    obtain ⟨k, xx, wq, hk, rfl, rfl, rfl, hxb, HX, HB⟩ := hrel
    by_cases hlt : k < nr
    · have k0 : (0 : Int) ≤ (k : Int) := by omega
      have kS : (k : Int) < (nr : Int) := by omega
      obtain ⟨r, hr⟩ : ∃ r, rs[k]? = some r := ⟨_, _root_.List.getElem?_eq_getElem (by rw [← HN.out]; exact hlt)⟩
      have hin := fun hn => made_in HM.out (_root_.List.mem_of_getElem? hr) hn
      obtain ⟨g, off, rfl, hrg⟩ := (HR.out.below HB.out).at_ hr
      have HRr := Lib.hid hr
      obtain ⟨na, fr, ut, mo, rk, rw_, rd, sec, bas, sav, le⟩ := r
      obtain ⟨d0, d1, d2, d3, d4, d5, d6, d7, d8, d9, d10⟩ := range11 hrg
      dsimp only at d0 d1 d2 d3 d4 d5 d6 d7 d8 d9 d10 hin
      have hsvb := HM.out.svs
      have hba := bel_alloc wr (.cells #[.string na, .int .i64 fr, .int .i64 ut, .int .i64 mo, .int .i64 rk, .int .i64 rw_, .int .i64 rd, .int .i64 sec, .int .i64 bas, .int .i64 sav, .string le] 56)
      have KC := Lib.hid (heap_alloc_new wr (.cells #[.string na, .int .i64 fr, .int .i64 ut, .int .i64 mo, .int .i64 rk, .int .i64 rw_, .int .i64 rd, .int .i64 sec, .int .i64 bas, .int .i64 sav, .string le] 56))
      replace HB := Lib.hid (bel_trans HB.out hba)
      clear hr hrg hba
      have c0 := cellB KC.out (i := 0) rfl
      have c1 := cellB KC.out (i := 1) rfl
      have c2 := cellB KC.out (i := 2) rfl
      have c3 := cellB KC.out (i := 3) rfl
      have c4 := cellB KC.out (i := 4) rfl
      have c5 := cellB KC.out (i := 5) rfl
      have c6 := cellB KC.out (i := 6) rfl
      have c7 := cellB KC.out (i := 7) rfl
      have c8 := cellB KC.out (i := 8) rfl
      have c9 := cellB KC.out (i := 9) rfl
      have c10 := cellB KC.out (i := 10) rfl
      by_cases hna : na = n
      · have hin := hin hna
        have hqe := strq_eq hna
        have HNA := Lib.hid hna
        clear hna
        by_cases hz : sav = 0
        · subst hz
          have HX2 := Lib.hid (xso_no HX.out HRr.out (fun _ => rfl))
          clear hin
          go_wp2_with fail
          go_round
          case rel => exact ⟨k + 1, xx, _, by omega, rfl, by go_num, rfl, hxb, HX2, HB⟩
          case measure => simp [intOf]; omega
        · have hs : sav = sv := by omega
          have hz2 : (sav == 0) = false := by simp; exact hz
          have hz3 : (sav != 0) = true := by simp; exact hz
          have hw1 : IntKind.i64.wrap (-sav) = -sav := IntWalk.i64_in _ (by omega)
          have HX2 := Lib.hid (show Xso n sv (-sav) rs (k + 1) from .inr (by rw [hs]))
          have HBD := Lib.hid (show -8000 ≤ -sav ∧ -sav ≤ 8000 by omega)
          clear hin hs
          go_wp2_with fail
          go_round
          case rel => exact ⟨k + 1, (-sav), _, by omega, rfl, by go_num, rfl, HBD.out, HX2, HB⟩
          case measure => simp [intOf]; omega
      · have HX2 := Lib.hid (xso_no HX.out HRr.out (fun h => absurd h hna))
        have hne := strq_ne hna
        clear hin
        go_wp2_with fail
        go_round
        case rel => exact ⟨k + 1, xx, _, by omega, rfl, by go_num, rfl, hxb, HX2, HB⟩
        case measure => simp [intOf]; omega
    · obtain rfl : k = nr := by omega
      have kS : ¬ (k : Int) < (k : Int) := by omega
      go_wp2_with fail
      exact hexit.out _ _ _ _ _ _ _ _ _ _ _ _ _ _ _ _ _ _ _ _ ⟨xx, rfl, xso_all HM.out (by rw [← HN.out]; exact HX.out), HB⟩


set_option maxRecDepth 100000 in
set_option maxHeartbeats 16000000 in
theorem sh_loop2 {code : Code} {Q0 : Exit → Act → World → Prop} (hc : shLoop 11 = code) (n : ByteArray) (base nr rc gr bM : Nat) (zv lv : Value) (x : Int) (rs : _root_.List Ru) (w : World) (HN : Hid (nr = rs.length)) (hnb : nr ≤ 1000) (hxb : -8000 ≤ x ∧ x ≤ 8000) (hbg : bM ≠ gr) (HBD : Hid (∀ r ∈ rs, (-20000 ≤ r.save ∧ r.save ≤ 20000) ∧ (-200000 ≤ r.sec ∧ r.sec ≤ 200000))) (KM : Hid (w.heap[bM]? = some (.cells #[.slice (some ⟨gr, 0, none⟩) nr rc, zv, lv, .slice none 0 0] 41))) (HO : Hid (w.ownsRow base 56 11 (.slice (some ⟨gr, 0, none⟩) nr rc) nr (flatRu rs))) (u0 u1 u2 u3 u7 u8 u9 u10 u11 u12 u13 u14 u15 u16 u17 u18 u19 u20 u21 u22 u23 u24 u25 u26 u27 u28 u29 u30 u31 u32 u33 u34 u35 u36 u37 u38 u39 u40 u41 u42 u43 u44 u48 u49 u50 u51 u52 u53 u54 u55 u56 u57 u58 u59 u60 u61 u62 u63 u64 u65 u66 u67 u68 u69 u70 u71 u72 u73 u74 u75 u76 u77 u78 u79 u80 u81 u82 u83 u84 u85 u86 u87 u88 u89 u90 u91 u92 u93 u94 u95 u96 u97 u98 u99 u100 u101 u102 u103 u104 u105 u106 u107 u108 u109 u110 u111 u112 u113 u114 u115 u116 u117 u118 u119 u120 u121 u122 u123 u124 u125 u126 u127 u128 u129 u130 u131 u132 u133 u134 u135 u136 u137 u138 u139 u140 u141 u142 u143 u144 u145 u146 u147 u148 u149 u150 u151 u152 u153 u154 u155 u156 u157 u158 u159 u160 u161 u162 u163 u164 u165 u166 u167 u168 u169 u170 u171 u172 u173 u174 u175 u176 u177 u178 u179 : Value)
    (hexit : Hid (∀ (v9 v10 v47 v48 v49 v50 v51 v52 v53 v54 v55 v56 v57 v58 v59 v60 v61 v62 v63 v64 v65 v66 v67 v68 v69 v70 v71 v72 v73 v74 v75 v76 v77 v78 v79 v80 v81 v82 : Value) (w' : World), (Hid (w.grownBy w' (some gr)) ∧ Hid (w'.ownsRow base 56 11 (.slice (some ⟨gr, 0, none⟩) nr rc) nr (flatRu (rs.map (fR n x))))) → Q0 (.exit 2) ⟨List.toArray (u0 :: u1 :: u2 :: u3 :: .pointer (some ⟨bM, 0, none⟩) :: .string n :: .int .i64 x :: u7 :: u8 :: v9 :: v10 :: u11 :: u12 :: u13 :: u14 :: u15 :: u16 :: u17 :: u18 :: u19 :: u20 :: u21 :: u22 :: u23 :: u24 :: u25 :: u26 :: u27 :: u28 :: u29 :: u30 :: u31 :: u32 :: u33 :: u34 :: u35 :: u36 :: u37 :: u38 :: u39 :: u40 :: u41 :: u42 :: u43 :: u44 :: .slice (some ⟨gr, 0, none⟩) nr rc :: .int .i64 (nr : Int) :: v47 :: v48 :: v49 :: v50 :: v51 :: v52 :: v53 :: v54 :: v55 :: v56 :: v57 :: v58 :: v59 :: v60 :: v61 :: v62 :: v63 :: v64 :: v65 :: v66 :: v67 :: v68 :: v69 :: v70 :: v71 :: v72 :: v73 :: v74 :: v75 :: v76 :: v77 :: v78 :: v79 :: v80 :: v81 :: v82 :: u83 :: u84 :: u85 :: u86 :: u87 :: u88 :: u89 :: u90 :: u91 :: u92 :: u93 :: u94 :: u95 :: u96 :: u97 :: u98 :: u99 :: u100 :: u101 :: u102 :: u103 :: u104 :: u105 :: u106 :: u107 :: u108 :: u109 :: u110 :: u111 :: u112 :: u113 :: u114 :: u115 :: u116 :: u117 :: u118 :: u119 :: u120 :: u121 :: u122 :: u123 :: u124 :: u125 :: u126 :: u127 :: u128 :: u129 :: u130 :: u131 :: u132 :: u133 :: u134 :: u135 :: u136 :: u137 :: u138 :: u139 :: u140 :: u141 :: u142 :: u143 :: u144 :: u145 :: u146 :: u147 :: u148 :: u149 :: u150 :: u151 :: u152 :: u153 :: u154 :: u155 :: u156 :: u157 :: u158 :: u159 :: u160 :: u161 :: u162 :: u163 :: u164 :: u165 :: u166 :: u167 :: u168 :: u169 :: u170 :: u171 :: u172 :: u173 :: u174 :: u175 :: u176 :: u177 :: u178 :: u179 :: []), []⟩ w')) :
    Code.wp Tryd.prog (.loop code) Q0 ⟨List.toArray (u0 :: u1 :: u2 :: u3 :: .pointer (some ⟨bM, 0, none⟩) :: .string n :: .int .i64 x :: u7 :: u8 :: u9 :: u10 :: u11 :: u12 :: u13 :: u14 :: u15 :: u16 :: u17 :: u18 :: u19 :: u20 :: u21 :: u22 :: u23 :: u24 :: u25 :: u26 :: u27 :: u28 :: u29 :: u30 :: u31 :: u32 :: u33 :: u34 :: u35 :: u36 :: u37 :: u38 :: u39 :: u40 :: u41 :: u42 :: u43 :: u44 :: .slice (some ⟨gr, 0, none⟩) nr rc :: .int .i64 (nr : Int) :: .int .i64 0 :: u48 :: u49 :: u50 :: u51 :: u52 :: u53 :: u54 :: u55 :: u56 :: u57 :: u58 :: u59 :: u60 :: u61 :: u62 :: u63 :: u64 :: u65 :: u66 :: u67 :: u68 :: u69 :: u70 :: u71 :: u72 :: u73 :: u74 :: u75 :: u76 :: u77 :: u78 :: u79 :: u80 :: u81 :: u82 :: u83 :: u84 :: u85 :: u86 :: u87 :: u88 :: u89 :: u90 :: u91 :: u92 :: u93 :: u94 :: u95 :: u96 :: u97 :: u98 :: u99 :: u100 :: u101 :: u102 :: u103 :: u104 :: u105 :: u106 :: u107 :: u108 :: u109 :: u110 :: u111 :: u112 :: u113 :: u114 :: u115 :: u116 :: u117 :: u118 :: u119 :: u120 :: u121 :: u122 :: u123 :: u124 :: u125 :: u126 :: u127 :: u128 :: u129 :: u130 :: u131 :: u132 :: u133 :: u134 :: u135 :: u136 :: u137 :: u138 :: u139 :: u140 :: u141 :: u142 :: u143 :: u144 :: u145 :: u146 :: u147 :: u148 :: u149 :: u150 :: u151 :: u152 :: u153 :: u154 :: u155 :: u156 :: u157 :: u158 :: u159 :: u160 :: u161 :: u162 :: u163 :: u164 :: u165 :: u166 :: u167 :: u168 :: u169 :: u170 :: u171 :: u172 :: u173 :: u174 :: u175 :: u176 :: u177 :: u178 :: u179 :: []), []⟩ w := by
  subst hc
  conv => arg 2; arg 1; whnf
  have HGr := Lib.hid (HO.out.lt gr rfl)
  go_loopw [47] (fun tv wr => ∃ (k : Nat) (wq : World), k ≤ nr ∧ tv = .int .i64 (k : Int) ∧ wr = wq ∧ Hid (w.grownBy wq (some gr)) ∧ Hid (wq.ownsRow base 56 11 (.slice (some ⟨gr, 0, none⟩) nr rc) nr (flatRu (mixA (fR n x) k rs)))) (fun tv _ => nr - (intOf tv).toNat)
  case atStart => exact ⟨0, _, by omega, rfl, rfl, Lib.hid (grownM_refl _ _), Lib.hid (by rw [mixA_zero]; exact HO.out)⟩
  case round =>
    clear HO
    obtain ⟨k, wq, hk, rfl, rfl, HG, HO⟩ := hrel
    by_cases hlt : k < nr
    · have k0 : (0 : Int) ≤ (k : Int) := by omega
      have kS : (k : Int) < (nr : Int) := by omega
      obtain ⟨r, hr⟩ : ∃ r, rs[k]? = some r := ⟨_, _root_.List.getElem?_eq_getElem (by rw [← HN.out]; exact hlt)⟩
      have HRr := Lib.hid hr
      have HMX := Lib.hid (mixA_get (f := fR n x) hr)
      have hbd := HBD.out r (_root_.List.mem_of_getElem? hr)
      obtain ⟨na, fr, ut, mo, rk, rw_, rd, sec, bas, sav, le⟩ := r
      dsimp only at hbd
      have hx := fun j (hj : j < 11) => ownR HO.out HMX.out j hj hlt
      have d0 := hx 0 (by omega); have d1 := hx 1 (by omega); have d2 := hx 2 (by omega); have d3 := hx 3 (by omega); have d4 := hx 4 (by omega); have d5 := hx 5 (by omega); have d6 := hx 6 (by omega); have d7 := hx 7 (by omega); have d8 := hx 8 (by omega); have d9 := hx 9 (by omega); have d10 := hx 10 (by omega)
      simp only [Ru.arr, Nat.add_zero, List.getElem?_cons_zero, List.getElem?_cons_succ] at d0 d1 d2 d3 d4 d5 d6 d7 d8 d9 d10
      have hba := bel_alloc wr (.cells #[.string na, .int .i64 fr, .int .i64 ut, .int .i64 mo, .int .i64 rk, .int .i64 rw_, .int .i64 rd, .int .i64 sec, .int .i64 bas, .int .i64 sav, .string le] 56)
      have KC := Lib.hid (heap_alloc_new wr (.cells #[.string na, .int .i64 fr, .int .i64 ut, .int .i64 mo, .int .i64 rk, .int .i64 rw_, .int .i64 rd, .int .i64 sec, .int .i64 bas, .int .i64 sav, .string le] 56))
      have KM2 := Lib.hid (block_below (blk_grownM KM.out HG.out hbg) hba)
      have HGo := HG
      replace HG := Lib.hid (grownM_trans HG.out (grown_of hba none) (fun q hq => by cases hq))
      have HO2 := Lib.hid (own_below17 HO.out hba)
      have hcg : wr.heap.size ≠ gr := by have := HGr.out.2; have := HGo.out.size; omega
      obtain ⟨-, f9, -, -⟩ := ownC HO2.out (j := k * 11 + 9) (by omega)
      obtain ⟨-, f7, -, -⟩ := ownC HO2.out (j := k * 11 + 7) (by omega)
      have b7 := cell_below hba d7
      have b9 := cell_below hba d9
      clear hx hr
      have c0 := cellB KC.out (i := 0) rfl
      have c1 := cellB KC.out (i := 1) rfl
      have c2 := cellB KC.out (i := 2) rfl
      have c3 := cellB KC.out (i := 3) rfl
      have c4 := cellB KC.out (i := 4) rfl
      have c5 := cellB KC.out (i := 5) rfl
      have c6 := cellB KC.out (i := 6) rfl
      have c7 := cellB KC.out (i := 7) rfl
      have c8 := cellB KC.out (i := 8) rfl
      have c9 := cellB KC.out (i := 9) rfl
      have c10 := cellB KC.out (i := 10) rfl
      by_cases hna : na = n
      · have hqe := strq_eq hna
        have HNA := Lib.hid hna
        clear hna
        have y0 := cellB KM2.out (i := 0) rfl
        have hw9 : IntKind.i64.wrap (sav + x) = sav + x := IntWalk.i64_in _ (by omega)
        have hw7 : IntKind.i64.wrap (sec - x) = sec - x := IntWalk.i64_in _ (by omega)
        have HM1 := Lib.hid (show (mixA (fR n x) k rs).set k ⟨na, fr, ut, mo, rk, rw_, rd, sec, bas, sav + x, le⟩ = (mixA (fR n x) k rs).set k ⟨na, fr, ut, mo, rk, rw_, rd, sec, bas, sav + x, le⟩ from rfl)
        have HO3 := Lib.hid (show ((wr.alloc (.cells #[.string na, .int .i64 fr, .int .i64 ut, .int .i64 mo, .int .i64 rk, .int .i64 rw_, .int .i64 rd, .int .i64 sec, .int .i64 bas, .int .i64 sav, .string le] 56)).setCell ⟨gr, k * 11 + 9, none⟩ (.int .i64 (sav + x))).ownsRow base 56 11 (.slice (some ⟨gr, 0, none⟩) nr rc) nr (flatRu ((mixA (fR n x) k rs).set k ⟨na, fr, ut, mo, rk, rw_, rd, sec, bas, sav + x, le⟩)) by rw [flat_setAt 9 (by omega) (.int .i64 (sav + x)) ⟨na, fr, ut, mo, rk, rw_, rd, sec, bas, sav, le⟩ ⟨na, fr, ut, mo, rk, rw_, rd, sec, bas, sav + x, le⟩ rfl _ _ HMX.out]; exact own_set HO2.out)
        have HG3 := Lib.hid (grownM_set (j := k * 11 + 9) (v := .int .i64 (sav + x)) HG.out)
        have KM3 := Lib.hid (block_other1 (c := gr) (j := k * 11 + 9) (v := .int .i64 (sav + x)) KM2.out hbg)
        have KC3 := Lib.hid (block_other1 (c := gr) (j := k * 11 + 9) (v := .int .i64 (sav + x)) KC.out hcg)
        by_cases hb1 : bas = 1
        · have hb2 : (bas == 1) = true := by simp; exact hb1
          have HB1 := Lib.hid hb1
          clear hb1
          have HO4 := Lib.hid (show (((wr.alloc (.cells #[.string na, .int .i64 fr, .int .i64 ut, .int .i64 mo, .int .i64 rk, .int .i64 rw_, .int .i64 rd, .int .i64 sec, .int .i64 bas, .int .i64 sav, .string le] 56)).setCell ⟨gr, k * 11 + 9, none⟩ (.int .i64 (sav + x))).setCell ⟨gr, k * 11 + 7, none⟩ (.int .i64 (sec - x))).ownsRow base 56 11 (.slice (some ⟨gr, 0, none⟩) nr rc) nr (flatRu (mixA (fR n x) (k + 1) rs)) by
            rw [mixA_succ HRr.out, show fR n x ⟨na, fr, ut, mo, rk, rw_, rd, sec, bas, sav, le⟩ = ⟨na, fr, ut, mo, rk, rw_, rd, sec - x, bas, sav + x, le⟩ from by unfold fR; rw [if_pos HNA.out]; unfold shR; dsimp only; rw [if_pos HB1.out]]
            have h := own_set (j := k * 11 + 7) (x := .int .i64 (sec - x)) HO3.out
            rw [← flat_setAt 7 (by omega) (.int .i64 (sec - x)) ⟨na, fr, ut, mo, rk, rw_, rd, sec, bas, sav + x, le⟩ ⟨na, fr, ut, mo, rk, rw_, rd, sec - x, bas, sav + x, le⟩ rfl _ _ (get_set_same HMX.out), set_set_same] at h
            exact h)
          have HG4 := Lib.hid (grownM_set (j := k * 11 + 7) (v := .int .i64 (sec - x)) HG3.out)
          go_wp2_with fail
          clear HG HO HO2 HO3 HG3
          have HG := HG4
          have HO := HO4
          go_round
          case rel => exact ⟨k + 1, _, by omega, by go_num, rfl, HG, HO⟩
          case measure => simp [intOf]; omega
        · have hb2 : (bas == 1) = false := by simp; exact hb1
          have HO4 := Lib.hid (show ((wr.alloc (.cells #[.string na, .int .i64 fr, .int .i64 ut, .int .i64 mo, .int .i64 rk, .int .i64 rw_, .int .i64 rd, .int .i64 sec, .int .i64 bas, .int .i64 sav, .string le] 56)).setCell ⟨gr, k * 11 + 9, none⟩ (.int .i64 (sav + x))).ownsRow base 56 11 (.slice (some ⟨gr, 0, none⟩) nr rc) nr (flatRu (mixA (fR n x) (k + 1) rs)) by
            rw [mixA_succ HRr.out, show fR n x ⟨na, fr, ut, mo, rk, rw_, rd, sec, bas, sav, le⟩ = ⟨na, fr, ut, mo, rk, rw_, rd, sec, bas, sav + x, le⟩ from by unfold fR; rw [if_pos HNA.out]; unfold shR; dsimp only; rw [if_neg hb1]]
            exact HO3.out)
          go_wp2_with fail
          clear HG HO HO2
          have HG := HG3
          have HO := HO4
          go_round
          case rel => exact ⟨k + 1, _, by omega, by go_num, rfl, HG, HO⟩
          case measure => simp [intOf]; omega
      · have hne := strq_ne hna
        have HO4 := Lib.hid (show (wr.alloc (.cells #[.string na, .int .i64 fr, .int .i64 ut, .int .i64 mo, .int .i64 rk, .int .i64 rw_, .int .i64 rd, .int .i64 sec, .int .i64 bas, .int .i64 sav, .string le] 56)).ownsRow base 56 11 (.slice (some ⟨gr, 0, none⟩) nr rc) nr (flatRu (mixA (fR n x) (k + 1) rs)) by
          rw [mixA_same HRr.out (by unfold fR; rw [if_neg hna])]
          exact HO2.out)
        go_wp2_with fail
        clear HO HO2
        have HO := HO4
        go_round
        case rel => exact ⟨k + 1, _, by omega, by go_num, rfl, HG, HO⟩
        case measure => simp [intOf]; omega
    · obtain rfl : k = nr := by omega
      have kS : ¬ (k : Int) < (k : Int) := by omega
      go_wp2_with fail
      exact hexit.out _ _ _ _ _ _ _ _ _ _ _ _ _ _ _ _ _ _ _ _ _ _ _ _ _ _ _ _ _ _ _ _ _ _ _ _ _ _ _ ⟨HG, Lib.hid (by have := HO.out; rw [HN.out, mixA_all] at this; rw [HN.out]; exact this)⟩


set_option maxRecDepth 100000 in
set_option maxHeartbeats 16000000 in
theorem sh_loop4 {code : Code} {Q0 : Exit → Act → World → Prop} (hc : shLoop 22 = code) (n : ByteArray) (base m ce ge bz : Nat) (nm : ByteArray) (x : Int) (es : _root_.List Er) (w : World) (HN : Hid (m = es.length)) (hnb : m ≤ 1000) (hxb : -8000 ≤ x ∧ x ≤ 8000) (hbg : bz ≠ ge) (HBD : Hid (∀ e ∈ es, (-60000 ≤ e.off ∧ e.off ≤ 60000) ∧ (-200000 ≤ e.sec ∧ e.sec ≤ 200000))) (KZ : Hid (w.heap[bz]? = some (.cells #[.string nm, .slice (some ⟨ge, 0, none⟩) m ce] 45))) (HO : Hid (w.ownsRow base 60 13 (.slice (some ⟨ge, 0, none⟩) m ce) m (flatEr es))) (u0 u1 u2 u3 u4 u7 u8 u9 u10 u11 u13 u14 u15 u16 u17 u18 u19 u20 u21 u22 u23 u24 u25 u26 u27 u28 u29 u30 u31 u32 u33 u34 u35 u36 u37 u38 u39 u40 u41 u42 u43 u44 u45 u46 u47 u48 u49 u50 u51 u52 u53 u54 u55 u56 u57 u58 u59 u60 u61 u62 u63 u64 u65 u66 u67 u68 u69 u70 u71 u72 u73 u74 u75 u76 u77 u78 u79 u80 u81 u82 u83 u84 u85 u86 u87 u88 u89 u90 u94 u95 u96 u97 u98 u99 u100 u101 u102 u103 u104 u105 u106 u107 u108 u109 u110 u111 u112 u113 u114 u115 u116 u117 u118 u119 u120 u121 u122 u123 u124 u125 u126 u127 u128 u129 u130 u131 u132 u133 u134 u135 u136 u137 u138 u139 u140 u141 u142 u143 u144 u145 u146 u147 u148 u149 u150 u151 u152 u153 u154 u155 u156 u157 u158 u159 u160 u161 u162 u163 u164 u165 u166 u167 u168 u169 u170 u171 u172 u173 u174 u175 u176 u177 u178 u179 : Value)
    (hexit : Hid (∀ (v13 v14 v93 v94 v95 v96 v97 v98 v99 v100 v101 v102 v103 v104 v105 v106 v107 v108 v109 v110 v111 v112 v113 v114 v115 v116 v117 v118 v119 v120 v121 v122 v123 v124 v125 v126 v127 v128 v129 v130 v131 v132 v133 v134 v135 v136 v137 v138 v139 v140 v141 : Value) (w' : World), (Hid (w.grownBy w' (some ge)) ∧ Hid (w'.ownsRow base 60 13 (.slice (some ⟨ge, 0, none⟩) m ce) m (flatEr (es.map (gE n x))))) → Q0 (.exit 6) ⟨List.toArray (u0 :: u1 :: u2 :: u3 :: u4 :: .string n :: .int .i64 x :: u7 :: u8 :: u9 :: u10 :: u11 :: .pointer (some ⟨bz, 0, none⟩) :: v13 :: v14 :: u15 :: u16 :: u17 :: u18 :: u19 :: u20 :: u21 :: u22 :: u23 :: u24 :: u25 :: u26 :: u27 :: u28 :: u29 :: u30 :: u31 :: u32 :: u33 :: u34 :: u35 :: u36 :: u37 :: u38 :: u39 :: u40 :: u41 :: u42 :: u43 :: u44 :: u45 :: u46 :: u47 :: u48 :: u49 :: u50 :: u51 :: u52 :: u53 :: u54 :: u55 :: u56 :: u57 :: u58 :: u59 :: u60 :: u61 :: u62 :: u63 :: u64 :: u65 :: u66 :: u67 :: u68 :: u69 :: u70 :: u71 :: u72 :: u73 :: u74 :: u75 :: u76 :: u77 :: u78 :: u79 :: u80 :: u81 :: u82 :: u83 :: u84 :: u85 :: u86 :: u87 :: u88 :: u89 :: u90 :: .slice (some ⟨ge, 0, none⟩) m ce :: .int .i64 (m : Int) :: v93 :: v94 :: v95 :: v96 :: v97 :: v98 :: v99 :: v100 :: v101 :: v102 :: v103 :: v104 :: v105 :: v106 :: v107 :: v108 :: v109 :: v110 :: v111 :: v112 :: v113 :: v114 :: v115 :: v116 :: v117 :: v118 :: v119 :: v120 :: v121 :: v122 :: v123 :: v124 :: v125 :: v126 :: v127 :: v128 :: v129 :: v130 :: v131 :: v132 :: v133 :: v134 :: v135 :: v136 :: v137 :: v138 :: v139 :: v140 :: v141 :: u142 :: u143 :: u144 :: u145 :: u146 :: u147 :: u148 :: u149 :: u150 :: u151 :: u152 :: u153 :: u154 :: u155 :: u156 :: u157 :: u158 :: u159 :: u160 :: u161 :: u162 :: u163 :: u164 :: u165 :: u166 :: u167 :: u168 :: u169 :: u170 :: u171 :: u172 :: u173 :: u174 :: u175 :: u176 :: u177 :: u178 :: u179 :: []), []⟩ w')) :
    Code.wp Tryd.prog (.loop code) Q0 ⟨List.toArray (u0 :: u1 :: u2 :: u3 :: u4 :: .string n :: .int .i64 x :: u7 :: u8 :: u9 :: u10 :: u11 :: .pointer (some ⟨bz, 0, none⟩) :: u13 :: u14 :: u15 :: u16 :: u17 :: u18 :: u19 :: u20 :: u21 :: u22 :: u23 :: u24 :: u25 :: u26 :: u27 :: u28 :: u29 :: u30 :: u31 :: u32 :: u33 :: u34 :: u35 :: u36 :: u37 :: u38 :: u39 :: u40 :: u41 :: u42 :: u43 :: u44 :: u45 :: u46 :: u47 :: u48 :: u49 :: u50 :: u51 :: u52 :: u53 :: u54 :: u55 :: u56 :: u57 :: u58 :: u59 :: u60 :: u61 :: u62 :: u63 :: u64 :: u65 :: u66 :: u67 :: u68 :: u69 :: u70 :: u71 :: u72 :: u73 :: u74 :: u75 :: u76 :: u77 :: u78 :: u79 :: u80 :: u81 :: u82 :: u83 :: u84 :: u85 :: u86 :: u87 :: u88 :: u89 :: u90 :: .slice (some ⟨ge, 0, none⟩) m ce :: .int .i64 (m : Int) :: .int .i64 0 :: u94 :: u95 :: u96 :: u97 :: u98 :: u99 :: u100 :: u101 :: u102 :: u103 :: u104 :: u105 :: u106 :: u107 :: u108 :: u109 :: u110 :: u111 :: u112 :: u113 :: u114 :: u115 :: u116 :: u117 :: u118 :: u119 :: u120 :: u121 :: u122 :: u123 :: u124 :: u125 :: u126 :: u127 :: u128 :: u129 :: u130 :: u131 :: u132 :: u133 :: u134 :: u135 :: u136 :: u137 :: u138 :: u139 :: u140 :: u141 :: u142 :: u143 :: u144 :: u145 :: u146 :: u147 :: u148 :: u149 :: u150 :: u151 :: u152 :: u153 :: u154 :: u155 :: u156 :: u157 :: u158 :: u159 :: u160 :: u161 :: u162 :: u163 :: u164 :: u165 :: u166 :: u167 :: u168 :: u169 :: u170 :: u171 :: u172 :: u173 :: u174 :: u175 :: u176 :: u177 :: u178 :: u179 :: []), []⟩ w := by
  subst hc
  conv => arg 2; arg 1; whnf
  have HGr := Lib.hid (HO.out.lt ge rfl)
  go_loopw [93] (fun tv wr => ∃ (k : Nat) (wq : World), k ≤ m ∧ tv = .int .i64 (k : Int) ∧ wr = wq ∧ Hid (w.grownBy wq (some ge)) ∧ Hid (wq.ownsRow base 60 13 (.slice (some ⟨ge, 0, none⟩) m ce) m (flatEr (mixA (gE n x) k es)))) (fun tv _ => m - (intOf tv).toNat)
  case atStart => exact ⟨0, _, by omega, rfl, rfl, Lib.hid (grownM_refl _ _), Lib.hid (by rw [mixA_zero]; exact HO.out)⟩
  case round =>
    clear HO
    obtain ⟨k, wq, hk, rfl, rfl, HG, HO⟩ := hrel
    by_cases hlt : k < m
    · have k0 : (0 : Int) ≤ (k : Int) := by omega
      have kS : (k : Int) < (m : Int) := by omega
      obtain ⟨e, he⟩ : ∃ e, es[k]? = some e := ⟨_, _root_.List.getElem?_eq_getElem (by rw [← HN.out]; exact hlt)⟩
      have HRr := Lib.hid he
      have HMX := Lib.hid (mixA_get (f := gE n x) he)
      have hbd := HBD.out e (_root_.List.mem_of_getElem? he)
      obtain ⟨off, ek, esv, st, fm, is, ey, em, ed, ew, ea, sec, bas⟩ := e
      dsimp only at hbd
      have hx := ownE HO.out HMX.out hlt
      have d0 := hx 0 _ rfl
      have d1 := hx 1 _ rfl
      have d2 := hx 2 _ rfl
      have d3 := hx 3 _ rfl
      have d4 := hx 4 _ rfl
      have d5 := hx 5 _ rfl
      have d6 := hx 6 _ rfl
      have d7 := hx 7 _ rfl
      have d8 := hx 8 _ rfl
      have d9 := hx 9 _ rfl
      have d10 := hx 10 _ rfl
      have d11 := hx 11 _ rfl
      have d12 := hx 12 _ rfl
      simp only [Nat.add_zero] at d0
      have hba := bel_alloc wr (.cells #[.int .i64 off, .int .i64 ek, .int .i64 esv, .string st, .string fm, .bool is, .int .i64 ey, .int .i64 em, .int .i64 ed, .int .i64 ew, .int .i64 ea, .int .i64 sec, .int .i64 bas] 60)
      have KC := Lib.hid (heap_alloc_new wr (.cells #[.int .i64 off, .int .i64 ek, .int .i64 esv, .string st, .string fm, .bool is, .int .i64 ey, .int .i64 em, .int .i64 ed, .int .i64 ew, .int .i64 ea, .int .i64 sec, .int .i64 bas] 60))
      have KM2 := Lib.hid (block_below (blk_grownM KZ.out HG.out hbg) hba)
      have HGo := HG
      replace HG := Lib.hid (grownM_trans HG.out (grown_of hba none) (fun q hq => by cases hq))
      have HO2 := Lib.hid (own_below17 HO.out hba)
      have hcg : wr.heap.size ≠ ge := by have := HGr.out.2; have := HGo.out.size; omega
      obtain ⟨-, f0, -, -⟩ := ownC HO2.out (j := k * 13) (by omega)
      obtain ⟨-, f11, -, -⟩ := ownC HO2.out (j := k * 13 + 11) (by omega)
      have b0 := cell_below hba d0
      have b11 := cell_below hba d11
      clear hx he
      have c0 := cellB KC.out (i := 0) rfl
      have c1 := cellB KC.out (i := 1) rfl
      have c2 := cellB KC.out (i := 2) rfl
      have c3 := cellB KC.out (i := 3) rfl
      have c4 := cellB KC.out (i := 4) rfl
      have c5 := cellB KC.out (i := 5) rfl
      have c6 := cellB KC.out (i := 6) rfl
      have c7 := cellB KC.out (i := 7) rfl
      have c8 := cellB KC.out (i := 8) rfl
      have c9 := cellB KC.out (i := 9) rfl
      have c10 := cellB KC.out (i := 10) rfl
      have c11 := cellB KC.out (i := 11) rfl
      have c12 := cellB KC.out (i := 12) rfl
      by_cases hk2 : ek = 2
      · have hk3 : (ek == 2) = true := by simp; exact hk2
        have HEK := Lib.hid hk2
        clear hk2
        by_cases hna : st = n
        · have hqe := strq_eq hna
          have HNA := Lib.hid hna
          clear hna
          have y0 := cellB KM2.out (i := 1) rfl
          have hw0 : IntKind.i64.wrap (off - x) = off - x := IntWalk.i64_in _ (by omega)
          have hw7 : IntKind.i64.wrap (sec - x) = sec - x := IntWalk.i64_in _ (by omega)
          have HO3 := Lib.hid (show ((wr.alloc (.cells #[.int .i64 off, .int .i64 ek, .int .i64 esv, .string st, .string fm, .bool is, .int .i64 ey, .int .i64 em, .int .i64 ed, .int .i64 ew, .int .i64 ea, .int .i64 sec, .int .i64 bas] 60)).setCell ⟨ge, k * 13, none⟩ (.int .i64 (off - x))).ownsRow base 60 13 (.slice (some ⟨ge, 0, none⟩) m ce) m (flatEr ((mixA (gE n x) k es).set k ⟨off - x, ek, esv, st, fm, is, ey, em, ed, ew, ea, sec, bas⟩)) by
            rw [flatEr_set 0 (by omega) (.int .i64 (off - x)) ⟨off, ek, esv, st, fm, is, ey, em, ed, ew, ea, sec, bas⟩ ⟨off - x, ek, esv, st, fm, is, ey, em, ed, ew, ea, sec, bas⟩ rfl _ _ HMX.out]; exact own_set HO2.out)
          have HG3 := Lib.hid (grownM_set (j := k * 13) (v := .int .i64 (off - x)) HG.out)
          have KM3 := Lib.hid (block_other1 (c := ge) (j := k * 13) (v := .int .i64 (off - x)) KM2.out hbg)
          have KC3 := Lib.hid (block_other1 (c := ge) (j := k * 13) (v := .int .i64 (off - x)) KC.out hcg)
          cases is
          · have HO4 := Lib.hid (show ((wr.alloc (.cells #[.int .i64 off, .int .i64 ek, .int .i64 esv, .string st, .string fm, .bool false, .int .i64 ey, .int .i64 em, .int .i64 ed, .int .i64 ew, .int .i64 ea, .int .i64 sec, .int .i64 bas] 60)).setCell ⟨ge, k * 13, none⟩ (.int .i64 (off - x))).ownsRow base 60 13 (.slice (some ⟨ge, 0, none⟩) m ce) m (flatEr (mixA (gE n x) (k + 1) es)) by
              rw [mixA_succ HRr.out, show gE n x ⟨off, ek, esv, st, fm, false, ey, em, ed, ew, ea, sec, bas⟩ = ⟨off - x, ek, esv, st, fm, false, ey, em, ed, ew, ea, sec, bas⟩ from by unfold gE; rw [if_pos ⟨HEK.out, HNA.out⟩]; dsimp only; rw [if_neg (fun q => Bool.noConfusion q.1)]]
              exact HO3.out)
            go_wp2_with fail
            clear HG HO HO2
            have HG := HG3
            have HO := HO4
            go_round
            case rel => exact ⟨k + 1, _, by omega, by go_num, rfl, HG, HO⟩
            case measure => simp [intOf]; omega
          · by_cases hb1 : bas = 1
            · have hb2 : (bas == 1) = true := by simp; exact hb1
              have HB1 := Lib.hid hb1
              clear hb1
              have HO4 := Lib.hid (show (((wr.alloc (.cells #[.int .i64 off, .int .i64 ek, .int .i64 esv, .string st, .string fm, .bool true, .int .i64 ey, .int .i64 em, .int .i64 ed, .int .i64 ew, .int .i64 ea, .int .i64 sec, .int .i64 bas] 60)).setCell ⟨ge, k * 13, none⟩ (.int .i64 (off - x))).setCell ⟨ge, k * 13 + 11, none⟩ (.int .i64 (sec - x))).ownsRow base 60 13 (.slice (some ⟨ge, 0, none⟩) m ce) m (flatEr (mixA (gE n x) (k + 1) es)) by
                rw [mixA_succ HRr.out, show gE n x ⟨off, ek, esv, st, fm, true, ey, em, ed, ew, ea, sec, bas⟩ = ⟨off - x, ek, esv, st, fm, true, ey, em, ed, ew, ea, sec - x, bas⟩ from by unfold gE; rw [if_pos ⟨HEK.out, HNA.out⟩]; dsimp only; rw [if_pos ⟨rfl, HB1.out⟩]]
                have h := own_set (j := k * 13 + 11) (x := .int .i64 (sec - x)) HO3.out
                rw [← flatEr_set 11 (by omega) (.int .i64 (sec - x)) ⟨off - x, ek, esv, st, fm, true, ey, em, ed, ew, ea, sec, bas⟩ ⟨off - x, ek, esv, st, fm, true, ey, em, ed, ew, ea, sec - x, bas⟩ rfl _ _ (gete_same HMX.out), sete_same] at h
                exact h)
              have HG4 := Lib.hid (grownM_set (j := k * 13 + 11) (v := .int .i64 (sec - x)) HG3.out)
              go_wp2_with fail
              clear HG HO HO2 HO3 HG3
              have HG := HG4
              have HO := HO4
              go_round
              case rel => exact ⟨k + 1, _, by omega, by go_num, rfl, HG, HO⟩
              case measure => simp [intOf]; omega
            · have hb2 : (bas == 1) = false := by simp; exact hb1
              have HO4 := Lib.hid (show ((wr.alloc (.cells #[.int .i64 off, .int .i64 ek, .int .i64 esv, .string st, .string fm, .bool true, .int .i64 ey, .int .i64 em, .int .i64 ed, .int .i64 ew, .int .i64 ea, .int .i64 sec, .int .i64 bas] 60)).setCell ⟨ge, k * 13, none⟩ (.int .i64 (off - x))).ownsRow base 60 13 (.slice (some ⟨ge, 0, none⟩) m ce) m (flatEr (mixA (gE n x) (k + 1) es)) by
                rw [mixA_succ HRr.out, show gE n x ⟨off, ek, esv, st, fm, true, ey, em, ed, ew, ea, sec, bas⟩ = ⟨off - x, ek, esv, st, fm, true, ey, em, ed, ew, ea, sec, bas⟩ from by unfold gE; rw [if_pos ⟨HEK.out, HNA.out⟩]; dsimp only; rw [if_neg (fun q => hb1 q.2)]]
                exact HO3.out)
              go_wp2_with fail
              clear HG HO HO2
              have HG := HG3
              have HO := HO4
              go_round
              case rel => exact ⟨k + 1, _, by omega, by go_num, rfl, HG, HO⟩
              case measure => simp [intOf]; omega
        · have hne := strq_ne hna
          have HO4 := Lib.hid (show (wr.alloc (.cells #[.int .i64 off, .int .i64 ek, .int .i64 esv, .string st, .string fm, .bool is, .int .i64 ey, .int .i64 em, .int .i64 ed, .int .i64 ew, .int .i64 ea, .int .i64 sec, .int .i64 bas] 60)).ownsRow base 60 13 (.slice (some ⟨ge, 0, none⟩) m ce) m (flatEr (mixA (gE n x) (k + 1) es)) by
            rw [mixA_same HRr.out (by unfold gE; rw [if_neg (fun q => hna q.2)])]
            exact HO2.out)
          go_wp2_with fail
          clear HO HO2
          have HO := HO4
          go_round
          case rel => exact ⟨k + 1, _, by omega, by go_num, rfl, HG, HO⟩
          case measure => simp [intOf]; omega
      · have hk3 : (ek == 2) = false := by simp; exact hk2
        have HO4 := Lib.hid (show (wr.alloc (.cells #[.int .i64 off, .int .i64 ek, .int .i64 esv, .string st, .string fm, .bool is, .int .i64 ey, .int .i64 em, .int .i64 ed, .int .i64 ew, .int .i64 ea, .int .i64 sec, .int .i64 bas] 60)).ownsRow base 60 13 (.slice (some ⟨ge, 0, none⟩) m ce) m (flatEr (mixA (gE n x) (k + 1) es)) by
          rw [mixA_same HRr.out (by unfold gE; rw [if_neg (fun q => hk2 q.1)])]
          exact HO2.out)
        go_wp2_with fail
        clear HO HO2
        have HO := HO4
        go_round
        case rel => exact ⟨k + 1, _, by omega, by go_num, rfl, HG, HO⟩
        case measure => simp [intOf]; omega
    · obtain rfl : k = m := by omega
      have kS : ¬ (k : Int) < (k : Int) := by omega
      go_wp2_with fail
      exact hexit.out _ _ _ _ _ _ _ _ _ _ _ _ _ _ _ _ _ _ _ _ _ _ _ _ _ _ _ _ _ _ _ _ _ _ _ _ _ _ _ _ _ _ _ _ _ _ _ _ _ _ _ _ ⟨HG, Lib.hid (by have := HO.out; rw [HN.out, mixA_all] at this; rw [HN.out]; exact this)⟩


set_option maxRecDepth 100000 in
set_option maxHeartbeats 16000000 in
theorem sh_loop3 {code : Code} {Q0 : Exit → Act → World → Prop} (hc : shLoop 19 = code) (n : ByteArray) (n0 base Z zc gz : Nat) (x : Int) (zs : _root_.List (ByteArray × _root_.List Er)) (ps : _root_.List (ByteArray × Value)) (w : World) (HN : Hid (Z = zs.length)) (hnb : Z ≤ 1000) (hn0 : n0 ≤ w.heap.size) (hn1 : n0 ≤ base) (hxb : -8000 ≤ x ∧ x ≤ 8000) (HBD : Hid (∀ (nm : ByteArray) (es : _root_.List Er), (nm, es) ∈ zs → 1 ≤ es.length ∧ es.length ≤ 4 ∧ ∀ e ∈ es, (-60000 ≤ e.off ∧ e.off ≤ 60000) ∧ (-200000 ≤ e.sec ∧ e.sec ≤ 200000))) (HZP : Hid (OwnZp base (.slice (some ⟨gz, 0, none⟩) Z zc) zs ps w)) (u0 u1 u2 u3 u4 u7 u8 u9 u10 u11 u12 u13 u14 u15 u16 u17 u18 u19 u20 u21 u22 u23 u24 u25 u26 u27 u28 u29 u30 u31 u32 u33 u34 u35 u36 u37 u38 u39 u40 u41 u42 u43 u44 u45 u46 u47 u48 u49 u50 u51 u52 u53 u54 u55 u56 u57 u58 u59 u60 u61 u62 u63 u64 u65 u66 u67 u68 u69 u70 u71 u72 u73 u74 u75 u76 u77 u78 u79 u80 u81 u82 u83 u87 u88 u89 u90 u91 u92 u93 u94 u95 u96 u97 u98 u99 u100 u101 u102 u103 u104 u105 u106 u107 u108 u109 u110 u111 u112 u113 u114 u115 u116 u117 u118 u119 u120 u121 u122 u123 u124 u125 u126 u127 u128 u129 u130 u131 u132 u133 u134 u135 u136 u137 u138 u139 u140 u141 u142 u143 u144 u145 u146 u147 u148 u149 u150 u151 u152 u153 u154 u155 u156 u157 u158 u159 u160 u161 u162 u163 u164 u165 u166 u167 u168 u169 u170 u171 u172 u173 u174 u175 u176 u177 u178 u179 : Value)
    (hexit : Hid (∀ (v12 v13 v14 v86 v87 v88 v89 v90 v91 v92 v93 v94 v95 v96 v97 v98 v99 v100 v101 v102 v103 v104 v105 v106 v107 v108 v109 v110 v111 v112 v113 v114 v115 v116 v117 v118 v119 v120 v121 v122 v123 v124 v125 v126 v127 v128 v129 v130 v131 v132 v133 v134 v135 v136 v137 v138 v139 v140 v141 v142 : Value) (w' : World), (Hid (OwnZp base (.slice (some ⟨gz, 0, none⟩) Z zc) (zs.map (fun z : ByteArray × _root_.List Er => (z.1, z.2.map (gE n x)))) ps w') ∧ Hid (KeptT w w') ∧ Hid (Below n0 w w')) → Q0 (.exit 4) ⟨List.toArray (u0 :: u1 :: u2 :: u3 :: u4 :: .string n :: .int .i64 x :: u7 :: u8 :: u9 :: u10 :: u11 :: v12 :: v13 :: v14 :: u15 :: u16 :: u17 :: u18 :: u19 :: u20 :: u21 :: u22 :: u23 :: u24 :: u25 :: u26 :: u27 :: u28 :: u29 :: u30 :: u31 :: u32 :: u33 :: u34 :: u35 :: u36 :: u37 :: u38 :: u39 :: u40 :: u41 :: u42 :: u43 :: u44 :: u45 :: u46 :: u47 :: u48 :: u49 :: u50 :: u51 :: u52 :: u53 :: u54 :: u55 :: u56 :: u57 :: u58 :: u59 :: u60 :: u61 :: u62 :: u63 :: u64 :: u65 :: u66 :: u67 :: u68 :: u69 :: u70 :: u71 :: u72 :: u73 :: u74 :: u75 :: u76 :: u77 :: u78 :: u79 :: u80 :: u81 :: u82 :: u83 :: .slice (some ⟨gz, 0, none⟩) Z zc :: .int .i64 (Z : Int) :: v86 :: v87 :: v88 :: v89 :: v90 :: v91 :: v92 :: v93 :: v94 :: v95 :: v96 :: v97 :: v98 :: v99 :: v100 :: v101 :: v102 :: v103 :: v104 :: v105 :: v106 :: v107 :: v108 :: v109 :: v110 :: v111 :: v112 :: v113 :: v114 :: v115 :: v116 :: v117 :: v118 :: v119 :: v120 :: v121 :: v122 :: v123 :: v124 :: v125 :: v126 :: v127 :: v128 :: v129 :: v130 :: v131 :: v132 :: v133 :: v134 :: v135 :: v136 :: v137 :: v138 :: v139 :: v140 :: v141 :: v142 :: u143 :: u144 :: u145 :: u146 :: u147 :: u148 :: u149 :: u150 :: u151 :: u152 :: u153 :: u154 :: u155 :: u156 :: u157 :: u158 :: u159 :: u160 :: u161 :: u162 :: u163 :: u164 :: u165 :: u166 :: u167 :: u168 :: u169 :: u170 :: u171 :: u172 :: u173 :: u174 :: u175 :: u176 :: u177 :: u178 :: u179 :: []), []⟩ w')) :
    Code.wp Tryd.prog (.loop code) Q0 ⟨List.toArray (u0 :: u1 :: u2 :: u3 :: u4 :: .string n :: .int .i64 x :: u7 :: u8 :: u9 :: u10 :: u11 :: u12 :: u13 :: u14 :: u15 :: u16 :: u17 :: u18 :: u19 :: u20 :: u21 :: u22 :: u23 :: u24 :: u25 :: u26 :: u27 :: u28 :: u29 :: u30 :: u31 :: u32 :: u33 :: u34 :: u35 :: u36 :: u37 :: u38 :: u39 :: u40 :: u41 :: u42 :: u43 :: u44 :: u45 :: u46 :: u47 :: u48 :: u49 :: u50 :: u51 :: u52 :: u53 :: u54 :: u55 :: u56 :: u57 :: u58 :: u59 :: u60 :: u61 :: u62 :: u63 :: u64 :: u65 :: u66 :: u67 :: u68 :: u69 :: u70 :: u71 :: u72 :: u73 :: u74 :: u75 :: u76 :: u77 :: u78 :: u79 :: u80 :: u81 :: u82 :: u83 :: .slice (some ⟨gz, 0, none⟩) Z zc :: .int .i64 (Z : Int) :: .int .i64 0 :: u87 :: u88 :: u89 :: u90 :: u91 :: u92 :: u93 :: u94 :: u95 :: u96 :: u97 :: u98 :: u99 :: u100 :: u101 :: u102 :: u103 :: u104 :: u105 :: u106 :: u107 :: u108 :: u109 :: u110 :: u111 :: u112 :: u113 :: u114 :: u115 :: u116 :: u117 :: u118 :: u119 :: u120 :: u121 :: u122 :: u123 :: u124 :: u125 :: u126 :: u127 :: u128 :: u129 :: u130 :: u131 :: u132 :: u133 :: u134 :: u135 :: u136 :: u137 :: u138 :: u139 :: u140 :: u141 :: u142 :: u143 :: u144 :: u145 :: u146 :: u147 :: u148 :: u149 :: u150 :: u151 :: u152 :: u153 :: u154 :: u155 :: u156 :: u157 :: u158 :: u159 :: u160 :: u161 :: u162 :: u163 :: u164 :: u165 :: u166 :: u167 :: u168 :: u169 :: u170 :: u171 :: u172 :: u173 :: u174 :: u175 :: u176 :: u177 :: u178 :: u179 :: []), []⟩ w := by
  subst hc
  conv => arg 2; arg 1; whnf
  go_loopw [86] (fun tv wr => ∃ (i : Nat) (wq : World), i ≤ Z ∧ tv = .int .i64 (i : Int) ∧ wr = wq ∧ Hid (OwnZp base (.slice (some ⟨gz, 0, none⟩) Z zc) (mixA (fun z : ByteArray × _root_.List Er => (z.1, z.2.map (gE n x))) i zs) ps wq) ∧ Hid (KeptT w wq) ∧ Hid (Below n0 w wq)) (fun tv _ => Z - (intOf tv).toNat)
  case atStart => exact ⟨0, _, by omega, rfl, rfl, Lib.hid (by rw [mixA_zero]; exact HZP.out), Lib.hid (keptT_refl _), Lib.hid (Below.refl _ _)⟩
  case round =>
    clear HZP
    obtain ⟨i, wq, hi, rfl, rfl, HZP, HKT, HB⟩ := hrel
    by_cases hlt : i < Z
    · have k0 : (0 : Int) ≤ (i : Int) := by omega
      have kS : (i : Int) < (Z : Int) := by omega
      obtain ⟨⟨nm, es⟩, hz⟩ : ∃ z, zs[i]? = some z := ⟨_, _root_.List.getElem?_eq_getElem (by rw [← HN.out]; exact hlt)⟩
      obtain ⟨hm1, hm4, hbd⟩ := HBD.out nm es (_root_.List.mem_of_getElem? hz)
      have HRr := Lib.hid hz
      have HMX := Lib.hid (mixA_get (f := (fun z : ByteArray × _root_.List Er => (z.1, z.2.map (gE n x)))) hz)
      obtain ⟨⟨pn, pv⟩, hp, hpr, z0, z1⟩ := HZP.out.at_ HMX.out
      dsimp only at hpr z1
      obtain ⟨ge, ce, rfl, hge, hlge⟩ := hpr.form (by omega)
      obtain ⟨m, hm⟩ : ∃ m, m = es.length := ⟨_, rfl⟩
      rw [← hm] at hm1 hm4 hpr hp z1
      have HM := Lib.hid hm
      have HP := Lib.hid hp
      have hba := bel_alloc wr (.cells #[.string nm, .slice (some ⟨ge, 0, none⟩) m ce] 45)
      have KZ := Lib.hid (heap_alloc_new wr (.cells #[.string nm, .slice (some ⟨ge, 0, none⟩) m ce] 45))
      have HER := Lib.hid (own_below17 hpr hba)
      have HZP2 := Lib.hid (HZP.out.below hba)
      have HKT2 := Lib.hid (keptT_below HKT.out hba)
      have HB2 := Lib.hid (HB.out.trans (hba.mono (Nat.le_trans hn0 HB.out.size)))
      have hcg : wr.heap.size ≠ ge := by omega
      have HBE := Lib.hid hbd
      clear hz hp hpr hbd hm hba
      have c0 := cellB KZ.out (i := 0) rfl
      have c1 := cellB KZ.out (i := 1) rfl
      go_wp2_with fail
      clear c0 c1 z0 z1
      refine sh_loop4 (by kernel_rfl) n base m ce ge wr.heap.size nm x es _ HM (by omega) hxb hcg HBE KZ HER _ _ _ _ _ _ _ _ _ _ _ _ _ _ _ _ _ _ _ _ _ _ _ _ _ _ _ _ _ _ _ _ _ _ _ _ _ _ _ _ _ _ _ _ _ _ _ _ _ _ _ _ _ _ _ _ _ _ _ _ _ _ _ _ _ _ _ _ _ _ _ _ _ _ _ _ _ _ _ _ _ _ _ _ _ _ _ _ _ _ _ _ _ _ _ _ _ _ _ _ _ _ _ _ _ _ _ _ _ _ _ _ _ _ _ _ _ _ _ _ _ _ _ _ _ _ _ _ _ _ _ _ _ _ _ _ _ _ _ _ _ _ _ _ _ _ _ _ _ _ _ _ _ _ _ _ _ _ _ _ _ _ _ _ _ _ _ _ _ _ _ _ _ _ (Lib.hid ?_)
      intro v13 v14 v93 v94 v95 v96 v97 v98 v99 v100 v101 v102 v103 v104 v105 v106 v107 v108 v109 v110 v111 v112 v113 v114 v115 v116 v117 v118 v119 v120 v121 v122 v123 v124 v125 v126 v127 v128 v129 v130 v131 v132 v133 v134 v135 v136 v137 v138 v139 v140 v141 w5 HQ
      obtain ⟨HG5, HO5⟩ := HQ
      obtain ⟨cur, hcur⟩ := (own_typ HER.out ge rfl).2
      have hlen : (es.map (gE n x)).length = m := by rw [_root_.List.length_map]; exact HM.out.symm
      have HZ6 := Lib.hid (show OwnZp base (.slice (some ⟨gz, 0, none⟩) Z zc) (mixA (fun z : ByteArray × _root_.List Er => (z.1, z.2.map (gE n x))) (i + 1) zs) ps w5 by
        rw [mixA_succ HRr.out]
        exact OwnZp.chg (es' := es.map (gE n x)) HZP2.out HMX.out HP.out (by rw [hlen]; exact HM.out) HG5.out (by rw [hlen]; exact HO5.out))
      have HK6 := Lib.hid (keptT_grown HKT2.out HG5.out hcur)
      have HB6 := Lib.hid (HB2.out.trans (below_grownM HG5.out (by omega) (HER.out.lt ge rfl).2))
      clear HG5 HO5 hcur hlen HZP HKT HB HZP2 HKT2 HB2 KZ HER
      go_wp2_with fail
      go_round
      case rel => exact ⟨i + 1, _, by omega, by go_num, rfl, HZ6, HK6, HB6⟩
      case measure => simp [intOf]; omega
    · obtain rfl : i = Z := by omega
      have kS : ¬ (i : Int) < (i : Int) := by omega
      go_wp2_with fail
      exact hexit.out _ _ _ _ _ _ _ _ _ _ _ _ _ _ _ _ _ _ _ _ _ _ _ _ _ _ _ _ _ _ _ _ _ _ _ _ _ _ _ _ _ _ _ _ _ _ _ _ _ _ _ _ _ _ _ _ _ _ _ _ _ ⟨Lib.hid (by have := HZP.out; rw [HN.out, mixA_all] at this; rw [HN.out]; exact this), HKT, HB⟩


set_option maxRecDepth 100000 in
set_option maxHeartbeats 16000000 in
theorem sh_loop5 {code : Code} {Q0 : Exit → Act → World → Prop} (hc : shLoop 31 = code) (bS bM Z zc zc2 nr rc rc2 ln lc ln2 lc2 S : Nat) (ra za la ra2 za2 la2 : Option Addr) (sv : Int) (rs : _root_.List Ru) (zs : _root_.List (ByteArray × _root_.List Er)) (w : World) (HN : Hid (Z = zs.length)) (hnb : Z ≤ 1000) (HTT : Hid (Tabs w)) (HMP : Hid (MadeP sv (ofS (nmR 0) rs))) (HZOK : Hid (∀ (i : Nat) (nm : ByteArray) (es : _root_.List Er), zs[i]? = some (nm, es) → ∃ Y, JanEs S es rs Y ∧ 1 ≤ es.length ∧ es.length ≤ 4)) (KS : Hid (w.heap[bS]? = some (.cells #[.slice ra nr rc, .slice za Z zc, .slice la ln lc, .slice none 0 0] 41))) (KM : Hid (w.heap[bM]? = some (.cells #[.slice ra2 nr rc2, .slice za2 Z zc2, .slice la2 ln2 lc2, .slice none 0 0] 41))) (HRS : Hid (Rul (.slice ra nr rc) rs w)) (HRM : Hid (Rul (.slice ra2 nr rc2) (rs.map (fR (nmR 0) (-sv))) w)) (HZS : Hid (RdZo (.slice za Z zc) zs w)) (HZM : Hid (RdZo (.slice za2 Z zc2) (zs.map (fun z : ByteArray × _root_.List Er => (z.1, z.2.map (gE (nmR 0) (-sv))))) w)) (u0 u1 u2 u5 u6 u7 u8 u9 u10 u11 u12 u13 u14 u15 u16 u17 u18 u19 u20 u21 u22 u23 u24 u25 u26 u27 u28 u29 u30 u31 u32 u33 u34 u35 u36 u37 u38 u39 u40 u41 u42 u43 u44 u45 u46 u47 u48 u49 u50 u51 u52 u53 u54 u55 u56 u57 u58 u59 u60 u61 u62 u63 u64 u65 u66 u67 u68 u69 u70 u71 u72 u73 u74 u75 u76 u77 u78 u79 u80 u81 u82 u83 u84 u85 u86 u87 u88 u89 u90 u91 u92 u93 u94 u95 u96 u97 u98 u99 u100 u101 u102 u103 u104 u105 u106 u107 u108 u109 u110 u111 u112 u113 u114 u115 u116 u117 u118 u119 u120 u121 u122 u123 u124 u125 u126 u127 u128 u129 u130 u131 u132 u133 u134 u135 u136 u137 u138 u139 u140 u141 u142 u143 u144 u147 u148 u149 u150 u151 u152 u153 u154 u155 u156 u157 u158 u159 u160 u161 u162 u163 u164 u165 u166 u167 u168 u169 u170 u171 u172 u173 u174 u175 u176 u177 u178 u179 : Value)
    (hexit : Hid (∀ (v2 v15 v16 v17 v18 v19 v146 v147 v148 v149 v150 v151 v152 v153 v154 v155 v156 v157 v158 v159 v160 v161 v162 v163 v164 v165 v166 v167 v168 v169 v170 v171 v172 v173 v174 v175 v176 v177 v178 : Value) (w' : World), Hid (Below w.heap.size w w') → Q0 (.exit 8) ⟨List.toArray (u0 :: u1 :: v2 :: .pointer (some ⟨bS, 0, none⟩) :: .pointer (some ⟨bM, 0, none⟩) :: u5 :: u6 :: u7 :: u8 :: u9 :: u10 :: u11 :: u12 :: u13 :: u14 :: v15 :: v16 :: v17 :: v18 :: v19 :: u20 :: u21 :: u22 :: u23 :: u24 :: u25 :: u26 :: u27 :: u28 :: u29 :: u30 :: u31 :: u32 :: u33 :: u34 :: u35 :: u36 :: u37 :: u38 :: u39 :: u40 :: u41 :: u42 :: u43 :: u44 :: u45 :: u46 :: u47 :: u48 :: u49 :: u50 :: u51 :: u52 :: u53 :: u54 :: u55 :: u56 :: u57 :: u58 :: u59 :: u60 :: u61 :: u62 :: u63 :: u64 :: u65 :: u66 :: u67 :: u68 :: u69 :: u70 :: u71 :: u72 :: u73 :: u74 :: u75 :: u76 :: u77 :: u78 :: u79 :: u80 :: u81 :: u82 :: u83 :: u84 :: u85 :: u86 :: u87 :: u88 :: u89 :: u90 :: u91 :: u92 :: u93 :: u94 :: u95 :: u96 :: u97 :: u98 :: u99 :: u100 :: u101 :: u102 :: u103 :: u104 :: u105 :: u106 :: u107 :: u108 :: u109 :: u110 :: u111 :: u112 :: u113 :: u114 :: u115 :: u116 :: u117 :: u118 :: u119 :: u120 :: u121 :: u122 :: u123 :: u124 :: u125 :: u126 :: u127 :: u128 :: u129 :: u130 :: u131 :: u132 :: u133 :: u134 :: u135 :: u136 :: u137 :: u138 :: u139 :: u140 :: u141 :: u142 :: u143 :: u144 :: .int .i64 (Z : Int) :: v146 :: v147 :: v148 :: v149 :: v150 :: v151 :: v152 :: v153 :: v154 :: v155 :: v156 :: v157 :: v158 :: v159 :: v160 :: v161 :: v162 :: v163 :: v164 :: v165 :: v166 :: v167 :: v168 :: v169 :: v170 :: v171 :: v172 :: v173 :: v174 :: v175 :: v176 :: v177 :: v178 :: u179 :: []), []⟩ w')) :
    Code.wp Tryd.prog (.loop code) Q0 ⟨List.toArray (u0 :: u1 :: u2 :: .pointer (some ⟨bS, 0, none⟩) :: .pointer (some ⟨bM, 0, none⟩) :: u5 :: u6 :: u7 :: u8 :: u9 :: u10 :: u11 :: u12 :: u13 :: u14 :: u15 :: u16 :: u17 :: u18 :: u19 :: u20 :: u21 :: u22 :: u23 :: u24 :: u25 :: u26 :: u27 :: u28 :: u29 :: u30 :: u31 :: u32 :: u33 :: u34 :: u35 :: u36 :: u37 :: u38 :: u39 :: u40 :: u41 :: u42 :: u43 :: u44 :: u45 :: u46 :: u47 :: u48 :: u49 :: u50 :: u51 :: u52 :: u53 :: u54 :: u55 :: u56 :: u57 :: u58 :: u59 :: u60 :: u61 :: u62 :: u63 :: u64 :: u65 :: u66 :: u67 :: u68 :: u69 :: u70 :: u71 :: u72 :: u73 :: u74 :: u75 :: u76 :: u77 :: u78 :: u79 :: u80 :: u81 :: u82 :: u83 :: u84 :: u85 :: u86 :: u87 :: u88 :: u89 :: u90 :: u91 :: u92 :: u93 :: u94 :: u95 :: u96 :: u97 :: u98 :: u99 :: u100 :: u101 :: u102 :: u103 :: u104 :: u105 :: u106 :: u107 :: u108 :: u109 :: u110 :: u111 :: u112 :: u113 :: u114 :: u115 :: u116 :: u117 :: u118 :: u119 :: u120 :: u121 :: u122 :: u123 :: u124 :: u125 :: u126 :: u127 :: u128 :: u129 :: u130 :: u131 :: u132 :: u133 :: u134 :: u135 :: u136 :: u137 :: u138 :: u139 :: u140 :: u141 :: u142 :: u143 :: u144 :: .int .i64 (Z : Int) :: .int .i64 0 :: u147 :: u148 :: u149 :: u150 :: u151 :: u152 :: u153 :: u154 :: u155 :: u156 :: u157 :: u158 :: u159 :: u160 :: u161 :: u162 :: u163 :: u164 :: u165 :: u166 :: u167 :: u168 :: u169 :: u170 :: u171 :: u172 :: u173 :: u174 :: u175 :: u176 :: u177 :: u178 :: u179 :: []), []⟩ w := by
  subst hc
  conv => arg 2; arg 1; whnf
  go_loopw [146] (fun tv wr => ∃ (i : Nat) (wq : World), i ≤ Z ∧ tv = .int .i64 (i : Int) ∧ wr = wq ∧ Hid (Below w.heap.size w wq)) (fun tv _ => Z - (intOf tv).toNat)
  case atStart => exact ⟨0, _, by omega, rfl, rfl, Lib.hid (Below.refl _ _)⟩
  case round =>
    obtain ⟨i, wq, hi, rfl, rfl, HB⟩ := hrel
    have hb0 := HB.out
    replace KS := Lib.hid (block_below KS.out hb0)
    replace KM := Lib.hid (block_below KM.out hb0)
    replace HRS := Lib.hid (HRS.out.below hb0)
    replace HRM := Lib.hid (HRM.out.below hb0)
    replace HZS := Lib.hid (HZS.out.below hb0)
    replace HZM := Lib.hid (HZM.out.below hb0)
    replace HTT := Lib.hid (HTT.out.below hb0)
    clear hb0
    by_cases hlt : i < Z
    · have k0 : (0 : Int) ≤ (i : Int) := by omega
      have kS : (i : Int) < (Z : Int) := by omega
      obtain ⟨⟨nm, es⟩, hz⟩ : ∃ z, zs[i]? = some z := ⟨_, _root_.List.getElem?_eq_getElem (by rw [← HN.out]; exact hlt)⟩
      obtain ⟨Y, hj, hm1, hm4⟩ := HZOK.out i nm es hz
      have HJ := Lib.hid hj
      have HZ1 := Lib.hid hz
      have HZ2 := Lib.hid (show (zs.map (fun z : ByteArray × _root_.List Er => (z.1, z.2.map (gE (nmR 0) (-sv)))))[i]? = some (nm, es.map (gE (nmR 0) (-sv))) by rw [_root_.List.getElem?_map, hz]; rfl)
      obtain ⟨m, hm⟩ : ∃ m, m = es.length := ⟨_, rfl⟩
      rw [← hm] at hm1 hm4
      have HM1 := Lib.hid hm
      clear hj hz hm
      have s0 := cellB KS.out (i := 0) rfl
      have s1 := cellB KS.out (i := 1) rfl
      have s2 := cellB KS.out (i := 2) rfl
      have s3 := cellB KS.out (i := 3) rfl
      go_wp2_with fail
      clear s0 s1 s2 s3
      refine (spansG_any za Z zc i ra la none nr rc ln lc 0 0 rs zs nm es _ (by exact HTT.out) (by exact HRS.out) (by exact HZS.out) HZ1.out (by omega) (by rw [← HM1.out]; omega) (by rw [← HM1.out]; omega) (by exact HJ.out.ok)).mono ?_
      rintro ex w3 ⟨(⟨v, ts, h1, h2, h3, rfl, h5⟩ | ⟨hw, -⟩), hb⟩
      rotate_left 1
      · exact absurd hw HJ.out.notWrong
      have HTS := Lib.hid (And.intro h1 h2)
      have hLl : (spl (-9223372036854775808) 0 (ts ++ [9223372036854775807])).length = m := by rw [spl_len, HM1.out, ← h1]; simp
      obtain ⟨L, hLs⟩ : ∃ L, spl (-9223372036854775808) 0 (ts ++ [9223372036854775807]) = L := ⟨_, rfl⟩
      have HLS := Lib.hid hLs
      rw [hLs] at h5 hLl
      obtain ⟨Al, cl, hv⟩ := h5.sl
      rw [hLl] at hv
      subst hv
      have HRL := Lib.hid h5
      have HLL := Lib.hid hLl
      replace KS := Lib.hid (block_below KS.out hb)
      replace KM := Lib.hid (block_below KM.out hb)
      replace HRS := Lib.hid (HRS.out.below hb)
      replace HRM := Lib.hid (HRM.out.below hb)
      replace HZS := Lib.hid (HZS.out.below hb)
      replace HZM := Lib.hid (HZM.out.below hb)
      replace HTT := Lib.hid (HTT.out.below hb)
      replace HB := Lib.hid (bel_trans HB.out hb)
      clear h1 h2 h3 h5 hLl hb hLs
      have s0 := cellB KM.out (i := 0) rfl
      have s1 := cellB KM.out (i := 1) rfl
      have s2 := cellB KM.out (i := 2) rfl
      have s3 := cellB KM.out (i := 3) rfl
      go_wp2_with fail
      clear s0 s1 s2 s3
      refine (spansG_any za2 Z zc2 i ra2 la2 none nr rc2 ln2 lc2 0 0 (rs.map (fR (nmR 0) (-sv))) (zs.map (fun z : ByteArray × _root_.List Er => (z.1, z.2.map (gE (nmR 0) (-sv))))) nm (es.map (gE (nmR 0) (-sv))) _ (by exact HTT.out) (by exact HRM.out) (by exact HZM.out) HZ2.out (by omega) (by rw [_root_.List.length_map, ← HM1.out]; omega) (by rw [_root_.List.length_map, ← HM1.out]; omega) (by exact sh_ok HJ.out HMP.out)).mono ?_
      rintro ex w4 ⟨(⟨v', ts', h1, h2, h3, rfl, h5⟩ | ⟨hw, -⟩), hb⟩
      rotate_left 1
      · exact absurd hw (sh_notWrong HJ.out HMP.out)
      have hts : ts' = ts := sh_insts HJ.out HMP.out HTS.out.1 HTS.out.2 h1 h2
      rw [hts, HLS.out] at h5
      have HRL2 := Lib.hid h5
      replace HRL := Lib.hid (HRL.out.below hb)
      replace KS := Lib.hid (block_below KS.out hb)
      replace KM := Lib.hid (block_below KM.out hb)
      replace HRS := Lib.hid (HRS.out.below hb)
      replace HRM := Lib.hid (HRM.out.below hb)
      replace HZS := Lib.hid (HZS.out.below hb)
      replace HZM := Lib.hid (HZM.out.below hb)
      replace HTT := Lib.hid (HTT.out.below hb)
      replace HB := Lib.hid (bel_trans HB.out hb)
      have m5 : ((m : Int) == 0) = false := by simp; omega
      have m7 : 0 < m := by omega
      have m8 : (m == 0) = false := by simp; omega
      have m9 : (m : Int) ≠ 0 := by omega
      have m10 : m ≠ 0 := by omega
      clear h1 h2 h3 h5 hb hts
      go_wp2_with fail
      refine (equalSp_any _ v' L _ (by exact HRL.out) (by exact HRL2.out) (by rw [HLL.out]; omega)).mono ?_
      rintro ex w5 ⟨rfl, hb⟩
      replace HB := Lib.hid (bel_trans HB.out hb)
      clear hb
      go_wp2_with fail
      go_round
      case rel => exact ⟨i + 1, _, by omega, by go_num, rfl, HB⟩
      case measure => simp [intOf]; omega
    · obtain rfl : i = Z := by omega
      have kS : ¬ (i : Int) < (i : Int) := by omega
      go_wp2_with fail
      exact hexit.out _ _ _ _ _ _ _ _ _ _ _ _ _ _ _ _ _ _ _ _ _ _ _ _ _ _ _ _ _ _ _ _ _ _ _ _ _ _ _ _ HB

end Go.Proofs.YtdppmeeobpbfnaaDoor
