/-
  The links of a draft's source: the loop of analemmalaw23.Draft.Made over its links.
-/
import Derived.Test.YtdppmeeobpbfnaaDoorErMdZ
namespace Go.Proofs.YtdppmeeobpbfnaaDoor
open Go.RowKit Cv
set_option linter.unusedVariables false
set_option linter.unusedSimpArgs false

theorem infoLk : (Tryd.prog.info? 77).map (fun i => (i.zero, i.size, i.bytes)) = some (some (.agg #[.string ⟨#[]⟩, .string ⟨#[]⟩]), 2, 32) := by kernel_rfl
namespace Cv
theorem tmod_nat {x : Int} {n : Nat} (h : 0 ≤ x) (hn : 0 < n) : ∃ q : Nat, x.tmod (n : Int) = (q : Int) ∧ q < n := by
  have h1 := Int.emod_nonneg x (show (n : Int) ≠ 0 by omega)
  have h2 := Int.emod_lt_of_pos x (show (0 : Int) < (n : Int) by omega)
  refine ⟨(x % (n : Int)).toNat, ?_, by omega⟩
  rw [Int.tmod_eq_emod_of_nonneg h]
  omega
end Cv


set_option maxRecDepth 100000 in
set_option maxHeartbeats 16000000 in
theorem md_loop4 {code : Code} {Q0 : Exit → Act → World → Prop} (hc : mdLoop 31 = code) (S Z cz m cl b1 b2 b3 : Nat) (Az Al : Option Addr) (rv zv : Value) (ll : _root_.List Int) (w : World) (hZ : 1 ≤ Z ∧ Z ≤ 3) (hm : m ≤ 4) (HM : Hid (m = ll.length)) (HD : Hid (∀ (i : Nat) (x : Int), ll[i]? = some x → (0 ≤ x ∧ x ≤ 255) ∧ ∃ g off, Al = some ⟨g, off, none⟩ ∧ g ≠ b3 ∧ w.cell? ⟨g, off + i, none⟩ = some (.int .u8 x))) (KS : Hid (w.heap[b3]? = some (.cells #[rv, zv, .slice none 0 0, .slice none 0 0] 41))) (u0 u4 u5 u6 u8 u9 u10 u11 u12 u13 u14 u15 u16 u17 u18 u19 u20 u21 u22 u23 u24 u25 u26 u27 u28 u29 u30 u31 u32 u33 u34 u35 u36 u37 u38 u39 u40 u41 u42 u43 u44 u45 u46 u47 u48 u49 u50 u51 u52 u53 u54 u55 u56 u57 u58 u59 u60 u61 u62 u63 u64 u65 u66 u67 u68 u69 u70 u71 u72 u73 u74 u75 u76 u77 u78 u79 u80 u81 u82 u83 u84 u85 u86 u87 u88 u89 u90 u91 u92 u93 u94 u95 u96 u97 u98 u99 u100 u101 u102 u103 u104 u105 u106 u107 u108 u109 u110 u111 u112 u113 u114 u115 u116 u117 u118 u119 u120 u121 u122 u126 u127 u128 u129 u130 u131 u132 u133 u134 u135 u136 u137 u138 u139 u140 u141 u142 u143 u144 u145 u146 u147 u148 u149 u150 u151 u152 u153 u154 u155 u156 u157 u158 u159 u160 u161 u162 u163 u164 u165 : Value)
    (hexit : Hid (∀ (v14 v15 v16 v17 v125 v126 v127 v128 v129 v130 v131 v132 v133 v134 v135 v136 v137 v138 v139 v140 v141 v142 v143 v144 v145 v146 v147 v148 v149 v150 v151 v152 v153 v154 v155 v156 v157 v158 v159 v160 v161 v162 v163 v164 : Value) (w' : World), (∃ (lv : Value) (xs : _root_.List Value), Hid (w.grownBy w' (some b3)) ∧ Hid (w'.heap[b3]? = some (.cells #[rv, zv, lv, .slice none 0 0] 41)) ∧ Hid (w'.ownsRow w.heap.size 77 2 lv m xs)) → Q0 (.exit 6) ⟨List.toArray (u0 :: .pointer (some ⟨b1, 0, none⟩) :: .pointer (some ⟨b2, 0, none⟩) :: .pointer (some ⟨b3, 0, none⟩) :: u4 :: u5 :: u6 :: .slice Az Z cz :: u8 :: u9 :: u10 :: u11 :: u12 :: u13 :: v14 :: v15 :: v16 :: v17 :: u18 :: u19 :: u20 :: u21 :: u22 :: u23 :: u24 :: u25 :: u26 :: u27 :: u28 :: u29 :: u30 :: u31 :: u32 :: u33 :: u34 :: u35 :: u36 :: u37 :: u38 :: u39 :: u40 :: u41 :: u42 :: u43 :: u44 :: u45 :: u46 :: u47 :: u48 :: u49 :: u50 :: u51 :: u52 :: u53 :: u54 :: u55 :: u56 :: u57 :: u58 :: u59 :: u60 :: u61 :: u62 :: u63 :: u64 :: u65 :: u66 :: u67 :: u68 :: u69 :: u70 :: u71 :: u72 :: u73 :: u74 :: u75 :: u76 :: u77 :: u78 :: u79 :: u80 :: u81 :: u82 :: u83 :: u84 :: u85 :: u86 :: u87 :: u88 :: u89 :: u90 :: u91 :: u92 :: u93 :: u94 :: u95 :: u96 :: u97 :: u98 :: u99 :: u100 :: u101 :: u102 :: u103 :: u104 :: u105 :: u106 :: u107 :: u108 :: u109 :: u110 :: u111 :: u112 :: u113 :: u114 :: u115 :: u116 :: u117 :: u118 :: u119 :: u120 :: u121 :: u122 :: .slice Al m cl :: .int .i64 (m : Int) :: v125 :: v126 :: v127 :: v128 :: v129 :: v130 :: v131 :: v132 :: v133 :: v134 :: v135 :: v136 :: v137 :: v138 :: v139 :: v140 :: v141 :: v142 :: v143 :: v144 :: v145 :: v146 :: v147 :: v148 :: v149 :: v150 :: v151 :: v152 :: v153 :: v154 :: v155 :: v156 :: v157 :: v158 :: v159 :: v160 :: v161 :: v162 :: v163 :: v164 :: u165 :: []), []⟩ w')) :
    Code.wp Tryd.prog (.loop code) Q0 ⟨List.toArray (u0 :: .pointer (some ⟨b1, 0, none⟩) :: .pointer (some ⟨b2, 0, none⟩) :: .pointer (some ⟨b3, 0, none⟩) :: u4 :: u5 :: u6 :: .slice Az Z cz :: u8 :: u9 :: u10 :: u11 :: u12 :: u13 :: u14 :: u15 :: u16 :: u17 :: u18 :: u19 :: u20 :: u21 :: u22 :: u23 :: u24 :: u25 :: u26 :: u27 :: u28 :: u29 :: u30 :: u31 :: u32 :: u33 :: u34 :: u35 :: u36 :: u37 :: u38 :: u39 :: u40 :: u41 :: u42 :: u43 :: u44 :: u45 :: u46 :: u47 :: u48 :: u49 :: u50 :: u51 :: u52 :: u53 :: u54 :: u55 :: u56 :: u57 :: u58 :: u59 :: u60 :: u61 :: u62 :: u63 :: u64 :: u65 :: u66 :: u67 :: u68 :: u69 :: u70 :: u71 :: u72 :: u73 :: u74 :: u75 :: u76 :: u77 :: u78 :: u79 :: u80 :: u81 :: u82 :: u83 :: u84 :: u85 :: u86 :: u87 :: u88 :: u89 :: u90 :: u91 :: u92 :: u93 :: u94 :: u95 :: u96 :: u97 :: u98 :: u99 :: u100 :: u101 :: u102 :: u103 :: u104 :: u105 :: u106 :: u107 :: u108 :: u109 :: u110 :: u111 :: u112 :: u113 :: u114 :: u115 :: u116 :: u117 :: u118 :: u119 :: u120 :: u121 :: u122 :: .slice Al m cl :: .int .i64 (m : Int) :: .int .i64 0 :: u126 :: u127 :: u128 :: u129 :: u130 :: u131 :: u132 :: u133 :: u134 :: u135 :: u136 :: u137 :: u138 :: u139 :: u140 :: u141 :: u142 :: u143 :: u144 :: u145 :: u146 :: u147 :: u148 :: u149 :: u150 :: u151 :: u152 :: u153 :: u154 :: u155 :: u156 :: u157 :: u158 :: u159 :: u160 :: u161 :: u162 :: u163 :: u164 :: u165 :: []), []⟩ w := by
  subst hc
  conv => arg 2; arg 1; whnf
  obtain ⟨i0, hi, hz0, hzs, hzb⟩ := info_parts infoLk
  have HZw := Lib.hid (bk2m KS.out)
  go_loopw [125] (fun t wr => ∃ (k : Nat) (lv : Value) (xs : _root_.List Value) (wq : World), k ≤ m ∧ t = .int .i64 (k : Int) ∧ wr = wq ∧ Hid (w.grownBy wq (some b3)) ∧ Hid (wq.heap[b3]? = some (.cells #[rv, zv, lv, .slice none 0 0] 41)) ∧ Hid (wq.ownsRow w.heap.size 77 2 lv k xs)) (fun t _ => m - (intOf t).toNat)
  case atStart => exact ⟨0, .slice none 0 0, [], _, by omega, rfl, rfl, Lib.hid (grownM_refl _ _), KS, Lib.hid (World.ownsRow_nil _ _ _ _)⟩
  case round =>
    clear KS
    obtain ⟨k, lv, xs, wq, hk, rfl, rfl, HG, KS, HO⟩ := hrel
    by_cases hlt : k < m
    · have k0 : (0 : Int) ≤ (k : Int) := by omega
      have kS : (k : Int) < (m : Int) := by omega
      obtain ⟨x, hx⟩ : ∃ x, ll[k]? = some x := ⟨_, _root_.List.getElem?_eq_getElem (by rw [← HM.out]; exact hlt)⟩
      obtain ⟨⟨x1, x2⟩, g, off, rfl, hg3, hcu⟩ := HD.out k x hx
      replace hcu := HG.out.cell hcu (fun e => hg3 (Option.some.inj e))
      obtain ⟨q, hq, hq1⟩ := tmod_nat (n := Z) x1 (by omega)
      obtain ⟨p, hp, hp1⟩ := tmod_nat (n := Z + k) x1 (by omega)
      rw [Int.natCast_add] at hp
      have hZ0 : (Z : Int) ≠ 0 := by omega
      have hZk : (Z : Int) + (k : Int) ≠ 0 := by omega
      have hZ1 : (1 : Int) ≤ (Z : Int) := by omega
      have hZ3 : (Z : Int) ≤ 3 := by omega
      have hsa : ∀ (i : Nat) (w : World), (Op.stringOp .add ⟨#[65, 114, 101, 97, 47, 90]⟩ (digS i)).run Tryd.prog w = .ok (.string (⟨#[65, 114, 101, 97, 47, 90]⟩ ++ digS i)) w := fun i w => run_string_add_sum w ⟨#[65, 114, 101, 97, 47, 90]⟩ (digS i) (by show 6 + 1 ≤ _; decide)
      have hsl : ∀ (i : Nat) (w : World), (Op.stringOp .add ⟨#[79, 108, 100, 47, 76]⟩ (digS i)).run Tryd.prog w = .ok (.string (⟨#[79, 108, 100, 47, 76]⟩ ++ digS i)) w := fun i w => run_string_add_sum w ⟨#[79, 108, 100, 47, 76]⟩ (digS i) (by show 5 + 1 ≤ _; decide)
      clear hx
      go_wp2_with fail
      refine (itoa_any q _ (by omega)).mono ?_
      rintro e w2 ⟨rfl, hb2⟩
      replace HG := Lib.hid (grownM_trans HG.out (grown_of hb2 none) (fun q hq => by cases hq))
      replace KS := Lib.hid (block_below KS.out hb2)
      replace HO := Lib.hid (own_below17 HO.out hb2)
      clear hb2 hcu
      go_upto_if 147 with fail
      go_cut [16, 125] from 125 to 164 (fun v t w' => ∃ (tg : ByteArray) (wz : World), v = .string tg ∧ t = .int .i64 (k : Int) ∧ wz = w' ∧ Hid (w.grownBy w' (some b3)) ∧ Hid (w'.heap[b3]? = some (.cells #[rv, zv, lv, .slice none 0 0] 41)) ∧ Hid (w'.ownsRow w.heap.size 77 2 lv k xs))
      case first =>
        by_cases hge : Z ≤ p
        · have hg1 : (Z : Int) ≤ (p : Int) := by omega
          have hpz : (p : Int) - (Z : Int) = ((p - Z : Nat) : Int) := by omega
          go_wp2_with fail
          refine (itoa_any (p - Z) _ (by omega)).mono ?_
          rintro e w3 ⟨rfl, hb2⟩
          replace HG := Lib.hid (grownM_trans HG.out (grown_of hb2 none) (fun q hq => by cases hq))
          replace KS := Lib.hid (block_below KS.out hb2)
          replace HO := Lib.hid (own_below17 HO.out hb2)
          clear hb2
          go_wp2_with fail
          go_meet
          case rel => exact ⟨_, _, rfl, rfl, rfl, HG, KS, HO⟩
        · have hg1 : ¬ (Z : Int) ≤ (p : Int) := by omega
          have hg2 : decide ((Z : Int) ≤ (p : Int)) = false := decide_eq_false hg1
          go_wp2_with fail
          go_meet
          case rel => exact ⟨_, _, rfl, rfl, rfl, HG, KS, HO⟩
      case rest =>
        obtain ⟨tg, wz, rfl, rfl, rfl, HG, KS, HO⟩ := hcut
        clear hq hp
        have hbd : Below wz.heap.size wz wz.drew := Below.drew (Below.refl _ _)
        replace HG := Lib.hid (grownM_trans HG.out (grown_of hbd none) (fun q hq => by cases hq))
        replace KS := Lib.hid (block_below KS.out hbd)
        replace HO := Lib.hid (own_below17 HO.out hbd)
        clear hbd
        go_wp2_with fail
        refine wp_region_noPanic ?_
        refine wp_region_held_drew (S := (fun _ => True)) (by kernel_rfl) (by exact trivial) (fun hHeld => ?_)
        refine wpAnyH_take (i := 0) (v := ?_) rfl (by kernel_rfl) (by kernel_rfl) (by kernel_rfl) (fun _ _ _ h => h) (Or.inl ⟨by rfl, ?_⟩) (by assumption) ?_
        rotate_left 1
        · (intro w hSw; (try dsimp only at hSw); first | (go_simp; done) | (go_simp; with_reducible rfl))
        try simp only [Act.put, List.getElem_toArray, List.getElem_cons_succ, List.getElem_cons_zero, List.setIfInBounds_toArray, List.set_cons_zero, List.set_cons_succ]
        refine wpAnyH_take (i := 2) (v := ?_) rfl (by kernel_rfl) (by kernel_rfl) (by kernel_rfl) (fun _ _ _ h => h) (Or.inl ⟨by rfl, ?_⟩) (by assumption) ?_
        rotate_left 1
        · (intro w hSw; (try dsimp only at hSw); first | (go_simp; done) | (go_simp; with_reducible rfl))
        try simp only [Act.put, List.getElem_toArray, List.getElem_cons_succ, List.getElem_cons_zero, List.setIfInBounds_toArray, List.set_cons_zero, List.set_cons_succ]
        refine wpAnyH_take (i := 3) (v := ?_) rfl (by kernel_rfl) (by kernel_rfl) (by kernel_rfl) (fun _ _ _ h => h) (Or.inl ⟨by rfl, ?_⟩) (by assumption) ?_
        rotate_left 1
        · (intro w hSw; (try dsimp only at hSw); first | (go_simp; done) | (go_simp; with_reducible rfl))
        try simp only [Act.put, List.getElem_toArray, List.getElem_cons_succ, List.getElem_cons_zero, List.setIfInBounds_toArray, List.set_cons_zero, List.set_cons_succ]
        refine wpAnyH_ready (rs := [1, 4]) (by kernel_rfl) (by simp) ?_
        refine AllReadyH.cons rfl (fun K hK => ?_) (AllReadyH.cons rfl (fun K hK => ?_) AllReadyH.nil)
        · have y0 := cellB KS.out (i := 2) rfl
          rw [if_pos (by rfl)]
          go_simp
          clear y0
          refine hK.out _ _ trivial (fun hHeld => ?_)
          clear hK K
          try simp only [Act.put, List.getElem_toArray, List.getElem_cons_succ, List.getElem_cons_zero, List.setIfInBounds_toArray, List.set_cons_zero, List.set_cons_succ]
          refine wpAnyH_ready (rs := [4]) (by kernel_rfl) (by simp) ?_
          refine AllReadyH.cons rfl (fun K hK => ?_) AllReadyH.nil
          rw [if_pos (by rfl)]
          go_simp
          refine (itoa_any k _ (by omega)).mono ?_
          rintro e w2 ⟨rfl, hb2⟩
          go_wp2_with fail
          replace HG := Lib.hid (grownM_trans HG.out (grown_of hb2 none) (fun q hq => by cases hq))
          replace KS := Lib.hid (block_below KS.out hb2)
          replace HO := Lib.hid (own_below17 HO.out hb2)
          refine hK.out _ _ trivial (fun hHeld => ?_)
          clear hK K
          try simp only [Act.put, List.getElem_toArray, List.getElem_cons_succ, List.getElem_cons_zero, List.setIfInBounds_toArray, List.set_cons_zero, List.set_cons_succ]
          clear hb2
          refine wpAnyH_take (i := 5) (v := ?_) rfl (by kernel_rfl) (by kernel_rfl) (by kernel_rfl) (fun _ _ _ h => h) (Or.inl ⟨by rfl, ?_⟩) (by assumption) ?_
          rotate_left 1
          · (intro w hSw; (try dsimp only at hSw); first | (go_simp; done) | (go_simp; with_reducible rfl))
          try simp only [Act.put, List.getElem_toArray, List.getElem_cons_succ, List.getElem_cons_zero, List.setIfInBounds_toArray, List.set_cons_zero, List.set_cons_succ]
          refine wpAnyH_take (i := 6) (v := ?_) rfl (by kernel_rfl) (by kernel_rfl) (by kernel_rfl) (fun _ _ _ h => h) (Or.inl ⟨by rfl, ?_⟩) (by assumption) ?_
          rotate_left 1
          · (intro w hSw; (try dsimp only at hSw); first | (go_simp; done) | (go_simp; with_reducible rfl))
          try simp only [Act.put, List.getElem_toArray, List.getElem_cons_succ, List.getElem_cons_zero, List.setIfInBounds_toArray, List.set_cons_zero, List.set_cons_succ]
          refine wpAnyH_ready (rs := [7]) (by kernel_rfl) (by simp) ?_
          refine AllReadyH.cons rfl (fun K hK => ?_) AllReadyH.nil
          rw [if_pos (by rfl)]
          go_simp
          go_wp2_with fail
          have hb3 := bel_alloc w2 (.cells #[.string tg, .string (⟨#[79, 108, 100, 47, 76]⟩ ++ digS k)] 77)
          have KE := Lib.hid (heap_alloc_new w2 (.cells #[.string tg, .string (⟨#[79, 108, 100, 47, 76]⟩ ++ digS k)] 77))
          replace HG := Lib.hid (grownM_trans HG.out (grown_of hb3 none) (fun q hq => by cases hq))
          replace KS := Lib.hid (block_below KS.out hb3)
          replace HO := Lib.hid (own_below17 HO.out hb3)
          clear hb3
          generalize w2.alloc (.cells #[.string tg, .string (⟨#[79, 108, 100, 47, 76]⟩ ++ digS k)] 77) = w3 at *
          refine hK.out _ _ trivial (fun hHeld => ?_)
          clear hK K
          try simp only [Act.put, List.getElem_toArray, List.getElem_cons_succ, List.getElem_cons_zero, List.setIfInBounds_toArray, List.set_cons_zero, List.set_cons_succ]
          have HOo := HO
          refine wpAnyH_ready (rs := [8]) (by kernel_rfl) (by simp) ?_
          refine AllReadyH.cons rfl (fun K hK => ?_) AllReadyH.nil
          refine step_append_lies _ (by rfl) (.tmp 155) (.tmp 161) 38 (by rfl) w.heap.size 77 i0 (.agg #[.string ⟨#[]⟩, .string ⟨#[]⟩]) 2 32 Tryd.underlying38 hi hz0 hzs hzb rfl (by decide) lv k xs (by rfl) HO.out ⟨w2.heap.size, 0, none⟩ 1 1 [.string tg, .string (⟨#[79, 108, 100, 47, 76]⟩ ++ digS k)] (by rfl) rfl (World.news_of_block KE.out) (by intro u hu; simp at hu; rcases hu with rfl | rfl <;> rfl) (by omega) (by unfold maxLen; omega) (by omega) (by have := HG.out.size; omega) _ rfl ?_
          intro g4 c4 w4 hown4 hgrow3 hat4 hlt4
          have hne3 := own_blk HO.out HZw.out
          replace KS := Lib.hid ((hgrow3.block b3 (bk2m KS.out) (fun e => hne3 e.symm)).trans KS.out)
          refine hK.out _ _ trivial (fun hHeld => ?_)
          clear hK K
          try simp only [Act.put, List.getElem_toArray, List.getElem_cons_succ, List.getElem_cons_zero, List.setIfInBounds_toArray, List.set_cons_zero, List.set_cons_succ]
          replace HO := Lib.hid hown4
          replace HG := Lib.hid (grownM_trans HG.out hgrow3 (fun q hq => .inl (HOo.out.lt q hq).1))
          clear hgrow3 hown4 HOo hat4 hlt4 hne3 KE
          refine wpAnyH_take (i := 9) (v := ?_) rfl (by kernel_rfl) (by kernel_rfl) (by kernel_rfl) (fun _ _ _ h => h) (Or.inl ⟨by rfl, ?_⟩) (by assumption) ?_
          rotate_left 1
          · (intro w hSw; (try dsimp only at hSw); first | (go_simp; done) | (go_simp; with_reducible rfl))
          try simp only [Act.put, List.getElem_toArray, List.getElem_cons_succ, List.getElem_cons_zero, List.setIfInBounds_toArray, List.set_cons_zero, List.set_cons_succ]
          refine wpAnyH_ready (rs := [10]) (by kernel_rfl) (by simp) ?_
          refine AllReadyH.cons rfl (fun K hK => ?_) AllReadyH.nil
          rw [if_pos (by rfl)]
          have y0 := cellB KS.out (i := 2) rfl
          have f0 := frzB KS.out 2
          go_simp
          clear y0 f0
          replace KS := Lib.hid (setc (j := 2) (v := .slice (some ⟨g4, 0, none⟩) (k + 1) c4) (ds := #[rv, zv, .slice (some ⟨g4, 0, none⟩) (k + 1) c4, .slice none 0 0]) KS.out rfl)
          replace HG := Lib.hid (grownM_set (j := 2) (v := .slice (some ⟨g4, 0, none⟩) (k + 1) c4) HG.out)
          replace HO := Lib.hid (own_setc (b := b3) (j := 2) (u := .slice (some ⟨g4, 0, none⟩) (k + 1) c4) HO.out HZw.out)
          refine hK.out _ _ trivial (fun hHeld => ?_)
          clear hK K
          try simp only [Act.put, List.getElem_toArray, List.getElem_cons_succ, List.getElem_cons_zero, List.setIfInBounds_toArray, List.set_cons_zero, List.set_cons_succ]
          refine wpAnyH_done (by kernel_rfl) ?_ _
          refine NoPanic.normal ?_
          clear hHeld
          generalize w4.setCell ⟨b3, 2, none⟩ _ = w5 at *
          go_wp2_with fail
          go_round
          case rel => exact ⟨k + 1, _, _, _, by omega, by go_num, rfl, HG, KS, HO⟩
          case measure => simp [intOf]; omega
        · rw [if_pos (by rfl)]
          go_simp
          refine (itoa_any k _ (by omega)).mono ?_
          rintro e w2 ⟨rfl, hb2⟩
          go_wp2_with fail
          replace HG := Lib.hid (grownM_trans HG.out (grown_of hb2 none) (fun q hq => by cases hq))
          replace KS := Lib.hid (block_below KS.out hb2)
          replace HO := Lib.hid (own_below17 HO.out hb2)
          refine hK.out _ _ trivial (fun hHeld => ?_)
          clear hK K
          try simp only [Act.put, List.getElem_toArray, List.getElem_cons_succ, List.getElem_cons_zero, List.setIfInBounds_toArray, List.set_cons_zero, List.set_cons_succ]
          clear hb2
          refine wpAnyH_take (i := 5) (v := ?_) rfl (by kernel_rfl) (by kernel_rfl) (by kernel_rfl) (fun _ _ _ h => h) (Or.inl ⟨by rfl, ?_⟩) (by assumption) ?_
          rotate_left 1
          · (intro w hSw; (try dsimp only at hSw); first | (go_simp; done) | (go_simp; with_reducible rfl))
          try simp only [Act.put, List.getElem_toArray, List.getElem_cons_succ, List.getElem_cons_zero, List.setIfInBounds_toArray, List.set_cons_zero, List.set_cons_succ]
          refine wpAnyH_take (i := 6) (v := ?_) rfl (by kernel_rfl) (by kernel_rfl) (by kernel_rfl) (fun _ _ _ h => h) (Or.inl ⟨by rfl, ?_⟩) (by assumption) ?_
          rotate_left 1
          · (intro w hSw; (try dsimp only at hSw); first | (go_simp; done) | (go_simp; with_reducible rfl))
          try simp only [Act.put, List.getElem_toArray, List.getElem_cons_succ, List.getElem_cons_zero, List.setIfInBounds_toArray, List.set_cons_zero, List.set_cons_succ]
          refine wpAnyH_ready (rs := [1, 7]) (by kernel_rfl) (by simp) ?_
          refine AllReadyH.cons rfl (fun K hK => ?_) (AllReadyH.cons rfl (fun K hK => ?_) AllReadyH.nil)
          · have y0 := cellB KS.out (i := 2) rfl
            rw [if_pos (by rfl)]
            go_simp
            clear y0
            refine hK.out _ _ trivial (fun hHeld => ?_)
            clear hK K
            try simp only [Act.put, List.getElem_toArray, List.getElem_cons_succ, List.getElem_cons_zero, List.setIfInBounds_toArray, List.set_cons_zero, List.set_cons_succ]
            refine wpAnyH_ready (rs := [7]) (by kernel_rfl) (by simp) ?_
            refine AllReadyH.cons rfl (fun K hK => ?_) AllReadyH.nil
            rw [if_pos (by rfl)]
            go_simp
            go_wp2_with fail
            have hb3 := bel_alloc w2 (.cells #[.string tg, .string (⟨#[79, 108, 100, 47, 76]⟩ ++ digS k)] 77)
            have KE := Lib.hid (heap_alloc_new w2 (.cells #[.string tg, .string (⟨#[79, 108, 100, 47, 76]⟩ ++ digS k)] 77))
            replace HG := Lib.hid (grownM_trans HG.out (grown_of hb3 none) (fun q hq => by cases hq))
            replace KS := Lib.hid (block_below KS.out hb3)
            replace HO := Lib.hid (own_below17 HO.out hb3)
            clear hb3
            generalize w2.alloc (.cells #[.string tg, .string (⟨#[79, 108, 100, 47, 76]⟩ ++ digS k)] 77) = w3 at *
            refine hK.out _ _ trivial (fun hHeld => ?_)
            clear hK K
            try simp only [Act.put, List.getElem_toArray, List.getElem_cons_succ, List.getElem_cons_zero, List.setIfInBounds_toArray, List.set_cons_zero, List.set_cons_succ]
            have HOo := HO
            refine wpAnyH_ready (rs := [8]) (by kernel_rfl) (by simp) ?_
            refine AllReadyH.cons rfl (fun K hK => ?_) AllReadyH.nil
            refine step_append_lies _ (by rfl) (.tmp 155) (.tmp 161) 38 (by rfl) w.heap.size 77 i0 (.agg #[.string ⟨#[]⟩, .string ⟨#[]⟩]) 2 32 Tryd.underlying38 hi hz0 hzs hzb rfl (by decide) lv k xs (by rfl) HO.out ⟨w2.heap.size, 0, none⟩ 1 1 [.string tg, .string (⟨#[79, 108, 100, 47, 76]⟩ ++ digS k)] (by rfl) rfl (World.news_of_block KE.out) (by intro u hu; simp at hu; rcases hu with rfl | rfl <;> rfl) (by omega) (by unfold maxLen; omega) (by omega) (by have := HG.out.size; omega) _ rfl ?_
            intro g4 c4 w4 hown4 hgrow3 hat4 hlt4
            have hne3 := own_blk HO.out HZw.out
            replace KS := Lib.hid ((hgrow3.block b3 (bk2m KS.out) (fun e => hne3 e.symm)).trans KS.out)
            refine hK.out _ _ trivial (fun hHeld => ?_)
            clear hK K
            try simp only [Act.put, List.getElem_toArray, List.getElem_cons_succ, List.getElem_cons_zero, List.setIfInBounds_toArray, List.set_cons_zero, List.set_cons_succ]
            replace HO := Lib.hid hown4
            replace HG := Lib.hid (grownM_trans HG.out hgrow3 (fun q hq => .inl (HOo.out.lt q hq).1))
            clear hgrow3 hown4 HOo hat4 hlt4 hne3 KE
            refine wpAnyH_take (i := 9) (v := ?_) rfl (by kernel_rfl) (by kernel_rfl) (by kernel_rfl) (fun _ _ _ h => h) (Or.inl ⟨by rfl, ?_⟩) (by assumption) ?_
            rotate_left 1
            · (intro w hSw; (try dsimp only at hSw); first | (go_simp; done) | (go_simp; with_reducible rfl))
            try simp only [Act.put, List.getElem_toArray, List.getElem_cons_succ, List.getElem_cons_zero, List.setIfInBounds_toArray, List.set_cons_zero, List.set_cons_succ]
            refine wpAnyH_ready (rs := [10]) (by kernel_rfl) (by simp) ?_
            refine AllReadyH.cons rfl (fun K hK => ?_) AllReadyH.nil
            rw [if_pos (by rfl)]
            have y0 := cellB KS.out (i := 2) rfl
            have f0 := frzB KS.out 2
            go_simp
            clear y0 f0
            replace KS := Lib.hid (setc (j := 2) (v := .slice (some ⟨g4, 0, none⟩) (k + 1) c4) (ds := #[rv, zv, .slice (some ⟨g4, 0, none⟩) (k + 1) c4, .slice none 0 0]) KS.out rfl)
            replace HG := Lib.hid (grownM_set (j := 2) (v := .slice (some ⟨g4, 0, none⟩) (k + 1) c4) HG.out)
            replace HO := Lib.hid (own_setc (b := b3) (j := 2) (u := .slice (some ⟨g4, 0, none⟩) (k + 1) c4) HO.out HZw.out)
            refine hK.out _ _ trivial (fun hHeld => ?_)
            clear hK K
            try simp only [Act.put, List.getElem_toArray, List.getElem_cons_succ, List.getElem_cons_zero, List.setIfInBounds_toArray, List.set_cons_zero, List.set_cons_succ]
            refine wpAnyH_done (by kernel_rfl) ?_ _
            refine NoPanic.normal ?_
            clear hHeld
            generalize w4.setCell ⟨b3, 2, none⟩ _ = w5 at *
            go_wp2_with fail
            go_round
            case rel => exact ⟨k + 1, _, _, _, by omega, by go_num, rfl, HG, KS, HO⟩
            case measure => simp [intOf]; omega
          · rw [if_pos (by rfl)]
            go_simp
            go_wp2_with fail
            have hb3 := bel_alloc w2 (.cells #[.string tg, .string (⟨#[79, 108, 100, 47, 76]⟩ ++ digS k)] 77)
            have KE := Lib.hid (heap_alloc_new w2 (.cells #[.string tg, .string (⟨#[79, 108, 100, 47, 76]⟩ ++ digS k)] 77))
            replace HG := Lib.hid (grownM_trans HG.out (grown_of hb3 none) (fun q hq => by cases hq))
            replace KS := Lib.hid (block_below KS.out hb3)
            replace HO := Lib.hid (own_below17 HO.out hb3)
            clear hb3
            generalize w2.alloc (.cells #[.string tg, .string (⟨#[79, 108, 100, 47, 76]⟩ ++ digS k)] 77) = w3 at *
            refine hK.out _ _ trivial (fun hHeld => ?_)
            clear hK K
            try simp only [Act.put, List.getElem_toArray, List.getElem_cons_succ, List.getElem_cons_zero, List.setIfInBounds_toArray, List.set_cons_zero, List.set_cons_succ]
            refine wpAnyH_ready (rs := [1]) (by kernel_rfl) (by simp) ?_
            refine AllReadyH.cons rfl (fun K hK => ?_) AllReadyH.nil
            have y0 := cellB KS.out (i := 2) rfl
            rw [if_pos (by rfl)]
            go_simp
            clear y0
            refine hK.out _ _ trivial (fun hHeld => ?_)
            clear hK K
            try simp only [Act.put, List.getElem_toArray, List.getElem_cons_succ, List.getElem_cons_zero, List.setIfInBounds_toArray, List.set_cons_zero, List.set_cons_succ]
            have HOo := HO
            refine wpAnyH_ready (rs := [8]) (by kernel_rfl) (by simp) ?_
            refine AllReadyH.cons rfl (fun K hK => ?_) AllReadyH.nil
            refine step_append_lies _ (by rfl) (.tmp 155) (.tmp 161) 38 (by rfl) w.heap.size 77 i0 (.agg #[.string ⟨#[]⟩, .string ⟨#[]⟩]) 2 32 Tryd.underlying38 hi hz0 hzs hzb rfl (by decide) lv k xs (by rfl) HO.out ⟨w2.heap.size, 0, none⟩ 1 1 [.string tg, .string (⟨#[79, 108, 100, 47, 76]⟩ ++ digS k)] (by rfl) rfl (World.news_of_block KE.out) (by intro u hu; simp at hu; rcases hu with rfl | rfl <;> rfl) (by omega) (by unfold maxLen; omega) (by omega) (by have := HG.out.size; omega) _ rfl ?_
            intro g4 c4 w4 hown4 hgrow3 hat4 hlt4
            have hne3 := own_blk HO.out HZw.out
            replace KS := Lib.hid ((hgrow3.block b3 (bk2m KS.out) (fun e => hne3 e.symm)).trans KS.out)
            refine hK.out _ _ trivial (fun hHeld => ?_)
            clear hK K
            try simp only [Act.put, List.getElem_toArray, List.getElem_cons_succ, List.getElem_cons_zero, List.setIfInBounds_toArray, List.set_cons_zero, List.set_cons_succ]
            replace HO := Lib.hid hown4
            replace HG := Lib.hid (grownM_trans HG.out hgrow3 (fun q hq => .inl (HOo.out.lt q hq).1))
            clear hgrow3 hown4 HOo hat4 hlt4 hne3 KE
            refine wpAnyH_take (i := 9) (v := ?_) rfl (by kernel_rfl) (by kernel_rfl) (by kernel_rfl) (fun _ _ _ h => h) (Or.inl ⟨by rfl, ?_⟩) (by assumption) ?_
            rotate_left 1
            · (intro w hSw; (try dsimp only at hSw); first | (go_simp; done) | (go_simp; with_reducible rfl))
            try simp only [Act.put, List.getElem_toArray, List.getElem_cons_succ, List.getElem_cons_zero, List.setIfInBounds_toArray, List.set_cons_zero, List.set_cons_succ]
            refine wpAnyH_ready (rs := [10]) (by kernel_rfl) (by simp) ?_
            refine AllReadyH.cons rfl (fun K hK => ?_) AllReadyH.nil
            rw [if_pos (by rfl)]
            have y0 := cellB KS.out (i := 2) rfl
            have f0 := frzB KS.out 2
            go_simp
            clear y0 f0
            replace KS := Lib.hid (setc (j := 2) (v := .slice (some ⟨g4, 0, none⟩) (k + 1) c4) (ds := #[rv, zv, .slice (some ⟨g4, 0, none⟩) (k + 1) c4, .slice none 0 0]) KS.out rfl)
            replace HG := Lib.hid (grownM_set (j := 2) (v := .slice (some ⟨g4, 0, none⟩) (k + 1) c4) HG.out)
            replace HO := Lib.hid (own_setc (b := b3) (j := 2) (u := .slice (some ⟨g4, 0, none⟩) (k + 1) c4) HO.out HZw.out)
            refine hK.out _ _ trivial (fun hHeld => ?_)
            clear hK K
            try simp only [Act.put, List.getElem_toArray, List.getElem_cons_succ, List.getElem_cons_zero, List.setIfInBounds_toArray, List.set_cons_zero, List.set_cons_succ]
            refine wpAnyH_done (by kernel_rfl) ?_ _
            refine NoPanic.normal ?_
            clear hHeld
            generalize w4.setCell ⟨b3, 2, none⟩ _ = w5 at *
            go_wp2_with fail
            go_round
            case rel => exact ⟨k + 1, _, _, _, by omega, by go_num, rfl, HG, KS, HO⟩
            case measure => simp [intOf]; omega
    · obtain rfl : k = m := by omega
      have kS : ¬ (k : Int) < (k : Int) := by omega
      go_wp2_with fail
      exact hexit.out _ _ _ _ _ _ _ _ _ _ _ _ _ _ _ _ _ _ _ _ _ _ _ _ _ _ _ _ _ _ _ _ _ _ _ _ _ _ _ _ _ _ _ _ _ ⟨lv, xs, HG, KS, HO⟩

end Go.Proofs.YtdppmeeobpbfnaaDoor
