/-
  The sets of a draft's source: the first loop of analemmalaw23.Draft.Made.
-/
import Derived.Test.YtdppmeeobpbfnaaDoorErMdB
import Derived.Deep.DeepCutAuto
import Derived.Deep.AppendLies
namespace Go.Proofs.YtdppmeeobpbfnaaDoor
open Go.RowKit Cv
set_option linter.unusedVariables false
set_option linter.unusedSimpArgs false

namespace Cv
def startsAt (n : Nat) : Code → Bool
  | .region id _ _ => id == n
  | .seq a _ => startsAt n a
  | .block _ c => startsAt n c
  | .scope c => startsAt n c
  | _ => false
/-- the body of the loop that begins at a region -/
def loopAt (n : Nat) : Code → Option Code
  | .loop c => if startsAt n c then some c else loopAt n c
  | .seq a b => match loopAt n a with
    | some c => some c
    | none => loopAt n b
  | .cond _ a b => match loopAt n a with
    | some c => some c
    | none => loopAt n b
  | .block _ c => loopAt n c
  | .scope c => loopAt n c
  | _ => none
theorem own_blk {w : World} {base size n : Nat} {t : TypeId} {v : Value} {xs : _root_.List Value} (h : w.ownsRow base t size v n xs) {b : Nat} (hb : b < base) : v.ownBlock ≠ some b := fun e => by have := (h.lt b e).1; omega
theorem own_news {w : World} {base g n cap size : Nat} {e : TypeId} {xs : _root_.List Value} (h : w.ownsRow base e size (.slice (some ⟨g, 0, none⟩) n cap) n xs) : ∀ j u, xs[j]? = some u → w.cell? ((⟨g, 0, none⟩ : Addr).add j) = some u := h.cells rfl
theorem flatRu_one (rs : _root_.List Ru) : ∀ u ∈ flatRu rs, u.oneCell' = true := by
  intro u hu
  obtain ⟨r, _, hr⟩ := _root_.List.mem_flatMap.1 hu
  exact arr_one r u hr
theorem own_setc {w : World} {base size n b j : Nat} {t : TypeId} {v u : Value} {xs : _root_.List Value} (h : w.ownsRow base t size v n xs) (hb : b < base) : (w.setCell ⟨b, j, none⟩ u).ownsRow base t size v n xs := by
  obtain ⟨hl, h0 | ⟨g, cap, cur, h1, h2, h3, h4⟩⟩ := h
  · exact ⟨hl, .inl h0⟩
  · exact ⟨hl, .inr ⟨g, cap, cur, h1, h2, block_other1 h3 (by omega), h4⟩⟩
theorem drf_nil (w : World) : Drf (.slice none 0 0) [] w := ⟨none, 0, rfl, Nat.zero_le _, fun b hb => by simp at hb, fun i b hb => by simp at hb⟩
end Cv
noncomputable def mdLoop (n : Nat) : Code := ((Tryd.f12).body.bind (loopAt n)).getD .skip


set_option maxRecDepth 100000 in
set_option maxHeartbeats 16000000 in
theorem md_loop1 {code : Code} {Q0 : Exit → Act → World → Prop} (hc : mdLoop 4 = code) (W : World) (S n1 c1 b1 b2 b3 : Nat) (A1 : Option Addr) (v2 v3 : Value) (sl dl : _root_.List (_root_.List Int)) (w : World) (hS : 1 ≤ S ∧ S ≤ 3) (hb : W.heap.size ≤ b1 ∧ b1 < b2 ∧ b2 < b3) (HW : Hid (Below W.heap.size W w)) (HL : Hid (sl.length = min n1 3 ∧ (n1 = 0 → dl = [[]]) ∧ (n1 ≠ 0 → dl = sl) ∧ dl.length = S)) (HDS : Hid (∀ (i : Nat) (x : _root_.List Int), sl[i]? = some x → ∃ g off u, A1 = some ⟨g, off, none⟩ ∧ W.cell? ⟨g, off + i, none⟩ = some u ∧ Drf u x W)) (KD : Hid (w.heap[b1]? = some (.cells #[.slice A1 n1 c1, v2, v3] 35))) (KS : Hid (w.heap[b3]? = some (.cells #[.slice none 0 0, .slice none 0 0, .slice none 0 0, .slice none 0 0] 41))) (u0 u5 u6 u7 u8 u9 u10 u11 u12 u13 u14 u15 u16 u17 u18 u19 u20 u21 u22 u25 u26 u27 u28 u29 u30 u31 u32 u33 u34 u35 u36 u37 u38 u39 u40 u41 u42 u43 u44 u45 u46 u47 u48 u49 u50 u51 u52 u53 u54 u55 u56 u57 u58 u59 u60 u61 u62 u63 u64 u65 u66 u67 u68 u69 u70 u71 u72 u73 u74 u75 u76 u77 u78 u79 u80 u81 u82 u83 u84 u85 u86 u87 u88 u89 u90 u91 u92 u93 u94 u95 u96 u97 u98 u99 u100 u101 u102 u103 u104 u105 u106 u107 u108 u109 u110 u111 u112 u113 u114 u115 u116 u117 u118 u119 u120 u121 u122 u123 u124 u125 u126 u127 u128 u129 u130 u131 u132 u133 u134 u135 u136 u137 u138 u139 u140 u141 u142 u143 u144 u145 u146 u147 u148 u149 u150 u151 u152 u153 u154 u155 u156 u157 u158 u159 u160 u161 u162 u163 u164 u165 : Value)
    (hexit : Hid (∀ (v5 v6 v24 v25 v26 v27 v28 v29 v30 v31 v32 v33 v34 v35 v36 v37 v38 v39 v40 v41 v42 v43 v44 v45 v46 : Value) (w' : World), (∃ (rs : _root_.List Ru) (vr : Value), Hid (Below b3 w w') ∧ Hid (w'.heap[b3]? = some (.cells #[vr, .slice none 0 0, .slice none 0 0, .slice none 0 0] 41)) ∧ Hid (w'.ownsRow w.heap.size 56 11 vr rs.length (flatRu rs)) ∧ Hid (RulesV dl S rs)) → Q0 (.exit 0) ⟨List.toArray (u0 :: .pointer (some ⟨b1, 0, none⟩) :: .pointer (some ⟨b2, 0, none⟩) :: .pointer (some ⟨b3, 0, none⟩) :: .int .i64 (S : Int) :: v5 :: v6 :: u7 :: u8 :: u9 :: u10 :: u11 :: u12 :: u13 :: u14 :: u15 :: u16 :: u17 :: u18 :: u19 :: u20 :: u21 :: u22 :: .int .i64 (S : Int) :: v24 :: v25 :: v26 :: v27 :: v28 :: v29 :: v30 :: v31 :: v32 :: v33 :: v34 :: v35 :: v36 :: v37 :: v38 :: v39 :: v40 :: v41 :: v42 :: v43 :: v44 :: v45 :: v46 :: u47 :: u48 :: u49 :: u50 :: u51 :: u52 :: u53 :: u54 :: u55 :: u56 :: u57 :: u58 :: u59 :: u60 :: u61 :: u62 :: u63 :: u64 :: u65 :: u66 :: u67 :: u68 :: u69 :: u70 :: u71 :: u72 :: u73 :: u74 :: u75 :: u76 :: u77 :: u78 :: u79 :: u80 :: u81 :: u82 :: u83 :: u84 :: u85 :: u86 :: u87 :: u88 :: u89 :: u90 :: u91 :: u92 :: u93 :: u94 :: u95 :: u96 :: u97 :: u98 :: u99 :: u100 :: u101 :: u102 :: u103 :: u104 :: u105 :: u106 :: u107 :: u108 :: u109 :: u110 :: u111 :: u112 :: u113 :: u114 :: u115 :: u116 :: u117 :: u118 :: u119 :: u120 :: u121 :: u122 :: u123 :: u124 :: u125 :: u126 :: u127 :: u128 :: u129 :: u130 :: u131 :: u132 :: u133 :: u134 :: u135 :: u136 :: u137 :: u138 :: u139 :: u140 :: u141 :: u142 :: u143 :: u144 :: u145 :: u146 :: u147 :: u148 :: u149 :: u150 :: u151 :: u152 :: u153 :: u154 :: u155 :: u156 :: u157 :: u158 :: u159 :: u160 :: u161 :: u162 :: u163 :: u164 :: u165 :: []), []⟩ w')) :
    Code.wp Tryd.prog (.loop code) Q0 ⟨List.toArray (u0 :: .pointer (some ⟨b1, 0, none⟩) :: .pointer (some ⟨b2, 0, none⟩) :: .pointer (some ⟨b3, 0, none⟩) :: .int .i64 (S : Int) :: u5 :: u6 :: u7 :: u8 :: u9 :: u10 :: u11 :: u12 :: u13 :: u14 :: u15 :: u16 :: u17 :: u18 :: u19 :: u20 :: u21 :: u22 :: .int .i64 (S : Int) :: .int .i64 0 :: u25 :: u26 :: u27 :: u28 :: u29 :: u30 :: u31 :: u32 :: u33 :: u34 :: u35 :: u36 :: u37 :: u38 :: u39 :: u40 :: u41 :: u42 :: u43 :: u44 :: u45 :: u46 :: u47 :: u48 :: u49 :: u50 :: u51 :: u52 :: u53 :: u54 :: u55 :: u56 :: u57 :: u58 :: u59 :: u60 :: u61 :: u62 :: u63 :: u64 :: u65 :: u66 :: u67 :: u68 :: u69 :: u70 :: u71 :: u72 :: u73 :: u74 :: u75 :: u76 :: u77 :: u78 :: u79 :: u80 :: u81 :: u82 :: u83 :: u84 :: u85 :: u86 :: u87 :: u88 :: u89 :: u90 :: u91 :: u92 :: u93 :: u94 :: u95 :: u96 :: u97 :: u98 :: u99 :: u100 :: u101 :: u102 :: u103 :: u104 :: u105 :: u106 :: u107 :: u108 :: u109 :: u110 :: u111 :: u112 :: u113 :: u114 :: u115 :: u116 :: u117 :: u118 :: u119 :: u120 :: u121 :: u122 :: u123 :: u124 :: u125 :: u126 :: u127 :: u128 :: u129 :: u130 :: u131 :: u132 :: u133 :: u134 :: u135 :: u136 :: u137 :: u138 :: u139 :: u140 :: u141 :: u142 :: u143 :: u144 :: u145 :: u146 :: u147 :: u148 :: u149 :: u150 :: u151 :: u152 :: u153 :: u154 :: u155 :: u156 :: u157 :: u158 :: u159 :: u160 :: u161 :: u162 :: u163 :: u164 :: u165 :: []), []⟩ w := by
  subst hc
  conv => arg 2; arg 1; whnf
  obtain ⟨i0, hi, hz0, hzs, hzb⟩ := info_parts infoRu
  have HZw := Lib.hid (bk2m KS.out)
  go_loopw [24] (fun t wr => ∃ (k : Nat) (rs : _root_.List Ru) (vr : Value) (wq : World), k ≤ S ∧ t = .int .i64 (k : Int) ∧ wr = wq ∧ Hid (Below b3 w wq) ∧ Hid (wq.heap[b3]? = some (.cells #[vr, .slice none 0 0, .slice none 0 0, .slice none 0 0] 41)) ∧ Hid (wq.ownsRow w.heap.size 56 11 vr rs.length (flatRu rs)) ∧ Hid (RulesV dl k rs)) (fun t _ => S - (intOf t).toNat)
  case atStart => exact ⟨0, [], .slice none 0 0, _, by omega, rfl, rfl, Lib.hid (Below.refl _ _), KS, Lib.hid (World.ownsRow_nil _ _ _ _), Lib.hid (rulesV_nil _)⟩
  case round =>
    clear KS
    obtain ⟨k, rs, vr, wq, hk, rfl, rfl, HB, KS, HO, HR⟩ := hrel
    have HBW := Lib.hid (HW.out.trans (HB.out.mono (by omega)))
    have HZ := Lib.hid (show b3 < wr.heap.size from bk2m KS.out)
    by_cases hlt : k < S
    · have k0 : (0 : Int) ≤ (k : Int) := by omega
      have kS : (k : Int) < (S : Int) := by omega
      have x0 := cellB (HB.out.block b1 (by omega) ▸ KD.out) (i := 0) rfl
      go_upto_if 31 with fail
      go_cut [6, 24] from 24 to 46 (fun v t w' => ∃ d : _root_.List Int, t = .int .i64 (k : Int) ∧ Hid (dl[k]? = some d) ∧ Hid (Drf v d wr) ∧ w' = wr)
      case first =>
        by_cases hn : k < n1
        · obtain ⟨d, hd⟩ : ∃ d, sl[k]? = some d := ⟨_, _root_.List.getElem?_eq_getElem (by rw [HL.out.1]; omega)⟩
          obtain ⟨g, off, u, rfl, hcu, hdu⟩ := HDS.out k d hd
          have hcu := cell_below HBW.out hcu
          have kn : (k : Int) < (n1 : Int) := by omega
          have hdl : dl = sl := HL.out.2.2.1 (by omega)
          subst hdl
          go_wp2_with fail
          go_meet
          case rel => exact ⟨d, rfl, Lib.hid hd, Lib.hid (hdu.below HBW.out), rfl⟩
        · have kn : ¬ (k : Int) < (n1 : Int) := by omega
          have kn2 : decide ((k : Int) < (n1 : Int)) = false := decide_eq_false kn
          have hn0 : n1 = 0 := by
            refine Classical.byContradiction fun hne => ?_
            have h1 := HL.out.2.2.1 hne
            have h2 := HL.out.2.2.2
            have h3 := HL.out.1
            rw [h1] at h2
            omega
          have hdl : dl = [[]] := HL.out.2.1 hn0
          have hS1 : 1 = S := by have := HL.out.2.2.2; rw [hdl] at this; exact this
          obtain rfl : k = 0 := by omega
          go_wp2_with fail
          go_meet
          case rel => exact ⟨[], rfl, Lib.hid (by rw [hdl]; rfl), Lib.hid (drf_nil _), rfl⟩
      case rest =>
        obtain ⟨d, rfl, HD, HDR, hww⟩ := hcut
        have hww' := hww.symm; subst hww'; clear hww x0
        have hsa : ∀ w : World, (Op.stringOp .add ⟨#[82]⟩ (digS k)).run Tryd.prog w = .ok (.string (nmR k)) w := fun w => run_string_add_sum w ⟨#[82]⟩ (digS k) (by show 1 + 1 ≤ _; decide)
        have hbd : Below wr.heap.size wr wr.drew := Below.drew (Below.refl _ _)
        replace HDR := Lib.hid (HDR.out.below hbd)
        replace HO := Lib.hid (own_below17 HO.out hbd)
        replace HB := Lib.hid (HB.out.trans (hbd.mono (by have := HZ.out; omega)))
        replace KS := Lib.hid (block_below KS.out hbd)
        clear hbd
        go_wp2_with fail
        refine wp_region_noPanic ?_
        refine wp_region_held_drew (S := (fun _ => True)) (by kernel_rfl) (by exact trivial) (fun hHeld => ?_)
        refine wpAnyH_take (i := 0) (v := ?_) rfl (by kernel_rfl) (by kernel_rfl) (by kernel_rfl) (fun _ _ _ h => h) (Or.inl ⟨by rfl, ?_⟩) (by assumption) ?_
        rotate_left 1
        · (intro w hSw; (try dsimp only at hSw); first | (go_simp; done) | (go_simp; with_reducible rfl))
        try simp only [Act.put, List.getElem_toArray, List.getElem_cons_succ, List.getElem_cons_zero, List.setIfInBounds_toArray, List.set_cons_zero, List.set_cons_succ]
        refine wpAnyH_take (i := 2) (v := ?_) rfl (by kernel_rfl) (by kernel_rfl) (by kernel_rfl) (fun _ _ _ h => h) (Or.inl ⟨by rfl, ?_⟩) (by assumption) ?_
        rotate_left 1
        · (intro w hSw; (try dsimp only at hSw); first | (go_simp; done) | (go_simp; with_reducible rfl))
        try simp only [Act.put, List.getElem_toArray, List.getElem_cons_succ, List.getElem_cons_zero, List.setIfInBounds_toArray, List.set_cons_zero, List.set_cons_succ]
        refine wpAnyH_take (i := 3) (v := ?_) rfl (by kernel_rfl) (by kernel_rfl) (by kernel_rfl) (fun _ _ _ h => h) (Or.inl ⟨by rfl, ?_⟩) (by assumption) ?_
        rotate_left 1
        · (intro w hSw; (try dsimp only at hSw); first | (go_simp; done) | (go_simp; with_reducible rfl))
        try simp only [Act.put, List.getElem_toArray, List.getElem_cons_succ, List.getElem_cons_zero, List.setIfInBounds_toArray, List.set_cons_zero, List.set_cons_succ]
        refine wpAnyH_ready (rs := [1, 4]) (by kernel_rfl) (by simp) ?_
        refine AllReadyH.cons rfl (fun K hK => ?_) (AllReadyH.cons rfl (fun K hK => ?_) AllReadyH.nil)
        · have y0 := cellB KS.out (i := 0) rfl
          rw [if_pos (by rfl)]
          go_simp
          clear y0
          refine hK.out _ _ trivial (fun hHeld => ?_)
          clear hK K
          try simp only [Act.put, List.getElem_toArray, List.getElem_cons_succ, List.getElem_cons_zero, List.setIfInBounds_toArray, List.set_cons_zero, List.set_cons_succ]
          refine wpAnyH_ready (rs := [4]) (by kernel_rfl) (by simp) ?_
          refine AllReadyH.cons rfl (fun K hK => ?_) AllReadyH.nil
          rw [if_pos (by rfl)]
          go_simp
          refine (itoa_any k _ (by omega)).mono ?_
          rintro e w2 ⟨rfl, hb2⟩
          go_wp2_with fail
          refine hK.out _ _ trivial (fun hHeld => ?_)
          clear hK K
          try simp only [Act.put, List.getElem_toArray, List.getElem_cons_succ, List.getElem_cons_zero, List.setIfInBounds_toArray, List.set_cons_zero, List.set_cons_succ]
          have HB := Lib.hid (HB.out.trans (hb2.mono (Nat.le_of_lt (bk2m KS.out))))
          have HO := Lib.hid (own_below17 HO.out hb2)
          have KS := Lib.hid (block_below KS.out hb2)
          have HDR := Lib.hid (HDR.out.below hb2)
          clear hb2
          refine wpAnyH_take (i := 5) (v := ?_) rfl (by kernel_rfl) (by kernel_rfl) (by kernel_rfl) (fun _ _ _ h => h) (Or.inl ⟨by rfl, ?_⟩) (by assumption) ?_
          rotate_left 1
          · (intro w hSw; (try dsimp only at hSw); first | (go_simp; done) | (go_simp; with_reducible rfl))
          try simp only [Act.put, List.getElem_toArray, List.getElem_cons_succ, List.getElem_cons_zero, List.setIfInBounds_toArray, List.set_cons_zero, List.set_cons_succ]
          clear hsa
          refine wpAnyH_ready (rs := [6]) (by kernel_rfl) (by simp) ?_
          refine AllReadyH.cons rfl (fun K hK => ?_) AllReadyH.nil
          rw [if_pos (by rfl)]
          go_simp
          refine (made17v_any _ d (nmR k) _ (by exact HDR.out)).mono ?_
          rintro e w3 ⟨v3, rk, sv, rfl, l2, l5, hmp, hna, ⟨rs0, hmv, hrk⟩, ho3, hb3⟩
          have HRE := Lib.hid hrk
          clear hrk
          obtain ⟨g3, c3, rfl, hg3, hl3⟩ := ho3.form (by omega)
          go_wp2_with fail
          refine hK.out _ _ trivial (fun hHeld => ?_)
          clear hK K
          try simp only [Act.put, List.getElem_toArray, List.getElem_cons_succ, List.getElem_cons_zero, List.setIfInBounds_toArray, List.set_cons_zero, List.set_cons_succ]
          have HB := Lib.hid (HB.out.trans (hb3.mono (Nat.le_of_lt (bk2m KS.out))))
          have HO := Lib.hid (own_below17 HO.out hb3)
          have KS := Lib.hid (block_below KS.out hb3)
          clear HDR hb3
          have HRK := Lib.hid ho3
          have HRN := Lib.hid (HR.out.snoc HD.out hmv HRE.out hmp l2 l5)
          clear ho3 hmv hmp hna
          have hlen := HR.out.len
          have HOo := HO
          refine wpAnyH_ready (rs := [7]) (by kernel_rfl) (by simp) ?_
          refine AllReadyH.cons rfl (fun K hK => ?_) AllReadyH.nil
          refine step_append_lies _ (by rfl) (.tmp 38) (.tmp 43) 36 (by rfl) w.heap.size 56 i0 (.agg #[.string ⟨#[]⟩, .int .i64 0, .int .i64 0, .int .i64 0, .int .i64 0, .int .i64 0, .int .i64 0, .int .i64 0, .int .i64 0, .int .i64 0, .string ⟨#[]⟩]) 11 104 Tryd.underlying36 hi hz0 hzs hzb rfl (by decide) vr rs.length (flatRu rs) (by rfl) HO.out ⟨g3, 0, none⟩ rk.length c3 (flatRu rk) (by rfl) (flatRu_len rk) (own_news HRK.out) (flatRu_one rk) (by omega) (by unfold maxLen; omega) (by omega) (by have := HB.out.size; omega) _ rfl ?_
          intro g4 c4 w4 hown4 hgrow3 hat4 hlt4
          have hne3 := own_blk HO.out HZw.out
          have KS3 := Lib.hid ((hgrow3.block b3 (bk2m KS.out) (fun e => hne3 e.symm)).trans KS.out)
          refine hK.out _ _ trivial (fun hHeld => ?_)
          clear hK K
          try simp only [Act.put, List.getElem_toArray, List.getElem_cons_succ, List.getElem_cons_zero, List.setIfInBounds_toArray, List.set_cons_zero, List.set_cons_succ]
          have HO := Lib.hid (show w4.ownsRow w.heap.size 56 11 (.slice (some ⟨g4, 0, none⟩) (rs.length + rk.length) c4) (rs ++ rk).length (flatRu (rs ++ rk)) by rw [flatRu_app, _root_.List.length_append]; exact hown4)
          have HB := Lib.hid (show Below b3 w w4 from HB.out.grown hgrow3 (Nat.le_of_lt (bk2m KS.out)) (fun q hq => by have := (HOo.out.lt q hq).1; have := HZw.out; omega))
          clear hgrow3 hown4 KS HOo hat4 hlt4
          refine wpAnyH_take (i := 8) (v := ?_) rfl (by kernel_rfl) (by kernel_rfl) (by kernel_rfl) (fun _ _ _ h => h) (Or.inl ⟨by rfl, ?_⟩) (by assumption) ?_
          rotate_left 1
          · (intro w hSw; (try dsimp only at hSw); first | (go_simp; done) | (go_simp; with_reducible rfl))
          try simp only [Act.put, List.getElem_toArray, List.getElem_cons_succ, List.getElem_cons_zero, List.setIfInBounds_toArray, List.set_cons_zero, List.set_cons_succ]
          refine wpAnyH_ready (rs := [9]) (by kernel_rfl) (by simp) ?_
          refine AllReadyH.cons rfl (fun K hK => ?_) AllReadyH.nil
          rw [if_pos (by rfl)]
          have y0 := cellB KS3.out (i := 0) rfl
          have f0 := frzB KS3.out 0
          go_simp
          clear y0 f0
          replace KS3 := Lib.hid (setc (j := 0) (v := .slice (some ⟨g4, 0, none⟩) (rs.length + rk.length) c4) (ds := #[.slice (some ⟨g4, 0, none⟩) (rs.length + rk.length) c4, .slice none 0 0, .slice none 0 0, .slice none 0 0]) KS3.out rfl)
          replace HB := Lib.hid (HB.out.setCell (p := ⟨b3, 0, none⟩) (Nat.le_refl _) (.slice (some ⟨g4, 0, none⟩) (rs.length + rk.length) c4))
          replace HO := Lib.hid (own_setc (b := b3) (j := 0) (u := .slice (some ⟨g4, 0, none⟩) (rs.length + rk.length) c4) HO.out HZw.out)
          refine hK.out _ _ trivial (fun hHeld => ?_)
          clear hK K
          try simp only [Act.put, List.getElem_toArray, List.getElem_cons_succ, List.getElem_cons_zero, List.setIfInBounds_toArray, List.set_cons_zero, List.set_cons_succ]
          refine wpAnyH_done (by kernel_rfl) ?_ _
          refine NoPanic.normal ?_
          clear hHeld
          generalize w4.setCell ⟨b3, 0, none⟩ _ = w5 at *
          go_wp2_with fail
          go_round
          case rel => exact ⟨k + 1, rs ++ rk, _, _, by omega, by go_num, rfl, HB, KS3, HO, HRN⟩
          case measure => simp [intOf]; omega
        · rw [if_pos (by rfl)]
          go_simp
          refine (itoa_any k _ (by omega)).mono ?_
          rintro e w2 ⟨rfl, hb2⟩
          go_wp2_with fail
          refine hK.out _ _ trivial (fun hHeld => ?_)
          clear hK K
          try simp only [Act.put, List.getElem_toArray, List.getElem_cons_succ, List.getElem_cons_zero, List.setIfInBounds_toArray, List.set_cons_zero, List.set_cons_succ]
          have HB := Lib.hid (HB.out.trans (hb2.mono (Nat.le_of_lt (bk2m KS.out))))
          have HO := Lib.hid (own_below17 HO.out hb2)
          have KS := Lib.hid (block_below KS.out hb2)
          have HDR := Lib.hid (HDR.out.below hb2)
          clear hb2
          refine wpAnyH_take (i := 5) (v := ?_) rfl (by kernel_rfl) (by kernel_rfl) (by kernel_rfl) (fun _ _ _ h => h) (Or.inl ⟨by rfl, ?_⟩) (by assumption) ?_
          rotate_left 1
          · (intro w hSw; (try dsimp only at hSw); first | (go_simp; done) | (go_simp; with_reducible rfl))
          try simp only [Act.put, List.getElem_toArray, List.getElem_cons_succ, List.getElem_cons_zero, List.setIfInBounds_toArray, List.set_cons_zero, List.set_cons_succ]
          clear hsa
          refine wpAnyH_ready (rs := [1, 6]) (by kernel_rfl) (by simp) ?_
          refine AllReadyH.cons rfl (fun K hK => ?_) (AllReadyH.cons rfl (fun K hK => ?_) AllReadyH.nil)
          · have y0 := cellB KS.out (i := 0) rfl
            rw [if_pos (by rfl)]
            go_simp
            clear y0
            refine hK.out _ _ trivial (fun hHeld => ?_)
            clear hK K
            try simp only [Act.put, List.getElem_toArray, List.getElem_cons_succ, List.getElem_cons_zero, List.setIfInBounds_toArray, List.set_cons_zero, List.set_cons_succ]
            refine wpAnyH_ready (rs := [6]) (by kernel_rfl) (by simp) ?_
            refine AllReadyH.cons rfl (fun K hK => ?_) AllReadyH.nil
            rw [if_pos (by rfl)]
            go_simp
            refine (made17v_any _ d (nmR k) _ (by exact HDR.out)).mono ?_
            rintro e w3 ⟨v3, rk, sv, rfl, l2, l5, hmp, hna, ⟨rs0, hmv, hrk⟩, ho3, hb3⟩
            have HRE := Lib.hid hrk
            clear hrk
            obtain ⟨g3, c3, rfl, hg3, hl3⟩ := ho3.form (by omega)
            go_wp2_with fail
            refine hK.out _ _ trivial (fun hHeld => ?_)
            clear hK K
            try simp only [Act.put, List.getElem_toArray, List.getElem_cons_succ, List.getElem_cons_zero, List.setIfInBounds_toArray, List.set_cons_zero, List.set_cons_succ]
            have HB := Lib.hid (HB.out.trans (hb3.mono (Nat.le_of_lt (bk2m KS.out))))
            have HO := Lib.hid (own_below17 HO.out hb3)
            have KS := Lib.hid (block_below KS.out hb3)
            clear HDR hb3
            have HRK := Lib.hid ho3
            have HRN := Lib.hid (HR.out.snoc HD.out hmv HRE.out hmp l2 l5)
            clear ho3 hmv hmp hna
            have hlen := HR.out.len
            have HOo := HO
            refine wpAnyH_ready (rs := [7]) (by kernel_rfl) (by simp) ?_
            refine AllReadyH.cons rfl (fun K hK => ?_) AllReadyH.nil
            refine step_append_lies _ (by rfl) (.tmp 38) (.tmp 43) 36 (by rfl) w.heap.size 56 i0 (.agg #[.string ⟨#[]⟩, .int .i64 0, .int .i64 0, .int .i64 0, .int .i64 0, .int .i64 0, .int .i64 0, .int .i64 0, .int .i64 0, .int .i64 0, .string ⟨#[]⟩]) 11 104 Tryd.underlying36 hi hz0 hzs hzb rfl (by decide) vr rs.length (flatRu rs) (by rfl) HO.out ⟨g3, 0, none⟩ rk.length c3 (flatRu rk) (by rfl) (flatRu_len rk) (own_news HRK.out) (flatRu_one rk) (by omega) (by unfold maxLen; omega) (by omega) (by have := HB.out.size; omega) _ rfl ?_
            intro g4 c4 w4 hown4 hgrow3 hat4 hlt4
            have hne3 := own_blk HO.out HZw.out
            have KS3 := Lib.hid ((hgrow3.block b3 (bk2m KS.out) (fun e => hne3 e.symm)).trans KS.out)
            refine hK.out _ _ trivial (fun hHeld => ?_)
            clear hK K
            try simp only [Act.put, List.getElem_toArray, List.getElem_cons_succ, List.getElem_cons_zero, List.setIfInBounds_toArray, List.set_cons_zero, List.set_cons_succ]
            have HO := Lib.hid (show w4.ownsRow w.heap.size 56 11 (.slice (some ⟨g4, 0, none⟩) (rs.length + rk.length) c4) (rs ++ rk).length (flatRu (rs ++ rk)) by rw [flatRu_app, _root_.List.length_append]; exact hown4)
            have HB := Lib.hid (show Below b3 w w4 from HB.out.grown hgrow3 (Nat.le_of_lt (bk2m KS.out)) (fun q hq => by have := (HOo.out.lt q hq).1; have := HZw.out; omega))
            clear hgrow3 hown4 KS HOo hat4 hlt4
            refine wpAnyH_take (i := 8) (v := ?_) rfl (by kernel_rfl) (by kernel_rfl) (by kernel_rfl) (fun _ _ _ h => h) (Or.inl ⟨by rfl, ?_⟩) (by assumption) ?_
            rotate_left 1
            · (intro w hSw; (try dsimp only at hSw); first | (go_simp; done) | (go_simp; with_reducible rfl))
            try simp only [Act.put, List.getElem_toArray, List.getElem_cons_succ, List.getElem_cons_zero, List.setIfInBounds_toArray, List.set_cons_zero, List.set_cons_succ]
            refine wpAnyH_ready (rs := [9]) (by kernel_rfl) (by simp) ?_
            refine AllReadyH.cons rfl (fun K hK => ?_) AllReadyH.nil
            rw [if_pos (by rfl)]
            have y0 := cellB KS3.out (i := 0) rfl
            have f0 := frzB KS3.out 0
            go_simp
            clear y0 f0
            replace KS3 := Lib.hid (setc (j := 0) (v := .slice (some ⟨g4, 0, none⟩) (rs.length + rk.length) c4) (ds := #[.slice (some ⟨g4, 0, none⟩) (rs.length + rk.length) c4, .slice none 0 0, .slice none 0 0, .slice none 0 0]) KS3.out rfl)
            replace HB := Lib.hid (HB.out.setCell (p := ⟨b3, 0, none⟩) (Nat.le_refl _) (.slice (some ⟨g4, 0, none⟩) (rs.length + rk.length) c4))
            replace HO := Lib.hid (own_setc (b := b3) (j := 0) (u := .slice (some ⟨g4, 0, none⟩) (rs.length + rk.length) c4) HO.out HZw.out)
            refine hK.out _ _ trivial (fun hHeld => ?_)
            clear hK K
            try simp only [Act.put, List.getElem_toArray, List.getElem_cons_succ, List.getElem_cons_zero, List.setIfInBounds_toArray, List.set_cons_zero, List.set_cons_succ]
            refine wpAnyH_done (by kernel_rfl) ?_ _
            refine NoPanic.normal ?_
            clear hHeld
            generalize w4.setCell ⟨b3, 0, none⟩ _ = w5 at *
            go_wp2_with fail
            go_round
            case rel => exact ⟨k + 1, rs ++ rk, _, _, by omega, by go_num, rfl, HB, KS3, HO, HRN⟩
            case measure => simp [intOf]; omega
          · rw [if_pos (by rfl)]
            go_simp
            refine (made17v_any _ d (nmR k) _ (by exact HDR.out)).mono ?_
            rintro e w3 ⟨v3, rk, sv, rfl, l2, l5, hmp, hna, ⟨rs0, hmv, hrk⟩, ho3, hb3⟩
            have HRE := Lib.hid hrk
            clear hrk
            obtain ⟨g3, c3, rfl, hg3, hl3⟩ := ho3.form (by omega)
            go_wp2_with fail
            refine hK.out _ _ trivial (fun hHeld => ?_)
            clear hK K
            try simp only [Act.put, List.getElem_toArray, List.getElem_cons_succ, List.getElem_cons_zero, List.setIfInBounds_toArray, List.set_cons_zero, List.set_cons_succ]
            have HB := Lib.hid (HB.out.trans (hb3.mono (Nat.le_of_lt (bk2m KS.out))))
            have HO := Lib.hid (own_below17 HO.out hb3)
            have KS := Lib.hid (block_below KS.out hb3)
            clear HDR hb3
            have HRK := Lib.hid ho3
            have HRN := Lib.hid (HR.out.snoc HD.out hmv HRE.out hmp l2 l5)
            clear ho3 hmv hmp hna
            have hlen := HR.out.len
            refine wpAnyH_ready (rs := [1]) (by kernel_rfl) (by simp) ?_
            refine AllReadyH.cons rfl (fun K hK => ?_) AllReadyH.nil
            have y0 := cellB KS.out (i := 0) rfl
            rw [if_pos (by rfl)]
            go_simp
            clear y0
            refine hK.out _ _ trivial (fun hHeld => ?_)
            clear hK K
            try simp only [Act.put, List.getElem_toArray, List.getElem_cons_succ, List.getElem_cons_zero, List.setIfInBounds_toArray, List.set_cons_zero, List.set_cons_succ]
            have HOo := HO
            refine wpAnyH_ready (rs := [7]) (by kernel_rfl) (by simp) ?_
            refine AllReadyH.cons rfl (fun K hK => ?_) AllReadyH.nil
            refine step_append_lies _ (by rfl) (.tmp 38) (.tmp 43) 36 (by rfl) w.heap.size 56 i0 (.agg #[.string ⟨#[]⟩, .int .i64 0, .int .i64 0, .int .i64 0, .int .i64 0, .int .i64 0, .int .i64 0, .int .i64 0, .int .i64 0, .int .i64 0, .string ⟨#[]⟩]) 11 104 Tryd.underlying36 hi hz0 hzs hzb rfl (by decide) vr rs.length (flatRu rs) (by rfl) HO.out ⟨g3, 0, none⟩ rk.length c3 (flatRu rk) (by rfl) (flatRu_len rk) (own_news HRK.out) (flatRu_one rk) (by omega) (by unfold maxLen; omega) (by omega) (by have := HB.out.size; omega) _ rfl ?_
            intro g4 c4 w4 hown4 hgrow3 hat4 hlt4
            have hne3 := own_blk HO.out HZw.out
            have KS3 := Lib.hid ((hgrow3.block b3 (bk2m KS.out) (fun e => hne3 e.symm)).trans KS.out)
            refine hK.out _ _ trivial (fun hHeld => ?_)
            clear hK K
            try simp only [Act.put, List.getElem_toArray, List.getElem_cons_succ, List.getElem_cons_zero, List.setIfInBounds_toArray, List.set_cons_zero, List.set_cons_succ]
            have HO := Lib.hid (show w4.ownsRow w.heap.size 56 11 (.slice (some ⟨g4, 0, none⟩) (rs.length + rk.length) c4) (rs ++ rk).length (flatRu (rs ++ rk)) by rw [flatRu_app, _root_.List.length_append]; exact hown4)
            have HB := Lib.hid (show Below b3 w w4 from HB.out.grown hgrow3 (Nat.le_of_lt (bk2m KS.out)) (fun q hq => by have := (HOo.out.lt q hq).1; have := HZw.out; omega))
            clear hgrow3 hown4 KS HOo hat4 hlt4
            refine wpAnyH_take (i := 8) (v := ?_) rfl (by kernel_rfl) (by kernel_rfl) (by kernel_rfl) (fun _ _ _ h => h) (Or.inl ⟨by rfl, ?_⟩) (by assumption) ?_
            rotate_left 1
            · (intro w hSw; (try dsimp only at hSw); first | (go_simp; done) | (go_simp; with_reducible rfl))
            try simp only [Act.put, List.getElem_toArray, List.getElem_cons_succ, List.getElem_cons_zero, List.setIfInBounds_toArray, List.set_cons_zero, List.set_cons_succ]
            refine wpAnyH_ready (rs := [9]) (by kernel_rfl) (by simp) ?_
            refine AllReadyH.cons rfl (fun K hK => ?_) AllReadyH.nil
            rw [if_pos (by rfl)]
            have y0 := cellB KS3.out (i := 0) rfl
            have f0 := frzB KS3.out 0
            go_simp
            clear y0 f0
            replace KS3 := Lib.hid (setc (j := 0) (v := .slice (some ⟨g4, 0, none⟩) (rs.length + rk.length) c4) (ds := #[.slice (some ⟨g4, 0, none⟩) (rs.length + rk.length) c4, .slice none 0 0, .slice none 0 0, .slice none 0 0]) KS3.out rfl)
            replace HB := Lib.hid (HB.out.setCell (p := ⟨b3, 0, none⟩) (Nat.le_refl _) (.slice (some ⟨g4, 0, none⟩) (rs.length + rk.length) c4))
            replace HO := Lib.hid (own_setc (b := b3) (j := 0) (u := .slice (some ⟨g4, 0, none⟩) (rs.length + rk.length) c4) HO.out HZw.out)
            refine hK.out _ _ trivial (fun hHeld => ?_)
            clear hK K
            try simp only [Act.put, List.getElem_toArray, List.getElem_cons_succ, List.getElem_cons_zero, List.setIfInBounds_toArray, List.set_cons_zero, List.set_cons_succ]
            refine wpAnyH_done (by kernel_rfl) ?_ _
            refine NoPanic.normal ?_
            clear hHeld
            generalize w4.setCell ⟨b3, 0, none⟩ _ = w5 at *
            go_wp2_with fail
            go_round
            case rel => exact ⟨k + 1, rs ++ rk, _, _, by omega, by go_num, rfl, HB, KS3, HO, HRN⟩
            case measure => simp [intOf]; omega
    · obtain rfl : k = S := by omega
      have kS : ¬ (k : Int) < (k : Int) := by omega
      go_wp2_with fail
      exact hexit.out _ _ _ _ _ _ _ _ _ _ _ _ _ _ _ _ _ _ _ _ _ _ _ _ _ _ ⟨rs, vr, HB, KS, HO, HR⟩

end Go.Proofs.YtdppmeeobpbfnaaDoor
