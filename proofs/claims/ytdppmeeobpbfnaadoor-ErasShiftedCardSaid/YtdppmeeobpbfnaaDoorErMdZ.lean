/-
  Zones of the call's own: one more (for the loop over zones of analemmalaw23.Draft.Made).
  The zones of a draft's source: the loop of analemmalaw23.Draft.Made over its zones.
-/
import Derived.Test.YtdppmeeobpbfnaaDoorErMdE
namespace Go.Proofs.YtdppmeeobpbfnaaDoor
open Go.RowKit Cv
set_option linter.unusedVariables false
set_option linter.unusedSimpArgs false

namespace Cv
theorem below_grownM {a b : World} {bz n : Nat} (h : a.grownBy b (some bz)) (hn : n ≤ bz) (hz : bz < a.heap.size) : Below n a b :=
  ⟨h.os, h.tape, h.output, h.size, fun k hk => h.block k (by omega) (fun e => by have := Option.some.inj e; omega)⟩
theorem own_two {w : World} {b1 b2 s1 s2 n1 n2 : Nat} {t1 t2 : TypeId} {v1 v2 : Value} {x1 x2 : _root_.List Value} (h1 : w.ownsRow b1 t1 s1 v1 n1 x1) (h2 : w.ownsRow b2 t2 s2 v2 n2 x2) (ht : t1 ≠ t2) : v1.ownBlock = none ∨ v1.ownBlock ≠ v2.ownBlock := by
  cases e : v1.ownBlock with
  | none => exact .inl rfl
  | some q =>
    refine .inr fun e2 => ?_
    obtain ⟨_, c1, k1⟩ := own_typ h1 q e
    obtain ⟨_, c2, k2⟩ := own_typ h2 q e2.symm
    rw [k1] at k2
    simp at k2
    exact ht k2.2
theorem OwnZp.nil (base : Nat) (w : World) : OwnZp base (.slice none 0 0) [] [] w :=
  ⟨rfl, World.ownsRow_nil _ _ _ _, fun i z h => by simp at h, fun j k p q b _ h => by simp at h⟩
theorem OwnZp.snoc {base lo : Nat} {v v' ve : Value} {zs : _root_.List (ByteArray × _root_.List Er)} {ps : _root_.List (ByteArray × Value)} {A B : World} {n : ByteArray} {es : _root_.List Er} (h : OwnZp base v zs ps A) (he : A.ownsRow lo 60 13 ve es.length (flatEr es)) (hlo : base ≤ lo)
    (hold : ∀ (i : Nat) (p : ByteArray × Value) (q : Nat), ps[i]? = some p → p.2.ownBlock = some q → q < lo) (hg : A.grownBy B v.ownBlock) (ho : B.ownsRow base 45 2 v' (zs.length + 1) (flatZo ps ++ [.string n, ve])) :
    OwnZp base v' (zs ++ [(n, es)]) (ps ++ [(n, ve)]) B := by
  obtain ⟨h1, h2, h3, h4⟩ := h
  have hne : 60 ≠ 45 := by decide
  refine ⟨by simp [h1], by rw [flatZo_app, _root_.List.length_append]; exact ho, fun i z hz => ?_, fun j k p q b hjk hp hq hb => ?_⟩
  · by_cases hi : i < zs.length
    · rw [_root_.List.getElem?_append_left hi] at hz
      obtain ⟨p, q1, q2, q3⟩ := h3 i z hz
      exact ⟨p, by rw [_root_.List.getElem?_append_left (by omega)]; exact q1, q2, q3.kept hg (own_two q3 h2 hne)⟩
    · have hi2 := (_root_.List.getElem?_eq_some_iff.1 hz).1
      rw [_root_.List.length_append] at hi2
      simp at hi2
      obtain rfl : i = zs.length := by omega
      rw [_root_.List.getElem?_append_right (Nat.le_refl _), Nat.sub_self] at hz
      simp at hz
      subst hz
      exact ⟨(n, ve), by rw [_root_.List.getElem?_append_right (by omega), h1, Nat.sub_self]; rfl, rfl, (he.mono hlo).kept hg (own_two he h2 hne)⟩
  · have key : ∀ (i : Nat) (p : ByteArray × Value), (ps ++ [(n, ve)])[i]? = some p → (i < ps.length ∧ ps[i]? = some p) ∨ (i = ps.length ∧ p = (n, ve)) := by
      intro i p hp
      by_cases hi : i < ps.length
      · rw [_root_.List.getElem?_append_left hi] at hp
        exact .inl ⟨hi, hp⟩
      · have hi2 := (_root_.List.getElem?_eq_some_iff.1 hp).1
        rw [_root_.List.length_append] at hi2
        simp at hi2
        obtain rfl : i = ps.length := by omega
        rw [_root_.List.getElem?_append_right (Nat.le_refl _), Nat.sub_self] at hp
        simp at hp
        exact .inr ⟨rfl, hp.symm⟩
    rcases key j p hp with ⟨j1, j2⟩ | ⟨j1, rfl⟩ <;> rcases key k q hq with ⟨k1, k2⟩ | ⟨k1, rfl⟩
    · exact h4 j k p q b hjk j2 k2 hb
    · intro e
      have := hold j p b j2 hb
      have := (he.lt b e).1
      omega
    · intro e
      have := hold k q b k2 e
      have := (he.lt b hb).1
      omega
    · omega
theorem OwnZp.lt {base : Nat} {v : Value} {zs : _root_.List (ByteArray × _root_.List Er)} {ps : _root_.List (ByteArray × Value)} {A : World} (h : OwnZp base v zs ps A) (i : Nat) (p : ByteArray × Value) (q : Nat) (hp : ps[i]? = some p) (hq : p.2.ownBlock = some q) : q < A.heap.size := by
  obtain ⟨h1, h2, h3, h4⟩ := h
  have hi := (_root_.List.getElem?_eq_some_iff.1 hp).1
  obtain ⟨p', q1, _, q3⟩ := h3 i _ (_root_.List.getElem?_eq_getElem (by omega))
  rw [hp] at q1
  obtain rfl := Option.some.inj q1
  exact (q3.lt q hq).2
theorem flatZo_one {base : Nat} {v : Value} {zs : _root_.List (ByteArray × _root_.List Er)} {ps : _root_.List (ByteArray × Value)} {A : World} (h : OwnZp base v zs ps A) : zs.length = ps.length := h.1.symm
end Cv
end Go.Proofs.YtdppmeeobpbfnaaDoor
namespace Go.Proofs.YtdppmeeobpbfnaaDoor
open Go.RowKit Cv
set_option linter.unusedVariables false
set_option linter.unusedSimpArgs false

namespace Cv
theorem OwnZp.setc {base b j : Nat} {v u : Value} {zs : _root_.List (ByteArray × _root_.List Er)} {ps : _root_.List (ByteArray × Value)} {A : World} (h : OwnZp base v zs ps A) (hb : b < base) : OwnZp base v zs ps (A.setCell ⟨b, j, none⟩ u) := by
  obtain ⟨h1, h2, h3, h4⟩ := h
  exact ⟨h1, own_setc h2 hb, fun i z hz => by obtain ⟨p, q1, q2, q3⟩ := h3 i z hz; exact ⟨p, q1, q2, own_setc q3 hb⟩, h4⟩
theorem rdm_zero {w : World} {g bz : Nat} {t : TypeId} (h : w.heap[g]? = some (.cells De0.arr t)) (hne : g ≠ bz) : RdDm bz (some ⟨g, 0, none⟩) [De0] w := by
  intro i x hx
  obtain ⟨hi, rfl⟩ : i = 0 ∧ De0 = x := by
    cases i with
    | zero => simp at hx; exact ⟨rfl, hx⟩
    | succ i => simp at hx
  subst hi
  refine ⟨by unfold De.ok De0; decide, g, 0, rfl, hne, fun j u hu => ?_⟩
  have := cellB h (i := j) (v := u) (by rw [← Array.getElem?_toList]; exact hu)
  simpa using this
theorem rdm_of {w A : World} {bz : Nat} {Al : Option Addr} {l : _root_.List De} (h : ∀ (i : Nat) (x : De), l[i]? = some x → x.ok ∧ ∃ g off, Al = some ⟨g, off, none⟩ ∧ A.rangeAt g (off + i * 8) x.arr.toList) (hb : Below A.heap.size A w) (hz : A.heap.size ≤ bz) : RdDm bz Al l w := by
  intro i x hx
  obtain ⟨h1, g, off, h2, h3⟩ := h i x hx
  refine ⟨h1, g, off, h2, ?_, range_below hb h3⟩
  have := lt_of_cell (h3 0 _ rfl)
  dsimp only at this
  omega
theorem normE_nil : normE [] = [De0] := by unfold normE; rw [if_pos rfl]
theorem normE_ne {l : _root_.List De} (h : l ≠ []) : normE l = l := by unfold normE; rw [if_neg h]
theorem zl_at {zr : _root_.List (Nat × _root_.List De)} {zl : _root_.List (_root_.List De)} {k n : Nat} {lr : _root_.List De} (h : zl = zr.map (fun p => normE p.2)) (hx : zr[k]? = some (n, lr)) : zl.getD k [] = normE lr := by
  subst h
  rw [_root_.List.getD_eq_getElem?_getD, _root_.List.getElem?_map, hx]
  rfl
end Cv
theorem infoZo2 : (Tryd.prog.info? 45).map (fun i => (i.zero, i.size, i.bytes)) = some (some (.agg #[.string ⟨#[]⟩, .slice none 0 0]), 2, 40) := by kernel_rfl


set_option maxRecDepth 100000 in
set_option maxHeartbeats 16000000 in
theorem md_loop2 {code : Code} {Q0 : Exit → Act → World → Prop} (hc : mdLoop 15 = code) (W : World) (S Z cz b1 b2 b3 : Nat) (Az : Option Addr) (rv : Value) (zr : _root_.List (Nat × _root_.List De)) (zl : _root_.List (_root_.List De)) (w : World) (hS : 1 ≤ S ∧ S ≤ 3) (hZ : Z ≤ 3) (hb : W.heap.size ≤ b3) (HW : Hid (Below W.heap.size W w)) (HZR : Hid (zr.length = Z ∧ zl = zr.map (fun p => normE p.2))) (HZD : Hid (∀ (i : Nat) (x : Nat × _root_.List De), zr[i]? = some x → ∃ g off u, Az = some ⟨g, off, none⟩ ∧ g ≠ b3 ∧ w.cell? ⟨g, off + i, none⟩ = some u ∧ RdDe u x.1 x.2 W)) (KS : Hid (w.heap[b3]? = some (.cells #[rv, .slice none 0 0, .slice none 0 0, .slice none 0 0] 41))) (u0 u5 u6 u7 u8 u9 u10 u11 u12 u13 u14 u15 u16 u17 u18 u19 u20 u21 u22 u23 u24 u25 u26 u27 u28 u29 u30 u31 u32 u33 u34 u35 u36 u37 u38 u39 u40 u41 u42 u43 u44 u45 u46 u47 u48 u49 u50 u51 u52 u53 u54 u55 u56 u57 u61 u62 u63 u64 u65 u66 u67 u68 u69 u70 u71 u72 u73 u74 u75 u76 u77 u78 u79 u80 u81 u82 u83 u84 u85 u86 u87 u88 u89 u90 u91 u92 u93 u94 u95 u96 u97 u98 u99 u100 u101 u102 u103 u104 u105 u106 u107 u108 u109 u110 u111 u112 u113 u114 u115 u116 u117 u118 u119 u120 u121 u122 u123 u124 u125 u126 u127 u128 u129 u130 u131 u132 u133 u134 u135 u136 u137 u138 u139 u140 u141 u142 u143 u144 u145 u146 u147 u148 u149 u150 u151 u152 u153 u154 u155 u156 u157 u158 u159 u160 u161 u162 u163 u164 u165 : Value)
    (hexit : Hid (∀ (v8 v9 v10 v11 v12 v13 v60 v61 v62 v63 v64 v65 v66 v67 v68 v69 v70 v71 v72 v73 v74 v75 v76 v77 v78 v79 v80 v81 v82 v83 v84 v85 v86 v87 v88 v89 v90 v91 v92 v93 v94 v95 v96 v97 v98 v99 v100 v101 v102 v103 v104 v105 v106 v107 v108 v109 v110 v111 v112 v113 v114 v115 v116 : Value) (w' : World), (∃ (zv : Value) (ps : _root_.List (ByteArray × Value)), Hid (w.grownBy w' (some b3)) ∧ Hid (w'.heap[b3]? = some (.cells #[rv, zv, .slice none 0 0, .slice none 0 0] 41)) ∧ Hid (OwnZp w.heap.size zv (zonesUp (S : Int) zl Z) ps w')) → Q0 (.exit 2) ⟨List.toArray (u0 :: .pointer (some ⟨b1, 0, none⟩) :: .pointer (some ⟨b2, 0, none⟩) :: .pointer (some ⟨b3, 0, none⟩) :: .int .i64 (S : Int) :: u5 :: u6 :: u7 :: v8 :: v9 :: v10 :: v11 :: v12 :: v13 :: u14 :: u15 :: u16 :: u17 :: u18 :: u19 :: u20 :: u21 :: u22 :: u23 :: u24 :: u25 :: u26 :: u27 :: u28 :: u29 :: u30 :: u31 :: u32 :: u33 :: u34 :: u35 :: u36 :: u37 :: u38 :: u39 :: u40 :: u41 :: u42 :: u43 :: u44 :: u45 :: u46 :: u47 :: u48 :: u49 :: u50 :: u51 :: u52 :: u53 :: u54 :: u55 :: u56 :: u57 :: .slice Az Z cz :: .int .i64 (Z : Int) :: v60 :: v61 :: v62 :: v63 :: v64 :: v65 :: v66 :: v67 :: v68 :: v69 :: v70 :: v71 :: v72 :: v73 :: v74 :: v75 :: v76 :: v77 :: v78 :: v79 :: v80 :: v81 :: v82 :: v83 :: v84 :: v85 :: v86 :: v87 :: v88 :: v89 :: v90 :: v91 :: v92 :: v93 :: v94 :: v95 :: v96 :: v97 :: v98 :: v99 :: v100 :: v101 :: v102 :: v103 :: v104 :: v105 :: v106 :: v107 :: v108 :: v109 :: v110 :: v111 :: v112 :: v113 :: v114 :: v115 :: v116 :: u117 :: u118 :: u119 :: u120 :: u121 :: u122 :: u123 :: u124 :: u125 :: u126 :: u127 :: u128 :: u129 :: u130 :: u131 :: u132 :: u133 :: u134 :: u135 :: u136 :: u137 :: u138 :: u139 :: u140 :: u141 :: u142 :: u143 :: u144 :: u145 :: u146 :: u147 :: u148 :: u149 :: u150 :: u151 :: u152 :: u153 :: u154 :: u155 :: u156 :: u157 :: u158 :: u159 :: u160 :: u161 :: u162 :: u163 :: u164 :: u165 :: []), []⟩ w')) :
    Code.wp Tryd.prog (.loop code) Q0 ⟨List.toArray (u0 :: .pointer (some ⟨b1, 0, none⟩) :: .pointer (some ⟨b2, 0, none⟩) :: .pointer (some ⟨b3, 0, none⟩) :: .int .i64 (S : Int) :: u5 :: u6 :: u7 :: u8 :: u9 :: u10 :: u11 :: u12 :: u13 :: u14 :: u15 :: u16 :: u17 :: u18 :: u19 :: u20 :: u21 :: u22 :: u23 :: u24 :: u25 :: u26 :: u27 :: u28 :: u29 :: u30 :: u31 :: u32 :: u33 :: u34 :: u35 :: u36 :: u37 :: u38 :: u39 :: u40 :: u41 :: u42 :: u43 :: u44 :: u45 :: u46 :: u47 :: u48 :: u49 :: u50 :: u51 :: u52 :: u53 :: u54 :: u55 :: u56 :: u57 :: .slice Az Z cz :: .int .i64 (Z : Int) :: .int .i64 0 :: u61 :: u62 :: u63 :: u64 :: u65 :: u66 :: u67 :: u68 :: u69 :: u70 :: u71 :: u72 :: u73 :: u74 :: u75 :: u76 :: u77 :: u78 :: u79 :: u80 :: u81 :: u82 :: u83 :: u84 :: u85 :: u86 :: u87 :: u88 :: u89 :: u90 :: u91 :: u92 :: u93 :: u94 :: u95 :: u96 :: u97 :: u98 :: u99 :: u100 :: u101 :: u102 :: u103 :: u104 :: u105 :: u106 :: u107 :: u108 :: u109 :: u110 :: u111 :: u112 :: u113 :: u114 :: u115 :: u116 :: u117 :: u118 :: u119 :: u120 :: u121 :: u122 :: u123 :: u124 :: u125 :: u126 :: u127 :: u128 :: u129 :: u130 :: u131 :: u132 :: u133 :: u134 :: u135 :: u136 :: u137 :: u138 :: u139 :: u140 :: u141 :: u142 :: u143 :: u144 :: u145 :: u146 :: u147 :: u148 :: u149 :: u150 :: u151 :: u152 :: u153 :: u154 :: u155 :: u156 :: u157 :: u158 :: u159 :: u160 :: u161 :: u162 :: u163 :: u164 :: u165 :: []), []⟩ w := by
  subst hc
  conv => arg 2; arg 1; whnf
  obtain ⟨i0, hi, hz0, hzs, hzb⟩ := info_parts infoZo2
  have HZw := Lib.hid (bk2m KS.out)
  go_loopw [60] (fun t wr => ∃ (k : Nat) (zv : Value) (ps : _root_.List (ByteArray × Value)) (wq : World), k ≤ Z ∧ t = .int .i64 (k : Int) ∧ wr = wq ∧ Hid (w.grownBy wq (some b3)) ∧ Hid (wq.heap[b3]? = some (.cells #[rv, zv, .slice none 0 0, .slice none 0 0] 41)) ∧ Hid (OwnZp w.heap.size zv (zonesUp (S : Int) zl k) ps wq)) (fun t _ => Z - (intOf t).toNat)
  case atStart => exact ⟨0, .slice none 0 0, [], _, by omega, rfl, rfl, Lib.hid (grownM_refl _ _), KS, Lib.hid (OwnZp.nil _ _)⟩
  case round =>
    clear KS
    obtain ⟨k, zv, ps, wq, hk, rfl, rfl, HG, KS, HO⟩ := hrel
    have HBW := Lib.hid (HW.out.trans (below_grownM HG.out hb HZw.out))
    by_cases hlt : k < Z
    · have k0 : (0 : Int) ≤ (k : Int) := by omega
      have kS : (k : Int) < (Z : Int) := by omega
      obtain ⟨⟨n, lr⟩, hx⟩ : ∃ x, zr[k]? = some x := ⟨_, _root_.List.getElem?_eq_getElem (by rw [HZR.out.1]; exact hlt)⟩
      obtain ⟨g, off, u, rfl, hg3, hcu, hdu⟩ := HZD.out k _ hx
      replace hcu := HG.out.cell hcu (fun e => hg3 (Option.some.inj e))
      obtain ⟨Al, cl, rfl, hnc, hcm, hll, hDe⟩ := hdu
      dsimp only at hnc hcm hll hDe hcu
      have HDE := Lib.hid hDe
      have HX := Lib.hid hx
      clear hx hDe
      go_wp2_with fail
      refine (itoa_any k _ (by omega)).mono ?_
      rintro e w2 ⟨rfl, hb2⟩
      go_upto_region 18 with fail
      have HBR := Lib.hid (show Below wr.heap.size wr (w2.alloc (.cells #[.string (⟨#[65, 114, 101, 97, 47, 90]⟩ ++ digS k), .slice none 0 0] 45)) from hb2.trans ((bel_alloc w2 _).mono hb2.size))
      have KZ := Lib.hid (heap_alloc_new w2 (.cells #[.string (⟨#[65, 114, 101, 97, 47, 90]⟩ ++ digS k), .slice none 0 0] 45))
      have hlz := hb2.size
      clear hb2 hcu
      generalize w2.alloc (.cells #[.string (⟨#[65, 114, 101, 97, 47, 90]⟩ ++ digS k), .slice none 0 0] 45) = w3 at *
      generalize w2.heap.size = bz at *
      have HB3 := Lib.hid (HBW.out.trans (HBR.out.mono HBW.out.size))
      obtain ⟨m, hm⟩ : ∃ m, m = lr.length := ⟨_, rfl⟩
      have hmin : (if (4 : Int) < (n : Int) then (4 : Int) else (n : Int)).toNat = m := by rw [hm, hll]; split <;> omega
      have hm4 : m ≤ 4 := by omega
      have hmc : m ≤ cl := by omega
      have HM := Lib.hid hm
      clear hm hll
      go_upto_if 76 with fail
      clear hmin
      generalize (if (4 : Int) < (n : Int) then (4 : Int) else (n : Int)) = tz at *
      go_cut [9, 60] from 60 to 116 (fun v t w' => ∃ (Ad : Option Addr) (m cd : Nat) (l : _root_.List De), v = .slice Ad m cd ∧ t = .int .i64 (k : Int) ∧ m ≤ 4 ∧ Hid (l = normE lr) ∧ Hid (m = l.length) ∧ Hid (RdDm bz Ad l w') ∧ Hid (w'.heap[bz]? = some (.cells #[.string (⟨#[65, 114, 101, 97, 47, 90]⟩ ++ digS k), .slice none 0 0] 45)) ∧ Hid (Below wr.heap.size wr w'))
      case first =>
        by_cases h0 : lr = []
        · subst h0
          obtain rfl : m = 0 := HM.out
          go_wp2_with fail
          have hba := bel_alloc w3 (.cells #[.int .u8 0, .int .u8 0, .int .u8 0, .int .u8 0, .int .u8 0, .int .u8 0, .int .i8 0, .int .i8 0] 74)
          have hnw := heap_alloc_new w3 (.cells #[.int .u8 0, .int .u8 0, .int .u8 0, .int .u8 0, .int .u8 0, .int .u8 0, .int .i8 0, .int .i8 0] 74)
          have hle3 := HBR.out.size
          have hz3 := bk2m KZ.out
          go_meet
          case rel => exact ⟨_, 1, 1, [De0], rfl, rfl, by omega, Lib.hid normE_nil.symm, Lib.hid rfl, Lib.hid (rdm_zero hnw (by omega)), Lib.hid (block_below KZ.out hba), Lib.hid (HBR.out.trans (hba.mono hle3))⟩
        · have hm0 : 0 < m := by have := HM.out; have := _root_.List.length_pos_iff.2 h0; omega
          have hmi : (m : Int) ≠ 0 := by omega
          have hmd : ((m : Int) == 0) = false := by simp; omega
          go_wp2_with fail
          go_meet
          case rel => exact ⟨Al, m, _, lr, rfl, rfl, by omega, Lib.hid (normE_ne h0).symm, HM, Lib.hid (rdm_of HDE.out HB3.out (Nat.le_trans HBW.out.size hlz)), KZ, HBR⟩
      case rest =>
        obtain ⟨Ad, m2, cd, l, rfl, rfl, hm2, HL, HM2, HRD, KZ2, HB4⟩ := hcut
        clear HB3 KZ HBR
        go_wp2_with fail
        refine md_loop3 (by kernel_rfl) S m2 cd bz b1 b2 b3 _ Ad l _ hS hm2 HM2 HRD KZ2 _ _ _ _ _ _ _ _ _ _ _ _ _ _ _ _ _ _ _ _ _ _ _ _ _ _ _ _ _ _ _ _ _ _ _ _ _ _ _ _ _ _ _ _ _ _ _ _ _ _ _ _ _ _ _ _ _ _ _ _ _ _ _ _ _ _ _ _ _ _ _ _ _ _ _ _ _ _ _ _ _ _ _ _ _ _ _ _ _ _ _ _ _ _ _ _ _ _ _ _ _ _ _ _ _ _ _ _ _ _ _ _ _ _ _ _ _ _ _ _ _ _ _ _ _ _ _ _ _ _ _ _ _ _ _ _ _ _ _ _ _ _ _ _ _ _ _ _ _ _ _ _ _ _ _ _ (Lib.hid ?_)
        intro v11 v12 v13 v81 v82 v83 v84 v85 v86 v87 v88 v89 v90 v91 v92 v93 v94 v95 v96 v97 v98 v99 v100 v101 v102 v103 v104 v105 v106 v107 v108 v109 w5 HQ
        obtain ⟨ve, HG5, KZ5, HO5⟩ := HQ
        have HB5 := Lib.hid (HB4.out.trans (below_grownM HG5.out hlz (bk2m KZ2.out)))
        obtain ⟨ae, ce, rfl⟩ := own_sl HO5.out
        have hwb := HB4.out.size
        have hww := HG.out.size
        have HOL := HO
        replace HO := Lib.hid (HO.out.below HB5.out)
        replace KS := Lib.hid (block_below KS.out HB5.out)
        replace HG := Lib.hid (grownM_trans HG.out (grown_of HB5.out none) (fun q hq => by cases hq))
        clear HG5 KZ2 HRD
        have hba := bel_alloc w5 (.cells #[.string (⟨#[65, 114, 101, 97, 47, 90]⟩ ++ digS k), .slice ae m2 ce] 45)
        have hnw := heap_alloc_new w5 (.cells #[.string (⟨#[65, 114, 101, 97, 47, 90]⟩ ++ digS k), .slice ae m2 ce] 45)
        have y0 := cellB KS.out (i := 1) rfl
        have z0 := cellB KZ5.out (i := 0) rfl
        have z1 := cellB KZ5.out (i := 1) rfl
        have HO6 := Lib.hid (HO.out.below hba)
        have HR6 := Lib.hid (show (w5.alloc (.cells #[.string (⟨#[65, 114, 101, 97, 47, 90]⟩ ++ digS k), .slice ae m2 ce] 45)).ownsRow w.heap.size 45 2 zv k (flatZo ps) by have := HO6.out.2.1; rw [zonesUp_len] at this; exact this)
        have hg5 := HG.out.size
        have hws := hba.size
        have hk3 : k < 1000 := by omega
        go_wp2_with (at_builtin; refine wpList_append_own _ rfl (.tmp 111) (.tmp 113) 37 rfl w.heap.size 45 i0 (.agg #[.string ⟨#[]⟩, .slice none 0 0]) 2 40 Tryd.underlying37 hi hz0 hzs hzb rfl (by decide) zv k (flatZo ps) rfl HR6.out ⟨w5.heap.size, 0, none⟩ 1 1 [.string (⟨#[65, 114, 101, 97, 47, 90]⟩ ++ digS k), .slice ae m2 ce] rfl rfl (World.news_of_block hnw) (by intro u hu; simp at hu; rcases hu with rfl | rfl <;> rfl) (by unfold maxLen; omega) (by omega) (by first | omega | (simp; omega)) ?_; intro v1 w6 hown hgrow hnil; obtain ⟨g1, c1, rfl, hg1, hl1⟩ := hown.form (by omega); have KS6 := Lib.hid ((hgrow.block b3 (Nat.lt_of_lt_of_le (bk2m KS.out) hba.size) (fun e => own_blk HR6.out HZw.out e.symm)).trans (block_below KS.out hba)); have y1 := cellB KS6.out (i := 1) (v := zv) rfl; have f1 := frzB KS6.out 1)
        have hgb := hgrow
        replace HG := Lib.hid (grownM_set (j := 1) (v := (.slice (some ⟨g1, 0, none⟩) (k + 1) c1)) (grownM_trans (grownM_trans HG.out (grown_of hba none) (fun q hq => by cases hq)) hgrow (fun q hq => .inl (HR6.out.lt q hq).1)))
        replace KS := Lib.hid (setc (j := 1) (v := (.slice (some ⟨g1, 0, none⟩) (k + 1) c1)) (ds := #[rv, (.slice (some ⟨g1, 0, none⟩) (k + 1) c1), .slice none 0 0, .slice none 0 0]) KS6.out rfl)
        have hll : m2 = l.length := HM2.out
        have HON := OwnZp.setc (b := b3) (j := 1) (u := (.slice (some ⟨g1, 0, none⟩) (k + 1) c1)) (OwnZp.snoc HO6.out (own_below17 (show w5.ownsRow _ 60 13 (.slice ae m2 ce) (ersL (S : Int) l).length (flatEr (ersL (S : Int) l)) by unfold ersL; rw [ersUp_len, ← hll]; exact HO5.out) hba) (by omega) (fun i p q hp hq => Nat.lt_of_lt_of_le (HOL.out.lt i p q hp hq) hwb) hgrow (by rw [zonesUp_len]; exact hown)) HZw.out
        replace HO := Lib.hid (show OwnZp w.heap.size (.slice (some ⟨g1, 0, none⟩) (k + 1) c1) (zonesUp (S : Int) zl (k + 1)) _ (w6.setCell ⟨b3, 1, none⟩ (.slice (some ⟨g1, 0, none⟩) (k + 1) c1)) by rw [zonesUp_succ, zl_at HZR.out.2 HX.out, ← HL.out]; exact HON)
        clear hg1 hl1 HON hown hgrow hnil hgb KS6 y0 z0 z1 y1 f1 HR6 HO6 hnw hba HOL HO5 KZ5 HB5
        generalize w6.setCell ⟨b3, 1, none⟩ (.slice (some ⟨g1, 0, none⟩) (k + 1) c1) = w7 at *
        go_wp2_with fail
        go_round
        case rel => exact ⟨k + 1, (.slice (some ⟨g1, 0, none⟩) (k + 1) c1), _, _, by omega, by go_num, rfl, HG, KS, HO⟩
        case measure => simp [intOf]; omega
    · obtain rfl : k = Z := by omega
      have kS : ¬ (k : Int) < (k : Int) := by omega
      go_wp2_with fail
      exact hexit.out _ _ _ _ _ _ _ _ _ _ _ _ _ _ _ _ _ _ _ _ _ _ _ _ _ _ _ _ _ _ _ _ _ _ _ _ _ _ _ _ _ _ _ _ _ _ _ _ _ _ _ _ _ _ _ _ _ _ _ _ _ _ _ _ ⟨zv, ps, HG, KS, HO⟩

end Go.Proofs.YtdppmeeobpbfnaaDoor
