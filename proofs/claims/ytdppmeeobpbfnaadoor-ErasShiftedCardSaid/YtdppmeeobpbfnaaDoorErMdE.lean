/-
  The eras of a zone of a draft's source: the inner loop of analemmalaw23.Draft.Made.
-/
import Derived.Test.YtdppmeeobpbfnaaDoorErMdS
namespace Go.Proofs.YtdppmeeobpbfnaaDoor
open Go.RowKit Cv
set_option linter.unusedVariables false
set_option linter.unusedSimpArgs false

namespace Cv
theorem grownM_trans {w a b : World} {bz : Nat} {row : Option Nat} (h : w.grownBy a (some bz)) (g : a.grownBy b row) (hr : ∀ q, row = some q → w.heap.size ≤ q ∨ q = bz) : w.grownBy b (some bz) :=
  ⟨g.os.trans h.os, g.tape.trans h.tape, g.output.trans h.output, Nat.le_trans h.size g.size, fun k hk hne => (g.block k (Nat.lt_of_lt_of_le hk h.size) (fun e => by rcases hr k e.symm with q | q; omega; exact hne (by rw [q]))).trans (h.block k hk hne)⟩
theorem grownM_set {w a : World} {bz j : Nat} {v : Value} (h : w.grownBy a (some bz)) : w.grownBy (a.setCell ⟨bz, j, none⟩ v) (some bz) :=
  ⟨h.os, h.tape, h.output, by simpa [World.setCell] using h.size, fun k hk hne => (Below.heap_setCell a ⟨bz, j, none⟩ v k (fun e => hne (by rw [e]))).trans (h.block k hk hne)⟩
theorem grownM_refl (w : World) (r : Option Nat) : w.grownBy w r := ⟨rfl, rfl, rfl, Nat.le_refl _, fun _ _ _ => rfl⟩
theorem range_grown {A B : World} {r : Option Nat} {g o : Nat} {l : _root_.List Value} (hg : A.grownBy B r) (hne : some g ≠ r) (h : A.rangeAt g o l) : B.rangeAt g o l := fun j u hu => hg.cell (h j u hu) hne
/-- eras by numbers in memory, but for one block -/
def RdDm (bz : Nat) (Ad : Option Addr) (l : _root_.List De) (w : World) : Prop := ∀ (i : Nat) (x : De), l[i]? = some x → x.ok ∧ ∃ g off, Ad = some ⟨g, off, none⟩ ∧ g ≠ bz ∧ w.rangeAt g (off + i * 8) x.arr.toList
theorem range8 {w : World} {g o : Nat} {k s f y d b oo a : Int} (h : w.rangeAt g o (De.mk k s f y d b oo a).arr.toList) : w.cell? ⟨g, o, none⟩ = some (.int .u8 k) ∧ w.cell? ⟨g, o + 1, none⟩ = some (.int .u8 s) ∧ w.cell? ⟨g, o + 2, none⟩ = some (.int .u8 f) ∧ w.cell? ⟨g, o + 3, none⟩ = some (.int .u8 y) ∧ w.cell? ⟨g, o + 4, none⟩ = some (.int .u8 d) ∧ w.cell? ⟨g, o + 5, none⟩ = some (.int .u8 b) ∧ w.cell? ⟨g, o + 6, none⟩ = some (.int .i8 oo) ∧ w.cell? ⟨g, o + 7, none⟩ = some (.int .i8 a) :=
  ⟨h 0 _ rfl, h 1 _ rfl, h 2 _ rfl, h 3 _ rfl, h 4 _ rfl, h 5 _ rfl, h 6 _ rfl, h 7 _ rfl⟩
theorem tmod_bd (a : Int) (n : Int) (hn : 0 < n) : -(n - 1) ≤ a.tmod n ∧ a.tmod n ≤ n - 1 := by
  rcases Int.le_total 0 a with h | h
  · rw [Int.tmod_eq_emod_of_nonneg h]
    have := Int.emod_nonneg a (show n ≠ 0 by omega)
    have := Int.emod_lt_of_pos a hn
    omega
  · have h1 : (-a).tmod n = -(a.tmod n) := Int.neg_tmod a n
    rw [Int.tmod_eq_emod_of_nonneg (by omega)] at h1
    have := Int.emod_nonneg (-a) (show n ≠ 0 by omega)
    have := Int.emod_lt_of_pos (-a) hn
    omega
theorem era_at {S : Int} {l : _root_.List De} {k : Nat} {x : De} {y : Int} {e : Er} {f g : Bool} (hx : l[k]? = some x) (hy : y = yrs l k) (he : erAt S l k = e) (hf : f = decide (k = 0)) (hg : g = decide (k + 1 < l.length)) : eraA x.k x.s x.f x.d x.b x.o x.a f g S (y + (1 + x.y % 30)) = e.arr := by
  have h1 : l.getD k De0 = x := by rw [_root_.List.getD_eq_getElem?_getD, hx]; rfl
  have h2 : yrs l (k + 1) = y + (1 + x.y % 30) := by unfold yrs; rw [h1, hy]
  rw [← De.er_arr, ← he]
  unfold erAt
  rw [h1, h2, hf, hg]
theorem yrs_at {l : _root_.List De} {k : Nat} {x : De} {y : Int} (hx : l[k]? = some x) (hy : y = yrs l k) : y + (1 + x.y % 30) = yrs l (k + 1) := by
  have h1 : l.getD k De0 = x := by rw [_root_.List.getD_eq_getElem?_getD, hx]; rfl
  show _ = yrs l k + (1 + (l.getD k De0).y % 30)
  rw [h1, hy]
end Cv
theorem infoEr : (Tryd.prog.info? 60).map (fun i => (i.zero, i.size, i.bytes)) = some (some (.agg #[.int .i64 0, .int .i64 0, .int .i64 0, .string ⟨#[]⟩, .string ⟨#[]⟩, .bool false, .int .i64 0, .int .i64 0, .int .i64 0, .int .i64 0, .int .i64 0, .int .i64 0, .int .i64 0]), 13, 120) := by kernel_rfl


set_option maxRecDepth 100000 in
set_option maxHeartbeats 16000000 in
theorem md_loop3 {code : Code} {Q0 : Exit → Act → World → Prop} (hc : mdLoop 23 = code) (S m cd bz b1 b2 b3 : Nat) (nz : ByteArray) (Ad : Option Addr) (l : _root_.List De) (w : World) (hS : 1 ≤ S ∧ S ≤ 3) (hm : m ≤ 4) (HM : Hid (m = l.length)) (HD : Hid (RdDm bz Ad l w)) (KZ : Hid (w.heap[bz]? = some (.cells #[.string nz, .slice none 0 0] 45))) (u0 u5 u6 u7 u8 u12 u13 u14 u15 u16 u17 u18 u19 u20 u21 u22 u23 u24 u25 u26 u27 u28 u29 u30 u31 u32 u33 u34 u35 u36 u37 u38 u39 u40 u41 u42 u43 u44 u45 u46 u47 u48 u49 u50 u51 u52 u53 u54 u55 u56 u57 u58 u59 u60 u61 u62 u63 u64 u65 u66 u67 u68 u69 u70 u71 u72 u73 u74 u75 u76 u77 u78 u82 u83 u84 u85 u86 u87 u88 u89 u90 u91 u92 u93 u94 u95 u96 u97 u98 u99 u100 u101 u102 u103 u104 u105 u106 u107 u108 u109 u110 u111 u112 u113 u114 u115 u116 u117 u118 u119 u120 u121 u122 u123 u124 u125 u126 u127 u128 u129 u130 u131 u132 u133 u134 u135 u136 u137 u138 u139 u140 u141 u142 u143 u144 u145 u146 u147 u148 u149 u150 u151 u152 u153 u154 u155 u156 u157 u158 u159 u160 u161 u162 u163 u164 u165 : Value)
    (hexit : Hid (∀ (v11 v12 v13 v81 v82 v83 v84 v85 v86 v87 v88 v89 v90 v91 v92 v93 v94 v95 v96 v97 v98 v99 v100 v101 v102 v103 v104 v105 v106 v107 v108 v109 : Value) (w' : World), (∃ (ve : Value), Hid (w.grownBy w' (some bz)) ∧ Hid (w'.heap[bz]? = some (.cells #[.string nz, ve] 45)) ∧ Hid (w'.ownsRow w.heap.size 60 13 ve m (flatEr (ersUp (S : Int) l m)))) → Q0 (.exit 4) ⟨List.toArray (u0 :: .pointer (some ⟨b1, 0, none⟩) :: .pointer (some ⟨b2, 0, none⟩) :: .pointer (some ⟨b3, 0, none⟩) :: .int .i64 (S : Int) :: u5 :: u6 :: u7 :: u8 :: .slice Ad m cd :: .pointer (some ⟨bz, 0, none⟩) :: v11 :: v12 :: v13 :: u14 :: u15 :: u16 :: u17 :: u18 :: u19 :: u20 :: u21 :: u22 :: u23 :: u24 :: u25 :: u26 :: u27 :: u28 :: u29 :: u30 :: u31 :: u32 :: u33 :: u34 :: u35 :: u36 :: u37 :: u38 :: u39 :: u40 :: u41 :: u42 :: u43 :: u44 :: u45 :: u46 :: u47 :: u48 :: u49 :: u50 :: u51 :: u52 :: u53 :: u54 :: u55 :: u56 :: u57 :: u58 :: u59 :: u60 :: u61 :: u62 :: u63 :: u64 :: u65 :: u66 :: u67 :: u68 :: u69 :: u70 :: u71 :: u72 :: u73 :: u74 :: u75 :: u76 :: u77 :: u78 :: .slice Ad m cd :: .int .i64 (m : Int) :: v81 :: v82 :: v83 :: v84 :: v85 :: v86 :: v87 :: v88 :: v89 :: v90 :: v91 :: v92 :: v93 :: v94 :: v95 :: v96 :: v97 :: v98 :: v99 :: v100 :: v101 :: v102 :: v103 :: v104 :: v105 :: v106 :: v107 :: v108 :: v109 :: u110 :: u111 :: u112 :: u113 :: u114 :: u115 :: u116 :: u117 :: u118 :: u119 :: u120 :: u121 :: u122 :: u123 :: u124 :: u125 :: u126 :: u127 :: u128 :: u129 :: u130 :: u131 :: u132 :: u133 :: u134 :: u135 :: u136 :: u137 :: u138 :: u139 :: u140 :: u141 :: u142 :: u143 :: u144 :: u145 :: u146 :: u147 :: u148 :: u149 :: u150 :: u151 :: u152 :: u153 :: u154 :: u155 :: u156 :: u157 :: u158 :: u159 :: u160 :: u161 :: u162 :: u163 :: u164 :: u165 :: []), []⟩ w')) :
    Code.wp Tryd.prog (.loop code) Q0 ⟨List.toArray (u0 :: .pointer (some ⟨b1, 0, none⟩) :: .pointer (some ⟨b2, 0, none⟩) :: .pointer (some ⟨b3, 0, none⟩) :: .int .i64 (S : Int) :: u5 :: u6 :: u7 :: u8 :: .slice Ad m cd :: .pointer (some ⟨bz, 0, none⟩) :: .int .i64 1904 :: u12 :: u13 :: u14 :: u15 :: u16 :: u17 :: u18 :: u19 :: u20 :: u21 :: u22 :: u23 :: u24 :: u25 :: u26 :: u27 :: u28 :: u29 :: u30 :: u31 :: u32 :: u33 :: u34 :: u35 :: u36 :: u37 :: u38 :: u39 :: u40 :: u41 :: u42 :: u43 :: u44 :: u45 :: u46 :: u47 :: u48 :: u49 :: u50 :: u51 :: u52 :: u53 :: u54 :: u55 :: u56 :: u57 :: u58 :: u59 :: u60 :: u61 :: u62 :: u63 :: u64 :: u65 :: u66 :: u67 :: u68 :: u69 :: u70 :: u71 :: u72 :: u73 :: u74 :: u75 :: u76 :: u77 :: u78 :: .slice Ad m cd :: .int .i64 (m : Int) :: .int .i64 0 :: u82 :: u83 :: u84 :: u85 :: u86 :: u87 :: u88 :: u89 :: u90 :: u91 :: u92 :: u93 :: u94 :: u95 :: u96 :: u97 :: u98 :: u99 :: u100 :: u101 :: u102 :: u103 :: u104 :: u105 :: u106 :: u107 :: u108 :: u109 :: u110 :: u111 :: u112 :: u113 :: u114 :: u115 :: u116 :: u117 :: u118 :: u119 :: u120 :: u121 :: u122 :: u123 :: u124 :: u125 :: u126 :: u127 :: u128 :: u129 :: u130 :: u131 :: u132 :: u133 :: u134 :: u135 :: u136 :: u137 :: u138 :: u139 :: u140 :: u141 :: u142 :: u143 :: u144 :: u145 :: u146 :: u147 :: u148 :: u149 :: u150 :: u151 :: u152 :: u153 :: u154 :: u155 :: u156 :: u157 :: u158 :: u159 :: u160 :: u161 :: u162 :: u163 :: u164 :: u165 :: []), []⟩ w := by
  subst hc
  conv => arg 2; arg 1; whnf
  obtain ⟨i0, hi, hz0, hzs, hzb⟩ := info_parts infoEr
  have HZw := Lib.hid (bk2m KZ.out)
  go_loopw [11, 81] (fun yv t wr => ∃ (k : Nat) (y : Int) (ve : Value) (wq : World), k ≤ m ∧ t = .int .i64 (k : Int) ∧ yv = .int .i64 y ∧ wr = wq ∧ 1904 ≤ y ∧ y ≤ 1904 + 30 * (k : Int) ∧ Hid (y = yrs l k) ∧ Hid (w.grownBy wq (some bz)) ∧ Hid (wq.heap[bz]? = some (.cells #[.string nz, ve] 45)) ∧ Hid (wq.ownsRow w.heap.size 60 13 ve k (flatEr (ersUp (S : Int) l k)))) (fun _ t _ => m - (intOf t).toNat)
  case atStart => exact ⟨0, 1904, .slice none 0 0, _, by omega, rfl, rfl, rfl, by omega, by omega, Lib.hid rfl, Lib.hid (grownM_refl _ _), KZ, Lib.hid (World.ownsRow_nil _ _ _ _)⟩
  case round =>
    clear KZ
    obtain ⟨k, y, ve, wq, hk, rfl, rfl, rfl, y1, y2, HY, HG, KZ, HO⟩ := hrel
    by_cases hlt : k < m
    · have k0 : (0 : Int) ≤ (k : Int) := by omega
      have kS : (k : Int) < (m : Int) := by omega
      obtain ⟨x, hx⟩ : ∃ x, l[k]? = some x := ⟨_, _root_.List.getElem?_eq_getElem (by rw [← HM.out]; exact hlt)⟩
      obtain ⟨hok, g, off, rfl, hgz, hrg⟩ := HD.out k x hx
      have HX := Lib.hid hx
      have hrg := range_grown HG.out (fun e => hgz (Option.some.inj e)) hrg
      obtain ⟨xk, xs, xf, xy, xd, xb, xo, xa⟩ := x
      obtain ⟨⟨q1, q2⟩, ⟨q3, q4⟩, ⟨q5, q6⟩, ⟨q7, q8⟩, ⟨q9, q10⟩, ⟨q11, q12⟩, ⟨q13, q14⟩, ⟨q15, q16⟩⟩ := hok
      dsimp only at q1 q2 q3 q4 q5 q6 q7 q8 q9 q10 q11 q12 q13 q14 q15 q16
      obtain ⟨d0, d1, d2, d3, d4, d5, d6, d7⟩ := range8 hrg
      have hw1 : IntKind.i64.wrap ((m : Int) - 1) = (m : Int) - 1 := IntWalk.i64_in _ (by omega)
      clear hx hrg
      obtain ⟨e0, e1, e2, e3, e4, e5, e6, e7, e8, e9, e10, e11, e12, hE⟩ : ∃ (e0 e1 e2 : Int) (e3 e4 : ByteArray) (e5 : Bool) (e6 e7 e8 e9 e10 e11 e12 : Int), erAt (S : Int) l k = ⟨e0, e1, e2, e3, e4, e5, e6, e7, e8, e9, e10, e11, e12⟩ := ⟨_, _, _, _, _, _, _, _, _, _, _, _, _, rfl⟩
      have HE := Lib.hid hE
      have HEA := Lib.hid (fun f g => era_at (f := f) (g := g) HX.out HY.out hE)
      clear hE
      obtain ⟨ta1, ta2⟩ := tmod_bd xa 24 (by decide)
      obtain ⟨to1, to2⟩ := tmod_bd xo 48 (by decide)
      have HTM := Lib.hid (show (-23 ≤ xa.tmod 24 ∧ xa.tmod 24 ≤ 23) ∧ (-47 ≤ xo.tmod 48 ∧ xo.tmod 48 ≤ 47) by omega)
      clear ta1 ta2 to1 to2
      go_upto_region 26 with fail
      have hbe := bel_alloc wr (.cells #[.int .u8 xk, .int .u8 xs, .int .u8 xf, .int .u8 xy, .int .u8 xd, .int .u8 xb, .int .i8 xo, .int .i8 xa] 74)
      have KD := Lib.hid (heap_alloc_new wr (.cells #[.int .u8 xk, .int .u8 xs, .int .u8 xf, .int .u8 xy, .int .u8 xd, .int .u8 xb, .int .i8 xo, .int .i8 xa] 74))
      have HNB := Lib.hid (Nat.lt_irrefl wr.heap.size)
      have HO0 := HO
      have hdz : wr.heap.size ≠ bz := by have := bk2m KZ.out; omega
      clear d0 d1 d2 d3 d4 d5 d6 d7
      generalize wr.alloc (.cells #[.int .u8 xk, .int .u8 xs, .int .u8 xf, .int .u8 xy, .int .u8 xd, .int .u8 xb, .int .i8 xo, .int .i8 xa] 74) = wa at *
      have hbd : Below wa.heap.size wa wa.drew := Below.drew (Below.refl _ _)
      replace KD := Lib.hid (block_below KD.out hbd)
      replace hbe := bel_trans hbe hbd
      replace HG := Lib.hid (grownM_trans HG.out (grown_of hbe none) (fun q hq => by cases hq))
      replace KZ := Lib.hid (block_below KZ.out hbe)
      replace HO := Lib.hid (own_below17 HO.out hbe)
      clear hbe hbd
      go_wp2_with fail
      refine wp_region_noPanic ?_
      refine wp_region_held_drew (S := (fun w' => w'.cell? ⟨wr.heap.size, 0, none⟩ = some (.int .u8 xk) ∧ w'.cell? ⟨wr.heap.size, 1, none⟩ = some (.int .u8 xs) ∧ w'.cell? ⟨wr.heap.size, 2, none⟩ = some (.int .u8 xf) ∧ w'.cell? ⟨wr.heap.size, 3, none⟩ = some (.int .u8 xy) ∧ w'.cell? ⟨wr.heap.size, 4, none⟩ = some (.int .u8 xd) ∧ w'.cell? ⟨wr.heap.size, 5, none⟩ = some (.int .u8 xb) ∧ w'.cell? ⟨wr.heap.size, 6, none⟩ = some (.int .i8 xo) ∧ w'.cell? ⟨wr.heap.size, 7, none⟩ = some (.int .i8 xa))) (by kernel_rfl) (by exact ⟨cellB KD.out (i := 0) rfl, cellB KD.out (i := 1) rfl, cellB KD.out (i := 2) rfl, cellB KD.out (i := 3) rfl, cellB KD.out (i := 4) rfl, cellB KD.out (i := 5) rfl, cellB KD.out (i := 6) rfl, cellB KD.out (i := 7) rfl⟩) (fun hHeld => ?_)
      refine wpAnyH_take (i := 0) (v := ?_) rfl (by kernel_rfl) (by kernel_rfl) (by kernel_rfl) (fun _ _ _ h => h) (Or.inl ⟨by rfl, ?_⟩) (by assumption) ?_
      rotate_left 1
      · (intro w hSw; (try dsimp only at hSw); first | (go_simp; done) | (go_simp; with_reducible rfl))
      try simp only [Act.put, List.getElem_toArray, List.getElem_cons_succ, List.getElem_cons_zero, List.setIfInBounds_toArray, List.set_cons_zero, List.set_cons_succ]
      refine wpAnyH_take (i := 2) (v := ?_) rfl (by kernel_rfl) (by kernel_rfl) (by kernel_rfl) (fun _ _ _ h => h) (Or.inl ⟨by rfl, ?_⟩) (by assumption) ?_
      rotate_left 1
      · (intro w hSw; (try dsimp only at hSw); first | (go_simp; done) | (go_simp; with_reducible rfl))
      try simp only [Act.put, List.getElem_toArray, List.getElem_cons_succ, List.getElem_cons_zero, List.setIfInBounds_toArray, List.set_cons_zero, List.set_cons_succ]
      refine wpAnyH_take (i := 3) (v := ?_) rfl (by kernel_rfl) (by kernel_rfl) (by kernel_rfl) (fun _ _ _ h => h) (Or.inl ⟨by rfl, ?_⟩) (by assumption) ?_
      rotate_left 1
      · (intro w hSw; (try dsimp only at hSw); first | (go_simp; done) | (go_simp; with_reducible rfl))
      try simp only [Act.put, List.getElem_toArray, List.getElem_cons_succ, List.getElem_cons_zero, List.setIfInBounds_toArray, List.set_cons_zero, List.set_cons_succ]
      refine wpAnyH_take (i := 4) (v := ?_) rfl (by kernel_rfl) (by kernel_rfl) (by kernel_rfl) (fun _ _ _ h => h) (Or.inl ⟨by rfl, ?_⟩) (by assumption) ?_
      rotate_left 1
      · (intro w hSw; (try dsimp only at hSw); first | (go_simp; done) | (go_simp; with_reducible rfl))
      try simp only [Act.put, List.getElem_toArray, List.getElem_cons_succ, List.getElem_cons_zero, List.setIfInBounds_toArray, List.set_cons_zero, List.set_cons_succ]
      refine wpAnyH_take (i := 5) (v := ?_) rfl (by kernel_rfl) (by kernel_rfl) (by kernel_rfl) (fun _ _ _ h => h) (Or.inl ⟨by rfl, ?_⟩) (by assumption) ?_
      rotate_left 1
      · (intro w hSw; (try dsimp only at hSw); first | (go_simp; done) | (go_simp; with_reducible rfl))
      try simp only [Act.put, List.getElem_toArray, List.getElem_cons_succ, List.getElem_cons_zero, List.setIfInBounds_toArray, List.set_cons_zero, List.set_cons_succ]
      refine wpAnyH_take (i := 6) (v := ?_) rfl (by kernel_rfl) (by kernel_rfl) (by kernel_rfl) (fun _ _ _ h => h) (Or.inl ⟨by rfl, ?_⟩) (by assumption) ?_
      rotate_left 1
      · (intro w hSw; (try dsimp only at hSw); first | (go_simp; done) | (go_simp; with_reducible rfl))
      try simp only [Act.put, List.getElem_toArray, List.getElem_cons_succ, List.getElem_cons_zero, List.setIfInBounds_toArray, List.set_cons_zero, List.set_cons_succ]
      refine wpAnyH_take (i := 7) (v := ?_) rfl (by kernel_rfl) (by kernel_rfl) (by kernel_rfl) (fun _ _ _ h => h) (Or.inl ⟨by rfl, ?_⟩) (by assumption) ?_
      rotate_left 1
      · (intro w hSw; (try dsimp only at hSw); first | (go_simp; done) | (go_simp; with_reducible rfl))
      try simp only [Act.put, List.getElem_toArray, List.getElem_cons_succ, List.getElem_cons_zero, List.setIfInBounds_toArray, List.set_cons_zero, List.set_cons_succ]
      refine wpAnyH_take (i := 8) (v := ?_) rfl (by kernel_rfl) (by kernel_rfl) (by kernel_rfl) (fun _ _ _ h => h) (Or.inl ⟨by rfl, ?_⟩) (by assumption) ?_
      rotate_left 1
      · (intro w hSw; (try dsimp only at hSw); first | (go_simp; done) | (go_simp; with_reducible rfl))
      try simp only [Act.put, List.getElem_toArray, List.getElem_cons_succ, List.getElem_cons_zero, List.setIfInBounds_toArray, List.set_cons_zero, List.set_cons_succ]
      refine wpAnyH_take (i := 9) (v := ?_) rfl (by kernel_rfl) (by kernel_rfl) (by kernel_rfl) (fun _ _ _ h => h) (Or.inl ⟨by rfl, ?_⟩) (by assumption) ?_
      rotate_left 1
      · (intro w hSw; (try dsimp only at hSw); first | (go_simp; done) | (go_simp; with_reducible rfl))
      try simp only [Act.put, List.getElem_toArray, List.getElem_cons_succ, List.getElem_cons_zero, List.setIfInBounds_toArray, List.set_cons_zero, List.set_cons_succ]
      refine wpAnyH_take (i := 10) (v := ?_) rfl (by kernel_rfl) (by kernel_rfl) (by kernel_rfl) (fun _ _ _ h => h) (Or.inl ⟨by rfl, ?_⟩) (by assumption) ?_
      rotate_left 1
      · (intro w hSw; (try dsimp only at hSw); first | (go_simp; done) | (go_simp; with_reducible rfl))
      try simp only [Act.put, List.getElem_toArray, List.getElem_cons_succ, List.getElem_cons_zero, List.setIfInBounds_toArray, List.set_cons_zero, List.set_cons_succ]
      refine wpAnyH_take (i := 11) (v := ?_) rfl (by kernel_rfl) (by kernel_rfl) (by kernel_rfl) (fun _ _ _ h => h) (Or.inl ⟨by rfl, ?_⟩) (by assumption) ?_
      rotate_left 1
      · (intro w hSw; (try dsimp only at hSw); first | (go_simp; done) | (go_simp; with_reducible rfl))
      try simp only [Act.put, List.getElem_toArray, List.getElem_cons_succ, List.getElem_cons_zero, List.setIfInBounds_toArray, List.set_cons_zero, List.set_cons_succ]
      refine wpAnyH_ready (rs := [1, 12]) (by kernel_rfl) (by simp) ?_
      refine AllReadyH.cons rfl (fun K hK => ?_) (AllReadyH.cons rfl (fun K hK => ?_) AllReadyH.nil)
      · have y0 := cellB KZ.out (i := 1) rfl
        rw [if_pos (by rfl)]
        go_simp
        clear y0
        refine hK.out _ _ ⟨cellB KD.out (i := 0) rfl, cellB KD.out (i := 1) rfl, cellB KD.out (i := 2) rfl, cellB KD.out (i := 3) rfl, cellB KD.out (i := 4) rfl, cellB KD.out (i := 5) rfl, cellB KD.out (i := 6) rfl, cellB KD.out (i := 7) rfl⟩ (fun hHeld => ?_)
        clear hK K
        try simp only [Act.put, List.getElem_toArray, List.getElem_cons_succ, List.getElem_cons_zero, List.setIfInBounds_toArray, List.set_cons_zero, List.set_cons_succ]
        refine wpAnyH_ready (rs := [12]) (by kernel_rfl) (by simp) ?_
        refine AllReadyH.cons rfl (fun K hK => ?_) AllReadyH.nil
        rw [if_pos (by rfl)]
        go_simp
        refine (eraMade_any xk xs xf xy xd xb xo xa _ _ (S : Int) (y + (1 + xy % 30)) _ q5 q6 q1 q2 q3 q4 (by omega) (by omega) q9 q10 q11 q12 q15 q16 HTM.out.1.1 HTM.out.1.2 (by omega) (by omega) q13 q14 HTM.out.2.1 HTM.out.2.2).mono ?_
        rintro e w2 ⟨he, hb2⟩
        rw [HEA.out] at he
        rotate_left 1
        · first | (rw [Bool.eq_iff_iff]; simp; done) | (simp; done) | (rw [decide_eq_decide]; omega)
        · first | (rw [← HM.out, decide_eq_decide]; omega) | (rw [← HM.out]; simp; omega)
        simp only [Er.arr] at he
        obtain rfl := he
        go_wp2_with fail
        replace HG := Lib.hid (grownM_trans HG.out (grown_of hb2 none) (fun q hq => by cases hq))
        replace KZ := Lib.hid (block_below KZ.out hb2)
        replace HO := Lib.hid (own_below17 HO.out hb2)
        replace KD := Lib.hid (block_below KD.out hb2)
        refine hK.out _ _ ⟨cellB KD.out (i := 0) rfl, cellB KD.out (i := 1) rfl, cellB KD.out (i := 2) rfl, cellB KD.out (i := 3) rfl, cellB KD.out (i := 4) rfl, cellB KD.out (i := 5) rfl, cellB KD.out (i := 6) rfl, cellB KD.out (i := 7) rfl⟩ (fun hHeld => ?_)
        clear hK K
        try simp only [Act.put, List.getElem_toArray, List.getElem_cons_succ, List.getElem_cons_zero, List.setIfInBounds_toArray, List.set_cons_zero, List.set_cons_succ]
        clear hb2
        refine wpAnyH_ready (rs := [13]) (by kernel_rfl) (by simp) ?_
        refine AllReadyH.cons rfl (fun K hK => ?_) AllReadyH.nil
        rw [if_pos (by rfl)]
        go_simp
        go_wp2_with fail
        have hb3 := bel_alloc w2 (.cells #[.int .i64 e0, .int .i64 e1, .int .i64 e2, .string e3, .string e4, .bool e5, .int .i64 e6, .int .i64 e7, .int .i64 e8, .int .i64 e9, .int .i64 e10, .int .i64 e11, .int .i64 e12] 60)
        have KE := Lib.hid (heap_alloc_new w2 (.cells #[.int .i64 e0, .int .i64 e1, .int .i64 e2, .string e3, .string e4, .bool e5, .int .i64 e6, .int .i64 e7, .int .i64 e8, .int .i64 e9, .int .i64 e10, .int .i64 e11, .int .i64 e12] 60))
        replace HG := Lib.hid (grownM_trans HG.out (grown_of hb3 none) (fun q hq => by cases hq))
        replace KZ := Lib.hid (block_below KZ.out hb3)
        replace HO := Lib.hid (own_below17 HO.out hb3)
        replace KD := Lib.hid (block_below KD.out hb3)
        clear hb3
        generalize w2.alloc (.cells #[.int .i64 e0, .int .i64 e1, .int .i64 e2, .string e3, .string e4, .bool e5, .int .i64 e6, .int .i64 e7, .int .i64 e8, .int .i64 e9, .int .i64 e10, .int .i64 e11, .int .i64 e12] 60) = w3 at *
        refine hK.out _ _ ⟨cellB KD.out (i := 0) rfl, cellB KD.out (i := 1) rfl, cellB KD.out (i := 2) rfl, cellB KD.out (i := 3) rfl, cellB KD.out (i := 4) rfl, cellB KD.out (i := 5) rfl, cellB KD.out (i := 6) rfl, cellB KD.out (i := 7) rfl⟩ (fun hHeld => ?_)
        clear hK K
        try simp only [Act.put, List.getElem_toArray, List.getElem_cons_succ, List.getElem_cons_zero, List.setIfInBounds_toArray, List.set_cons_zero, List.set_cons_succ]
        have HOo := HO
        refine wpAnyH_ready (rs := [14]) (by kernel_rfl) (by simp) ?_
        refine AllReadyH.cons rfl (fun K hK => ?_) AllReadyH.nil
        refine step_append_lies _ (by rfl) (.tmp 94) (.tmp 106) 43 (by rfl) w.heap.size 60 i0 (.agg #[.int .i64 0, .int .i64 0, .int .i64 0, .string ⟨#[]⟩, .string ⟨#[]⟩, .bool false, .int .i64 0, .int .i64 0, .int .i64 0, .int .i64 0, .int .i64 0, .int .i64 0, .int .i64 0]) 13 120 Tryd.underlying43 hi hz0 hzs hzb rfl (by decide) ve k (flatEr (ersUp (S : Int) l k)) (by rfl) HO.out ⟨w2.heap.size, 0, none⟩ 1 1 [.int .i64 e0, .int .i64 e1, .int .i64 e2, .string e3, .string e4, .bool e5, .int .i64 e6, .int .i64 e7, .int .i64 e8, .int .i64 e9, .int .i64 e10, .int .i64 e11, .int .i64 e12] (by rfl) rfl (World.news_of_block KE.out) (by intro u hu; simp at hu; rcases hu with rfl | rfl | rfl | rfl | rfl | rfl | rfl | rfl | rfl | rfl | rfl | rfl | rfl <;> rfl) (by omega) (by unfold maxLen; omega) (by omega) (by have := HG.out.size; omega) _ rfl ?_
        intro g4 c4 w4 hown4 hgrow3 hat4 hlt4
        have hne3 := own_blk HO.out HZw.out
        have hne4 : ve.ownBlock ≠ some wr.heap.size := fun e => HNB.out (HO0.out.lt _ e).2
        replace KZ := Lib.hid ((hgrow3.block bz (bk2m KZ.out) (fun e => hne3 e.symm)).trans KZ.out)
        replace KD := Lib.hid ((hgrow3.block wr.heap.size (bk2m KD.out) (fun e => hne4 e.symm)).trans KD.out)
        refine hK.out _ _ ⟨cellB KD.out (i := 0) rfl, cellB KD.out (i := 1) rfl, cellB KD.out (i := 2) rfl, cellB KD.out (i := 3) rfl, cellB KD.out (i := 4) rfl, cellB KD.out (i := 5) rfl, cellB KD.out (i := 6) rfl, cellB KD.out (i := 7) rfl⟩ (fun hHeld => ?_)
        clear hK K
        try simp only [Act.put, List.getElem_toArray, List.getElem_cons_succ, List.getElem_cons_zero, List.setIfInBounds_toArray, List.set_cons_zero, List.set_cons_succ]
        replace HO := Lib.hid (show w4.ownsRow w.heap.size 60 13 (.slice (some ⟨g4, 0, none⟩) (k + 1) c4) (k + 1) (flatEr (ersUp (S : Int) l (k + 1))) by rw [ersUp_succ, flatEr_app, HE.out]; exact hown4)
        replace HG := Lib.hid (grownM_trans HG.out hgrow3 (fun q hq => .inl (HOo.out.lt q hq).1))
        clear hgrow3 hown4 HOo hat4 hlt4 hne3 hne4 KE
        refine wpAnyH_take (i := 15) (v := ?_) rfl (by kernel_rfl) (by kernel_rfl) (by kernel_rfl) (fun _ _ _ h => h) (Or.inl ⟨by rfl, ?_⟩) (by assumption) ?_
        rotate_left 1
        · (intro w hSw; (try dsimp only at hSw); first | (go_simp; done) | (go_simp; with_reducible rfl))
        try simp only [Act.put, List.getElem_toArray, List.getElem_cons_succ, List.getElem_cons_zero, List.setIfInBounds_toArray, List.set_cons_zero, List.set_cons_succ]
        refine wpAnyH_ready (rs := [16]) (by kernel_rfl) (by simp) ?_
        refine AllReadyH.cons rfl (fun K hK => ?_) AllReadyH.nil
        rw [if_pos (by rfl)]
        have y0 := cellB KZ.out (i := 1) rfl
        have f0 := frzB KZ.out 1
        go_simp
        clear y0 f0
        replace KZ := Lib.hid (setc (j := 1) (v := .slice (some ⟨g4, 0, none⟩) (k + 1) c4) (ds := #[.string nz, .slice (some ⟨g4, 0, none⟩) (k + 1) c4]) KZ.out rfl)
        replace KD := Lib.hid (block_other1 (c := bz) (j := 1) (v := .slice (some ⟨g4, 0, none⟩) (k + 1) c4) KD.out hdz)
        replace HG := Lib.hid (grownM_set (j := 1) (v := .slice (some ⟨g4, 0, none⟩) (k + 1) c4) HG.out)
        replace HO := Lib.hid (own_setc (b := bz) (j := 1) (u := .slice (some ⟨g4, 0, none⟩) (k + 1) c4) HO.out HZw.out)
        refine hK.out _ _ ⟨cellB KD.out (i := 0) rfl, cellB KD.out (i := 1) rfl, cellB KD.out (i := 2) rfl, cellB KD.out (i := 3) rfl, cellB KD.out (i := 4) rfl, cellB KD.out (i := 5) rfl, cellB KD.out (i := 6) rfl, cellB KD.out (i := 7) rfl⟩ (fun hHeld => ?_)
        clear hK K
        try simp only [Act.put, List.getElem_toArray, List.getElem_cons_succ, List.getElem_cons_zero, List.setIfInBounds_toArray, List.set_cons_zero, List.set_cons_succ]
        refine wpAnyH_done (by kernel_rfl) ?_ _
        refine NoPanic.normal ?_
        clear hHeld
        generalize w4.setCell ⟨bz, 1, none⟩ _ = w5 at *
        have HYN := Lib.hid (yrs_at HX.out HY.out)
        go_wp2_with fail
        go_round
        case rel => exact ⟨k + 1, y + (1 + xy % 30), _, _, by omega, by go_num, rfl, rfl, by omega, by omega, HYN, HG, KZ, HO⟩
        case measure => simp [intOf]; omega
      · rw [if_pos (by rfl)]
        go_simp
        refine (eraMade_any xk xs xf xy xd xb xo xa _ _ (S : Int) (y + (1 + xy % 30)) _ q5 q6 q1 q2 q3 q4 (by omega) (by omega) q9 q10 q11 q12 q15 q16 HTM.out.1.1 HTM.out.1.2 (by omega) (by omega) q13 q14 HTM.out.2.1 HTM.out.2.2).mono ?_
        rintro e w2 ⟨he, hb2⟩
        rw [HEA.out] at he
        rotate_left 1
        · first | (rw [Bool.eq_iff_iff]; simp; done) | (simp; done) | (rw [decide_eq_decide]; omega)
        · first | (rw [← HM.out, decide_eq_decide]; omega) | (rw [← HM.out]; simp; omega)
        simp only [Er.arr] at he
        obtain rfl := he
        go_wp2_with fail
        replace HG := Lib.hid (grownM_trans HG.out (grown_of hb2 none) (fun q hq => by cases hq))
        replace KZ := Lib.hid (block_below KZ.out hb2)
        replace HO := Lib.hid (own_below17 HO.out hb2)
        replace KD := Lib.hid (block_below KD.out hb2)
        refine hK.out _ _ ⟨cellB KD.out (i := 0) rfl, cellB KD.out (i := 1) rfl, cellB KD.out (i := 2) rfl, cellB KD.out (i := 3) rfl, cellB KD.out (i := 4) rfl, cellB KD.out (i := 5) rfl, cellB KD.out (i := 6) rfl, cellB KD.out (i := 7) rfl⟩ (fun hHeld => ?_)
        clear hK K
        try simp only [Act.put, List.getElem_toArray, List.getElem_cons_succ, List.getElem_cons_zero, List.setIfInBounds_toArray, List.set_cons_zero, List.set_cons_succ]
        clear hb2
        refine wpAnyH_ready (rs := [1, 13]) (by kernel_rfl) (by simp) ?_
        refine AllReadyH.cons rfl (fun K hK => ?_) (AllReadyH.cons rfl (fun K hK => ?_) AllReadyH.nil)
        · have y0 := cellB KZ.out (i := 1) rfl
          rw [if_pos (by rfl)]
          go_simp
          clear y0
          refine hK.out _ _ ⟨cellB KD.out (i := 0) rfl, cellB KD.out (i := 1) rfl, cellB KD.out (i := 2) rfl, cellB KD.out (i := 3) rfl, cellB KD.out (i := 4) rfl, cellB KD.out (i := 5) rfl, cellB KD.out (i := 6) rfl, cellB KD.out (i := 7) rfl⟩ (fun hHeld => ?_)
          clear hK K
          try simp only [Act.put, List.getElem_toArray, List.getElem_cons_succ, List.getElem_cons_zero, List.setIfInBounds_toArray, List.set_cons_zero, List.set_cons_succ]
          refine wpAnyH_ready (rs := [13]) (by kernel_rfl) (by simp) ?_
          refine AllReadyH.cons rfl (fun K hK => ?_) AllReadyH.nil
          rw [if_pos (by rfl)]
          go_simp
          go_wp2_with fail
          have hb3 := bel_alloc w2 (.cells #[.int .i64 e0, .int .i64 e1, .int .i64 e2, .string e3, .string e4, .bool e5, .int .i64 e6, .int .i64 e7, .int .i64 e8, .int .i64 e9, .int .i64 e10, .int .i64 e11, .int .i64 e12] 60)
          have KE := Lib.hid (heap_alloc_new w2 (.cells #[.int .i64 e0, .int .i64 e1, .int .i64 e2, .string e3, .string e4, .bool e5, .int .i64 e6, .int .i64 e7, .int .i64 e8, .int .i64 e9, .int .i64 e10, .int .i64 e11, .int .i64 e12] 60))
          replace HG := Lib.hid (grownM_trans HG.out (grown_of hb3 none) (fun q hq => by cases hq))
          replace KZ := Lib.hid (block_below KZ.out hb3)
          replace HO := Lib.hid (own_below17 HO.out hb3)
          replace KD := Lib.hid (block_below KD.out hb3)
          clear hb3
          generalize w2.alloc (.cells #[.int .i64 e0, .int .i64 e1, .int .i64 e2, .string e3, .string e4, .bool e5, .int .i64 e6, .int .i64 e7, .int .i64 e8, .int .i64 e9, .int .i64 e10, .int .i64 e11, .int .i64 e12] 60) = w3 at *
          refine hK.out _ _ ⟨cellB KD.out (i := 0) rfl, cellB KD.out (i := 1) rfl, cellB KD.out (i := 2) rfl, cellB KD.out (i := 3) rfl, cellB KD.out (i := 4) rfl, cellB KD.out (i := 5) rfl, cellB KD.out (i := 6) rfl, cellB KD.out (i := 7) rfl⟩ (fun hHeld => ?_)
          clear hK K
          try simp only [Act.put, List.getElem_toArray, List.getElem_cons_succ, List.getElem_cons_zero, List.setIfInBounds_toArray, List.set_cons_zero, List.set_cons_succ]
          have HOo := HO
          refine wpAnyH_ready (rs := [14]) (by kernel_rfl) (by simp) ?_
          refine AllReadyH.cons rfl (fun K hK => ?_) AllReadyH.nil
          refine step_append_lies _ (by rfl) (.tmp 94) (.tmp 106) 43 (by rfl) w.heap.size 60 i0 (.agg #[.int .i64 0, .int .i64 0, .int .i64 0, .string ⟨#[]⟩, .string ⟨#[]⟩, .bool false, .int .i64 0, .int .i64 0, .int .i64 0, .int .i64 0, .int .i64 0, .int .i64 0, .int .i64 0]) 13 120 Tryd.underlying43 hi hz0 hzs hzb rfl (by decide) ve k (flatEr (ersUp (S : Int) l k)) (by rfl) HO.out ⟨w2.heap.size, 0, none⟩ 1 1 [.int .i64 e0, .int .i64 e1, .int .i64 e2, .string e3, .string e4, .bool e5, .int .i64 e6, .int .i64 e7, .int .i64 e8, .int .i64 e9, .int .i64 e10, .int .i64 e11, .int .i64 e12] (by rfl) rfl (World.news_of_block KE.out) (by intro u hu; simp at hu; rcases hu with rfl | rfl | rfl | rfl | rfl | rfl | rfl | rfl | rfl | rfl | rfl | rfl | rfl <;> rfl) (by omega) (by unfold maxLen; omega) (by omega) (by have := HG.out.size; omega) _ rfl ?_
          intro g4 c4 w4 hown4 hgrow3 hat4 hlt4
          have hne3 := own_blk HO.out HZw.out
          have hne4 : ve.ownBlock ≠ some wr.heap.size := fun e => HNB.out (HO0.out.lt _ e).2
          replace KZ := Lib.hid ((hgrow3.block bz (bk2m KZ.out) (fun e => hne3 e.symm)).trans KZ.out)
          replace KD := Lib.hid ((hgrow3.block wr.heap.size (bk2m KD.out) (fun e => hne4 e.symm)).trans KD.out)
          refine hK.out _ _ ⟨cellB KD.out (i := 0) rfl, cellB KD.out (i := 1) rfl, cellB KD.out (i := 2) rfl, cellB KD.out (i := 3) rfl, cellB KD.out (i := 4) rfl, cellB KD.out (i := 5) rfl, cellB KD.out (i := 6) rfl, cellB KD.out (i := 7) rfl⟩ (fun hHeld => ?_)
          clear hK K
          try simp only [Act.put, List.getElem_toArray, List.getElem_cons_succ, List.getElem_cons_zero, List.setIfInBounds_toArray, List.set_cons_zero, List.set_cons_succ]
          replace HO := Lib.hid (show w4.ownsRow w.heap.size 60 13 (.slice (some ⟨g4, 0, none⟩) (k + 1) c4) (k + 1) (flatEr (ersUp (S : Int) l (k + 1))) by rw [ersUp_succ, flatEr_app, HE.out]; exact hown4)
          replace HG := Lib.hid (grownM_trans HG.out hgrow3 (fun q hq => .inl (HOo.out.lt q hq).1))
          clear hgrow3 hown4 HOo hat4 hlt4 hne3 hne4 KE
          refine wpAnyH_take (i := 15) (v := ?_) rfl (by kernel_rfl) (by kernel_rfl) (by kernel_rfl) (fun _ _ _ h => h) (Or.inl ⟨by rfl, ?_⟩) (by assumption) ?_
          rotate_left 1
          · (intro w hSw; (try dsimp only at hSw); first | (go_simp; done) | (go_simp; with_reducible rfl))
          try simp only [Act.put, List.getElem_toArray, List.getElem_cons_succ, List.getElem_cons_zero, List.setIfInBounds_toArray, List.set_cons_zero, List.set_cons_succ]
          refine wpAnyH_ready (rs := [16]) (by kernel_rfl) (by simp) ?_
          refine AllReadyH.cons rfl (fun K hK => ?_) AllReadyH.nil
          rw [if_pos (by rfl)]
          have y0 := cellB KZ.out (i := 1) rfl
          have f0 := frzB KZ.out 1
          go_simp
          clear y0 f0
          replace KZ := Lib.hid (setc (j := 1) (v := .slice (some ⟨g4, 0, none⟩) (k + 1) c4) (ds := #[.string nz, .slice (some ⟨g4, 0, none⟩) (k + 1) c4]) KZ.out rfl)
          replace KD := Lib.hid (block_other1 (c := bz) (j := 1) (v := .slice (some ⟨g4, 0, none⟩) (k + 1) c4) KD.out hdz)
          replace HG := Lib.hid (grownM_set (j := 1) (v := .slice (some ⟨g4, 0, none⟩) (k + 1) c4) HG.out)
          replace HO := Lib.hid (own_setc (b := bz) (j := 1) (u := .slice (some ⟨g4, 0, none⟩) (k + 1) c4) HO.out HZw.out)
          refine hK.out _ _ ⟨cellB KD.out (i := 0) rfl, cellB KD.out (i := 1) rfl, cellB KD.out (i := 2) rfl, cellB KD.out (i := 3) rfl, cellB KD.out (i := 4) rfl, cellB KD.out (i := 5) rfl, cellB KD.out (i := 6) rfl, cellB KD.out (i := 7) rfl⟩ (fun hHeld => ?_)
          clear hK K
          try simp only [Act.put, List.getElem_toArray, List.getElem_cons_succ, List.getElem_cons_zero, List.setIfInBounds_toArray, List.set_cons_zero, List.set_cons_succ]
          refine wpAnyH_done (by kernel_rfl) ?_ _
          refine NoPanic.normal ?_
          clear hHeld
          generalize w4.setCell ⟨bz, 1, none⟩ _ = w5 at *
          have HYN := Lib.hid (yrs_at HX.out HY.out)
          go_wp2_with fail
          go_round
          case rel => exact ⟨k + 1, y + (1 + xy % 30), _, _, by omega, by go_num, rfl, rfl, by omega, by omega, HYN, HG, KZ, HO⟩
          case measure => simp [intOf]; omega
        · rw [if_pos (by rfl)]
          go_simp
          go_wp2_with fail
          have hb3 := bel_alloc w2 (.cells #[.int .i64 e0, .int .i64 e1, .int .i64 e2, .string e3, .string e4, .bool e5, .int .i64 e6, .int .i64 e7, .int .i64 e8, .int .i64 e9, .int .i64 e10, .int .i64 e11, .int .i64 e12] 60)
          have KE := Lib.hid (heap_alloc_new w2 (.cells #[.int .i64 e0, .int .i64 e1, .int .i64 e2, .string e3, .string e4, .bool e5, .int .i64 e6, .int .i64 e7, .int .i64 e8, .int .i64 e9, .int .i64 e10, .int .i64 e11, .int .i64 e12] 60))
          replace HG := Lib.hid (grownM_trans HG.out (grown_of hb3 none) (fun q hq => by cases hq))
          replace KZ := Lib.hid (block_below KZ.out hb3)
          replace HO := Lib.hid (own_below17 HO.out hb3)
          replace KD := Lib.hid (block_below KD.out hb3)
          clear hb3
          generalize w2.alloc (.cells #[.int .i64 e0, .int .i64 e1, .int .i64 e2, .string e3, .string e4, .bool e5, .int .i64 e6, .int .i64 e7, .int .i64 e8, .int .i64 e9, .int .i64 e10, .int .i64 e11, .int .i64 e12] 60) = w3 at *
          refine hK.out _ _ ⟨cellB KD.out (i := 0) rfl, cellB KD.out (i := 1) rfl, cellB KD.out (i := 2) rfl, cellB KD.out (i := 3) rfl, cellB KD.out (i := 4) rfl, cellB KD.out (i := 5) rfl, cellB KD.out (i := 6) rfl, cellB KD.out (i := 7) rfl⟩ (fun hHeld => ?_)
          clear hK K
          try simp only [Act.put, List.getElem_toArray, List.getElem_cons_succ, List.getElem_cons_zero, List.setIfInBounds_toArray, List.set_cons_zero, List.set_cons_succ]
          refine wpAnyH_ready (rs := [1]) (by kernel_rfl) (by simp) ?_
          refine AllReadyH.cons rfl (fun K hK => ?_) AllReadyH.nil
          have y0 := cellB KZ.out (i := 1) rfl
          rw [if_pos (by rfl)]
          go_simp
          clear y0
          refine hK.out _ _ ⟨cellB KD.out (i := 0) rfl, cellB KD.out (i := 1) rfl, cellB KD.out (i := 2) rfl, cellB KD.out (i := 3) rfl, cellB KD.out (i := 4) rfl, cellB KD.out (i := 5) rfl, cellB KD.out (i := 6) rfl, cellB KD.out (i := 7) rfl⟩ (fun hHeld => ?_)
          clear hK K
          try simp only [Act.put, List.getElem_toArray, List.getElem_cons_succ, List.getElem_cons_zero, List.setIfInBounds_toArray, List.set_cons_zero, List.set_cons_succ]
          have HOo := HO
          refine wpAnyH_ready (rs := [14]) (by kernel_rfl) (by simp) ?_
          refine AllReadyH.cons rfl (fun K hK => ?_) AllReadyH.nil
          refine step_append_lies _ (by rfl) (.tmp 94) (.tmp 106) 43 (by rfl) w.heap.size 60 i0 (.agg #[.int .i64 0, .int .i64 0, .int .i64 0, .string ⟨#[]⟩, .string ⟨#[]⟩, .bool false, .int .i64 0, .int .i64 0, .int .i64 0, .int .i64 0, .int .i64 0, .int .i64 0, .int .i64 0]) 13 120 Tryd.underlying43 hi hz0 hzs hzb rfl (by decide) ve k (flatEr (ersUp (S : Int) l k)) (by rfl) HO.out ⟨w2.heap.size, 0, none⟩ 1 1 [.int .i64 e0, .int .i64 e1, .int .i64 e2, .string e3, .string e4, .bool e5, .int .i64 e6, .int .i64 e7, .int .i64 e8, .int .i64 e9, .int .i64 e10, .int .i64 e11, .int .i64 e12] (by rfl) rfl (World.news_of_block KE.out) (by intro u hu; simp at hu; rcases hu with rfl | rfl | rfl | rfl | rfl | rfl | rfl | rfl | rfl | rfl | rfl | rfl | rfl <;> rfl) (by omega) (by unfold maxLen; omega) (by omega) (by have := HG.out.size; omega) _ rfl ?_
          intro g4 c4 w4 hown4 hgrow3 hat4 hlt4
          have hne3 := own_blk HO.out HZw.out
          have hne4 : ve.ownBlock ≠ some wr.heap.size := fun e => HNB.out (HO0.out.lt _ e).2
          replace KZ := Lib.hid ((hgrow3.block bz (bk2m KZ.out) (fun e => hne3 e.symm)).trans KZ.out)
          replace KD := Lib.hid ((hgrow3.block wr.heap.size (bk2m KD.out) (fun e => hne4 e.symm)).trans KD.out)
          refine hK.out _ _ ⟨cellB KD.out (i := 0) rfl, cellB KD.out (i := 1) rfl, cellB KD.out (i := 2) rfl, cellB KD.out (i := 3) rfl, cellB KD.out (i := 4) rfl, cellB KD.out (i := 5) rfl, cellB KD.out (i := 6) rfl, cellB KD.out (i := 7) rfl⟩ (fun hHeld => ?_)
          clear hK K
          try simp only [Act.put, List.getElem_toArray, List.getElem_cons_succ, List.getElem_cons_zero, List.setIfInBounds_toArray, List.set_cons_zero, List.set_cons_succ]
          replace HO := Lib.hid (show w4.ownsRow w.heap.size 60 13 (.slice (some ⟨g4, 0, none⟩) (k + 1) c4) (k + 1) (flatEr (ersUp (S : Int) l (k + 1))) by rw [ersUp_succ, flatEr_app, HE.out]; exact hown4)
          replace HG := Lib.hid (grownM_trans HG.out hgrow3 (fun q hq => .inl (HOo.out.lt q hq).1))
          clear hgrow3 hown4 HOo hat4 hlt4 hne3 hne4 KE
          refine wpAnyH_take (i := 15) (v := ?_) rfl (by kernel_rfl) (by kernel_rfl) (by kernel_rfl) (fun _ _ _ h => h) (Or.inl ⟨by rfl, ?_⟩) (by assumption) ?_
          rotate_left 1
          · (intro w hSw; (try dsimp only at hSw); first | (go_simp; done) | (go_simp; with_reducible rfl))
          try simp only [Act.put, List.getElem_toArray, List.getElem_cons_succ, List.getElem_cons_zero, List.setIfInBounds_toArray, List.set_cons_zero, List.set_cons_succ]
          refine wpAnyH_ready (rs := [16]) (by kernel_rfl) (by simp) ?_
          refine AllReadyH.cons rfl (fun K hK => ?_) AllReadyH.nil
          rw [if_pos (by rfl)]
          have y0 := cellB KZ.out (i := 1) rfl
          have f0 := frzB KZ.out 1
          go_simp
          clear y0 f0
          replace KZ := Lib.hid (setc (j := 1) (v := .slice (some ⟨g4, 0, none⟩) (k + 1) c4) (ds := #[.string nz, .slice (some ⟨g4, 0, none⟩) (k + 1) c4]) KZ.out rfl)
          replace KD := Lib.hid (block_other1 (c := bz) (j := 1) (v := .slice (some ⟨g4, 0, none⟩) (k + 1) c4) KD.out hdz)
          replace HG := Lib.hid (grownM_set (j := 1) (v := .slice (some ⟨g4, 0, none⟩) (k + 1) c4) HG.out)
          replace HO := Lib.hid (own_setc (b := bz) (j := 1) (u := .slice (some ⟨g4, 0, none⟩) (k + 1) c4) HO.out HZw.out)
          refine hK.out _ _ ⟨cellB KD.out (i := 0) rfl, cellB KD.out (i := 1) rfl, cellB KD.out (i := 2) rfl, cellB KD.out (i := 3) rfl, cellB KD.out (i := 4) rfl, cellB KD.out (i := 5) rfl, cellB KD.out (i := 6) rfl, cellB KD.out (i := 7) rfl⟩ (fun hHeld => ?_)
          clear hK K
          try simp only [Act.put, List.getElem_toArray, List.getElem_cons_succ, List.getElem_cons_zero, List.setIfInBounds_toArray, List.set_cons_zero, List.set_cons_succ]
          refine wpAnyH_done (by kernel_rfl) ?_ _
          refine NoPanic.normal ?_
          clear hHeld
          generalize w4.setCell ⟨bz, 1, none⟩ _ = w5 at *
          have HYN := Lib.hid (yrs_at HX.out HY.out)
          go_wp2_with fail
          go_round
          case rel => exact ⟨k + 1, y + (1 + xy % 30), _, _, by omega, by go_num, rfl, rfl, by omega, by omega, HYN, HG, KZ, HO⟩
          case measure => simp [intOf]; omega
    · obtain rfl : k = m := by omega
      have kS : ¬ (k : Int) < (k : Int) := by omega
      go_wp2_with fail
      exact hexit.out _ _ _ _ _ _ _ _ _ _ _ _ _ _ _ _ _ _ _ _ _ _ _ _ _ _ _ _ _ _ _ _ _ ⟨ve, HG, KZ, HO⟩

end Go.Proofs.YtdppmeeobpbfnaaDoor
