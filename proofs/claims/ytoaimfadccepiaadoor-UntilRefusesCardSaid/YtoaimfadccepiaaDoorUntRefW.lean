/-
  The walk of the law UntilRefuses.
-/
import Derived.Test.YtoaimfadccepiaaDoorUntRet
import Derived.Test.YtoaimfadccepiaaDoorUntMade
import Derived.Test.YtoaimfadccepiaaDoorUntWk
import Derived.Deep.DeepCutAuto
namespace Go.Proofs.YtoaimfadccepiaaDoor
open Go.RowKit Cv
set_option linter.unusedVariables false
set_option linter.unusedSimpArgs false

namespace Cv
theorem setc {V : World} {b j : Nat} {t : TypeId} {cs ds : Array Value} {v : Value} (h : V.heap[b]? = some (.cells cs t)) (hd : cs.setIfInBounds j v = ds) : (V.setCell ⟨b, j, none⟩ v).heap[b]? = some (.cells ds t) := by
  subst hd
  simp [World.setCell, Array.getElem?_modify, h]
theorem new2 (w : World) (o p : Obj) : ((w.alloc o).alloc p).heap[w.heap.size + 1]? = some p := by
  have h := heap_alloc_new (w.alloc o) p
  have e : (w.alloc o).heap.size = w.heap.size + 1 := by simp
  rw [e] at h; exact h
theorem bad_year {is : Bool} {y m k w d s b : Int} (h : y < 1850 ∨ 2149 < y) : untC true y m k w d s b 0 = 3 := untC_no (by omega) (by omega) (fun hh => by have := hh.1; have := hh.2.1; omega)
theorem bad_day {y m k w d s b : Int} (h : m < 1 ∨ 12 < m ∨ 4 < k ∨ len y m < d) : untC true y m k w d s b 0 = 3 := untC_no (by omega) (by omega) (fun hh => by
  obtain ⟨_, m1, m2, hg, hl, _, _⟩ := on_ok hh.2.2.2.2.1
  have hk : k ≤ 4 := by unfold good at hg; omega
  omega)
theorem bad_base {y m k w d s b : Int} (h : b < 0 ∨ 2 < b) : untC true y m k w d s b 0 = 3 := untC_no (by omega) (by omega) (fun hh => by have := hh.2.2.1; have := hh.2.2.2.1; omega)
theorem bad_sec {y m k w d s b : Int} (h : s < -86400 ∨ 172800 < s) : untC true y m k w d s b 0 = 3 := untC_no (by omega) (by omega) (fun hh => by have h1 := hh.2.2.2.2.2.1; have h2 := hh.2.2.2.2.2.2; unfold untS at h1 h2; split at h1 <;> simp_all <;> omega)
theorem short_month {y m : Int} (h : m = 2 ∨ m = 4 ∨ m = 6 ∨ m = 9 ∨ m = 11) : len y m < 31 := by
  have := lp_bd y
  rcases h with rfl | rfl | rfl | rfl | rfl <;> simp [len] <;> omega
end Cv

namespace Cv
def startsAt (n : Nat) : Code → Bool
  | .region id _ _ => id == n
  | .seq a _ => startsAt n a
  | _ => false
/-- the code from a region on -/
def fromRegion (n : Nat) : Code → Option Code
  | .seq a b => if startsAt n a then some (.seq a b) else match fromRegion n a with
    | some c => some c
    | none => fromRegion n b
  | .block _ c => fromRegion n c
  | .scope c => fromRegion n c
  | _ => none
end Cv
noncomputable def refusesRest : Code := ((Tryd.f7).body.bind (fromRegion 25)).getD .skip

set_option maxRecDepth 100000 in
set_option maxHeartbeats 16000000 in
theorem refuses_rest (y m b k w n at_ q f : Int) (W w1 w2 : World) (HM : Hid (∀ V : World, Calls Tryd.prog 18 #[.agg #[.int .u16 y, .int .u8 m, .int .u8 b, .int .u8 k, .int .u8 w, .int .u8 n, .int .i32 at_], .int .i64 0] V (MadeU V))) (hf1 : 0 ≤ f) (hf2 : f ≤ 4294967295) (is : Bool) (y2 m2 k2 d2 e2 s2 b2 q2 : Int) (HQ : Hid (untC is y2 m2 k2 d2 e2 s2 b2 0 = q2)) (HQ0 : Hid (q2 ≠ 0)) (HY : Hid (-9223372036854775808 ≤ y2 ∧ y2 ≤ 9223372036854775807)) (HU2 : Hid (w2.heap[w1.heap.size]? = some (.cells #[.bool is, .int .i64 y2, .int .i64 m2, .int .i64 k2, .int .i64 d2, .int .i64 e2, .int .i64 s2, .int .i64 b2] 27))) (HB2 : Hid (Below W.heap.size W w2)) (HK2 : Hid (w2.heap[W.heap.size]? = some (.cells #[.int .u16 y, .int .u8 m, .int .u8 b, .int .u8 k, .int .u8 w, .int .u8 n, .int .i32 at_] 38))) (HT2 : Hid (Tabs w2)) {u4 u5 u10 u11 u12 u13 u14 u15 u16 u17 u18 u19 u20 u21 u22 u23 u24 u25 u26 u27 u28 u29 u30 u31 u32 u33 u34 u35 u36 u37 u38 u39 u40 u41 u42 u43 u44 u45 u46 u47 u48 u49 u50 u51 u52 u53 u54 u55 u56 u57 u58 u59 u60 u61 u62 u63 u64 u65 u66 u67 u68 u69 u70 u71 u72 u73 u74 u75 u76 u77 u78 u79 u80 u81 u82 u83 u84 u85 u86 u87 u88 u89 u90 u91 u92 u93 u94 u95 u96 u97 u98 u99 u100 u101 u102 u103 u104 u105 u106 u107 u108 u109 u110 u111 u112 u113 u114 u115 u116 u117 u118 u119 u120 u121 u122 u123 u124 u125 u126 u127 u128 u129 u130 u131 u132 u133 u134 u135 u136 u137 u138 u139 u140 u141 u142 u143 u144 u145 u146 u147 u148 u149 u150 u151 u152 u153 u154 u155 u156 u157 u158 u159 u160 u161 u162 u163 u164 u165 u166 u167 u168 u169 u170 u171 u172 u173 u174 u175 u176 u177 u178 u179 u180 u181 u182 u183 u184 u185 u186 u187 u188 u189 u190 u191 u192 u193 : Value} :
    Code.wp Tryd.prog refusesRest (bodyPost Tryd.prog Tryd.f7 fun e w' => e = .returned (.bool true) ∧ Below W.heap.size W w') ⟨#[.agg #[.int .u16 y, .int .u8 m, .int .u8 b, .int .u8 k, .int .u8 w, .int .u8 n, .int .i32 at_], .int .u8 q, .int .u32 f, .pointer (some ⟨W.heap.size, 0, none⟩), u4, u5, .bool false, .int .i64 f, .pointer (some ⟨w1.heap.size, 0, none⟩), .int .i64 q2, u10, u11, u12, u13, u14, u15, u16, u17, u18, u19, u20, u21, u22, u23, u24, u25, u26, u27, u28, u29, u30, u31, u32, u33, u34, u35, u36, u37, u38, u39, u40, u41, u42, u43, u44, u45, u46, u47, u48, u49, u50, u51, u52, u53, u54, u55, u56, u57, u58, u59, u60, u61, u62, u63, u64, u65, u66, u67, u68, u69, u70, u71, u72, u73, u74, u75, u76, u77, u78, u79, u80, u81, u82, u83, u84, u85, u86, u87, u88, u89, u90, u91, u92, u93, u94, u95, u96, u97, u98, u99, u100, u101, u102, u103, u104, u105, u106, u107, u108, u109, u110, u111, u112, u113, u114, u115, u116, u117, u118, u119, u120, u121, u122, u123, u124, u125, u126, u127, u128, u129, u130, u131, u132, u133, u134, u135, u136, u137, u138, u139, u140, u141, u142, u143, u144, u145, u146, u147, u148, u149, u150, u151, u152, u153, u154, u155, u156, u157, u158, u159, u160, u161, u162, u163, u164, u165, u166, u167, u168, u169, u170, u171, u172, u173, u174, u175, u176, u177, u178, u179, u180, u181, u182, u183, u184, u185, u186, u187, u188, u189, u190, u191, u192, u193], []⟩ w2 := by
  conv => arg 2; whnf
  have HNN := Lib.hid (untN_no (is := is) (y := y2) (m := m2) (k := k2) (w := d2) (d := e2) (sec := s2) (base := b2) (least := 0) (by rw [HQ.out]; exact HQ0.out))
  have c0 := cellB HU2.out (i := 0) rfl
  have c1 := cellB HU2.out (i := 1) rfl
  have c2 := cellB HU2.out (i := 2) rfl
  have c3 := cellB HU2.out (i := 3) rfl
  have c4 := cellB HU2.out (i := 4) rfl
  have c5 := cellB HU2.out (i := 5) rfl
  have c6 := cellB HU2.out (i := 6) rfl
  have c7 := cellB HU2.out (i := 7) rfl
  go_wp2_with fail
  refine (untNom_any is y2 m2 k2 d2 e2 s2 b2 0 _ (by exact HT2.out) HY.out.1 HY.out.2).mono ?_
  intro e w3 hq; obtain ⟨rfl, hb3⟩ := NomU.to HNN.out HQ.out _ _ hq; clear hq
  clear c0 c1 c2 c3 c4 c5 c6 c7
  have HB3 := Lib.hid (bel_trans HB2.out hb3)
  have HU3 := Lib.hid (block_below HU2.out hb3)
  have HK3 := Lib.hid (block_below HK2.out hb3)
  have HT3 := Lib.hid (HT2.out.below hb3)
  clear hb3
  have c0 := cellB HU3.out (i := 0) rfl
  have c1 := cellB HU3.out (i := 1) rfl
  have c2 := cellB HU3.out (i := 2) rfl
  have c3 := cellB HU3.out (i := 3) rfl
  have c4 := cellB HU3.out (i := 4) rfl
  have c5 := cellB HU3.out (i := 5) rfl
  have c6 := cellB HU3.out (i := 6) rfl
  have c7 := cellB HU3.out (i := 7) rfl
  go_wp2_with fail
  refine (instBad_any 0 0 ⟨#[]⟩ ⟨#[]⟩ is y2 m2 k2 d2 e2 s2 b2 q2 (.slice none 0 0) _ (by exact HT3.out) HY.out.1 HY.out.2 HQ HQ0.out (by decide) (by decide)).mono ?_
  rintro e w4 ⟨rfl, hb4⟩
  clear c0 c1 c2 c3 c4 c5 c6 c7
  have HB4 := Lib.hid (bel_trans HB3.out hb4)
  have HU4 := Lib.hid (block_below HU3.out hb4)
  have HK4 := Lib.hid (block_below HK3.out hb4)
  have HT4 := Lib.hid (HT3.out.below hb4)
  clear hb4
  have c0 := cellB HU4.out (i := 0) rfl
  have c1 := cellB HU4.out (i := 1) rfl
  have c2 := cellB HU4.out (i := 2) rfl
  have c3 := cellB HU4.out (i := 3) rfl
  have c4 := cellB HU4.out (i := 4) rfl
  have c5 := cellB HU4.out (i := 5) rfl
  have c6 := cellB HU4.out (i := 6) rfl
  have c7 := cellB HU4.out (i := 7) rfl
  go_wp2_with fail
  refine (untCheck_any is y2 m2 k2 d2 e2 s2 b2 0 _ (by exact HT4.out) HY.out.1 HY.out.2).mono ?_
  intro e w5 hq; obtain ⟨rfl, hb5⟩ := CodeU.to HQ.out _ _ hq; clear hq
  clear c0 c1 c2 c3 c4 c5 c6 c7
  have HB5 := Lib.hid (bel_trans HB4.out hb5)
  have HU5 := Lib.hid (block_below HU4.out hb5)
  have HK5 := Lib.hid (block_below HK4.out hb5)
  have HT5 := Lib.hid (HT4.out.below hb5)
  clear hb5
  have c0 := cellB HU5.out (i := 0) rfl
  have c1 := cellB HU5.out (i := 1) rfl
  have c2 := cellB HU5.out (i := 2) rfl
  have c3 := cellB HU5.out (i := 3) rfl
  have c4 := cellB HU5.out (i := 4) rfl
  have c5 := cellB HU5.out (i := 5) rfl
  have c6 := cellB HU5.out (i := 6) rfl
  have c7 := cellB HU5.out (i := 7) rfl
  go_wp2_with fail
  refine (untCheck_any is y2 m2 k2 d2 e2 s2 b2 (1 + f) _ (by exact HT5.out) HY.out.1 HY.out.2).mono ?_
  intro e w6 hq; obtain ⟨rfl, hb6⟩ := CodeU.to (untC_arg (Or.inr (by omega))) _ _ hq; clear hq
  clear c0 c1 c2 c3 c4 c5 c6 c7
  have HB6 := Lib.hid (bel_trans HB5.out hb6)
  have HU6 := Lib.hid (block_below HU5.out hb6)
  have HK6 := Lib.hid (block_below HK5.out hb6)
  have HT6 := Lib.hid (HT5.out.below hb6)
  clear hb6
  have c0 := cellB HU6.out (i := 0) rfl
  have c1 := cellB HU6.out (i := 1) rfl
  have c2 := cellB HU6.out (i := 2) rfl
  have c3 := cellB HU6.out (i := 3) rfl
  have c4 := cellB HU6.out (i := 4) rfl
  have c5 := cellB HU6.out (i := 5) rfl
  have c6 := cellB HU6.out (i := 6) rfl
  have c7 := cellB HU6.out (i := 7) rfl
  go_wp2_with fail
  refine (untCheck_any is y2 m2 k2 d2 e2 s2 b2 (-10801 - f) _ (by exact HT6.out) HY.out.1 HY.out.2).mono ?_
  intro e w7 hq; obtain ⟨rfl, hb7⟩ := CodeU.to (untC_arg (Or.inl (by omega))) _ _ hq; clear hq
  clear c0 c1 c2 c3 c4 c5 c6 c7
  have HB7 := Lib.hid (bel_trans HB6.out hb7)
  have HU7 := Lib.hid (block_below HU6.out hb7)
  have HK7 := Lib.hid (block_below HK6.out hb7)
  have HT7 := Lib.hid (HT6.out.below hb7)
  clear hb7
  have g0 := cellB HK7.out (i := 0) rfl
  have g1 := cellB HK7.out (i := 1) rfl
  have g2 := cellB HK7.out (i := 2) rfl
  have g3 := cellB HK7.out (i := 3) rfl
  have g4 := cellB HK7.out (i := 4) rfl
  have g5 := cellB HK7.out (i := 5) rfl
  have g6 := cellB HK7.out (i := 6) rfl
  go_wp2_with fail
  refine (HM.out _).mono ?_
  rintro e w8 ⟨y3, m3, k3, d3, e3, s3, b3, hy3, rfl, hb8⟩
  clear g0 g1 g2 g3 g4 g5 g6
  have HB8 := Lib.hid (bel_trans HB7.out hb8)
  have HU8 := Lib.hid (block_below HU7.out hb8)
  have HK8 := Lib.hid (block_below HK7.out hb8)
  have HT8 := Lib.hid (HT7.out.below hb8)
  clear hb8
  have HT9 := Lib.hid ((HT8.out.alloc (.cells #[.bool true, .int .i64 y3, .int .i64 m3, .int .i64 k3, .int .i64 d3, .int .i64 e3, .int .i64 s3, .int .i64 b3] 27)).alloc (.cells #[.int .i64 (604800 + f), .int .i64 0, .int .i64 0, .string ⟨#[]⟩, .string ⟨#[]⟩, .bool true, .int .i64 y3, .int .i64 m3, .int .i64 k3, .int .i64 d3, .int .i64 e3, .int .i64 s3, .int .i64 b3, .int .i64 (-604800 - f), .int .i64 0, .int .i64 0, .string ⟨#[]⟩, .string ⟨#[]⟩, .bool is, .int .i64 y2, .int .i64 m2, .int .i64 k2, .int .i64 d2, .int .i64 e2, .int .i64 s2, .int .i64 b2, .int .i64 0, .int .i64 1, .int .i64 (604800 + f), .string ⟨#[]⟩, .string ⟨#[]⟩, .bool true, .int .i64 y3, .int .i64 m3, .int .i64 k3, .int .i64 d3, .int .i64 e3, .int .i64 s3, .int .i64 b3] 45))
  have HB9 := Lib.hid (bel_trans HB8.out (bel_trans (bel_alloc w8 (.cells #[.bool true, .int .i64 y3, .int .i64 m3, .int .i64 k3, .int .i64 d3, .int .i64 e3, .int .i64 s3, .int .i64 b3] 27)) (bel_alloc _ (.cells #[.int .i64 (604800 + f), .int .i64 0, .int .i64 0, .string ⟨#[]⟩, .string ⟨#[]⟩, .bool true, .int .i64 y3, .int .i64 m3, .int .i64 k3, .int .i64 d3, .int .i64 e3, .int .i64 s3, .int .i64 b3, .int .i64 (-604800 - f), .int .i64 0, .int .i64 0, .string ⟨#[]⟩, .string ⟨#[]⟩, .bool is, .int .i64 y2, .int .i64 m2, .int .i64 k2, .int .i64 d2, .int .i64 e2, .int .i64 s2, .int .i64 b2, .int .i64 0, .int .i64 1, .int .i64 (604800 + f), .string ⟨#[]⟩, .string ⟨#[]⟩, .bool true, .int .i64 y3, .int .i64 m3, .int .i64 k3, .int .i64 d3, .int .i64 e3, .int .i64 s3, .int .i64 b3] 45))))
  have HU9 := Lib.hid (block_below (block_below HU8.out (bel_alloc w8 (.cells #[.bool true, .int .i64 y3, .int .i64 m3, .int .i64 k3, .int .i64 d3, .int .i64 e3, .int .i64 s3, .int .i64 b3] 27))) (bel_alloc _ (.cells #[.int .i64 (604800 + f), .int .i64 0, .int .i64 0, .string ⟨#[]⟩, .string ⟨#[]⟩, .bool true, .int .i64 y3, .int .i64 m3, .int .i64 k3, .int .i64 d3, .int .i64 e3, .int .i64 s3, .int .i64 b3, .int .i64 (-604800 - f), .int .i64 0, .int .i64 0, .string ⟨#[]⟩, .string ⟨#[]⟩, .bool is, .int .i64 y2, .int .i64 m2, .int .i64 k2, .int .i64 d2, .int .i64 e2, .int .i64 s2, .int .i64 b2, .int .i64 0, .int .i64 1, .int .i64 (604800 + f), .string ⟨#[]⟩, .string ⟨#[]⟩, .bool true, .int .i64 y3, .int .i64 m3, .int .i64 k3, .int .i64 d3, .int .i64 e3, .int .i64 s3, .int .i64 b3] 45)))
  have HG9 := Lib.hid (block_below (heap_alloc_new w8 (.cells #[.bool true, .int .i64 y3, .int .i64 m3, .int .i64 k3, .int .i64 d3, .int .i64 e3, .int .i64 s3, .int .i64 b3] 27)) (bel_alloc _ (.cells #[.int .i64 (604800 + f), .int .i64 0, .int .i64 0, .string ⟨#[]⟩, .string ⟨#[]⟩, .bool true, .int .i64 y3, .int .i64 m3, .int .i64 k3, .int .i64 d3, .int .i64 e3, .int .i64 s3, .int .i64 b3, .int .i64 (-604800 - f), .int .i64 0, .int .i64 0, .string ⟨#[]⟩, .string ⟨#[]⟩, .bool is, .int .i64 y2, .int .i64 m2, .int .i64 k2, .int .i64 d2, .int .i64 e2, .int .i64 s2, .int .i64 b2, .int .i64 0, .int .i64 1, .int .i64 (604800 + f), .string ⟨#[]⟩, .string ⟨#[]⟩, .bool true, .int .i64 y3, .int .i64 m3, .int .i64 k3, .int .i64 d3, .int .i64 e3, .int .i64 s3, .int .i64 b3] 45)))
  have HS9 := Lib.hid (new2 w8 (.cells #[.bool true, .int .i64 y3, .int .i64 m3, .int .i64 k3, .int .i64 d3, .int .i64 e3, .int .i64 s3, .int .i64 b3] 27) (.cells #[.int .i64 (604800 + f), .int .i64 0, .int .i64 0, .string ⟨#[]⟩, .string ⟨#[]⟩, .bool true, .int .i64 y3, .int .i64 m3, .int .i64 k3, .int .i64 d3, .int .i64 e3, .int .i64 s3, .int .i64 b3, .int .i64 (-604800 - f), .int .i64 0, .int .i64 0, .string ⟨#[]⟩, .string ⟨#[]⟩, .bool is, .int .i64 y2, .int .i64 m2, .int .i64 k2, .int .i64 d2, .int .i64 e2, .int .i64 s2, .int .i64 b2, .int .i64 0, .int .i64 1, .int .i64 (604800 + f), .string ⟨#[]⟩, .string ⟨#[]⟩, .bool true, .int .i64 y3, .int .i64 m3, .int .i64 k3, .int .i64 d3, .int .i64 e3, .int .i64 s3, .int .i64 b3] 45))
  have HU8a := Lib.hid (block_below HU8.out (bel_alloc w8 (.cells #[.bool true, .int .i64 y3, .int .i64 m3, .int .i64 k3, .int .i64 d3, .int .i64 e3, .int .i64 s3, .int .i64 b3] 27)))
  have c0 := cellB HU8a.out (i := 0) rfl
  have c1 := cellB HU8a.out (i := 1) rfl
  have c2 := cellB HU8a.out (i := 2) rfl
  have c3 := cellB HU8a.out (i := 3) rfl
  have c4 := cellB HU8a.out (i := 4) rfl
  have c5 := cellB HU8a.out (i := 5) rfl
  have c6 := cellB HU8a.out (i := 6) rfl
  have c7 := cellB HU8a.out (i := 7) rfl
  go_wp2_with fail
  go_loopw [157] (fun i wr => ∃ (k : Int) (wq : World), 0 ≤ k ∧ k ≤ 3 ∧ i = .int .i64 k ∧ wr = wq ∧ Hid (Tabs wq) ∧ Hid (Below W.heap.size W wq) ∧ Hid (wq.heap[w1.heap.size]? = some (.cells #[.bool is, .int .i64 y2, .int .i64 m2, .int .i64 k2, .int .i64 d2, .int .i64 e2, .int .i64 s2, .int .i64 b2] 27)) ∧ Hid (wq.heap[w8.heap.size]? = some (.cells #[.bool true, .int .i64 y3, .int .i64 m3, .int .i64 k3, .int .i64 d3, .int .i64 e3, .int .i64 s3, .int .i64 b3] 27)) ∧ Hid (wq.heap[w8.heap.size + 1]? = some (.cells #[.int .i64 (604800 + f), .int .i64 0, .int .i64 0, .string ⟨#[]⟩, .string ⟨#[]⟩, .bool true, .int .i64 y3, .int .i64 m3, .int .i64 k3, .int .i64 d3, .int .i64 e3, .int .i64 s3, .int .i64 b3, .int .i64 (-604800 - f), .int .i64 0, .int .i64 0, .string ⟨#[]⟩, .string ⟨#[]⟩, .bool is, .int .i64 y2, .int .i64 m2, .int .i64 k2, .int .i64 d2, .int .i64 e2, .int .i64 s2, .int .i64 b2, .int .i64 0, .int .i64 1, .int .i64 (604800 + f), .string ⟨#[]⟩, .string ⟨#[]⟩, .bool true, .int .i64 y3, .int .i64 m3, .int .i64 k3, .int .i64 d3, .int .i64 e3, .int .i64 s3, .int .i64 b3] 45))) (fun i _ => (3 - intOf i).toNat)
  case atStart => exact ⟨0, _, by omega, by omega, rfl, rfl, HT9, HB9, HU9, HG9, HS9⟩
  case round =>
  clear c0 c1 c2 c3 c4 c5 c6 c7 HT9 HB9 HU9 HG9 HS9 HU8a HU8 HT8 HK8 HB8
  obtain ⟨k, wq, hk1, hk2, rfl, rfl, HTq, HBq, HUq, HGq, HSq⟩ := hrel
  have hkc : k = 0 ∨ k = 1 ∨ k = 2 ∨ k = 3 := by omega
  clear hk1 hk2
  rcases hkc with rfl | rfl | rfl | rfl
  · skip
    have c0 := cellB HSq.out (i := 0) rfl
    have c1 := cellB HSq.out (i := 1) rfl
    have c2 := cellB HSq.out (i := 2) rfl
    have c3 := cellB HSq.out (i := 3) rfl
    have c4 := cellB HSq.out (i := 4) rfl
    have c5 := cellB HSq.out (i := 5) rfl
    have c6 := cellB HSq.out (i := 6) rfl
    have c7 := cellB HSq.out (i := 7) rfl
    have c8 := cellB HSq.out (i := 8) rfl
    have c9 := cellB HSq.out (i := 9) rfl
    have c10 := cellB HSq.out (i := 10) rfl
    have c11 := cellB HSq.out (i := 11) rfl
    have c12 := cellB HSq.out (i := 12) rfl
    go_wp2_with fail
    refine (instOff_any (604800 + f) 0 0 ⟨#[]⟩ ⟨#[]⟩ true y3 m3 k3 d3 e3 s3 b3 (.slice none 0 0) _ (by decide) (by decide) (.inr (by omega))).mono ?_
    rintro e w9 ⟨rfl, hb9⟩
    clear c0 c1 c2 c3 c4 c5 c6 c7 c8 c9 c10 c11 c12
    go_wp2_with fail
    go_round
    case rel => exact ⟨1, _, by omega, by omega, rfl, rfl, Lib.hid ((HTq.out.alloc _).below hb9), Lib.hid (bel_trans HBq.out (bel_trans (bel_alloc _ _) hb9)), Lib.hid (block_below HUq.out (bel_trans (bel_alloc _ _) hb9)), Lib.hid (block_below HGq.out (bel_trans (bel_alloc _ _) hb9)), Lib.hid (block_below HSq.out (bel_trans (bel_alloc _ _) hb9))⟩
    case measure => simp [intOf]
  · skip
    have c13 := cellB HSq.out (i := 13) rfl
    have c14 := cellB HSq.out (i := 14) rfl
    have c15 := cellB HSq.out (i := 15) rfl
    have c16 := cellB HSq.out (i := 16) rfl
    have c17 := cellB HSq.out (i := 17) rfl
    have c18 := cellB HSq.out (i := 18) rfl
    have c19 := cellB HSq.out (i := 19) rfl
    have c20 := cellB HSq.out (i := 20) rfl
    have c21 := cellB HSq.out (i := 21) rfl
    have c22 := cellB HSq.out (i := 22) rfl
    have c23 := cellB HSq.out (i := 23) rfl
    have c24 := cellB HSq.out (i := 24) rfl
    have c25 := cellB HSq.out (i := 25) rfl
    go_wp2_with fail
    refine (instOff_any (-604800 - f) 0 0 ⟨#[]⟩ ⟨#[]⟩ is y2 m2 k2 d2 e2 s2 b2 (.slice none 0 0) _ (by decide) (by decide) (.inl (by omega))).mono ?_
    rintro e w9 ⟨rfl, hb9⟩
    clear c13 c14 c15 c16 c17 c18 c19 c20 c21 c22 c23 c24 c25
    go_wp2_with fail
    go_round
    case rel => exact ⟨2, _, by omega, by omega, rfl, rfl, Lib.hid ((HTq.out.alloc _).below hb9), Lib.hid (bel_trans HBq.out (bel_trans (bel_alloc _ _) hb9)), Lib.hid (block_below HUq.out (bel_trans (bel_alloc _ _) hb9)), Lib.hid (block_below HGq.out (bel_trans (bel_alloc _ _) hb9)), Lib.hid (block_below HSq.out (bel_trans (bel_alloc _ _) hb9))⟩
    case measure => simp [intOf]
  · skip
    have c26 := cellB HSq.out (i := 26) rfl
    have c27 := cellB HSq.out (i := 27) rfl
    have c28 := cellB HSq.out (i := 28) rfl
    have c29 := cellB HSq.out (i := 29) rfl
    have c30 := cellB HSq.out (i := 30) rfl
    have c31 := cellB HSq.out (i := 31) rfl
    have c32 := cellB HSq.out (i := 32) rfl
    have c33 := cellB HSq.out (i := 33) rfl
    have c34 := cellB HSq.out (i := 34) rfl
    have c35 := cellB HSq.out (i := 35) rfl
    have c36 := cellB HSq.out (i := 36) rfl
    have c37 := cellB HSq.out (i := 37) rfl
    have c38 := cellB HSq.out (i := 38) rfl
    go_wp2_with fail
    refine (instSave_any (604800 + f) ⟨#[]⟩ ⟨#[]⟩ true y3 m3 k3 d3 e3 s3 b3 (.slice none 0 0) _ (.inr (by omega))).mono ?_
    rintro e w9 ⟨rfl, hb9⟩
    clear c26 c27 c28 c29 c30 c31 c32 c33 c34 c35 c36 c37 c38
    go_wp2_with fail
    go_round
    case rel => exact ⟨3, _, by omega, by omega, rfl, rfl, Lib.hid ((HTq.out.alloc _).below hb9), Lib.hid (bel_trans HBq.out (bel_trans (bel_alloc _ _) hb9)), Lib.hid (block_below HUq.out (bel_trans (bel_alloc _ _) hb9)), Lib.hid (block_below HGq.out (bel_trans (bel_alloc _ _) hb9)), Lib.hid (block_below HSq.out (bel_trans (bel_alloc _ _) hb9))⟩
    case measure => simp [intOf]
  · skip
    have g0 := cellB HGq.out (i := 0) rfl
    have g1 := cellB HGq.out (i := 1) rfl
    have g2 := cellB HGq.out (i := 2) rfl
    have g3 := cellB HGq.out (i := 3) rfl
    have g4 := cellB HGq.out (i := 4) rfl
    have g5 := cellB HGq.out (i := 5) rfl
    have g6 := cellB HGq.out (i := 6) rfl
    have g7 := cellB HGq.out (i := 7) rfl
    go_wp2_with fail
    refine (instKind_any (-1152921504606846976) (3 + f) 0 ⟨#[]⟩ ⟨#[]⟩ true y3 m3 k3 d3 e3 s3 b3 (.slice none 0 0) _ (.inr (by omega))).mono ?_
    rintro e w9 ⟨rfl, hb9⟩
    clear g0 g1 g2 g3 g4 g5 g6 g7
    have HT9 := Lib.hid (HTq.out.below hb9)
    have HU9 := Lib.hid (block_below HUq.out hb9)
    have HB9 := Lib.hid (bel_trans HBq.out hb9)
    clear hb9
    have c0 := cellB HU9.out (i := 0) rfl
    have c1 := cellB HU9.out (i := 1) rfl
    have c2 := cellB HU9.out (i := 2) rfl
    have c3 := cellB HU9.out (i := 3) rfl
    have c4 := cellB HU9.out (i := 4) rfl
    have c5 := cellB HU9.out (i := 5) rfl
    have c6 := cellB HU9.out (i := 6) rfl
    have c7 := cellB HU9.out (i := 7) rfl
    go_wp2_with fail
    refine (instKind_any 0 (-1 - f) 0 ⟨#[]⟩ ⟨#[]⟩ is y2 m2 k2 d2 e2 s2 b2 (.slice none 0 0) _ (.inl (by omega))).mono ?_
    rintro e w10 ⟨rfl, hb10⟩
    clear c0 c1 c2 c3 c4 c5 c6 c7
    go_wp2_with fail
    refine (works_any _ (by exact Tabs.below (by exact HT9.out) hb10)).mono ?_
    rintro e w11 ⟨rfl, hb11⟩
    go_wp2_with fail
    go_ret
    exact ⟨rfl, bel_trans HB9.out (bel_trans hb10 hb11)⟩

theorem refuses_rest2 {code : Code} (hc : refusesRest = code) (y m b k w n at_ q f : Int) (W w1 w2 : World) (HM : Hid (∀ V : World, Calls Tryd.prog 18 #[.agg #[.int .u16 y, .int .u8 m, .int .u8 b, .int .u8 k, .int .u8 w, .int .u8 n, .int .i32 at_], .int .i64 0] V (MadeU V))) (hf1 : 0 ≤ f) (hf2 : f ≤ 4294967295) (is : Bool) (y2 m2 k2 d2 e2 s2 b2 q2 : Int) (HQ : Hid (untC is y2 m2 k2 d2 e2 s2 b2 0 = q2)) (HQ0 : Hid (q2 ≠ 0)) (HY : Hid (-9223372036854775808 ≤ y2 ∧ y2 ≤ 9223372036854775807)) (HU2 : Hid (w2.heap[w1.heap.size]? = some (.cells #[.bool is, .int .i64 y2, .int .i64 m2, .int .i64 k2, .int .i64 d2, .int .i64 e2, .int .i64 s2, .int .i64 b2] 27))) (HB2 : Hid (Below W.heap.size W w2)) (HK2 : Hid (w2.heap[W.heap.size]? = some (.cells #[.int .u16 y, .int .u8 m, .int .u8 b, .int .u8 k, .int .u8 w, .int .u8 n, .int .i32 at_] 38))) (HT2 : Hid (Tabs w2)) {u4 u5 u10 u11 u12 u13 u14 u15 u16 u17 u18 u19 u20 u21 u22 u23 u24 u25 u26 u27 u28 u29 u30 u31 u32 u33 u34 u35 u36 u37 u38 u39 u40 u41 u42 u43 u44 u45 u46 u47 u48 u49 u50 u51 u52 u53 u54 u55 u56 u57 u58 u59 u60 u61 u62 u63 u64 u65 u66 u67 u68 u69 u70 u71 u72 u73 u74 u75 u76 u77 u78 u79 u80 u81 u82 u83 u84 u85 u86 u87 u88 u89 u90 u91 u92 u93 u94 u95 u96 u97 u98 u99 u100 u101 u102 u103 u104 u105 u106 u107 u108 u109 u110 u111 u112 u113 u114 u115 u116 u117 u118 u119 u120 u121 u122 u123 u124 u125 u126 u127 u128 u129 u130 u131 u132 u133 u134 u135 u136 u137 u138 u139 u140 u141 u142 u143 u144 u145 u146 u147 u148 u149 u150 u151 u152 u153 u154 u155 u156 u157 u158 u159 u160 u161 u162 u163 u164 u165 u166 u167 u168 u169 u170 u171 u172 u173 u174 u175 u176 u177 u178 u179 u180 u181 u182 u183 u184 u185 u186 u187 u188 u189 u190 u191 u192 u193 : Value} :
    Code.wp Tryd.prog code (bodyPost Tryd.prog Tryd.f7 fun e w' => e = .returned (.bool true) ∧ Below W.heap.size W w') ⟨#[.agg #[.int .u16 y, .int .u8 m, .int .u8 b, .int .u8 k, .int .u8 w, .int .u8 n, .int .i32 at_], .int .u8 q, .int .u32 f, .pointer (some ⟨W.heap.size, 0, none⟩), u4, u5, .bool false, .int .i64 f, .pointer (some ⟨w1.heap.size, 0, none⟩), .int .i64 q2, u10, u11, u12, u13, u14, u15, u16, u17, u18, u19, u20, u21, u22, u23, u24, u25, u26, u27, u28, u29, u30, u31, u32, u33, u34, u35, u36, u37, u38, u39, u40, u41, u42, u43, u44, u45, u46, u47, u48, u49, u50, u51, u52, u53, u54, u55, u56, u57, u58, u59, u60, u61, u62, u63, u64, u65, u66, u67, u68, u69, u70, u71, u72, u73, u74, u75, u76, u77, u78, u79, u80, u81, u82, u83, u84, u85, u86, u87, u88, u89, u90, u91, u92, u93, u94, u95, u96, u97, u98, u99, u100, u101, u102, u103, u104, u105, u106, u107, u108, u109, u110, u111, u112, u113, u114, u115, u116, u117, u118, u119, u120, u121, u122, u123, u124, u125, u126, u127, u128, u129, u130, u131, u132, u133, u134, u135, u136, u137, u138, u139, u140, u141, u142, u143, u144, u145, u146, u147, u148, u149, u150, u151, u152, u153, u154, u155, u156, u157, u158, u159, u160, u161, u162, u163, u164, u165, u166, u167, u168, u169, u170, u171, u172, u173, u174, u175, u176, u177, u178, u179, u180, u181, u182, u183, u184, u185, u186, u187, u188, u189, u190, u191, u192, u193], []⟩ w2 := by
  subst hc
  exact refuses_rest y m b k w n at_ q f W w1 w2 HM hf1 hf2 is y2 m2 k2 d2 e2 s2 b2 q2 HQ HQ0 HY HU2 HB2 HK2 HT2

set_option maxRecDepth 100000 in
set_option maxHeartbeats 16000000 in
theorem refuses_core (y m b k w n at_ q f : Int) (W : World) (hT : Tabs W) (wy : (Lit.int .u16 y).wf = true) (wm : (Lit.int .u8 m).wf = true) (wb : (Lit.int .u8 b).wf = true) (wk : (Lit.int .u8 k).wf = true) (ww : (Lit.int .u8 w).wf = true) (wn : (Lit.int .u8 n).wf = true) (wa : (Lit.int .i32 at_).wf = true) (wq : (Lit.int .u8 q).wf = true) (wf : (Lit.int .u32 f).wf = true) :
    Calls Tryd.prog 7 #[.agg #[.int .u16 y, .int .u8 m, .int .u8 b, .int .u8 k, .int .u8 w, .int .u8 n, .int .i32 at_], .int .u8 q, .int .u32 f] W fun e w' => e = .returned (.bool true) ∧ Below W.heap.size W w' := by
  obtain ⟨hf1, hf2⟩ := u32_of wf
  obtain ⟨hq1, hq2⟩ := byte_of wq
  have HM := Lib.hid (fun V : World => untMade_any y m b k w n at_ V wy wm wb wk ww wn wa)
  clear wy wm wb wk ww wn wa wq wf
  obtain ⟨c, hc⟩ : ∃ c, q % 10 = c := ⟨_, rfl⟩
  have hcb : 0 ≤ c ∧ c < 10 := by omega
  obtain ⟨hc1, hc2⟩ := hcb
  have HT0 := Lib.hid (hT.alloc (.cells #[.int .u16 y, .int .u8 m, .int .u8 b, .int .u8 k, .int .u8 w, .int .u8 n, .int .i32 at_] 38))
  have HB0 := Lib.hid (bel_alloc W (.cells #[.int .u16 y, .int .u8 m, .int .u8 b, .int .u8 k, .int .u8 w, .int .u8 n, .int .i32 at_] 38))
  have HK0 := Lib.hid (heap_alloc_new W (.cells #[.int .u16 y, .int .u8 m, .int .u8 b, .int .u8 k, .int .u8 w, .int .u8 n, .int .i32 at_] 38))
  clear hT
  go_enter Tryd.func7, Tryd.ntmps7
  go_upto_region 4 with (go_at_call 18; refine (HM.out _).mono ?_; rintro e w1 ⟨y1, m1, k1, d1, e1, s1, b1, hy, rfl, hb⟩)
  have HB1 := Lib.hid (bel_trans HB0.out hb)
  have HK1 := Lib.hid (block_below HK0.out hb)
  have HT1 := Lib.hid (HT0.out.below hb)
  clear hb HB0 HK0 HT0
  go_cut [28] (fun s w' => s = .int .u8 c ∧ w' = w1.alloc (.cells #[.bool true, .int .i64 y1, .int .i64 m1, .int .i64 k1, .int .i64 d1, .int .i64 e1, .int .i64 s1, .int .i64 b1] 27))
  case first =>
    go_wp2_with fail
    go_meet
    case rel => exact ⟨by rw [hc], rfl⟩
  case rest =>
  obtain ⟨rfl, rfl⟩ := hcut
  go_step
  go_cut [9] (fun s w' => ∃ (is : Bool) (y2 m2 k2 d2 e2 s2 b2 q2 : Int), s = .int .i64 q2 ∧ Hid (untC is y2 m2 k2 d2 e2 s2 b2 0 = q2) ∧ Hid (q2 ≠ 0) ∧ Hid (-9223372036854775808 ≤ y2 ∧ y2 ≤ 9223372036854775807) ∧ Hid (w'.heap[w1.heap.size]? = some (.cells #[.bool is, .int .i64 y2, .int .i64 m2, .int .i64 k2, .int .i64 d2, .int .i64 e2, .int .i64 s2, .int .i64 b2] 27)) ∧ Hid (Below w1.heap.size w1 w'))
  case first =>
    have hy1 := hy.out.1
    have hy2 := hy.out.2
    have hcc : c = 0 ∨ c = 1 ∨ c = 2 ∨ c = 3 ∨ c = 4 ∨ c = 5 ∨ c = 6 ∨ c = 7 ∨ c = 8 ∨ c = 9 := by omega
    clear hc1 hc2 hy
    rcases hcc with rfl | rfl | rfl | rfl | rfl | rfl | rfl | rfl | rfl | rfl
    · go_wp2_with fail
      go_meet
      case rel => exact ⟨false, y1, m1, k1, d1, e1, s1, b1, 4, rfl, Lib.hid (untC_none (by omega) (by omega)), Lib.hid (by decide), Lib.hid (by omega), Lib.hid (heap_alloc_new _ _), Lib.hid (bel_alloc _ _)⟩
    · go_wp2_with fail
      go_meet
      case rel => exact ⟨true, 1849 - f, m1, k1, d1, e1, s1, b1, 3, rfl, Lib.hid (bad_year (is := true) (by omega)), Lib.hid (by decide), Lib.hid (by omega), Lib.hid (heap_alloc_new _ _), Lib.hid (bel_alloc _ _)⟩
    · go_wp2_with fail
      go_meet
      case rel => exact ⟨true, 2150 + f, m1, k1, d1, e1, s1, b1, 3, rfl, Lib.hid (bad_year (is := true) (by omega)), Lib.hid (by decide), Lib.hid (by omega), Lib.hid (heap_alloc_new _ _), Lib.hid (bel_alloc _ _)⟩
    · have h2 : f % 2 = 0 ∨ f % 2 = 1 := by omega
      rcases h2 with h2 | h2
      · go_wp2_with fail
        go_meet
        case rel => exact ⟨true, y1, -f, k1, d1, e1, s1, b1, 3, rfl, Lib.hid (bad_day (by omega)), Lib.hid (by decide), Lib.hid (by omega), Lib.hid (block_below (heap_alloc_new _ _) (bel_alloc _ _)), Lib.hid (bel_trans (bel_alloc _ _) (bel_alloc _ _))⟩
      · go_wp2_with fail
        go_meet
        case rel => exact ⟨true, y1, 13 + f, k1, d1, e1, s1, b1, 3, rfl, Lib.hid (bad_day (by omega)), Lib.hid (by decide), Lib.hid (by omega), Lib.hid (block_below (heap_alloc_new _ _) (bel_alloc _ _)), Lib.hid (bel_trans (bel_alloc _ _) (bel_alloc _ _))⟩
    · have h5 : f % 5 = 0 ∨ f % 5 = 1 ∨ f % 5 = 2 ∨ f % 5 = 3 ∨ f % 5 = 4 := by omega
      rcases h5 with h5 | h5 | h5 | h5 | h5
      · go_wp2_with fail
        go_meet
        case rel => exact ⟨true, y1, 2, 1, 0, 31, s1, b1, 3, rfl, Lib.hid (bad_day (.inr (.inr (.inr (short_month (by omega)))))), Lib.hid (by decide), Lib.hid (by omega), Lib.hid (block_below (heap_alloc_new _ _) (bel_alloc _ _)), Lib.hid (bel_trans (bel_alloc _ _) (bel_alloc _ _))⟩
      · go_wp2_with fail
        go_meet
        case rel => exact ⟨true, y1, 4, 1, 0, 31, s1, b1, 3, rfl, Lib.hid (bad_day (.inr (.inr (.inr (short_month (by omega)))))), Lib.hid (by decide), Lib.hid (by omega), Lib.hid (block_below (heap_alloc_new _ _) (bel_alloc _ _)), Lib.hid (bel_trans (bel_alloc _ _) (bel_alloc _ _))⟩
      · go_wp2_with fail
        go_meet
        case rel => exact ⟨true, y1, 6, 1, 0, 31, s1, b1, 3, rfl, Lib.hid (bad_day (.inr (.inr (.inr (short_month (by omega)))))), Lib.hid (by decide), Lib.hid (by omega), Lib.hid (block_below (heap_alloc_new _ _) (bel_alloc _ _)), Lib.hid (bel_trans (bel_alloc _ _) (bel_alloc _ _))⟩
      · go_wp2_with fail
        go_meet
        case rel => exact ⟨true, y1, 9, 1, 0, 31, s1, b1, 3, rfl, Lib.hid (bad_day (.inr (.inr (.inr (short_month (by omega)))))), Lib.hid (by decide), Lib.hid (by omega), Lib.hid (block_below (heap_alloc_new _ _) (bel_alloc _ _)), Lib.hid (bel_trans (bel_alloc _ _) (bel_alloc _ _))⟩
      · go_wp2_with fail
        go_meet
        case rel => exact ⟨true, y1, 11, 1, 0, 31, s1, b1, 3, rfl, Lib.hid (bad_day (.inr (.inr (.inr (short_month (by omega)))))), Lib.hid (by decide), Lib.hid (by omega), Lib.hid (block_below (heap_alloc_new _ _) (bel_alloc _ _)), Lib.hid (bel_trans (bel_alloc _ _) (bel_alloc _ _))⟩
    · go_wp2_with fail
      go_meet
      case rel => exact ⟨true, y1, m1, 5 + f, d1, e1, s1, b1, 3, rfl, Lib.hid (bad_day (by omega)), Lib.hid (by decide), Lib.hid (by omega), Lib.hid (heap_alloc_new _ _), Lib.hid (bel_alloc _ _)⟩
    · have h2 : f % 2 = 0 ∨ f % 2 = 1 := by omega
      rcases h2 with h2 | h2
      · go_wp2_with fail
        go_meet
        case rel => exact ⟨true, y1, m1, k1, d1, e1, s1, 3 + f, 3, rfl, Lib.hid (bad_base (by omega)), Lib.hid (by decide), Lib.hid (by omega), Lib.hid (block_below (heap_alloc_new _ _) (bel_alloc _ _)), Lib.hid (bel_trans (bel_alloc _ _) (bel_alloc _ _))⟩
      · go_wp2_with fail
        go_meet
        case rel => exact ⟨true, y1, m1, k1, d1, e1, s1, -1 - f, 3, rfl, Lib.hid (bad_base (by omega)), Lib.hid (by decide), Lib.hid (by omega), Lib.hid (block_below (heap_alloc_new _ _) (bel_alloc _ _)), Lib.hid (bel_trans (bel_alloc _ _) (bel_alloc _ _))⟩
    · go_wp2_with fail
      go_meet
      case rel => exact ⟨true, y1, m1, k1, d1, e1, -86401 - f, b1, 3, rfl, Lib.hid (bad_sec (by omega)), Lib.hid (by decide), Lib.hid (by omega), Lib.hid (heap_alloc_new _ _), Lib.hid (bel_alloc _ _)⟩
    · go_wp2_with fail
      go_meet
      case rel => exact ⟨true, y1, m1, k1, d1, e1, 172801 + f, b1, 3, rfl, Lib.hid (bad_sec (by omega)), Lib.hid (by decide), Lib.hid (by omega), Lib.hid (heap_alloc_new _ _), Lib.hid (bel_alloc _ _)⟩
    · go_wp2_with fail
      go_meet
      case rel => exact ⟨true, 0, 0, 0, 0, 0, 0, 0, 3, rfl, Lib.hid (bad_year (is := true) (by omega)), Lib.hid (by decide), Lib.hid (by omega), Lib.hid (heap_alloc_new _ _), Lib.hid (bel_alloc _ _)⟩
  case rest =>
  obtain ⟨is, y2, m2, k2, d2, e2, s2, b2, q2, rfl, HQ, HQ0, HY, HU2, hb2⟩ := hcut
  refine ‹∀ (a : Act) (w : World), Code.wp Tryd.prog _ _ a w → _› _ _ ?_
  exact (refuses_rest2 (by kernel_rfl) y m b k w n at_ q f W w1 _ HM hf1 hf2 is y2 m2 k2 d2 e2 s2 b2 q2 HQ HQ0 HY HU2 (Lib.hid (bel_trans HB1.out hb2.out)) (Lib.hid (block_below HK1.out hb2.out)) (Lib.hid (HT1.out.below hb2.out)))
end Go.Proofs.YtoaimfadccepiaaDoor

