/-
  Three loops of the law ShiftSums.
-/
import Derived.Test.YtdlmlcgmonkdfaaShfLawM
namespace Go.Proofs.Ytdlmlcgmonkdfaa
open Go.RowKit Sh
set_option linter.unusedVariables false
set_option linter.unusedSimpArgs false

namespace Sh
theorem w_save {x a : Int} (h : I64 x) : wrap64 (wrap64 (a + x) - a) = x := by unfold wrap64; unfold I64 at h; omega
theorem w_both (sec save x : Int) : wrap64 (wrap64 (sec - x) + wrap64 (save + x)) = wrap64 (sec + save) := by unfold wrap64; omega
def startsAt (n : Nat) : Code → Bool
  | .region id _ _ => id == n
  | .seq a _ => startsAt n a
  | .block _ c => startsAt n c
  | .scope c => startsAt n c
  | _ => false
/-- the body of the loop that begins at a region -/
def loopAt (n : Nat) : Code → Option Code
  | .loop c => if startsAt n c then some c else loopAt n c
  | .seq a b => match loopAt n a with
    | some c => some c
    | none => loopAt n b
  | .cond _ a b => match loopAt n a with
    | some c => some c
    | none => loopAt n b
  | .block _ c => loopAt n c
  | .scope c => loopAt n c
  | _ => none
end Sh
noncomputable def sumLoop (n : Nat) : Code := ((Try.f5).body.bind (loopAt n)).getD .skip


set_option maxRecDepth 100000 in
set_option maxHeartbeats 16000000 in
theorem sums_loop4 {code : Code} {Q0 : Exit → Act → World → Prop} (hc : sumLoop 34 = code) (s : Sou) (n : ByteArray) (x off of2 : Int) (A1 a11 : Option Addr) (c1 d11 b1 b15 b16 : Nat) (w : World) (hl1 : s.rs.length ≤ 40) (HOF2 : Hid (wrap64 (off - x) = of2)) (HS : Hid (Rd 11 (.slice A1 s.rs.length c1) s.rs.length (flatR s.rs) w)) (O1 : Hid (Rd 11 (.slice a11 s.rs.length d11) (s.shS n x).rs.length (flatR (s.shS n x).rs) w)) (K1 : Hid (w.cell? ⟨b1, 0, none⟩ = some (.slice a11 s.rs.length d11))) (K15 : Hid (w.cell? ⟨b15, 0, none⟩ = some (.int .i64 off))) (K16 : Hid (w.cell? ⟨b16, 0, none⟩ = some (.int .i64 of2))) (u0 u2 u3 u4 u5 u6 u8 u9 u10 u11 u12 u13 u14 u17 u18 u19 u20 u21 u22 u23 u24 u25 u26 u27 u28 u29 u30 u31 u32 u33 u34 u35 u36 u37 u38 u39 u40 u41 u42 u43 u44 u45 u46 u47 u48 u49 u50 u51 u52 u53 u54 u55 u56 u57 u58 u59 u60 u61 u62 u63 u64 u65 u66 u67 u68 u69 u70 u71 u72 u73 u74 u75 u76 u77 u78 u79 u80 u81 u82 u83 u84 u85 u86 u87 u88 u89 u90 u91 u92 u93 u94 u95 u96 u97 u98 u99 u100 u101 u102 u103 u104 u105 u106 u107 u108 u109 u110 u111 u112 u113 u114 u115 u116 u117 u118 u119 u120 u121 u122 u123 u124 u125 u126 u127 u128 u129 u130 u131 u132 u133 u134 u135 u136 u137 u138 u139 u140 u141 u142 u143 u144 u145 u146 u147 u148 u149 u150 u151 u152 u153 u154 u155 u156 u157 u158 u159 u160 u161 u162 u163 u164 u165 u166 u167 u168 u169 u170 u171 u172 u173 u174 u175 u176 u177 u178 u179 u180 u181 u182 u183 u184 u185 u186 u187 u188 u189 u190 u191 u192 u193 u194 u195 u196 u197 u198 u199 u200 u201 u202 u203 u204 u205 u209 u210 u211 u212 u213 u214 u215 u216 u217 u218 u219 u220 u221 u222 u223 u224 u225 u226 u227 u228 u229 u230 u231 u232 u233 u234 u235 u236 u237 u238 u239 u240 u241 u242 u243 u244 u245 u246 u247 u248 u249 u250 u251 u252 u253 u254 u255 u256 u257 u258 u259 u260 u261 u262 u263 u264 u265 u266 u267 u268 u269 u270 u271 u272 u273 u274 u275 u276 u277 u278 u279 u280 u281 u282 u283 u284 u285 u286 u287 u288 u289 u290 u291 u292 u293 u294 u295 u296 u297 u298 u299 u300 u301 u302 u303 : Value)
    (hexit : Hid (∀ (v6 v17 v18 v208 v209 v210 v211 v212 v213 v214 v215 v216 v217 v218 v219 v220 v221 v222 v223 v224 v225 v226 v227 v228 v229 v230 v231 v232 v233 v234 : Value) (w' : World), Hid (Below w.heap.size w w') → Q0 (.exit 6) ⟨List.toArray (u0 :: .string n :: u2 :: u3 :: u4 :: u5 :: v6 :: .pointer (some ⟨b1, 0, none⟩) :: u8 :: u9 :: u10 :: u11 :: u12 :: u13 :: u14 :: .pointer (some ⟨b15, 0, none⟩) :: .pointer (some ⟨b16, 0, none⟩) :: v17 :: v18 :: u19 :: u20 :: u21 :: u22 :: u23 :: u24 :: u25 :: u26 :: u27 :: u28 :: u29 :: u30 :: u31 :: u32 :: u33 :: u34 :: u35 :: u36 :: u37 :: u38 :: u39 :: u40 :: u41 :: u42 :: u43 :: u44 :: u45 :: u46 :: u47 :: u48 :: u49 :: u50 :: u51 :: u52 :: u53 :: u54 :: u55 :: u56 :: u57 :: u58 :: u59 :: u60 :: u61 :: u62 :: u63 :: u64 :: u65 :: u66 :: u67 :: u68 :: u69 :: u70 :: u71 :: u72 :: u73 :: u74 :: u75 :: u76 :: u77 :: u78 :: u79 :: u80 :: u81 :: u82 :: u83 :: u84 :: u85 :: u86 :: u87 :: u88 :: u89 :: u90 :: u91 :: u92 :: u93 :: u94 :: u95 :: u96 :: u97 :: u98 :: u99 :: u100 :: u101 :: u102 :: u103 :: u104 :: u105 :: u106 :: u107 :: u108 :: u109 :: u110 :: u111 :: u112 :: u113 :: u114 :: u115 :: u116 :: u117 :: u118 :: u119 :: u120 :: u121 :: u122 :: u123 :: u124 :: u125 :: u126 :: u127 :: u128 :: u129 :: u130 :: u131 :: u132 :: u133 :: u134 :: u135 :: u136 :: u137 :: u138 :: u139 :: u140 :: u141 :: u142 :: u143 :: u144 :: u145 :: u146 :: u147 :: u148 :: u149 :: u150 :: u151 :: u152 :: u153 :: u154 :: u155 :: u156 :: u157 :: u158 :: u159 :: u160 :: u161 :: u162 :: u163 :: u164 :: u165 :: u166 :: u167 :: u168 :: u169 :: u170 :: u171 :: u172 :: u173 :: u174 :: u175 :: u176 :: u177 :: u178 :: u179 :: u180 :: u181 :: u182 :: u183 :: u184 :: u185 :: u186 :: u187 :: u188 :: u189 :: u190 :: u191 :: u192 :: u193 :: u194 :: u195 :: u196 :: u197 :: u198 :: u199 :: u200 :: u201 :: u202 :: u203 :: u204 :: u205 :: .slice A1 s.rs.length c1 :: .int .i64 s.rs.length :: v208 :: v209 :: v210 :: v211 :: v212 :: v213 :: v214 :: v215 :: v216 :: v217 :: v218 :: v219 :: v220 :: v221 :: v222 :: v223 :: v224 :: v225 :: v226 :: v227 :: v228 :: v229 :: v230 :: v231 :: v232 :: v233 :: v234 :: u235 :: u236 :: u237 :: u238 :: u239 :: u240 :: u241 :: u242 :: u243 :: u244 :: u245 :: u246 :: u247 :: u248 :: u249 :: u250 :: u251 :: u252 :: u253 :: u254 :: u255 :: u256 :: u257 :: u258 :: u259 :: u260 :: u261 :: u262 :: u263 :: u264 :: u265 :: u266 :: u267 :: u268 :: u269 :: u270 :: u271 :: u272 :: u273 :: u274 :: u275 :: u276 :: u277 :: u278 :: u279 :: u280 :: u281 :: u282 :: u283 :: u284 :: u285 :: u286 :: u287 :: u288 :: u289 :: u290 :: u291 :: u292 :: u293 :: u294 :: u295 :: u296 :: u297 :: u298 :: u299 :: u300 :: u301 :: u302 :: u303 :: []), []⟩ w')) :
    Code.wp Try.prog (.loop code) Q0 ⟨List.toArray (u0 :: .string n :: u2 :: u3 :: u4 :: u5 :: u6 :: .pointer (some ⟨b1, 0, none⟩) :: u8 :: u9 :: u10 :: u11 :: u12 :: u13 :: u14 :: .pointer (some ⟨b15, 0, none⟩) :: .pointer (some ⟨b16, 0, none⟩) :: u17 :: u18 :: u19 :: u20 :: u21 :: u22 :: u23 :: u24 :: u25 :: u26 :: u27 :: u28 :: u29 :: u30 :: u31 :: u32 :: u33 :: u34 :: u35 :: u36 :: u37 :: u38 :: u39 :: u40 :: u41 :: u42 :: u43 :: u44 :: u45 :: u46 :: u47 :: u48 :: u49 :: u50 :: u51 :: u52 :: u53 :: u54 :: u55 :: u56 :: u57 :: u58 :: u59 :: u60 :: u61 :: u62 :: u63 :: u64 :: u65 :: u66 :: u67 :: u68 :: u69 :: u70 :: u71 :: u72 :: u73 :: u74 :: u75 :: u76 :: u77 :: u78 :: u79 :: u80 :: u81 :: u82 :: u83 :: u84 :: u85 :: u86 :: u87 :: u88 :: u89 :: u90 :: u91 :: u92 :: u93 :: u94 :: u95 :: u96 :: u97 :: u98 :: u99 :: u100 :: u101 :: u102 :: u103 :: u104 :: u105 :: u106 :: u107 :: u108 :: u109 :: u110 :: u111 :: u112 :: u113 :: u114 :: u115 :: u116 :: u117 :: u118 :: u119 :: u120 :: u121 :: u122 :: u123 :: u124 :: u125 :: u126 :: u127 :: u128 :: u129 :: u130 :: u131 :: u132 :: u133 :: u134 :: u135 :: u136 :: u137 :: u138 :: u139 :: u140 :: u141 :: u142 :: u143 :: u144 :: u145 :: u146 :: u147 :: u148 :: u149 :: u150 :: u151 :: u152 :: u153 :: u154 :: u155 :: u156 :: u157 :: u158 :: u159 :: u160 :: u161 :: u162 :: u163 :: u164 :: u165 :: u166 :: u167 :: u168 :: u169 :: u170 :: u171 :: u172 :: u173 :: u174 :: u175 :: u176 :: u177 :: u178 :: u179 :: u180 :: u181 :: u182 :: u183 :: u184 :: u185 :: u186 :: u187 :: u188 :: u189 :: u190 :: u191 :: u192 :: u193 :: u194 :: u195 :: u196 :: u197 :: u198 :: u199 :: u200 :: u201 :: u202 :: u203 :: u204 :: u205 :: .slice A1 s.rs.length c1 :: .int .i64 s.rs.length :: .int .i64 0 :: u209 :: u210 :: u211 :: u212 :: u213 :: u214 :: u215 :: u216 :: u217 :: u218 :: u219 :: u220 :: u221 :: u222 :: u223 :: u224 :: u225 :: u226 :: u227 :: u228 :: u229 :: u230 :: u231 :: u232 :: u233 :: u234 :: u235 :: u236 :: u237 :: u238 :: u239 :: u240 :: u241 :: u242 :: u243 :: u244 :: u245 :: u246 :: u247 :: u248 :: u249 :: u250 :: u251 :: u252 :: u253 :: u254 :: u255 :: u256 :: u257 :: u258 :: u259 :: u260 :: u261 :: u262 :: u263 :: u264 :: u265 :: u266 :: u267 :: u268 :: u269 :: u270 :: u271 :: u272 :: u273 :: u274 :: u275 :: u276 :: u277 :: u278 :: u279 :: u280 :: u281 :: u282 :: u283 :: u284 :: u285 :: u286 :: u287 :: u288 :: u289 :: u290 :: u291 :: u292 :: u293 :: u294 :: u295 :: u296 :: u297 :: u298 :: u299 :: u300 :: u301 :: u302 :: u303 :: []), []⟩ w := by
  subst hc
  conv => arg 2; arg 1; whnf
  go_loopw [208] (fun t wr => ∃ (k : Nat) (wq : World), k ≤ s.rs.length ∧ t = .int .i64 (k : Int) ∧ wr = wq ∧ Hid (Below w.heap.size w wq)) (fun t _ => s.rs.length - (intOf t).toNat)
  case atStart => exact ⟨0, _, by omega, rfl, by trivial, Lib.hid (Below.refl _ _)⟩
  case round =>
    obtain ⟨j, wq, hj, rfl, rfl, HQ⟩ := hrel
    by_cases hltj : j < s.rs.length
    · obtain ⟨r, hr⟩ : ∃ r, s.rs[j]? = some r := ⟨_, _root_.List.getElem?_eq_getElem hltj⟩
      have hrq : (s.shS n x).rs[j]? = some (r.of n x) := by unfold Sou.shS; rw [_root_.List.getElem?_map, hr]; rfl
      obtain ⟨g5, o5, p5, q5, hc5⟩ := (HS.out.below HQ.out).atR hr
      obtain ⟨g6, o6, p6, q6, hc6⟩ := (O1.out.below HQ.out).atR hrq
      have q6' : a11 = some ⟨g6, o6, none⟩ ∧ d11 = p6 := by simp only [Value.slice.injEq] at q6; exact ⟨q6.1, q6.2.2⟩
      simp only [Value.slice.injEq] at q5
      obtain ⟨rfl, _, rfl⟩ := q5
      obtain ⟨rfl, rfl⟩ := q6'
      obtain ⟨na, fr, ut, mo2, k2, wd2, d2, sec2, bs2, save2, le⟩ := r
      obtain ⟨a0, a1, a2, a3, a4, a5, a6, a7, a8, a9, a10⟩ := Ru.cells hc5
      have hi0 : (0 : Int) ≤ (j : Int) := by omega
      have hi1 : (j : Int) < (s.rs.length : Int) := by omega
      have K1' := cell_below HQ.out K1.out
      have K15' := cell_below HQ.out K15.out
      have K16' := cell_below HQ.out K16.out
      clear hr hrq q6 hc5
      have KZ := Lib.hid (heap_alloc_new wr (.cells #[.string na, .int .i64 fr, .int .i64 ut, .int .i64 mo2, .int .i64 k2, .int .i64 wd2, .int .i64 d2, .int .i64 sec2, .int .i64 bs2, .int .i64 save2, .string le] 44))
      have hal := bel_alloc wr (.cells #[.string na, .int .i64 fr, .int .i64 ut, .int .i64 mo2, .int .i64 k2, .int .i64 wd2, .int .i64 d2, .int .i64 sec2, .int .i64 bs2, .int .i64 save2, .string le] 44)
      by_cases hna : na = n
      · subst hna
        have hof : (Ru.mk na fr ut mo2 k2 wd2 d2 sec2 bs2 save2 le).of na x = ⟨na, fr, ut, mo2, k2, wd2, d2, less sec2 bs2 x, bs2, wrap64 (save2 + x), le⟩ := if_pos rfl
        rw [hof] at hc6
        have hcs := hc6 9 _ rfl
        clear hof hc6
        have hw3 := w_both off save2 x
        obtain ⟨sv2, hsv⟩ : ∃ sv2, wrap64 (save2 + x) = sv2 := ⟨_, rfl⟩
        replace hcs : wr.cell? ⟨g6, o6 + j * 11 + 9, none⟩ = some (.int .i64 (wrap64 (save2 + x))) := hcs
        rw [hsv] at hw3 hcs
        rw [HOF2.out] at hw3
        have hw4 : (IntKind.i64.wrap (off + save2) != IntKind.i64.wrap (of2 + sv2)) = false := by rw [IntWalk.i64_left, IntWalk.i64_left, hw3]; simp
        clear hsv
        have H0 : Hid ((wr.alloc (.cells #[.string na, .int .i64 fr, .int .i64 ut, .int .i64 mo2, .int .i64 k2, .int .i64 wd2, .int .i64 d2, .int .i64 sec2, .int .i64 bs2, .int .i64 save2, .string le] 44)).cell? ⟨wr.heap.size, 0, none⟩ = some (.string na) ∧ (wr.alloc (.cells #[.string na, .int .i64 fr, .int .i64 ut, .int .i64 mo2, .int .i64 k2, .int .i64 wd2, .int .i64 d2, .int .i64 sec2, .int .i64 bs2, .int .i64 save2, .string le] 44)).cell? ⟨wr.heap.size, 9, none⟩ = some (.int .i64 save2) ∧ (wr.alloc (.cells #[.string na, .int .i64 fr, .int .i64 ut, .int .i64 mo2, .int .i64 k2, .int .i64 wd2, .int .i64 d2, .int .i64 sec2, .int .i64 bs2, .int .i64 save2, .string le] 44)).cell? ⟨b15, 0, none⟩ = some (.int .i64 off) ∧ (wr.alloc (.cells #[.string na, .int .i64 fr, .int .i64 ut, .int .i64 mo2, .int .i64 k2, .int .i64 wd2, .int .i64 d2, .int .i64 sec2, .int .i64 bs2, .int .i64 save2, .string le] 44)).cell? ⟨b16, 0, none⟩ = some (.int .i64 of2) ∧ (wr.alloc (.cells #[.string na, .int .i64 fr, .int .i64 ut, .int .i64 mo2, .int .i64 k2, .int .i64 wd2, .int .i64 d2, .int .i64 sec2, .int .i64 bs2, .int .i64 save2, .string le] 44)).cell? ⟨b1, 0, none⟩ = some (.slice (some ⟨g6, o6, none⟩) s.rs.length d11) ∧ (wr.alloc (.cells #[.string na, .int .i64 fr, .int .i64 ut, .int .i64 mo2, .int .i64 k2, .int .i64 wd2, .int .i64 d2, .int .i64 sec2, .int .i64 bs2, .int .i64 save2, .string le] 44)).cell? ⟨g6, o6 + j * 11 + 9, none⟩ = some (.int .i64 sv2)) := Lib.hid ⟨cellB KZ.out (i := 0) rfl, cellB KZ.out (i := 9) rfl, cell_below hal K15', cell_below hal K16', cell_below hal K1', cell_below hal hcs⟩
        clear hcs KZ K1' K15' K16'
        go_wp2_with fail
        clear a0 a1 a2 a3 a4 a5 a6 a7 a8 a9 a10
        refine wp_region_noPanic ?_
        refine wp_region_held_drew (S := (fun w' => w'.cell? ⟨wr.heap.size, 0, none⟩ = some (.string na) ∧ w'.cell? ⟨wr.heap.size, 9, none⟩ = some (.int .i64 save2) ∧ w'.cell? ⟨b15, 0, none⟩ = some (.int .i64 off) ∧ w'.cell? ⟨b16, 0, none⟩ = some (.int .i64 of2) ∧ w'.cell? ⟨b1, 0, none⟩ = some (.slice (some ⟨g6, o6, none⟩) s.rs.length d11) ∧ w'.cell? ⟨g6, o6 + j * 11 + 9, none⟩ = some (.int .i64 sv2))) (by kernel_rfl) (by exact H0.out) (fun hHeld => ?_)
        refine wpAnyH_take (i := 0) (v := ?_) rfl (by kernel_rfl) (by kernel_rfl) (by kernel_rfl) (fun _ _ _ h => h) (Or.inl ⟨by rfl, ?_⟩) (by assumption) ?_
        rotate_left 1
        · (intro w hSw; (try dsimp only at hSw); first | (go_simp; done) | (go_simp; with_reducible rfl))
        try simp only [Act.put, List.getElem_toArray, List.getElem_cons_succ, List.getElem_cons_zero, List.setIfInBounds_toArray, List.set_cons_zero, List.set_cons_succ]
        refine wpAnyH_take (i := 1) (v := ?_) rfl (by kernel_rfl) (by kernel_rfl) (by kernel_rfl) (fun _ _ _ h => h) (Or.inl ⟨by rfl, ?_⟩) (by assumption) ?_
        rotate_left 1
        · (intro w hSw; (try dsimp only at hSw); first | (go_simp; done) | (go_simp; with_reducible rfl))
        try simp only [Act.put, List.getElem_toArray, List.getElem_cons_succ, List.getElem_cons_zero, List.setIfInBounds_toArray, List.set_cons_zero, List.set_cons_succ]
        refine wpAnyH_take (i := 2) (v := ?_) rfl (by kernel_rfl) (by kernel_rfl) (by kernel_rfl) (fun _ _ _ h => h) (Or.inl ⟨by rfl, ?_⟩) (by assumption) ?_
        rotate_left 1
        · (intro w hSw; (try dsimp only at hSw); first | (go_simp; done) | (go_simp; with_reducible rfl))
        try simp only [Act.put, List.getElem_toArray, List.getElem_cons_succ, List.getElem_cons_zero, List.setIfInBounds_toArray, List.set_cons_zero, List.set_cons_succ]
        refine wpAnyH_take (i := 3) (v := ?_) rfl (by kernel_rfl) (by kernel_rfl) (by kernel_rfl) (fun _ _ _ h => h) (Or.inl ⟨by rfl, ?_⟩) (by assumption) ?_
        rotate_left 1
        · (intro w hSw; (try dsimp only at hSw); first | (go_simp; done) | (go_simp; with_reducible rfl))
        try simp only [Act.put, List.getElem_toArray, List.getElem_cons_succ, List.getElem_cons_zero, List.setIfInBounds_toArray, List.set_cons_zero, List.set_cons_succ]
        refine wpAnyH_take (i := 4) (v := ?_) rfl (by kernel_rfl) (by kernel_rfl) (by kernel_rfl) (fun _ _ _ h => h) (Or.inl ⟨by rfl, ?_⟩) (by assumption) ?_
        rotate_left 1
        · (intro w hSw; (try dsimp only at hSw); first | (go_simp; done) | (go_simp; with_reducible rfl))
        try simp only [Act.put, List.getElem_toArray, List.getElem_cons_succ, List.getElem_cons_zero, List.setIfInBounds_toArray, List.set_cons_zero, List.set_cons_succ]
        refine wpAnyH_take (i := 5) (v := ?_) rfl (by kernel_rfl) (by kernel_rfl) (by kernel_rfl) (fun _ _ _ h => h) (Or.inl ⟨by rfl, ?_⟩) (by assumption) ?_
        rotate_left 1
        · (intro w hSw; (try dsimp only at hSw); first | (go_simp; done) | (go_simp; with_reducible rfl))
        try simp only [Act.put, List.getElem_toArray, List.getElem_cons_succ, List.getElem_cons_zero, List.setIfInBounds_toArray, List.set_cons_zero, List.set_cons_succ]
        refine wpAnyH_take (i := 6) (v := ?_) rfl (by kernel_rfl) (by kernel_rfl) (by kernel_rfl) (fun _ _ _ h => h) (Or.inl ⟨by rfl, ?_⟩) (by assumption) ?_
        rotate_left 1
        · (intro w hSw; (try dsimp only at hSw); first | (go_simp; done) | (go_simp; with_reducible rfl))
        try simp only [Act.put, List.getElem_toArray, List.getElem_cons_succ, List.getElem_cons_zero, List.setIfInBounds_toArray, List.set_cons_zero, List.set_cons_succ]
        refine wpAnyH_take (i := 7) (v := ?_) rfl (by kernel_rfl) (by kernel_rfl) (by kernel_rfl) (fun _ _ _ h => h) (Or.inl ⟨by rfl, ?_⟩) (by assumption) ?_
        rotate_left 1
        · (intro w hSw; (try dsimp only at hSw); first | (go_simp; done) | (go_simp; with_reducible rfl))
        try simp only [Act.put, List.getElem_toArray, List.getElem_cons_succ, List.getElem_cons_zero, List.setIfInBounds_toArray, List.set_cons_zero, List.set_cons_succ]
        refine wpAnyH_take (i := 8) (v := ?_) rfl (by kernel_rfl) (by kernel_rfl) (by kernel_rfl) (fun _ _ _ h => h) (Or.inl ⟨by rfl, ?_⟩) (by assumption) ?_
        rotate_left 1
        · (intro w hSw; (try dsimp only at hSw); first | (go_simp; done) | (go_simp; with_reducible rfl))
        try simp only [Act.put, List.getElem_toArray, List.getElem_cons_succ, List.getElem_cons_zero, List.setIfInBounds_toArray, List.set_cons_zero, List.set_cons_succ]
        refine wpAnyH_take (i := 9) (v := ?_) rfl (by kernel_rfl) (by kernel_rfl) (by kernel_rfl) (fun _ _ _ h => h) (Or.inl ⟨by rfl, ?_⟩) (by assumption) ?_
        rotate_left 1
        · (intro w hSw; (try dsimp only at hSw); first | (go_simp; done) | (go_simp; with_reducible rfl))
        try simp only [Act.put, List.getElem_toArray, List.getElem_cons_succ, List.getElem_cons_zero, List.setIfInBounds_toArray, List.set_cons_zero, List.set_cons_succ]
        refine wpAnyH_take (i := 10) (v := ?_) rfl (by kernel_rfl) (by kernel_rfl) (by kernel_rfl) (fun _ _ _ h => h) (Or.inl ⟨by rfl, ?_⟩) (by assumption) ?_
        rotate_left 1
        · (intro w hSw; (try dsimp only at hSw); first | (go_simp; done) | (go_simp; with_reducible rfl))
        try simp only [Act.put, List.getElem_toArray, List.getElem_cons_succ, List.getElem_cons_zero, List.setIfInBounds_toArray, List.set_cons_zero, List.set_cons_succ]
        refine wpAnyH_take (i := 11) (v := ?_) rfl (by kernel_rfl) (by kernel_rfl) (by kernel_rfl) (fun _ _ _ h => h) (Or.inl ⟨by rfl, ?_⟩) (by assumption) ?_
        rotate_left 1
        · (intro w hSw; (try dsimp only at hSw); first | (go_simp; done) | (go_simp; with_reducible rfl))
        try simp only [Act.put, List.getElem_toArray, List.getElem_cons_succ, List.getElem_cons_zero, List.setIfInBounds_toArray, List.set_cons_zero, List.set_cons_succ]
        refine wpAnyH_take (i := 12) (v := ?_) rfl (by kernel_rfl) (by kernel_rfl) (by kernel_rfl) (fun _ _ _ h => h) (Or.inl ⟨by rfl, ?_⟩) (by assumption) ?_
        rotate_left 1
        · (intro w hSw; (try dsimp only at hSw); first | (go_simp; done) | (go_simp; with_reducible rfl))
        try simp only [Act.put, List.getElem_toArray, List.getElem_cons_succ, List.getElem_cons_zero, List.setIfInBounds_toArray, List.set_cons_zero, List.set_cons_succ]
        refine wpAnyH_take (i := 13) (v := ?_) rfl (by kernel_rfl) (by kernel_rfl) (by kernel_rfl) (fun _ _ _ h => h) (Or.inl ⟨by rfl, ?_⟩) (by assumption) ?_
        rotate_left 1
        · (intro w hSw; (try dsimp only at hSw); first | (go_simp; done) | (go_simp; with_reducible rfl))
        try simp only [Act.put, List.getElem_toArray, List.getElem_cons_succ, List.getElem_cons_zero, List.setIfInBounds_toArray, List.set_cons_zero, List.set_cons_succ]
        refine wpAnyH_take (i := 14) (v := ?_) rfl (by kernel_rfl) (by kernel_rfl) (by kernel_rfl) (fun _ _ _ h => h) (Or.inl ⟨by rfl, ?_⟩) (by assumption) ?_
        rotate_left 1
        · (intro w hSw; (try dsimp only at hSw); first | (go_simp; done) | (go_simp; with_reducible rfl))
        try simp only [Act.put, List.getElem_toArray, List.getElem_cons_succ, List.getElem_cons_zero, List.setIfInBounds_toArray, List.set_cons_zero, List.set_cons_succ]
        refine wpAnyH_take (i := 15) (v := ?_) rfl (by kernel_rfl) (by kernel_rfl) (by kernel_rfl) (fun _ _ _ h => h) (Or.inl ⟨by rfl, ?_⟩) (by assumption) ?_
        rotate_left 1
        · (intro w hSw; (try dsimp only at hSw); first | (go_simp; done) | (go_simp; with_reducible rfl))
        try simp only [Act.put, List.getElem_toArray, List.getElem_cons_succ, List.getElem_cons_zero, List.setIfInBounds_toArray, List.set_cons_zero, List.set_cons_succ]
        refine wpAnyH_take (i := 16) (v := ?_) rfl (by kernel_rfl) (by kernel_rfl) (by kernel_rfl) (fun _ _ _ h => h) (Or.inl ⟨by rfl, ?_⟩) (by assumption) ?_
        rotate_left 1
        · (intro w hSw; (try dsimp only at hSw); first | (go_simp; done) | (go_simp; with_reducible rfl))
        try simp only [Act.put, List.getElem_toArray, List.getElem_cons_succ, List.getElem_cons_zero, List.setIfInBounds_toArray, List.set_cons_zero, List.set_cons_succ]
        refine wpAnyH_take (i := 17) (v := ?_) rfl (by kernel_rfl) (by kernel_rfl) (by kernel_rfl) (fun _ _ _ h => h) (Or.inl ⟨by rfl, ?_⟩) (by assumption) ?_
        rotate_left 1
        · (intro w hSw; (try dsimp only at hSw); first | (go_simp; done) | (go_simp; with_reducible rfl))
        try simp only [Act.put, List.getElem_toArray, List.getElem_cons_succ, List.getElem_cons_zero, List.setIfInBounds_toArray, List.set_cons_zero, List.set_cons_succ]
        refine wpAnyH_take (i := 18) (v := ?_) rfl (by kernel_rfl) (by kernel_rfl) (by kernel_rfl) (fun _ _ _ h => h) (Or.inl ⟨by rfl, ?_⟩) (by assumption) ?_
        rotate_left 1
        · (intro w hSw; (try dsimp only at hSw); first | (go_simp; done) | (go_simp; with_reducible rfl))
        try simp only [Act.put, List.getElem_toArray, List.getElem_cons_succ, List.getElem_cons_zero, List.setIfInBounds_toArray, List.set_cons_zero, List.set_cons_succ]
        refine wpAnyH_take (i := 19) (v := ?_) rfl (by kernel_rfl) (by kernel_rfl) (by kernel_rfl) (fun _ _ _ h => h) (Or.inl ⟨by rfl, ?_⟩) (by assumption) ?_
        rotate_left 1
        · (intro w hSw; (try dsimp only at hSw); first | (go_simp; done) | (go_simp; with_reducible rfl))
        try simp only [Act.put, List.getElem_toArray, List.getElem_cons_succ, List.getElem_cons_zero, List.setIfInBounds_toArray, List.set_cons_zero, List.set_cons_succ]
        refine wpAnyH_take (i := 20) (v := ?_) rfl (by kernel_rfl) (by kernel_rfl) (by kernel_rfl) (fun _ _ _ h => h) (Or.inl ⟨by rfl, ?_⟩) (by assumption) ?_
        rotate_left 1
        · (intro w hSw; (try dsimp only at hSw); first | (go_simp; done) | (go_simp; with_reducible rfl))
        try simp only [Act.put, List.getElem_toArray, List.getElem_cons_succ, List.getElem_cons_zero, List.setIfInBounds_toArray, List.set_cons_zero, List.set_cons_succ]
        refine wpAnyH_done (by kernel_rfl) ?_ _
        refine NoPanic.normal ?_
        clear hHeld
        go_wp2_with fail
        go_round
        case rel => exact ⟨j + 1, _, by omega, by go_num, rfl, Lib.hid (bel_trans HQ.out (Below.drew hal))⟩
        case measure => simp [intOf]; omega
      · have hne := str_ne hna
        clear hc6 K1' K15' K16'
        have H0 : Hid ((wr.alloc (.cells #[.string na, .int .i64 fr, .int .i64 ut, .int .i64 mo2, .int .i64 k2, .int .i64 wd2, .int .i64 d2, .int .i64 sec2, .int .i64 bs2, .int .i64 save2, .string le] 44)).cell? ⟨wr.heap.size, 0, none⟩ = some (.string na)) := Lib.hid (cellB KZ.out (i := 0) rfl)
        clear KZ
        go_wp2_with fail
        clear a0 a1 a2 a3 a4 a5 a6 a7 a8 a9 a10
        refine wp_region_noPanic ?_
        refine wp_region_held_drew (S := (fun w' => w'.cell? ⟨wr.heap.size, 0, none⟩ = some (.string na))) (by kernel_rfl) (by exact H0.out) (fun hHeld => ?_)
        refine wpAnyH_take (i := 0) (v := ?_) rfl (by kernel_rfl) (by kernel_rfl) (by kernel_rfl) (fun _ _ _ h => h) (Or.inl ⟨by rfl, ?_⟩) (by assumption) ?_
        rotate_left 1
        · (intro w hSw; (try dsimp only at hSw); first | (go_simp; done) | (go_simp; with_reducible rfl))
        try simp only [Act.put, List.getElem_toArray, List.getElem_cons_succ, List.getElem_cons_zero, List.setIfInBounds_toArray, List.set_cons_zero, List.set_cons_succ]
        refine wpAnyH_take (i := 1) (v := ?_) rfl (by kernel_rfl) (by kernel_rfl) (by kernel_rfl) (fun _ _ _ h => h) (Or.inl ⟨by rfl, ?_⟩) (by assumption) ?_
        rotate_left 1
        · (intro w hSw; (try dsimp only at hSw); first | (go_simp; done) | (go_simp; with_reducible rfl))
        try simp only [Act.put, List.getElem_toArray, List.getElem_cons_succ, List.getElem_cons_zero, List.setIfInBounds_toArray, List.set_cons_zero, List.set_cons_succ]
        refine wpAnyH_take (i := 2) (v := ?_) rfl (by kernel_rfl) (by kernel_rfl) (by kernel_rfl) (fun _ _ _ h => h) (Or.inl ⟨by rfl, ?_⟩) (by assumption) ?_
        rotate_left 1
        · (intro w hSw; (try dsimp only at hSw); first | (go_simp; done) | (go_simp; with_reducible rfl))
        try simp only [Act.put, List.getElem_toArray, List.getElem_cons_succ, List.getElem_cons_zero, List.setIfInBounds_toArray, List.set_cons_zero, List.set_cons_succ]
        refine wpAnyH_take (i := 3) (v := ?_) rfl (by kernel_rfl) (by kernel_rfl) (by kernel_rfl) (fun _ _ _ h => h) (Or.inl ⟨by rfl, ?_⟩) (by assumption) ?_
        rotate_left 1
        · (intro w hSw; (try dsimp only at hSw); first | (go_simp; done) | (go_simp; with_reducible rfl))
        try simp only [Act.put, List.getElem_toArray, List.getElem_cons_succ, List.getElem_cons_zero, List.setIfInBounds_toArray, List.set_cons_zero, List.set_cons_succ]
        refine wpAnyH_take (i := 4) (v := ?_) rfl (by kernel_rfl) (by kernel_rfl) (by kernel_rfl) (fun _ _ _ h => h) (Or.inl ⟨by rfl, ?_⟩) (by assumption) ?_
        rotate_left 1
        · (intro w hSw; (try dsimp only at hSw); first | (go_simp; done) | (go_simp; with_reducible rfl))
        try simp only [Act.put, List.getElem_toArray, List.getElem_cons_succ, List.getElem_cons_zero, List.setIfInBounds_toArray, List.set_cons_zero, List.set_cons_succ]
        refine wpAnyH_take (i := 5) (v := undef) rfl (by kernel_rfl) (by kernel_rfl) (by kernel_rfl) (fun _ _ _ h => h) (Or.inr ⟨by rfl, rfl⟩) (by assumption) ?_
        try simp only [Act.put, List.getElem_toArray, List.getElem_cons_succ, List.getElem_cons_zero, List.setIfInBounds_toArray, List.set_cons_zero, List.set_cons_succ]
        refine wpAnyH_take (i := 6) (v := undef) rfl (by kernel_rfl) (by kernel_rfl) (by kernel_rfl) (fun _ _ _ h => h) (Or.inr ⟨by rfl, rfl⟩) (by assumption) ?_
        try simp only [Act.put, List.getElem_toArray, List.getElem_cons_succ, List.getElem_cons_zero, List.setIfInBounds_toArray, List.set_cons_zero, List.set_cons_succ]
        refine wpAnyH_take (i := 7) (v := undef) rfl (by kernel_rfl) (by kernel_rfl) (by kernel_rfl) (fun _ _ _ h => h) (Or.inr ⟨by rfl, rfl⟩) (by assumption) ?_
        try simp only [Act.put, List.getElem_toArray, List.getElem_cons_succ, List.getElem_cons_zero, List.setIfInBounds_toArray, List.set_cons_zero, List.set_cons_succ]
        refine wpAnyH_take (i := 8) (v := undef) rfl (by kernel_rfl) (by kernel_rfl) (by kernel_rfl) (fun _ _ _ h => h) (Or.inr ⟨by rfl, rfl⟩) (by assumption) ?_
        try simp only [Act.put, List.getElem_toArray, List.getElem_cons_succ, List.getElem_cons_zero, List.setIfInBounds_toArray, List.set_cons_zero, List.set_cons_succ]
        refine wpAnyH_take (i := 9) (v := undef) rfl (by kernel_rfl) (by kernel_rfl) (by kernel_rfl) (fun _ _ _ h => h) (Or.inr ⟨by rfl, rfl⟩) (by assumption) ?_
        try simp only [Act.put, List.getElem_toArray, List.getElem_cons_succ, List.getElem_cons_zero, List.setIfInBounds_toArray, List.set_cons_zero, List.set_cons_succ]
        refine wpAnyH_take (i := 10) (v := undef) rfl (by kernel_rfl) (by kernel_rfl) (by kernel_rfl) (fun _ _ _ h => h) (Or.inr ⟨by rfl, rfl⟩) (by assumption) ?_
        try simp only [Act.put, List.getElem_toArray, List.getElem_cons_succ, List.getElem_cons_zero, List.setIfInBounds_toArray, List.set_cons_zero, List.set_cons_succ]
        refine wpAnyH_take (i := 11) (v := undef) rfl (by kernel_rfl) (by kernel_rfl) (by kernel_rfl) (fun _ _ _ h => h) (Or.inr ⟨by rfl, rfl⟩) (by assumption) ?_
        try simp only [Act.put, List.getElem_toArray, List.getElem_cons_succ, List.getElem_cons_zero, List.setIfInBounds_toArray, List.set_cons_zero, List.set_cons_succ]
        refine wpAnyH_take (i := 12) (v := undef) rfl (by kernel_rfl) (by kernel_rfl) (by kernel_rfl) (fun _ _ _ h => h) (Or.inr ⟨by rfl, rfl⟩) (by assumption) ?_
        try simp only [Act.put, List.getElem_toArray, List.getElem_cons_succ, List.getElem_cons_zero, List.setIfInBounds_toArray, List.set_cons_zero, List.set_cons_succ]
        refine wpAnyH_take (i := 13) (v := undef) rfl (by kernel_rfl) (by kernel_rfl) (by kernel_rfl) (fun _ _ _ h => h) (Or.inr ⟨by rfl, rfl⟩) (by assumption) ?_
        try simp only [Act.put, List.getElem_toArray, List.getElem_cons_succ, List.getElem_cons_zero, List.setIfInBounds_toArray, List.set_cons_zero, List.set_cons_succ]
        refine wpAnyH_take (i := 14) (v := undef) rfl (by kernel_rfl) (by kernel_rfl) (by kernel_rfl) (fun _ _ _ h => h) (Or.inr ⟨by rfl, rfl⟩) (by assumption) ?_
        try simp only [Act.put, List.getElem_toArray, List.getElem_cons_succ, List.getElem_cons_zero, List.setIfInBounds_toArray, List.set_cons_zero, List.set_cons_succ]
        refine wpAnyH_take (i := 15) (v := undef) rfl (by kernel_rfl) (by kernel_rfl) (by kernel_rfl) (fun _ _ _ h => h) (Or.inr ⟨by rfl, rfl⟩) (by assumption) ?_
        try simp only [Act.put, List.getElem_toArray, List.getElem_cons_succ, List.getElem_cons_zero, List.setIfInBounds_toArray, List.set_cons_zero, List.set_cons_succ]
        refine wpAnyH_take (i := 16) (v := undef) rfl (by kernel_rfl) (by kernel_rfl) (by kernel_rfl) (fun _ _ _ h => h) (Or.inr ⟨by rfl, rfl⟩) (by assumption) ?_
        try simp only [Act.put, List.getElem_toArray, List.getElem_cons_succ, List.getElem_cons_zero, List.setIfInBounds_toArray, List.set_cons_zero, List.set_cons_succ]
        refine wpAnyH_take (i := 17) (v := undef) rfl (by kernel_rfl) (by kernel_rfl) (by kernel_rfl) (fun _ _ _ h => h) (Or.inr ⟨by rfl, rfl⟩) (by assumption) ?_
        try simp only [Act.put, List.getElem_toArray, List.getElem_cons_succ, List.getElem_cons_zero, List.setIfInBounds_toArray, List.set_cons_zero, List.set_cons_succ]
        refine wpAnyH_take (i := 18) (v := undef) rfl (by kernel_rfl) (by kernel_rfl) (by kernel_rfl) (fun _ _ _ h => h) (Or.inr ⟨by rfl, rfl⟩) (by assumption) ?_
        try simp only [Act.put, List.getElem_toArray, List.getElem_cons_succ, List.getElem_cons_zero, List.setIfInBounds_toArray, List.set_cons_zero, List.set_cons_succ]
        refine wpAnyH_take (i := 19) (v := undef) rfl (by kernel_rfl) (by kernel_rfl) (by kernel_rfl) (fun _ _ _ h => h) (Or.inr ⟨by rfl, rfl⟩) (by assumption) ?_
        try simp only [Act.put, List.getElem_toArray, List.getElem_cons_succ, List.getElem_cons_zero, List.setIfInBounds_toArray, List.set_cons_zero, List.set_cons_succ]
        refine wpAnyH_take (i := 20) (v := ?_) rfl (by kernel_rfl) (by kernel_rfl) (by kernel_rfl) (fun _ _ _ h => h) (Or.inl ⟨by rfl, ?_⟩) (by assumption) ?_
        rotate_left 1
        · (intro w hSw; (try dsimp only at hSw); first | (go_simp; done) | (go_simp; with_reducible rfl))
        try simp only [Act.put, List.getElem_toArray, List.getElem_cons_succ, List.getElem_cons_zero, List.setIfInBounds_toArray, List.set_cons_zero, List.set_cons_succ]
        refine wpAnyH_done (by kernel_rfl) ?_ _
        refine NoPanic.normal ?_
        clear hHeld
        go_wp2_with fail
        go_round
        case rel => exact ⟨j + 1, _, by omega, by go_num, rfl, Lib.hid (bel_trans HQ.out (Below.drew hal))⟩
        case measure => simp [intOf]; omega
    · obtain rfl : j = s.rs.length := by omega
      go_wp2_with fail
      exact hexit.out _ _ _ _ _ _ _ _ _ _ _ _ _ _ _ _ _ _ _ _ _ _ _ _ _ _ _ _ _ _ _ (HQ)


set_option maxRecDepth 100000 in
set_option maxHeartbeats 16000000 in
theorem sums_loop1 {code : Code} {Q0 : Exit → Act → World → Prop} (hc : sumLoop 9 = code) (s : Sou) (n : ByteArray) (x : Int) (hx : I64 x) (A1 a11 : Option Addr) (c1 d11 b1 : Nat) (w : World) (hl1 : s.rs.length ≤ 40) (HS : Hid (Rd 11 (.slice A1 s.rs.length c1) s.rs.length (flatR s.rs) w)) (O1 : Hid (Rd 11 (.slice a11 s.rs.length d11) (s.shS n x).rs.length (flatR (s.shS n x).rs) w)) (K1 : Hid (w.cell? ⟨b1, 0, none⟩ = some (.slice a11 s.rs.length d11))) (u0 u3 u4 u5 u6 u8 u9 u10 u11 u12 u13 u14 u15 u16 u17 u18 u19 u20 u21 u22 u23 u24 u25 u26 u27 u28 u29 u30 u31 u32 u33 u34 u35 u36 u37 u38 u39 u40 u41 u42 u43 u44 u45 u46 u47 u48 u49 u50 u51 u52 u53 u54 u55 u56 u57 u58 u59 u60 u61 u62 u63 u64 u65 u66 u67 u68 u69 u70 u71 u72 u73 u74 u75 u79 u80 u81 u82 u83 u84 u85 u86 u87 u88 u89 u90 u91 u92 u93 u94 u95 u96 u97 u98 u99 u100 u101 u102 u103 u104 u105 u106 u107 u108 u109 u110 u111 u112 u113 u114 u115 u116 u117 u118 u119 u120 u121 u122 u123 u124 u125 u126 u127 u128 u129 u130 u131 u132 u133 u134 u135 u136 u137 u138 u139 u140 u141 u142 u143 u144 u145 u146 u147 u148 u149 u150 u151 u152 u153 u154 u155 u156 u157 u158 u159 u160 u161 u162 u163 u164 u165 u166 u167 u168 u169 u170 u171 u172 u173 u174 u175 u176 u177 u178 u179 u180 u181 u182 u183 u184 u185 u186 u187 u188 u189 u190 u191 u192 u193 u194 u195 u196 u197 u198 u199 u200 u201 u202 u203 u204 u205 u206 u207 u208 u209 u210 u211 u212 u213 u214 u215 u216 u217 u218 u219 u220 u221 u222 u223 u224 u225 u226 u227 u228 u229 u230 u231 u232 u233 u234 u235 u236 u237 u238 u239 u240 u241 u242 u243 u244 u245 u246 u247 u248 u249 u250 u251 u252 u253 u254 u255 u256 u257 u258 u259 u260 u261 u262 u263 u264 u265 u266 u267 u268 u269 u270 u271 u272 u273 u274 u275 u276 u277 u278 u279 u280 u281 u282 u283 u284 u285 u286 u287 u288 u289 u290 u291 u292 u293 u294 u295 u296 u297 u298 u299 u300 u301 u302 u303 : Value)
    (hexit : Hid (∀ (v6 v9 v10 v11 v78 v79 v80 v81 v82 v83 v84 v85 v86 v87 v88 v89 v90 v91 v92 v93 v94 v95 v96 v97 v98 v99 v100 v101 v102 v103 v104 v105 v106 v107 v108 v109 v110 v111 v112 v113 v114 v115 v116 v117 v118 v119 v120 v121 v122 v123 v124 v125 v126 v127 v128 v129 v130 v131 v132 v133 v134 v135 v136 v137 v138 v139 v140 v141 v142 v143 v144 v145 : Value) (w' : World), Hid (Below w.heap.size w w') → Q0 (.exit 0) ⟨List.toArray (u0 :: .string n :: .int .i64 x :: u3 :: u4 :: u5 :: v6 :: .pointer (some ⟨b1, 0, none⟩) :: u8 :: v9 :: v10 :: v11 :: u12 :: u13 :: u14 :: u15 :: u16 :: u17 :: u18 :: u19 :: u20 :: u21 :: u22 :: u23 :: u24 :: u25 :: u26 :: u27 :: u28 :: u29 :: u30 :: u31 :: u32 :: u33 :: u34 :: u35 :: u36 :: u37 :: u38 :: u39 :: u40 :: u41 :: u42 :: u43 :: u44 :: u45 :: u46 :: u47 :: u48 :: u49 :: u50 :: u51 :: u52 :: u53 :: u54 :: u55 :: u56 :: u57 :: u58 :: u59 :: u60 :: u61 :: u62 :: u63 :: u64 :: u65 :: u66 :: u67 :: u68 :: u69 :: u70 :: u71 :: u72 :: u73 :: u74 :: u75 :: .slice A1 s.rs.length c1 :: .int .i64 s.rs.length :: v78 :: v79 :: v80 :: v81 :: v82 :: v83 :: v84 :: v85 :: v86 :: v87 :: v88 :: v89 :: v90 :: v91 :: v92 :: v93 :: v94 :: v95 :: v96 :: v97 :: v98 :: v99 :: v100 :: v101 :: v102 :: v103 :: v104 :: v105 :: v106 :: v107 :: v108 :: v109 :: v110 :: v111 :: v112 :: v113 :: v114 :: v115 :: v116 :: v117 :: v118 :: v119 :: v120 :: v121 :: v122 :: v123 :: v124 :: v125 :: v126 :: v127 :: v128 :: v129 :: v130 :: v131 :: v132 :: v133 :: v134 :: v135 :: v136 :: v137 :: v138 :: v139 :: v140 :: v141 :: v142 :: v143 :: v144 :: v145 :: u146 :: u147 :: u148 :: u149 :: u150 :: u151 :: u152 :: u153 :: u154 :: u155 :: u156 :: u157 :: u158 :: u159 :: u160 :: u161 :: u162 :: u163 :: u164 :: u165 :: u166 :: u167 :: u168 :: u169 :: u170 :: u171 :: u172 :: u173 :: u174 :: u175 :: u176 :: u177 :: u178 :: u179 :: u180 :: u181 :: u182 :: u183 :: u184 :: u185 :: u186 :: u187 :: u188 :: u189 :: u190 :: u191 :: u192 :: u193 :: u194 :: u195 :: u196 :: u197 :: u198 :: u199 :: u200 :: u201 :: u202 :: u203 :: u204 :: u205 :: u206 :: u207 :: u208 :: u209 :: u210 :: u211 :: u212 :: u213 :: u214 :: u215 :: u216 :: u217 :: u218 :: u219 :: u220 :: u221 :: u222 :: u223 :: u224 :: u225 :: u226 :: u227 :: u228 :: u229 :: u230 :: u231 :: u232 :: u233 :: u234 :: u235 :: u236 :: u237 :: u238 :: u239 :: u240 :: u241 :: u242 :: u243 :: u244 :: u245 :: u246 :: u247 :: u248 :: u249 :: u250 :: u251 :: u252 :: u253 :: u254 :: u255 :: u256 :: u257 :: u258 :: u259 :: u260 :: u261 :: u262 :: u263 :: u264 :: u265 :: u266 :: u267 :: u268 :: u269 :: u270 :: u271 :: u272 :: u273 :: u274 :: u275 :: u276 :: u277 :: u278 :: u279 :: u280 :: u281 :: u282 :: u283 :: u284 :: u285 :: u286 :: u287 :: u288 :: u289 :: u290 :: u291 :: u292 :: u293 :: u294 :: u295 :: u296 :: u297 :: u298 :: u299 :: u300 :: u301 :: u302 :: u303 :: []), []⟩ w')) :
    Code.wp Try.prog (.loop code) Q0 ⟨List.toArray (u0 :: .string n :: .int .i64 x :: u3 :: u4 :: u5 :: u6 :: .pointer (some ⟨b1, 0, none⟩) :: u8 :: u9 :: u10 :: u11 :: u12 :: u13 :: u14 :: u15 :: u16 :: u17 :: u18 :: u19 :: u20 :: u21 :: u22 :: u23 :: u24 :: u25 :: u26 :: u27 :: u28 :: u29 :: u30 :: u31 :: u32 :: u33 :: u34 :: u35 :: u36 :: u37 :: u38 :: u39 :: u40 :: u41 :: u42 :: u43 :: u44 :: u45 :: u46 :: u47 :: u48 :: u49 :: u50 :: u51 :: u52 :: u53 :: u54 :: u55 :: u56 :: u57 :: u58 :: u59 :: u60 :: u61 :: u62 :: u63 :: u64 :: u65 :: u66 :: u67 :: u68 :: u69 :: u70 :: u71 :: u72 :: u73 :: u74 :: u75 :: .slice A1 s.rs.length c1 :: .int .i64 s.rs.length :: .int .i64 0 :: u79 :: u80 :: u81 :: u82 :: u83 :: u84 :: u85 :: u86 :: u87 :: u88 :: u89 :: u90 :: u91 :: u92 :: u93 :: u94 :: u95 :: u96 :: u97 :: u98 :: u99 :: u100 :: u101 :: u102 :: u103 :: u104 :: u105 :: u106 :: u107 :: u108 :: u109 :: u110 :: u111 :: u112 :: u113 :: u114 :: u115 :: u116 :: u117 :: u118 :: u119 :: u120 :: u121 :: u122 :: u123 :: u124 :: u125 :: u126 :: u127 :: u128 :: u129 :: u130 :: u131 :: u132 :: u133 :: u134 :: u135 :: u136 :: u137 :: u138 :: u139 :: u140 :: u141 :: u142 :: u143 :: u144 :: u145 :: u146 :: u147 :: u148 :: u149 :: u150 :: u151 :: u152 :: u153 :: u154 :: u155 :: u156 :: u157 :: u158 :: u159 :: u160 :: u161 :: u162 :: u163 :: u164 :: u165 :: u166 :: u167 :: u168 :: u169 :: u170 :: u171 :: u172 :: u173 :: u174 :: u175 :: u176 :: u177 :: u178 :: u179 :: u180 :: u181 :: u182 :: u183 :: u184 :: u185 :: u186 :: u187 :: u188 :: u189 :: u190 :: u191 :: u192 :: u193 :: u194 :: u195 :: u196 :: u197 :: u198 :: u199 :: u200 :: u201 :: u202 :: u203 :: u204 :: u205 :: u206 :: u207 :: u208 :: u209 :: u210 :: u211 :: u212 :: u213 :: u214 :: u215 :: u216 :: u217 :: u218 :: u219 :: u220 :: u221 :: u222 :: u223 :: u224 :: u225 :: u226 :: u227 :: u228 :: u229 :: u230 :: u231 :: u232 :: u233 :: u234 :: u235 :: u236 :: u237 :: u238 :: u239 :: u240 :: u241 :: u242 :: u243 :: u244 :: u245 :: u246 :: u247 :: u248 :: u249 :: u250 :: u251 :: u252 :: u253 :: u254 :: u255 :: u256 :: u257 :: u258 :: u259 :: u260 :: u261 :: u262 :: u263 :: u264 :: u265 :: u266 :: u267 :: u268 :: u269 :: u270 :: u271 :: u272 :: u273 :: u274 :: u275 :: u276 :: u277 :: u278 :: u279 :: u280 :: u281 :: u282 :: u283 :: u284 :: u285 :: u286 :: u287 :: u288 :: u289 :: u290 :: u291 :: u292 :: u293 :: u294 :: u295 :: u296 :: u297 :: u298 :: u299 :: u300 :: u301 :: u302 :: u303 :: []), []⟩ w := by
  subst hc
  conv => arg 2; arg 1; whnf
  have hneR := neRuS
  have hneC := neCl
  go_loopw [78] (fun t wr => ∃ (k : Nat) (wq : World), k ≤ s.rs.length ∧ t = .int .i64 (k : Int) ∧ wr = wq ∧ Hid (Below w.heap.size w wq)) (fun t _ => s.rs.length - (intOf t).toNat)
  case atStart => exact ⟨0, _, by omega, rfl, by trivial, Lib.hid (Below.refl _ _)⟩
  case round =>
    obtain ⟨k, wq, hk, rfl, rfl, HQ⟩ := hrel
    by_cases hlt : k < s.rs.length
    · obtain ⟨r, hr⟩ : ∃ r, s.rs[k]? = some r := ⟨_, _root_.List.getElem?_eq_getElem hlt⟩
      have hrq : (s.shS n x).rs[k]? = some (r.of n x) := by unfold Sou.shS; rw [_root_.List.getElem?_map, hr]; rfl
      obtain ⟨g1, o1, p1, q1, hc1⟩ := (HS.out.below HQ.out).atR hr
      obtain ⟨g2, o2, p2, q2, hc2⟩ := (O1.out.below HQ.out).atR hrq
      have q2' : a11 = some ⟨g2, o2, none⟩ ∧ d11 = p2 := by simp only [Value.slice.injEq] at q2; exact ⟨q2.1, q2.2.2⟩
      simp only [Value.slice.injEq] at q1
      obtain ⟨rfl, _, rfl⟩ := q1
      obtain ⟨rfl, rfl⟩ := q2'
      obtain ⟨na, fr, ut, mo, kk, wd, d, sec, bs, save, le⟩ := r
      obtain ⟨a0, a1, a2, a3, a4, a5, a6, a7, a8, a9, a10⟩ := Ru.cells hc1
      have hi0 : (0 : Int) ≤ (k : Int) := by omega
      have hi1 : (k : Int) < (s.rs.length : Int) := by omega
      have lx0 := cell_below HQ.out K1.out
      have ly0 : ∀ ob, (wr.alloc ob).cell? ⟨b1, 0, none⟩ = some _ := fun ob => cell_below (bel_alloc wr ob) lx0
      clear hr hrq q2 hc1
      by_cases hna : na = n
      · subst hna
        have hof : (Ru.mk na fr ut mo kk wd d sec bs save le).of na x = ⟨na, fr, ut, mo, kk, wd, d, less sec bs x, bs, wrap64 (save + x), le⟩ := if_pos rfl
        rw [hof] at hc2
        obtain ⟨b0, b1, b2, b3, b4, b5, b6, b7, b8, b9, b10⟩ := Ru.cells hc2
        clear hc2 hof
        have hw1 : wrap64 (wrap64 (save + x) - save) = x := w_save hx
        by_cases hbs : bs = 1
        · subst hbs
          have hle : less sec 1 x = wrap64 (sec - x) := if_pos rfl
          rw [hle] at b7
          clear hle
          have hw2 : wrap64 (wrap64 (sec - x) + wrap64 (save + x)) = wrap64 (sec + save) := w_both _ _ _
          obtain ⟨sv, hsv⟩ : ∃ sv, wrap64 (save + x) = sv := ⟨_, rfl⟩
          obtain ⟨sc, hsc⟩ : ∃ sc, wrap64 (sec - x) = sc := ⟨_, rfl⟩
          rw [hsv] at hw1 hw2 b9
          rw [hsc] at hw2 b7
          clear hsv hsc
          have c0 : ∀ ob, (wr.alloc ob).cell? _ = some _ := fun ob => cell_below (bel_alloc wr ob) b0
          have c1 : ∀ ob, (wr.alloc ob).cell? _ = some _ := fun ob => cell_below (bel_alloc wr ob) b1
          have c2 : ∀ ob, (wr.alloc ob).cell? _ = some _ := fun ob => cell_below (bel_alloc wr ob) b2
          have c3 : ∀ ob, (wr.alloc ob).cell? _ = some _ := fun ob => cell_below (bel_alloc wr ob) b3
          have c4 : ∀ ob, (wr.alloc ob).cell? _ = some _ := fun ob => cell_below (bel_alloc wr ob) b4
          have c5 : ∀ ob, (wr.alloc ob).cell? _ = some _ := fun ob => cell_below (bel_alloc wr ob) b5
          have c6 : ∀ ob, (wr.alloc ob).cell? _ = some _ := fun ob => cell_below (bel_alloc wr ob) b6
          have c7 : ∀ ob, (wr.alloc ob).cell? _ = some _ := fun ob => cell_below (bel_alloc wr ob) b7
          have c8 : ∀ ob, (wr.alloc ob).cell? _ = some _ := fun ob => cell_below (bel_alloc wr ob) b8
          have c9 : ∀ ob, (wr.alloc ob).cell? _ = some _ := fun ob => cell_below (bel_alloc wr ob) b9
          have c10 : ∀ ob, (wr.alloc ob).cell? _ = some _ := fun ob => cell_below (bel_alloc wr ob) b10
          go_upto_region 17 with fail
          have KA := Lib.hid (block_below (heap_alloc_new wr (.cells #[.string na, .int .i64 fr, .int .i64 ut, .int .i64 mo, .int .i64 kk, .int .i64 wd, .int .i64 d, .int .i64 sec, .int .i64 1, .int .i64 save, .string le] 44)) (bel_alloc _ (.cells #[.string na, .int .i64 fr, .int .i64 ut, .int .i64 mo, .int .i64 kk, .int .i64 wd, .int .i64 d, .int .i64 sc, .int .i64 1, .int .i64 sv, .string le] 44)))
          have KB := Lib.hid (heap_alloc2_new wr (.cells #[.string na, .int .i64 fr, .int .i64 ut, .int .i64 mo, .int .i64 kk, .int .i64 wd, .int .i64 d, .int .i64 sec, .int .i64 1, .int .i64 save, .string le] 44) (.cells #[.string na, .int .i64 fr, .int .i64 ut, .int .i64 mo, .int .i64 kk, .int .i64 wd, .int .i64 d, .int .i64 sc, .int .i64 1, .int .i64 sv, .string le] 44))
          have HBV := Lib.hid (bel_trans HQ.out (bel_trans (bel_alloc wr (.cells #[.string na, .int .i64 fr, .int .i64 ut, .int .i64 mo, .int .i64 kk, .int .i64 wd, .int .i64 d, .int .i64 sec, .int .i64 1, .int .i64 save, .string le] 44)) (bel_alloc _ (.cells #[.string na, .int .i64 fr, .int .i64 ut, .int .i64 mo, .int .i64 kk, .int .i64 wd, .int .i64 d, .int .i64 sc, .int .i64 1, .int .i64 sv, .string le] 44))))
          generalize hV : (wr.alloc (.cells #[.string na, .int .i64 fr, .int .i64 ut, .int .i64 mo, .int .i64 kk, .int .i64 wd, .int .i64 d, .int .i64 sec, .int .i64 1, .int .i64 save, .string le] 44)).alloc (.cells #[.string na, .int .i64 fr, .int .i64 ut, .int .i64 mo, .int .i64 kk, .int .i64 wd, .int .i64 d, .int .i64 sc, .int .i64 1, .int .i64 sv, .string le] 44) = V at *
          clear hV
          replace KA := Lib.hid (block_below KA.out (Below.drew (Below.refl _ V)))
          replace KB := Lib.hid (block_below KB.out (Below.drew (Below.refl _ V)))
          replace HBV := Lib.hid (bel_trans HBV.out (Below.drew (Below.refl _ V)))
          clear a0 b0 c0 a1 b1 c1 a2 b2 c2 a3 b3 c3 a4 b4 c4 a5 b5 c5 a6 b6 c6 a7 b7 c7 a8 b8 c8 a9 b9 c9 a10 b10 c10 lx0 ly0
          refine wp_region_noPanic ?_
          refine wp_region_held_drew (S := (fun w' => w'.cell? ⟨wr.heap.size, 7, none⟩ = some (.int .i64 sec) ∧ w'.cell? ⟨wr.heap.size, 8, none⟩ = some (.int .i64 1) ∧ w'.cell? ⟨wr.heap.size, 9, none⟩ = some (.int .i64 save))) (by kernel_rfl) (by exact ⟨cellB KA.out (i := 7) rfl, cellB KA.out (i := 8) rfl, cellB KA.out (i := 9) rfl⟩) (fun hHeld => ?_)
          refine wpAnyH_take (i := 0) (v := ?_) rfl (by kernel_rfl) (by kernel_rfl) (by kernel_rfl) (fun _ _ _ h => h) (Or.inl ⟨by rfl, ?_⟩) (by assumption) ?_
          rotate_left 1
          · (intro w hSw; (try dsimp only at hSw); first | (go_simp; done) | (go_simp; with_reducible rfl))
          try simp only [Act.put, List.getElem_toArray, List.getElem_cons_succ, List.getElem_cons_zero, List.setIfInBounds_toArray, List.set_cons_zero, List.set_cons_succ]
          refine wpAnyH_take (i := 1) (v := ?_) rfl (by kernel_rfl) (by kernel_rfl) (by kernel_rfl) (fun _ _ _ h => h) (Or.inl ⟨by rfl, ?_⟩) (by assumption) ?_
          rotate_left 1
          · (intro w hSw; (try dsimp only at hSw); first | (go_simp; done) | (go_simp; with_reducible rfl))
          try simp only [Act.put, List.getElem_toArray, List.getElem_cons_succ, List.getElem_cons_zero, List.setIfInBounds_toArray, List.set_cons_zero, List.set_cons_succ]
          refine wpAnyH_take (i := 2) (v := ?_) rfl (by kernel_rfl) (by kernel_rfl) (by kernel_rfl) (fun _ _ _ h => h) (Or.inl ⟨by rfl, ?_⟩) (by assumption) ?_
          rotate_left 1
          · (intro w hSw; (try dsimp only at hSw); first | (go_simp; done) | (go_simp; with_reducible rfl))
          try simp only [Act.put, List.getElem_toArray, List.getElem_cons_succ, List.getElem_cons_zero, List.setIfInBounds_toArray, List.set_cons_zero, List.set_cons_succ]
          refine wpAnyH_take (i := 3) (v := ?_) rfl (by kernel_rfl) (by kernel_rfl) (by kernel_rfl) (fun _ _ _ h => h) (Or.inl ⟨by rfl, ?_⟩) (by assumption) ?_
          rotate_left 1
          · (intro w hSw; (try dsimp only at hSw); first | (go_simp; done) | (go_simp; with_reducible rfl))
          try simp only [Act.put, List.getElem_toArray, List.getElem_cons_succ, List.getElem_cons_zero, List.setIfInBounds_toArray, List.set_cons_zero, List.set_cons_succ]
          refine wpAnyH_take (i := 4) (v := ?_) rfl (by kernel_rfl) (by kernel_rfl) (by kernel_rfl) (fun _ _ _ h => h) (Or.inl ⟨by rfl, ?_⟩) (by assumption) ?_
          rotate_left 1
          · (intro w hSw; (try dsimp only at hSw); first | (go_simp; done) | (go_simp; with_reducible rfl))
          try simp only [Act.put, List.getElem_toArray, List.getElem_cons_succ, List.getElem_cons_zero, List.setIfInBounds_toArray, List.set_cons_zero, List.set_cons_succ]
          refine wpAnyH_ready (rs := [5]) (by kernel_rfl) (by simp) ?_
          refine AllReadyH.cons rfl (fun K hK => ?_) AllReadyH.nil
          have y9 := cellB KB.out (i := 9) rfl
          have f9 := frzB KB.out 9
          go_simp
          clear y9 f9
          replace KA := Lib.hid (blk_setCell (c := wr.heap.size + 1) (o := 9) (v := .int .i64 save) KA.out (by omega))
          replace KB := Lib.hid (setc (o := 9) (v := .int .i64 save) KB.out)
          replace HBV := Lib.hid (bel_setCell (b := wr.heap.size + 1) (o := 9) (v := .int .i64 save) HBV.out (by have := HQ.out.size; omega))
          rw [show (V.setCell ⟨wr.heap.size + 1, 9, none⟩ (.int .i64 save)).drew = V.drew.setCell ⟨wr.heap.size + 1, 9, none⟩ (.int .i64 save) from rfl]
          generalize V.drew.setCell _ _ = V2 at *
          refine hK.out _ _ (by exact ⟨cellB KA.out (i := 7) rfl, cellB KA.out (i := 8) rfl, cellB KA.out (i := 9) rfl⟩) (fun hHeld => ?_)
          clear hK K
          try simp only [Act.put, List.getElem_toArray, List.getElem_cons_succ, List.getElem_cons_zero, List.setIfInBounds_toArray, List.set_cons_zero, List.set_cons_succ]
          refine wpAnyH_take (i := 6) (v := ?_) rfl (by kernel_rfl) (by kernel_rfl) (by kernel_rfl) (fun _ _ _ h => h) (Or.inl ⟨by rfl, ?_⟩) (by assumption) ?_
          rotate_left 1
          · (intro w hSw; (try dsimp only at hSw); first | (go_simp; done) | (go_simp; with_reducible rfl))
          try simp only [Act.put, List.getElem_toArray, List.getElem_cons_succ, List.getElem_cons_zero, List.setIfInBounds_toArray, List.set_cons_zero, List.set_cons_succ]
          refine wpAnyH_ready (rs := [7]) (by kernel_rfl) (by simp) ?_
          refine AllReadyH.cons rfl (fun K hK => ?_) AllReadyH.nil
          have y7 := cellB KB.out (i := 7) rfl
          have f7 := frzB KB.out 7
          have y8 := cellB KB.out (i := 8) rfl
          have f8 := frzB KB.out 8
          go_simp
          clear y7 f7 y8 f8
          replace KA := Lib.hid (blk_setCell (c := wr.heap.size + 1) (o := 8) (v := .int .i64 1) (blk_setCell (c := wr.heap.size + 1) (o := 7) (v := .int .i64 sec) KA.out (by omega)) (by omega))
          have KC := Lib.hid (setc (o := 8) (v := .int .i64 1) (setc (o := 7) (v := .int .i64 sec) KB.out))
          replace HBV := Lib.hid (bel_setCell (b := wr.heap.size + 1) (o := 8) (v := .int .i64 1) (bel_setCell (b := wr.heap.size + 1) (o := 7) (v := .int .i64 sec) HBV.out (by have := HQ.out.size; omega)) (by have := HQ.out.size; omega))
          clear KB
          generalize (V2.setCell ⟨wr.heap.size + 1, 7, none⟩ (.int .i64 sec)).setCell ⟨wr.heap.size + 1, 8, none⟩ (.int .i64 1) = V3 at *
          have KB : Hid (V3.heap[wr.heap.size + 1]? = some (.cells #[.string na, .int .i64 fr, .int .i64 ut, .int .i64 mo, .int .i64 kk, .int .i64 wd, .int .i64 d, .int .i64 sec, .int .i64 1, .int .i64 save, .string le] 44)) := KC
          clear KC
          refine hK.out _ _ (by exact ⟨cellB KA.out (i := 7) rfl, cellB KA.out (i := 8) rfl, cellB KA.out (i := 9) rfl⟩) (fun hHeld => ?_)
          clear hK K
          try simp only [Act.put, List.getElem_toArray, List.getElem_cons_succ, List.getElem_cons_zero, List.setIfInBounds_toArray, List.set_cons_zero, List.set_cons_succ]
          refine wpAnyH_done (by kernel_rfl) ?_ _
          refine NoPanic.normal ?_
          clear hHeld
          have a0 := cellB KA.out (i := 0) rfl
          have a1 := cellB KA.out (i := 1) rfl
          have a2 := cellB KA.out (i := 2) rfl
          have a3 := cellB KA.out (i := 3) rfl
          have a4 := cellB KA.out (i := 4) rfl
          have a5 := cellB KA.out (i := 5) rfl
          have a6 := cellB KA.out (i := 6) rfl
          have a7 := cellB KA.out (i := 7) rfl
          have a8 := cellB KA.out (i := 8) rfl
          have a9 := cellB KA.out (i := 9) rfl
          have a10 := cellB KA.out (i := 10) rfl
          have b0 := cellB KB.out (i := 0) rfl
          have b1 := cellB KB.out (i := 1) rfl
          have b2 := cellB KB.out (i := 2) rfl
          have b3 := cellB KB.out (i := 3) rfl
          have b4 := cellB KB.out (i := 4) rfl
          have b5 := cellB KB.out (i := 5) rfl
          have b6 := cellB KB.out (i := 6) rfl
          have b7 := cellB KB.out (i := 7) rfl
          have b8 := cellB KB.out (i := 8) rfl
          have b9 := cellB KB.out (i := 9) rfl
          have b10 := cellB KB.out (i := 10) rfl
          go_wp2_with fail
          go_round
          case rel => exact ⟨k + 1, _, by omega, by go_num, rfl, HBV⟩
          case measure => simp [intOf]; omega
        · have hle : less sec bs x = sec := if_neg hbs
          rw [hle] at b7
          clear hle
          obtain ⟨sv, hsv⟩ : ∃ sv, wrap64 (save + x) = sv := ⟨_, rfl⟩
          rw [hsv] at hw1 b9
          clear hsv
          have hb1 : decide (bs = 1) = false := decide_eq_false hbs
          have hb2 : (bs == 1) = false := by simpa using hbs
          have hb3 : (bs != 1) = true := by simpa using hbs
          have c0 : ∀ ob, (wr.alloc ob).cell? _ = some _ := fun ob => cell_below (bel_alloc wr ob) b0
          have c1 : ∀ ob, (wr.alloc ob).cell? _ = some _ := fun ob => cell_below (bel_alloc wr ob) b1
          have c2 : ∀ ob, (wr.alloc ob).cell? _ = some _ := fun ob => cell_below (bel_alloc wr ob) b2
          have c3 : ∀ ob, (wr.alloc ob).cell? _ = some _ := fun ob => cell_below (bel_alloc wr ob) b3
          have c4 : ∀ ob, (wr.alloc ob).cell? _ = some _ := fun ob => cell_below (bel_alloc wr ob) b4
          have c5 : ∀ ob, (wr.alloc ob).cell? _ = some _ := fun ob => cell_below (bel_alloc wr ob) b5
          have c6 : ∀ ob, (wr.alloc ob).cell? _ = some _ := fun ob => cell_below (bel_alloc wr ob) b6
          have c7 : ∀ ob, (wr.alloc ob).cell? _ = some _ := fun ob => cell_below (bel_alloc wr ob) b7
          have c8 : ∀ ob, (wr.alloc ob).cell? _ = some _ := fun ob => cell_below (bel_alloc wr ob) b8
          have c9 : ∀ ob, (wr.alloc ob).cell? _ = some _ := fun ob => cell_below (bel_alloc wr ob) b9
          have c10 : ∀ ob, (wr.alloc ob).cell? _ = some _ := fun ob => cell_below (bel_alloc wr ob) b10
          go_upto_region 17 with fail
          have KA := Lib.hid (block_below (heap_alloc_new wr (.cells #[.string na, .int .i64 fr, .int .i64 ut, .int .i64 mo, .int .i64 kk, .int .i64 wd, .int .i64 d, .int .i64 sec, .int .i64 bs, .int .i64 save, .string le] 44)) (bel_alloc _ (.cells #[.string na, .int .i64 fr, .int .i64 ut, .int .i64 mo, .int .i64 kk, .int .i64 wd, .int .i64 d, .int .i64 sec, .int .i64 bs, .int .i64 sv, .string le] 44)))
          have KB := Lib.hid (heap_alloc2_new wr (.cells #[.string na, .int .i64 fr, .int .i64 ut, .int .i64 mo, .int .i64 kk, .int .i64 wd, .int .i64 d, .int .i64 sec, .int .i64 bs, .int .i64 save, .string le] 44) (.cells #[.string na, .int .i64 fr, .int .i64 ut, .int .i64 mo, .int .i64 kk, .int .i64 wd, .int .i64 d, .int .i64 sec, .int .i64 bs, .int .i64 sv, .string le] 44))
          have HBV := Lib.hid (bel_trans HQ.out (bel_trans (bel_alloc wr (.cells #[.string na, .int .i64 fr, .int .i64 ut, .int .i64 mo, .int .i64 kk, .int .i64 wd, .int .i64 d, .int .i64 sec, .int .i64 bs, .int .i64 save, .string le] 44)) (bel_alloc _ (.cells #[.string na, .int .i64 fr, .int .i64 ut, .int .i64 mo, .int .i64 kk, .int .i64 wd, .int .i64 d, .int .i64 sec, .int .i64 bs, .int .i64 sv, .string le] 44))))
          generalize hV : (wr.alloc (.cells #[.string na, .int .i64 fr, .int .i64 ut, .int .i64 mo, .int .i64 kk, .int .i64 wd, .int .i64 d, .int .i64 sec, .int .i64 bs, .int .i64 save, .string le] 44)).alloc (.cells #[.string na, .int .i64 fr, .int .i64 ut, .int .i64 mo, .int .i64 kk, .int .i64 wd, .int .i64 d, .int .i64 sec, .int .i64 bs, .int .i64 sv, .string le] 44) = V at *
          clear hV
          replace KA := Lib.hid (block_below KA.out (Below.drew (Below.refl _ V)))
          replace KB := Lib.hid (block_below KB.out (Below.drew (Below.refl _ V)))
          replace HBV := Lib.hid (bel_trans HBV.out (Below.drew (Below.refl _ V)))
          clear a0 b0 c0 a1 b1 c1 a2 b2 c2 a3 b3 c3 a4 b4 c4 a5 b5 c5 a6 b6 c6 a7 b7 c7 a8 b8 c8 a9 b9 c9 a10 b10 c10 lx0 ly0
          refine wp_region_noPanic ?_
          refine wp_region_held_drew (S := (fun w' => w'.cell? ⟨wr.heap.size, 7, none⟩ = some (.int .i64 sec) ∧ w'.cell? ⟨wr.heap.size, 8, none⟩ = some (.int .i64 bs) ∧ w'.cell? ⟨wr.heap.size, 9, none⟩ = some (.int .i64 save))) (by kernel_rfl) (by exact ⟨cellB KA.out (i := 7) rfl, cellB KA.out (i := 8) rfl, cellB KA.out (i := 9) rfl⟩) (fun hHeld => ?_)
          refine wpAnyH_take (i := 0) (v := ?_) rfl (by kernel_rfl) (by kernel_rfl) (by kernel_rfl) (fun _ _ _ h => h) (Or.inl ⟨by rfl, ?_⟩) (by assumption) ?_
          rotate_left 1
          · (intro w hSw; (try dsimp only at hSw); first | (go_simp; done) | (go_simp; with_reducible rfl))
          try simp only [Act.put, List.getElem_toArray, List.getElem_cons_succ, List.getElem_cons_zero, List.setIfInBounds_toArray, List.set_cons_zero, List.set_cons_succ]
          refine wpAnyH_take (i := 1) (v := ?_) rfl (by kernel_rfl) (by kernel_rfl) (by kernel_rfl) (fun _ _ _ h => h) (Or.inl ⟨by rfl, ?_⟩) (by assumption) ?_
          rotate_left 1
          · (intro w hSw; (try dsimp only at hSw); first | (go_simp; done) | (go_simp; with_reducible rfl))
          try simp only [Act.put, List.getElem_toArray, List.getElem_cons_succ, List.getElem_cons_zero, List.setIfInBounds_toArray, List.set_cons_zero, List.set_cons_succ]
          refine wpAnyH_take (i := 2) (v := ?_) rfl (by kernel_rfl) (by kernel_rfl) (by kernel_rfl) (fun _ _ _ h => h) (Or.inl ⟨by rfl, ?_⟩) (by assumption) ?_
          rotate_left 1
          · (intro w hSw; (try dsimp only at hSw); first | (go_simp; done) | (go_simp; with_reducible rfl))
          try simp only [Act.put, List.getElem_toArray, List.getElem_cons_succ, List.getElem_cons_zero, List.setIfInBounds_toArray, List.set_cons_zero, List.set_cons_succ]
          refine wpAnyH_take (i := 3) (v := ?_) rfl (by kernel_rfl) (by kernel_rfl) (by kernel_rfl) (fun _ _ _ h => h) (Or.inl ⟨by rfl, ?_⟩) (by assumption) ?_
          rotate_left 1
          · (intro w hSw; (try dsimp only at hSw); first | (go_simp; done) | (go_simp; with_reducible rfl))
          try simp only [Act.put, List.getElem_toArray, List.getElem_cons_succ, List.getElem_cons_zero, List.setIfInBounds_toArray, List.set_cons_zero, List.set_cons_succ]
          refine wpAnyH_take (i := 4) (v := ?_) rfl (by kernel_rfl) (by kernel_rfl) (by kernel_rfl) (fun _ _ _ h => h) (Or.inl ⟨by rfl, ?_⟩) (by assumption) ?_
          rotate_left 1
          · (intro w hSw; (try dsimp only at hSw); first | (go_simp; done) | (go_simp; with_reducible rfl))
          try simp only [Act.put, List.getElem_toArray, List.getElem_cons_succ, List.getElem_cons_zero, List.setIfInBounds_toArray, List.set_cons_zero, List.set_cons_succ]
          refine wpAnyH_ready (rs := [5]) (by kernel_rfl) (by simp) ?_
          refine AllReadyH.cons rfl (fun K hK => ?_) AllReadyH.nil
          have y9 := cellB KB.out (i := 9) rfl
          have f9 := frzB KB.out 9
          go_simp
          clear y9 f9
          replace KA := Lib.hid (blk_setCell (c := wr.heap.size + 1) (o := 9) (v := .int .i64 save) KA.out (by omega))
          replace KB := Lib.hid (setc (o := 9) (v := .int .i64 save) KB.out)
          replace HBV := Lib.hid (bel_setCell (b := wr.heap.size + 1) (o := 9) (v := .int .i64 save) HBV.out (by have := HQ.out.size; omega))
          rw [show (V.setCell ⟨wr.heap.size + 1, 9, none⟩ (.int .i64 save)).drew = V.drew.setCell ⟨wr.heap.size + 1, 9, none⟩ (.int .i64 save) from rfl]
          generalize V.drew.setCell _ _ = V2 at *
          refine hK.out _ _ (by exact ⟨cellB KA.out (i := 7) rfl, cellB KA.out (i := 8) rfl, cellB KA.out (i := 9) rfl⟩) (fun hHeld => ?_)
          clear hK K
          try simp only [Act.put, List.getElem_toArray, List.getElem_cons_succ, List.getElem_cons_zero, List.setIfInBounds_toArray, List.set_cons_zero, List.set_cons_succ]
          refine wpAnyH_take (i := 6) (v := ?_) rfl (by kernel_rfl) (by kernel_rfl) (by kernel_rfl) (fun _ _ _ h => h) (Or.inl ⟨by rfl, ?_⟩) (by assumption) ?_
          rotate_left 1
          · (intro w hSw; (try dsimp only at hSw); first | (go_simp; done) | (go_simp; with_reducible rfl))
          try simp only [Act.put, List.getElem_toArray, List.getElem_cons_succ, List.getElem_cons_zero, List.setIfInBounds_toArray, List.set_cons_zero, List.set_cons_succ]
          refine wpAnyH_ready (rs := [7]) (by kernel_rfl) (by simp) ?_
          refine AllReadyH.cons rfl (fun K hK => ?_) AllReadyH.nil
          have y7 := cellB KB.out (i := 7) rfl
          have f7 := frzB KB.out 7
          have y8 := cellB KB.out (i := 8) rfl
          have f8 := frzB KB.out 8
          go_simp
          clear y7 f7 y8 f8
          replace KA := Lib.hid (blk_setCell (c := wr.heap.size + 1) (o := 8) (v := .int .i64 bs) (blk_setCell (c := wr.heap.size + 1) (o := 7) (v := .int .i64 sec) KA.out (by omega)) (by omega))
          have KC := Lib.hid (setc (o := 8) (v := .int .i64 bs) (setc (o := 7) (v := .int .i64 sec) KB.out))
          replace HBV := Lib.hid (bel_setCell (b := wr.heap.size + 1) (o := 8) (v := .int .i64 bs) (bel_setCell (b := wr.heap.size + 1) (o := 7) (v := .int .i64 sec) HBV.out (by have := HQ.out.size; omega)) (by have := HQ.out.size; omega))
          clear KB
          generalize (V2.setCell ⟨wr.heap.size + 1, 7, none⟩ (.int .i64 sec)).setCell ⟨wr.heap.size + 1, 8, none⟩ (.int .i64 bs) = V3 at *
          have KB : Hid (V3.heap[wr.heap.size + 1]? = some (.cells #[.string na, .int .i64 fr, .int .i64 ut, .int .i64 mo, .int .i64 kk, .int .i64 wd, .int .i64 d, .int .i64 sec, .int .i64 bs, .int .i64 save, .string le] 44)) := KC
          clear KC
          refine hK.out _ _ (by exact ⟨cellB KA.out (i := 7) rfl, cellB KA.out (i := 8) rfl, cellB KA.out (i := 9) rfl⟩) (fun hHeld => ?_)
          clear hK K
          try simp only [Act.put, List.getElem_toArray, List.getElem_cons_succ, List.getElem_cons_zero, List.setIfInBounds_toArray, List.set_cons_zero, List.set_cons_succ]
          refine wpAnyH_done (by kernel_rfl) ?_ _
          refine NoPanic.normal ?_
          clear hHeld
          have a0 := cellB KA.out (i := 0) rfl
          have a1 := cellB KA.out (i := 1) rfl
          have a2 := cellB KA.out (i := 2) rfl
          have a3 := cellB KA.out (i := 3) rfl
          have a4 := cellB KA.out (i := 4) rfl
          have a5 := cellB KA.out (i := 5) rfl
          have a6 := cellB KA.out (i := 6) rfl
          have a7 := cellB KA.out (i := 7) rfl
          have a8 := cellB KA.out (i := 8) rfl
          have a9 := cellB KA.out (i := 9) rfl
          have a10 := cellB KA.out (i := 10) rfl
          have b0 := cellB KB.out (i := 0) rfl
          have b1 := cellB KB.out (i := 1) rfl
          have b2 := cellB KB.out (i := 2) rfl
          have b3 := cellB KB.out (i := 3) rfl
          have b4 := cellB KB.out (i := 4) rfl
          have b5 := cellB KB.out (i := 5) rfl
          have b6 := cellB KB.out (i := 6) rfl
          have b7 := cellB KB.out (i := 7) rfl
          have b8 := cellB KB.out (i := 8) rfl
          have b9 := cellB KB.out (i := 9) rfl
          have b10 := cellB KB.out (i := 10) rfl
          go_wp2_with fail
          go_round
          case rel => exact ⟨k + 1, _, by omega, by go_num, rfl, HBV⟩
          case measure => simp [intOf]; omega
      · have hof : (Ru.mk na fr ut mo kk wd d sec bs save le).of n x = ⟨na, fr, ut, mo, kk, wd, d, sec, bs, save, le⟩ := if_neg hna
        rw [hof] at hc2
        obtain ⟨b0, b1, b2, b3, b4, b5, b6, b7, b8, b9, b10⟩ := Ru.cells hc2
        clear hc2 hof
        have hne := str_ne hna
        have c0 : ∀ ob, (wr.alloc ob).cell? _ = some _ := fun ob => cell_below (bel_alloc wr ob) b0
        have c1 : ∀ ob, (wr.alloc ob).cell? _ = some _ := fun ob => cell_below (bel_alloc wr ob) b1
        have c2 : ∀ ob, (wr.alloc ob).cell? _ = some _ := fun ob => cell_below (bel_alloc wr ob) b2
        have c3 : ∀ ob, (wr.alloc ob).cell? _ = some _ := fun ob => cell_below (bel_alloc wr ob) b3
        have c4 : ∀ ob, (wr.alloc ob).cell? _ = some _ := fun ob => cell_below (bel_alloc wr ob) b4
        have c5 : ∀ ob, (wr.alloc ob).cell? _ = some _ := fun ob => cell_below (bel_alloc wr ob) b5
        have c6 : ∀ ob, (wr.alloc ob).cell? _ = some _ := fun ob => cell_below (bel_alloc wr ob) b6
        have c7 : ∀ ob, (wr.alloc ob).cell? _ = some _ := fun ob => cell_below (bel_alloc wr ob) b7
        have c8 : ∀ ob, (wr.alloc ob).cell? _ = some _ := fun ob => cell_below (bel_alloc wr ob) b8
        have c9 : ∀ ob, (wr.alloc ob).cell? _ = some _ := fun ob => cell_below (bel_alloc wr ob) b9
        have c10 : ∀ ob, (wr.alloc ob).cell? _ = some _ := fun ob => cell_below (bel_alloc wr ob) b10
        go_wp2_with fail
        go_round
        case rel => exact ⟨k + 1, _, by omega, by go_num, rfl, Lib.hid (bel_trans HQ.out (bel_trans (bel_alloc _ _) (bel_alloc _ _)))⟩
        case measure => simp [intOf]; omega
    · obtain rfl : k = s.rs.length := by omega
      go_wp2_with fail
      exact hexit.out _ _ _ _ _ _ _ _ _ _ _ _ _ _ _ _ _ _ _ _ _ _ _ _ _ _ _ _ _ _ _ _ _ _ _ _ _ _ _ _ _ _ _ _ _ _ _ _ _ _ _ _ _ _ _ _ _ _ _ _ _ _ _ _ _ _ _ _ _ _ _ _ _ (HQ)


set_option maxRecDepth 100000 in
set_option maxHeartbeats 16000000 in
theorem sums_loop5 {code : Code} {Q0 : Exit → Act → World → Prop} (hc : sumLoop 47 = code) (s : Sou) (A3 a13 : Option Addr) (c3 d13 b1 : Nat) (w : World) (hl3 : s.ls.length ≤ 40) (HS : Hid (Rd 2 (.slice A3 s.ls.length c3) s.ls.length (flatL s.ls) w)) (O1 : Hid (Rd 2 (.slice a13 s.ls.length d13) s.ls.length (flatL s.ls) w)) (K1 : Hid (w.cell? ⟨b1, 2, none⟩ = some (.slice a13 s.ls.length d13))) (u0 u1 u2 u3 u4 u5 u6 u8 u9 u10 u11 u12 u13 u14 u15 u16 u17 u18 u19 u20 u21 u22 u23 u24 u25 u26 u27 u28 u29 u30 u31 u32 u33 u34 u35 u36 u37 u38 u39 u40 u41 u42 u43 u44 u45 u46 u47 u48 u49 u50 u51 u52 u53 u54 u55 u56 u57 u58 u59 u60 u61 u62 u63 u64 u65 u66 u67 u68 u69 u70 u71 u72 u73 u74 u75 u76 u77 u78 u79 u80 u81 u82 u83 u84 u85 u86 u87 u88 u89 u90 u91 u92 u93 u94 u95 u96 u97 u98 u99 u100 u101 u102 u103 u104 u105 u106 u107 u108 u109 u110 u111 u112 u113 u114 u115 u116 u117 u118 u119 u120 u121 u122 u123 u124 u125 u126 u127 u128 u129 u130 u131 u132 u133 u134 u135 u136 u137 u138 u139 u140 u141 u142 u143 u144 u145 u146 u147 u148 u149 u150 u151 u152 u153 u154 u155 u156 u157 u158 u159 u160 u161 u162 u163 u164 u165 u166 u167 u168 u169 u170 u171 u172 u173 u174 u175 u176 u177 u178 u179 u180 u181 u182 u183 u184 u185 u186 u187 u188 u189 u190 u191 u192 u193 u194 u195 u196 u197 u198 u199 u200 u201 u202 u203 u204 u205 u206 u207 u208 u209 u210 u211 u212 u213 u214 u215 u216 u217 u218 u219 u220 u221 u222 u223 u224 u225 u226 u227 u228 u229 u230 u231 u232 u233 u234 u235 u236 u237 u238 u239 u240 u241 u242 u243 u244 u245 u246 u247 u248 u249 u250 u251 u252 u253 u254 u255 u256 u257 u258 u259 u260 u261 u262 u263 u264 u265 u266 u267 u268 u269 u270 u271 u275 u276 u277 u278 u279 u280 u281 u282 u283 u284 u285 u286 u287 u288 u289 u290 u291 u292 u293 u294 u295 u296 u297 u298 u299 u300 u301 u302 u303 : Value)
    (hexit : Hid (∀ (v6 v19 v20 v274 v275 v276 v277 v278 v279 v280 v281 v282 v283 v284 v285 v286 : Value) (w' : World), Hid (Below w.heap.size w w') → Q0 (.exit 8) ⟨List.toArray (u0 :: u1 :: u2 :: u3 :: u4 :: u5 :: v6 :: .pointer (some ⟨b1, 0, none⟩) :: u8 :: u9 :: u10 :: u11 :: u12 :: u13 :: u14 :: u15 :: u16 :: u17 :: u18 :: v19 :: v20 :: u21 :: u22 :: u23 :: u24 :: u25 :: u26 :: u27 :: u28 :: u29 :: u30 :: u31 :: u32 :: u33 :: u34 :: u35 :: u36 :: u37 :: u38 :: u39 :: u40 :: u41 :: u42 :: u43 :: u44 :: u45 :: u46 :: u47 :: u48 :: u49 :: u50 :: u51 :: u52 :: u53 :: u54 :: u55 :: u56 :: u57 :: u58 :: u59 :: u60 :: u61 :: u62 :: u63 :: u64 :: u65 :: u66 :: u67 :: u68 :: u69 :: u70 :: u71 :: u72 :: u73 :: u74 :: u75 :: u76 :: u77 :: u78 :: u79 :: u80 :: u81 :: u82 :: u83 :: u84 :: u85 :: u86 :: u87 :: u88 :: u89 :: u90 :: u91 :: u92 :: u93 :: u94 :: u95 :: u96 :: u97 :: u98 :: u99 :: u100 :: u101 :: u102 :: u103 :: u104 :: u105 :: u106 :: u107 :: u108 :: u109 :: u110 :: u111 :: u112 :: u113 :: u114 :: u115 :: u116 :: u117 :: u118 :: u119 :: u120 :: u121 :: u122 :: u123 :: u124 :: u125 :: u126 :: u127 :: u128 :: u129 :: u130 :: u131 :: u132 :: u133 :: u134 :: u135 :: u136 :: u137 :: u138 :: u139 :: u140 :: u141 :: u142 :: u143 :: u144 :: u145 :: u146 :: u147 :: u148 :: u149 :: u150 :: u151 :: u152 :: u153 :: u154 :: u155 :: u156 :: u157 :: u158 :: u159 :: u160 :: u161 :: u162 :: u163 :: u164 :: u165 :: u166 :: u167 :: u168 :: u169 :: u170 :: u171 :: u172 :: u173 :: u174 :: u175 :: u176 :: u177 :: u178 :: u179 :: u180 :: u181 :: u182 :: u183 :: u184 :: u185 :: u186 :: u187 :: u188 :: u189 :: u190 :: u191 :: u192 :: u193 :: u194 :: u195 :: u196 :: u197 :: u198 :: u199 :: u200 :: u201 :: u202 :: u203 :: u204 :: u205 :: u206 :: u207 :: u208 :: u209 :: u210 :: u211 :: u212 :: u213 :: u214 :: u215 :: u216 :: u217 :: u218 :: u219 :: u220 :: u221 :: u222 :: u223 :: u224 :: u225 :: u226 :: u227 :: u228 :: u229 :: u230 :: u231 :: u232 :: u233 :: u234 :: u235 :: u236 :: u237 :: u238 :: u239 :: u240 :: u241 :: u242 :: u243 :: u244 :: u245 :: u246 :: u247 :: u248 :: u249 :: u250 :: u251 :: u252 :: u253 :: u254 :: u255 :: u256 :: u257 :: u258 :: u259 :: u260 :: u261 :: u262 :: u263 :: u264 :: u265 :: u266 :: u267 :: u268 :: u269 :: u270 :: u271 :: .slice A3 s.ls.length c3 :: .int .i64 s.ls.length :: v274 :: v275 :: v276 :: v277 :: v278 :: v279 :: v280 :: v281 :: v282 :: v283 :: v284 :: v285 :: v286 :: u287 :: u288 :: u289 :: u290 :: u291 :: u292 :: u293 :: u294 :: u295 :: u296 :: u297 :: u298 :: u299 :: u300 :: u301 :: u302 :: u303 :: []), []⟩ w')) :
    Code.wp Try.prog (.loop code) Q0 ⟨List.toArray (u0 :: u1 :: u2 :: u3 :: u4 :: u5 :: u6 :: .pointer (some ⟨b1, 0, none⟩) :: u8 :: u9 :: u10 :: u11 :: u12 :: u13 :: u14 :: u15 :: u16 :: u17 :: u18 :: u19 :: u20 :: u21 :: u22 :: u23 :: u24 :: u25 :: u26 :: u27 :: u28 :: u29 :: u30 :: u31 :: u32 :: u33 :: u34 :: u35 :: u36 :: u37 :: u38 :: u39 :: u40 :: u41 :: u42 :: u43 :: u44 :: u45 :: u46 :: u47 :: u48 :: u49 :: u50 :: u51 :: u52 :: u53 :: u54 :: u55 :: u56 :: u57 :: u58 :: u59 :: u60 :: u61 :: u62 :: u63 :: u64 :: u65 :: u66 :: u67 :: u68 :: u69 :: u70 :: u71 :: u72 :: u73 :: u74 :: u75 :: u76 :: u77 :: u78 :: u79 :: u80 :: u81 :: u82 :: u83 :: u84 :: u85 :: u86 :: u87 :: u88 :: u89 :: u90 :: u91 :: u92 :: u93 :: u94 :: u95 :: u96 :: u97 :: u98 :: u99 :: u100 :: u101 :: u102 :: u103 :: u104 :: u105 :: u106 :: u107 :: u108 :: u109 :: u110 :: u111 :: u112 :: u113 :: u114 :: u115 :: u116 :: u117 :: u118 :: u119 :: u120 :: u121 :: u122 :: u123 :: u124 :: u125 :: u126 :: u127 :: u128 :: u129 :: u130 :: u131 :: u132 :: u133 :: u134 :: u135 :: u136 :: u137 :: u138 :: u139 :: u140 :: u141 :: u142 :: u143 :: u144 :: u145 :: u146 :: u147 :: u148 :: u149 :: u150 :: u151 :: u152 :: u153 :: u154 :: u155 :: u156 :: u157 :: u158 :: u159 :: u160 :: u161 :: u162 :: u163 :: u164 :: u165 :: u166 :: u167 :: u168 :: u169 :: u170 :: u171 :: u172 :: u173 :: u174 :: u175 :: u176 :: u177 :: u178 :: u179 :: u180 :: u181 :: u182 :: u183 :: u184 :: u185 :: u186 :: u187 :: u188 :: u189 :: u190 :: u191 :: u192 :: u193 :: u194 :: u195 :: u196 :: u197 :: u198 :: u199 :: u200 :: u201 :: u202 :: u203 :: u204 :: u205 :: u206 :: u207 :: u208 :: u209 :: u210 :: u211 :: u212 :: u213 :: u214 :: u215 :: u216 :: u217 :: u218 :: u219 :: u220 :: u221 :: u222 :: u223 :: u224 :: u225 :: u226 :: u227 :: u228 :: u229 :: u230 :: u231 :: u232 :: u233 :: u234 :: u235 :: u236 :: u237 :: u238 :: u239 :: u240 :: u241 :: u242 :: u243 :: u244 :: u245 :: u246 :: u247 :: u248 :: u249 :: u250 :: u251 :: u252 :: u253 :: u254 :: u255 :: u256 :: u257 :: u258 :: u259 :: u260 :: u261 :: u262 :: u263 :: u264 :: u265 :: u266 :: u267 :: u268 :: u269 :: u270 :: u271 :: .slice A3 s.ls.length c3 :: .int .i64 s.ls.length :: .int .i64 0 :: u275 :: u276 :: u277 :: u278 :: u279 :: u280 :: u281 :: u282 :: u283 :: u284 :: u285 :: u286 :: u287 :: u288 :: u289 :: u290 :: u291 :: u292 :: u293 :: u294 :: u295 :: u296 :: u297 :: u298 :: u299 :: u300 :: u301 :: u302 :: u303 :: []), []⟩ w := by
  subst hc
  conv => arg 2; arg 1; whnf
  have hneL := neLiS
  go_loopw [274] (fun t wr => ∃ (k : Nat) (wq : World), k ≤ s.ls.length ∧ t = .int .i64 (k : Int) ∧ wr = wq ∧ Hid (Below w.heap.size w wq)) (fun t _ => s.ls.length - (intOf t).toNat)
  case atStart => exact ⟨0, _, by omega, rfl, by trivial, Lib.hid (Below.refl _ _)⟩
  case round =>
    obtain ⟨k, wq, hk, rfl, rfl, HQ⟩ := hrel
    by_cases hlt : k < s.ls.length
    · obtain ⟨⟨la, lb⟩, hr⟩ : ∃ r, s.ls[k]? = some r := ⟨_, _root_.List.getElem?_eq_getElem hlt⟩
      obtain ⟨g1, o1, p1, q1, h1, h11⟩ := (HS.out.below HQ.out).atL hr
      obtain ⟨g2, o2, p2, q2, h2, h22⟩ := (O1.out.below HQ.out).atL hr
      simp only [Value.slice.injEq] at q1 q2
      obtain ⟨rfl, _, rfl⟩ := q1
      obtain ⟨rfl, _, rfl⟩ := q2
      have h1' : wr.cell? ⟨g1, o1 + k * 2, none⟩ = some (.string la) := h1
      have h11' : wr.cell? ⟨g1, o1 + k * 2 + 1, none⟩ = some (.string lb) := h11
      have h2' : wr.cell? ⟨g2, o2 + k * 2, none⟩ = some (.string la) := h2
      have h22' : wr.cell? ⟨g2, o2 + k * 2 + 1, none⟩ = some (.string lb) := h22
      clear h1 h11 h2 h22
      have hi0 : (0 : Int) ≤ (k : Int) := by omega
      have hi1 : (k : Int) < (s.ls.length : Int) := by omega
      have KZ := heap_alloc_new wr (.cells #[.string la, .string lb] 54)
      have hal := bel_alloc wr (.cells #[.string la, .string lb] 54)
      have H0 : Hid ((wr.alloc (.cells #[.string la, .string lb] 54)).cell? ⟨b1, 2, none⟩ = some (.slice (some ⟨g2, o2, none⟩) s.ls.length d13) ∧ (wr.alloc (.cells #[.string la, .string lb] 54)).cell? ⟨g2, o2 + k * 2, none⟩ = some (.string la) ∧ (wr.alloc (.cells #[.string la, .string lb] 54)).cell? ⟨g2, o2 + k * 2 + 1, none⟩ = some (.string lb) ∧ (wr.alloc (.cells #[.string la, .string lb] 54)).cell? ⟨wr.heap.size, 0, none⟩ = some (.string la) ∧ (wr.alloc (.cells #[.string la, .string lb] 54)).cell? ⟨wr.heap.size, 1, none⟩ = some (.string lb)) := Lib.hid ⟨cell_below hal (cell_below HQ.out K1.out), cell_below hal h2', cell_below hal h22', cellB KZ (i := 0) rfl, cellB KZ (i := 1) rfl⟩
      clear h2' h22' KZ
      go_wp2_with fail
      refine wp_region_noPanic ?_
      refine wp_region_held_drew (S := (fun w' => w'.cell? ⟨b1, 2, none⟩ = some (.slice (some ⟨g2, o2, none⟩) s.ls.length d13) ∧ w'.cell? ⟨g2, o2 + k * 2, none⟩ = some (.string la) ∧ w'.cell? ⟨g2, o2 + k * 2 + 1, none⟩ = some (.string lb) ∧ w'.cell? ⟨wr.heap.size, 0, none⟩ = some (.string la) ∧ w'.cell? ⟨wr.heap.size, 1, none⟩ = some (.string lb))) (by kernel_rfl) (by exact H0.out) (fun hHeld => ?_)
      refine wpAnyH_take (i := 0) (v := ?_) rfl (by kernel_rfl) (by kernel_rfl) (by kernel_rfl) (fun _ _ _ h => h) (Or.inl ⟨by rfl, ?_⟩) (by assumption) ?_
      rotate_left 1
      · (intro w hSw; (try dsimp only at hSw); first | (go_simp; done) | (go_simp; with_reducible rfl))
      try simp only [Act.put, List.getElem_toArray, List.getElem_cons_succ, List.getElem_cons_zero, List.setIfInBounds_toArray, List.set_cons_zero, List.set_cons_succ]
      refine wpAnyH_take (i := 1) (v := ?_) rfl (by kernel_rfl) (by kernel_rfl) (by kernel_rfl) (fun _ _ _ h => h) (Or.inl ⟨by rfl, ?_⟩) (by assumption) ?_
      rotate_left 1
      · (intro w hSw; (try dsimp only at hSw); first | (go_simp; done) | (go_simp; with_reducible rfl))
      try simp only [Act.put, List.getElem_toArray, List.getElem_cons_succ, List.getElem_cons_zero, List.setIfInBounds_toArray, List.set_cons_zero, List.set_cons_succ]
      refine wpAnyH_take (i := 2) (v := ?_) rfl (by kernel_rfl) (by kernel_rfl) (by kernel_rfl) (fun _ _ _ h => h) (Or.inl ⟨by rfl, ?_⟩) (by assumption) ?_
      rotate_left 1
      · (intro w hSw; (try dsimp only at hSw); first | (go_simp; done) | (go_simp; with_reducible rfl))
      try simp only [Act.put, List.getElem_toArray, List.getElem_cons_succ, List.getElem_cons_zero, List.setIfInBounds_toArray, List.set_cons_zero, List.set_cons_succ]
      refine wpAnyH_take (i := 3) (v := ?_) rfl (by kernel_rfl) (by kernel_rfl) (by kernel_rfl) (fun _ _ _ h => h) (Or.inl ⟨by rfl, ?_⟩) (by assumption) ?_
      rotate_left 1
      · (intro w hSw; (try dsimp only at hSw); first | (go_simp; done) | (go_simp; with_reducible rfl))
      try simp only [Act.put, List.getElem_toArray, List.getElem_cons_succ, List.getElem_cons_zero, List.setIfInBounds_toArray, List.set_cons_zero, List.set_cons_succ]
      refine wpAnyH_take (i := 4) (v := ?_) rfl (by kernel_rfl) (by kernel_rfl) (by kernel_rfl) (fun _ _ _ h => h) (Or.inl ⟨by rfl, ?_⟩) (by assumption) ?_
      rotate_left 1
      · (intro w hSw; (try dsimp only at hSw); first | (go_simp; done) | (go_simp; with_reducible rfl))
      try simp only [Act.put, List.getElem_toArray, List.getElem_cons_succ, List.getElem_cons_zero, List.setIfInBounds_toArray, List.set_cons_zero, List.set_cons_succ]
      refine wpAnyH_take (i := 5) (v := ?_) rfl (by kernel_rfl) (by kernel_rfl) (by kernel_rfl) (fun _ _ _ h => h) (Or.inl ⟨by rfl, ?_⟩) (by assumption) ?_
      rotate_left 1
      · (intro w hSw; (try dsimp only at hSw); first | (go_simp; done) | (go_simp; with_reducible rfl))
      try simp only [Act.put, List.getElem_toArray, List.getElem_cons_succ, List.getElem_cons_zero, List.setIfInBounds_toArray, List.set_cons_zero, List.set_cons_succ]
      refine wpAnyH_take (i := 6) (v := ?_) rfl (by kernel_rfl) (by kernel_rfl) (by kernel_rfl) (fun _ _ _ h => h) (Or.inl ⟨by rfl, ?_⟩) (by assumption) ?_
      rotate_left 1
      · (intro w hSw; (try dsimp only at hSw); first | (go_simp; done) | (go_simp; with_reducible rfl))
      try simp only [Act.put, List.getElem_toArray, List.getElem_cons_succ, List.getElem_cons_zero, List.setIfInBounds_toArray, List.set_cons_zero, List.set_cons_succ]
      refine wpAnyH_done (by kernel_rfl) ?_ _
      refine NoPanic.normal ?_
      clear hHeld
      go_wp2_with fail
      go_round
      case rel => exact ⟨k + 1, _, by omega, by go_num, rfl, Lib.hid (bel_trans HQ.out (Below.drew hal))⟩
      case measure => simp [intOf]; omega
    · obtain rfl : k = s.ls.length := by omega
      go_wp2_with fail
      exact hexit.out _ _ _ _ _ _ _ _ _ _ _ _ _ _ _ _ _ (HQ)

end Go.Proofs.Ytdlmlcgmonkdfaa
