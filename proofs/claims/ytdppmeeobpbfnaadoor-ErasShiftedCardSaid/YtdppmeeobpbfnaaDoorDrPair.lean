/-
  A pair of rules of a set by numbers (pair).
-/
import Derived.Test.YtdppmeeobpbfnaaDoorDrDay
namespace Go.Proofs.YtdppmeeobpbfnaaDoor
open Go.RowKit Cv
set_option linter.unusedVariables false
set_option linter.unusedSimpArgs false

namespace Cv
theorem there11 {V : World} {b : Nat} {t : TypeId} {a0 a1 a2 a3 a4 a5 a6 a7 a8 a9 a10 : Value} (h : V.heap[b]? = some (.cells #[a0, a1, a2, a3, a4, a5, a6, a7, a8, a9, a10] t)) : V.there b 0 11 := by
  intro j hj
  unfold World.cell? World.frozen?
  rw [h]
  have hc : j = 0 ∨ j = 1 ∨ j = 2 ∨ j = 3 ∨ j = 4 ∨ j = 5 ∨ j = 6 ∨ j = 7 ∨ j = 8 ∨ j = 9 ∨ j = 10 := by omega
  rcases hc with rfl | rfl | rfl | rfl | rfl | rfl | rfl | rfl | rfl | rfl | rfl <;> simp
theorem set11 {V : World} {b : Nat} {t : TypeId} {a0 a1 a2 a3 a4 a5 a6 a7 a8 a9 a10 d0 d1 d2 d3 d4 d5 d6 d7 d8 d9 d10 : Value} (h : V.heap[b]? = some (.cells #[a0, a1, a2, a3, a4, a5, a6, a7, a8, a9, a10] t)) :
    (V.setCells b 0 [d0, d1, d2, d3, d4, d5, d6, d7, d8, d9, d10]).heap[b]? = some (.cells #[d0, d1, d2, d3, d4, d5, d6, d7, d8, d9, d10] t) := by
  simp [World.setCells, World.setCell, Array.getElem?_modify, h]
theorem setc {V : World} {b j : Nat} {t : TypeId} {cs ds : Array Value} {v : Value} (h : V.heap[b]? = some (.cells cs t)) (hd : cs.setIfInBounds j v = ds) : (V.setCell ⟨b, j, none⟩ v).heap[b]? = some (.cells ds t) := by
  subst hd
  simp [World.setCell, Array.getElem?_modify, h]
theorem block_other1 {V : World} {b c j : Nat} {o : Obj} {v : Value} (h : V.heap[b]? = some o) (hne : b ≠ c) : (V.setCell ⟨c, j, none⟩ v).heap[b]? = some o := by
  simp [World.setCell, Array.getElem?_modify, Ne.symm hne, h]
theorem new_set2 (V : World) (b c i j : Nat) (u v : Value) (o : Obj) : (((V.setCell ⟨b, i, none⟩ u).setCell ⟨c, j, none⟩ v).alloc o).heap[V.heap.size]? = some o := by
  have h := heap_alloc_new ((V.setCell ⟨b, i, none⟩ u).setCell ⟨c, j, none⟩ v) o
  have e : ((V.setCell ⟨b, i, none⟩ u).setCell ⟨c, j, none⟩ v).heap.size = V.heap.size := by simp [World.setCell]
  rw [e] at h; exact h
/-- a day of a draft -/
def DayOk (k w d : Int) : Prop := (k = 2 ∧ d = 0 ∧ 0 ≤ w ∧ w ≤ 6) ∨ (k = 3 ∧ 0 ≤ w ∧ w ≤ 6 ∧ 1 ≤ d ∧ d ≤ 22) ∨ (k = 1 ∧ w = 0 ∧ 1 ≤ d ∧ d ≤ 28)
theorem dayv_ok (bs : _root_.List Int) (i : Int) : ∃ k w d : Int, dayv bs i = #[.int .i64 k, .int .i64 w, .int .i64 d] ∧ DayOk k w d := by
  have h1 := atv_bd bs i 7 (by decide)
  have h2 := atv_bd bs (i + 1) 4 (by decide)
  have h3 := atv_bd bs (i + 1) 28 (by decide)
  unfold dayv DayOk
  split
  · exact ⟨_, _, _, rfl, by omega⟩
  · split
    · exact ⟨_, _, _, rfl, by omega⟩
    · exact ⟨_, _, _, rfl, by omega⟩
/-- two rules of a draft, for some years -/
structure PairOk (fr ut save : Int) (ra rb : Ru) : Prop where
  fra : ra.fr = fr
  uta : ra.ut = ut
  frb : rb.fr = fr
  utb : rb.ut = ut
  moa : 2 ≤ ra.mo ∧ ra.mo ≤ 4
  mob : 8 ≤ rb.mo ∧ rb.mo ≤ 10
  daya : DayOk ra.k ra.w ra.d
  dayb : DayOk rb.k rb.w rb.d
  clka : 0 ≤ ra.sec ∧ ra.sec ≤ 86400 ∧ 0 ≤ ra.base ∧ ra.base ≤ 2
  clkb : 0 ≤ rb.sec ∧ rb.sec ≤ 86400 ∧ 0 ≤ rb.base ∧ rb.base ≤ 2
  saves : (ra.save = save ∧ rb.save = 0) ∨ (ra.save = 0 ∧ rb.save = save)
  les : ra.le.size ≤ 2 ∧ rb.le.size ≤ 2
  nas : ra.na = ⟨#[]⟩ ∧ rb.na = ⟨#[]⟩
/-- what pair returns -/
def PairR (fr ut save : Int) (W : World) (e : Ending) (W' : World) : Prop :=
  ∃ (ra rb : Ru) (b : Nat), PairOk fr ut save ra rb ∧ e = .returned (.slice (some ⟨b, 0, none⟩) 2 2) ∧ W'.heap[b]? = some (.cells (ra.arr.toList ++ rb.arr.toList).toArray 56) ∧ W.heap.size ≤ b ∧ Below W.heap.size W W'
end Cv

theorem day17_is {v : Value} {bs : _root_.List Int} {i k w d : Int} (hx : Hid (dayv bs i = #[.int .i64 k, .int .i64 w, .int .i64 d])) (hi1 : 0 ≤ i) (hi2 : i ≤ 900) (bl : Nat) (W : World) (h : Drf v bs W) (hc : W.cell? ⟨bl, 0, none⟩ = some v) :
    Calls Tryd.prog 40 (#[.int .i64 i] ++ #[.pointer (some ⟨bl, 0, none⟩)]) W fun e w' => e = .returned (.agg #[.int .i64 k, .int .i64 w, .int .i64 d]) ∧ Below W.heap.size W w' := by
  rw [← hx.out]
  exact day17_any v bs i bl W h hc hi1 hi2
theorem clock17_is {v : Value} {bs : _root_.List Int} {i t b : Int} (hx : Hid (atv bs i 49 = t)) (hy : Hid (atv bs (i + 1) 3 = b)) (hi1 : 0 ≤ i) (hi2 : i ≤ 900) (W : World) (h : Drf v bs W) :
    Calls Tryd.prog 29 #[v, .int .i64 i] W fun e w' => e = .returned (.agg #[.int .i64 (t * 1800), .int .i64 b]) ∧ Below W.heap.size W w' := by
  rw [← hx.out, ← hy.out]
  exact clock17_any v bs i W h hi1 hi2

set_option maxRecDepth 100000 in
set_option maxHeartbeats 8000000 in
theorem pair_any (v : Value) (bs : _root_.List Int) (i fr ut save : Int) (W : World) (h : Drf v bs W) (hi1 : 0 ≤ i) (hi2 : i ≤ 800) :
    Calls Tryd.prog 30 #[v, .int .i64 i, .int .i64 fr, .int .i64 ut, .int .i64 save] W (PairR fr ut save W) := by
  have H := Lib.hid h
  obtain ⟨A, cap, rfl⟩ := h.sl
  obtain ⟨n, hN⟩ : ∃ n, n = bs.length := ⟨_, rfl⟩
  clear h
  rw [← hN] at H ⊢
  clear hN
  have HC1 : Hid ((W.alloc (.cells #[.slice A n cap] 68)).cell? ⟨W.heap.size, 0, none⟩ = some (.slice A n cap)) := Lib.hid (cellB (heap_alloc_new W (.cells #[.slice A n cap] 68)) (i := 0) rfl)
  have HD1 := Lib.hid (H.out.below (bel_alloc W (.cells #[.slice A n cap] 68)))
  have HB1 := Lib.hid (bel_alloc W (.cells #[.slice A n cap] 68))
  obtain ⟨ma, hma⟩ : ∃ y, atv bs i 3 = y := ⟨_, rfl⟩
  have hbd := atv_bd bs i 3 (by decide)
  rw [hma] at hbd
  obtain ⟨hma1, hma2⟩ := hbd
  have Hma := Lib.hid hma
  clear hma
  have HMa := Lib.hid (at_is (v := .slice A n cap) Hma (by omega) (by omega) (by decide) (by decide))
  obtain ⟨ka, wa, da, hda, hoka⟩ := dayv_ok bs (i + 3)
  have HYa := Lib.hid (day17_is (v := .slice A n cap) (Lib.hid hda) (by omega) (by omega) W.heap.size)
  have HOa := Lib.hid hoka
  clear hda hoka
  obtain ⟨ta, hta⟩ : ∃ y, atv bs (i + 6) 49 = y := ⟨_, rfl⟩
  have hbd := atv_bd bs (i + 6) 49 (by decide)
  rw [hta] at hbd
  obtain ⟨hta1, hta2⟩ := hbd
  have Hta := Lib.hid hta
  clear hta
  obtain ⟨ba, hba⟩ : ∃ y, atv bs (i + 7) 3 = y := ⟨_, rfl⟩
  have hbd := atv_bd bs (i + 7) 3 (by decide)
  rw [hba] at hbd
  obtain ⟨hba1, hba2⟩ := hbd
  have Hba := Lib.hid hba
  clear hba
  have HKa := Lib.hid (clock17_is (v := .slice A n cap) (i := i + 6) (b := ba) Hta (by rw [show i + 6 + 1 = i + 7 by omega]; exact Hba) (by omega) (by omega))
  obtain ⟨ja, hja⟩ : ∃ y, atv bs (i + 8) 3 = y := ⟨_, rfl⟩
  have hbd := atv_bd bs (i + 8) 3 (by decide)
  rw [hja] at hbd
  obtain ⟨ja, rfl⟩ : ∃ k : Nat, ja = (k : Int) := ⟨ja.toNat, by omega⟩
  have hjab : ja < 3 := by omega
  clear hbd
  have Hja := Lib.hid hja
  clear hja
  have HJa := Lib.hid (at_is (v := .slice A n cap) Hja (by omega) (by omega) (by decide) (by decide))
  obtain ⟨la, hla, hsa⟩ : ∃ l : ByteArray, (∀ (V : World) (b : Nat), V.heap[b]? = some (.cells #[.string ⟨#[83]⟩, .string ⟨#[68]⟩, .string ⟨#[68, 84]⟩] 9) → V.cell? ⟨b, ja, none⟩ = some (.string l)) ∧ l.size ≤ 2 := by
    have hjc : ja = 0 ∨ ja = 1 ∨ ja = 2 := by omega
    rcases hjc with rfl | rfl | rfl
    · exact ⟨_, fun V b h => cellB h rfl, by decide⟩
    · exact ⟨_, fun V b h => cellB h rfl, by decide⟩
    · exact ⟨_, fun V b h => cellB h rfl, by decide⟩
  have HLa := Lib.hid hla
  clear hla Hma Hta Hba Hja
  obtain ⟨mb, hmb⟩ : ∃ y, atv bs (i + 1) 3 = y := ⟨_, rfl⟩
  have hbd := atv_bd bs (i + 1) 3 (by decide)
  rw [hmb] at hbd
  obtain ⟨hmb1, hmb2⟩ := hbd
  have Hmb := Lib.hid hmb
  clear hmb
  have HMb := Lib.hid (at_is (v := .slice A n cap) Hmb (by omega) (by omega) (by decide) (by decide))
  obtain ⟨kb, wb, db, hdb, hokb⟩ := dayv_ok bs (i + 9)
  have HYb := Lib.hid (day17_is (v := .slice A n cap) (Lib.hid hdb) (by omega) (by omega) W.heap.size)
  have HOb := Lib.hid hokb
  clear hdb hokb
  obtain ⟨tb, htb⟩ : ∃ y, atv bs (i + 12) 49 = y := ⟨_, rfl⟩
  have hbd := atv_bd bs (i + 12) 49 (by decide)
  rw [htb] at hbd
  obtain ⟨htb1, htb2⟩ := hbd
  have Htb := Lib.hid htb
  clear htb
  obtain ⟨bb, hbb⟩ : ∃ y, atv bs (i + 13) 3 = y := ⟨_, rfl⟩
  have hbd := atv_bd bs (i + 13) 3 (by decide)
  rw [hbb] at hbd
  obtain ⟨hbb1, hbb2⟩ := hbd
  have Hbb := Lib.hid hbb
  clear hbb
  have HKb := Lib.hid (clock17_is (v := .slice A n cap) (i := i + 12) (b := bb) Htb (by rw [show i + 12 + 1 = i + 13 by omega]; exact Hbb) (by omega) (by omega))
  obtain ⟨jb, hjb⟩ : ∃ y, atv bs (i + 14) 2 = y := ⟨_, rfl⟩
  have hbd := atv_bd bs (i + 14) 2 (by decide)
  rw [hjb] at hbd
  obtain ⟨jb, rfl⟩ : ∃ k : Nat, jb = (k : Int) := ⟨jb.toNat, by omega⟩
  have hjbb : jb < 2 := by omega
  clear hbd
  have Hjb := Lib.hid hjb
  clear hjb
  have HJb := Lib.hid (at_is (v := .slice A n cap) Hjb (by omega) (by omega) (by decide) (by decide))
  obtain ⟨lb, hlb, hsb⟩ : ∃ l : ByteArray, (∀ (V : World) (b : Nat), V.heap[b]? = some (.cells #[.string ⟨#[]⟩, .string ⟨#[83]⟩] 9) → V.cell? ⟨b, jb, none⟩ = some (.string l)) ∧ l.size ≤ 2 := by
    have hjc : jb = 0 ∨ jb = 1 := by omega
    rcases hjc with rfl | rfl
    · exact ⟨_, fun V b h => cellB h rfl, by decide⟩
    · exact ⟨_, fun V b h => cellB h rfl, by decide⟩
  have HLb := Lib.hid hlb
  clear hlb Hmb Htb Hbb Hjb
  obtain ⟨nsw, hnsw⟩ : ∃ y, atv bs (i + 2) 4 = y := ⟨_, rfl⟩
  have hbd := atv_bd bs (i + 2) 4 (by decide)
  rw [hnsw] at hbd
  obtain ⟨hnsw1, hnsw2⟩ := hbd
  have Hnsw := Lib.hid hnsw
  clear hnsw
  have HN := Lib.hid (at_is (v := .slice A n cap) Hnsw (by omega) (by omega) (by decide) (by decide))
  have HSS := Lib.hid (And.intro hsa hsb)
  clear hsa hsb
  have hv1 : IntKind.i64.wrap (i + 1) = i + 1 := IntWalk.i64_in _ (by omega)
  have hv3 : IntKind.i64.wrap (i + 3) = i + 3 := IntWalk.i64_in _ (by omega)
  have hv6 : IntKind.i64.wrap (i + 6) = i + 6 := IntWalk.i64_in _ (by omega)
  have hv8 : IntKind.i64.wrap (i + 8) = i + 8 := IntWalk.i64_in _ (by omega)
  have hv9 : IntKind.i64.wrap (i + 9) = i + 9 := IntWalk.i64_in _ (by omega)
  have hv12 : IntKind.i64.wrap (i + 12) = i + 12 := IntWalk.i64_in _ (by omega)
  have hv14 : IntKind.i64.wrap (i + 14) = i + 14 := IntWalk.i64_in _ (by omega)
  have hv2 : IntKind.i64.wrap (i + 2) = i + 2 := IntWalk.i64_in _ (by omega)
  have hva : IntKind.i64.wrap (2 + ma) = 2 + ma := IntWalk.i64_in _ (by omega)
  have hvb : IntKind.i64.wrap (8 + mb) = 8 + mb := IntWalk.i64_in _ (by omega)
  go_enter Tryd.func30, Tryd.ntmps30
  go_wp2_with fail
  refine Mono.wp_region_mono (by kernel_rfl) 26 24 (by kernel_rfl) (fun F ix => ([.int .i64 fr, .int .i64 ut, .slice A n cap, .int .i64 i, .int .i64 ma, .int .i64 (2 + ma), .func (.func 40) #[] #[.pointer (some ⟨W.heap.size, 0, none⟩)], .int .i64 i, .int .i64 (i + 3), .agg #[.int .i64 ka, .int .i64 wa, .int .i64 da], .slice A n cap, .int .i64 i, .int .i64 (i + 6), .agg #[.int .i64 (ta * 1800), .int .i64 ba], .int .i64 save, .slice (some ⟨(F 15), 0, none⟩) 3 3, .slice A n cap, .int .i64 i, .int .i64 (i + 8), .int .i64 ((ja : Int)), .pointer (some ⟨(F 15), ja, none⟩), .string la, .agg #[.string ⟨#[]⟩, .int .i64 fr, .int .i64 ut, .int .i64 (2 + ma), .int .i64 ka, .int .i64 wa, .int .i64 da, .int .i64 (ta * 1800), .int .i64 ba, .int .i64 save, .string la], .pointer (some ⟨(F 23), 0, none⟩)] : _root_.List Value).getD ix undef) (fun ix b w => (if ix = 15 then w.heap[b]? = some (.cells #[.string ⟨#[83]⟩, .string ⟨#[68]⟩, .string ⟨#[68, 84]⟩] 9) ∧ (W.heap.size + 1) ≤ b else (if ix = 23 then w.heap[b]? = some (.cells #[.string ⟨#[]⟩, .int .i64 0, .int .i64 0, .int .i64 0, .int .i64 0, .int .i64 0, .int .i64 0, .int .i64 0, .int .i64 0, .int .i64 0, .string ⟨#[]⟩] 56) ∧ (W.heap.size + 1) ≤ b else True))) ?_ ?_ ?_ (fun F => ⟨#[.slice A n cap, .int .i64 i, .int .i64 fr, .int .i64 ut, .int .i64 save, .pointer (some ⟨W.heap.size, 0, none⟩), undef, undef, undef, undef, .slice none 0 0, .func (.func 40) #[] #[.pointer (some ⟨W.heap.size, 0, none⟩)], .pointer (some ⟨(F 23), 0, none⟩), undef, .func (.func 40) #[] #[.pointer (some ⟨W.heap.size, 0, none⟩)], .int .i64 fr, .int .i64 ut, .slice A n cap, .int .i64 i, .int .i64 ma, .int .i64 (2 + ma), .func (.func 40) #[] #[.pointer (some ⟨W.heap.size, 0, none⟩)], .int .i64 i, .int .i64 (i + 3), .agg #[.int .i64 ka, .int .i64 wa, .int .i64 da], .slice A n cap, .int .i64 i, .int .i64 (i + 6), .agg #[.int .i64 (ta * 1800), .int .i64 ba], .int .i64 save, .slice (some ⟨(F 15), 0, none⟩) 3 3, .slice A n cap, .int .i64 i, .int .i64 (i + 8), .int .i64 ((ja : Int)), .pointer (some ⟨(F 15), ja, none⟩), .string la, .agg #[.string ⟨#[]⟩, .int .i64 fr, .int .i64 ut, .int .i64 (2 + ma), .int .i64 ka, .int .i64 wa, .int .i64 da, .int .i64 (ta * 1800), .int .i64 ba, .int .i64 save, .string la], undef, undef, undef, undef, undef, undef, undef, undef, undef, undef, undef, undef, undef, undef, undef, undef, undef, undef, undef, undef, undef, undef, undef, undef, undef, undef, undef, undef, undef, undef, undef, undef, undef, undef, undef, undef, undef], []⟩) (fun F => by kernel_rfl) ?_
  · intro ix b w w' h hb
    by_cases e15 : ix = 15
    · rw [if_pos e15] at h ⊢; exact ⟨block_below h.1 hb, h.2⟩
    · rw [if_neg e15] at h ⊢
      by_cases e23 : ix = 23
      · rw [if_pos e23] at h ⊢; exact ⟨block_below h.1 hb, h.2⟩
      · rw [if_neg e23]; trivial
  · intro F F' ix hi h
    have hic : ix = 0 ∨ ix = 1 ∨ ix = 2 ∨ ix = 3 ∨ ix = 4 ∨ ix = 5 ∨ ix = 6 ∨ ix = 7 ∨ ix = 8 ∨ ix = 9 ∨ ix = 10 ∨ ix = 11 ∨ ix = 12 ∨ ix = 13 ∨ ix = 14 ∨ ix = 15 ∨ ix = 16 ∨ ix = 17 ∨ ix = 18 ∨ ix = 19 ∨ ix = 20 ∨ ix = 21 ∨ ix = 22 ∨ ix = 23 := by omega
    rcases hic with rfl | rfl | rfl | rfl | rfl | rfl | rfl | rfl | rfl | rfl | rfl | rfl | rfl | rfl | rfl | rfl | rfl | rfl | rfl | rfl | rfl | rfl | rfl | rfl
    · rfl
    · rfl
    · rfl
    · rfl
    · rfl
    · rfl
    · rfl
    · rfl
    · rfl
    · rfl
    · rfl
    · rfl
    · rfl
    · rfl
    · rfl
    · have e : F 15 = F' 15 := h 15 (by decide) (.inl rfl)
      exact congrArg (fun z : Nat => (.slice (some ⟨z, 0, none⟩) 3 3 : Value)) e
    · rfl
    · rfl
    · rfl
    · rfl
    · have e : F 15 = F' 15 := h 15 (by decide) (.inr (by kernel_rfl))
      exact congrArg (fun z : Nat => (.pointer (some ⟨z, ja, none⟩) : Value)) e
    · rfl
    · rfl
    · have e : F 23 = F' 23 := h 23 (by decide) (.inl rfl)
      exact congrArg (fun z : Nat => (.pointer (some ⟨z, 0, none⟩) : Value)) e
  · intro ix o F a w ho hi hb hd hf hr
    have hic : ix = 0 ∨ ix = 1 ∨ ix = 2 ∨ ix = 3 ∨ ix = 4 ∨ ix = 5 ∨ ix = 6 ∨ ix = 7 ∨ ix = 8 ∨ ix = 9 ∨ ix = 10 ∨ ix = 11 ∨ ix = 12 ∨ ix = 13 ∨ ix = 14 ∨ ix = 15 ∨ ix = 16 ∨ ix = 17 ∨ ix = 18 ∨ ix = 19 ∨ ix = 20 ∨ ix = 21 ∨ ix = 22 ∨ ix = 23 := by omega
    clear hi hd
    rcases hic with rfl | rfl | rfl | rfl | rfl | rfl | rfl | rfl | rfl | rfl | rfl | rfl | rfl | rfl | rfl | rfl | rfl | rfl | rfl | rfl | rfl | rfl | rfl | rfl
    · obtain rfl := Option.some.inj (show some _ = some o from ho)
      have ht2 : a.tmps.getD 2 undef = .int .i64 fr := hr 2 (by kernel_rfl)
      have hT2 : a.tmps[2]?.getD undef = .int .i64 fr := by rw [← Array.getD_eq_getD_getElem?]; exact ht2
      clear hf hr
      refine YieldsIf.wpOp (S := fun w' => w' = w) (v := .int .i64 fr) rfl (.inl ⟨by rfl, fun w' hw => ?_⟩) rfl ⟨0, rfl, Below.refl _ _, trivial⟩
      subst hw
      first | (go_simp; done) | (go_simp; with_reducible rfl) | (go_simp; intro hbad; exfalso; omega)
    · obtain rfl := Option.some.inj (show some _ = some o from ho)
      have ht3 : a.tmps.getD 3 undef = .int .i64 ut := hr 3 (by kernel_rfl)
      have hT3 : a.tmps[3]?.getD undef = .int .i64 ut := by rw [← Array.getD_eq_getD_getElem?]; exact ht3
      clear hf hr
      refine YieldsIf.wpOp (S := fun w' => w' = w) (v := .int .i64 ut) rfl (.inl ⟨by rfl, fun w' hw => ?_⟩) rfl ⟨0, rfl, Below.refl _ _, trivial⟩
      subst hw
      first | (go_simp; done) | (go_simp; with_reducible rfl) | (go_simp; intro hbad; exfalso; omega)
    · obtain rfl := Option.some.inj (show some _ = some o from ho)
      have ht5 : a.tmps.getD 5 undef = .pointer (some ⟨W.heap.size, 0, none⟩) := hr 5 (by kernel_rfl)
      have hT5 : a.tmps[5]?.getD undef = .pointer (some ⟨W.heap.size, 0, none⟩) := by rw [← Array.getD_eq_getD_getElem?]; exact ht5
      have hcl : w.cell? ⟨W.heap.size, 0, none⟩ = some (.slice A n cap) := cell_below hb HC1.out
      clear hf hr
      refine YieldsIf.wpOp (S := fun w' => w' = w) (v := .slice A n cap) rfl (.inl ⟨by rfl, fun w' hw => ?_⟩) rfl ⟨0, rfl, Below.refl _ _, trivial⟩
      subst hw
      first | (go_simp; done) | (go_simp; with_reducible rfl) | (go_simp; intro hbad; exfalso; omega)
    · obtain rfl := Option.some.inj (show some _ = some o from ho)
      have ht1 : a.tmps.getD 1 undef = .int .i64 i := hr 1 (by kernel_rfl)
      have hT1 : a.tmps[1]?.getD undef = .int .i64 i := by rw [← Array.getD_eq_getD_getElem?]; exact ht1
      clear hf hr
      refine YieldsIf.wpOp (S := fun w' => w' = w) (v := .int .i64 i) rfl (.inl ⟨by rfl, fun w' hw => ?_⟩) rfl ⟨0, rfl, Below.refl _ _, trivial⟩
      subst hw
      first | (go_simp; done) | (go_simp; with_reducible rfl) | (go_simp; intro hbad; exfalso; omega)
    · obtain rfl := Option.some.inj (show some _ = some o from ho)
      have hs2 : a.tmps.getD 17 undef = .slice A n cap := (hf 2 (by decide) (by kernel_rfl)).2 _ _ rfl rfl
      have hs3 : a.tmps.getD 18 undef = .int .i64 i := (hf 3 (by decide) (by kernel_rfl)).2 _ _ rfl rfl
      have hS2 : a.tmps[17]?.getD undef = .slice A n cap := by rw [← Array.getD_eq_getD_getElem?]; exact hs2
      have hS3 : a.tmps[18]?.getD undef = .int .i64 i := by rw [← Array.getD_eq_getD_getElem?]; exact hs3
      clear hf hr
      refine wpOp_step rfl (fun K hK => ?_)
      replace hK := Lib.hid hK
      rw [if_pos (by rfl)]
      go_simp
      refine (HMa.out _ (HD1.out.below hb)).mono ?_
      rintro e w' ⟨rfl, rfl⟩
      go_wp2_with fail
      exact hK.out _ _ ⟨0, rfl, Below.refl _ _, trivial⟩
    · obtain rfl := Option.some.inj (show some _ = some o from ho)
      have hs4 : a.tmps.getD 19 undef = .int .i64 ma := (hf 4 (by decide) (by kernel_rfl)).2 _ _ rfl rfl
      have hS4 : a.tmps[19]?.getD undef = .int .i64 ma := by rw [← Array.getD_eq_getD_getElem?]; exact hs4
      clear hf hr
      refine YieldsIf.wpOp (S := fun w' => w' = w) (v := .int .i64 (2 + ma)) rfl (.inl ⟨by rfl, fun w' hw => ?_⟩) rfl ⟨0, rfl, Below.refl _ _, trivial⟩
      subst hw
      first | (go_simp; done) | (go_simp; with_reducible rfl) | (go_simp; intro hbad; exfalso; omega)
    · obtain rfl := Option.some.inj (show some _ = some o from ho)
      have ht11 : a.tmps.getD 11 undef = .func (.func 40) #[] #[.pointer (some ⟨W.heap.size, 0, none⟩)] := hr 11 (by kernel_rfl)
      have hT11 : a.tmps[11]?.getD undef = .func (.func 40) #[] #[.pointer (some ⟨W.heap.size, 0, none⟩)] := by rw [← Array.getD_eq_getD_getElem?]; exact ht11
      clear hf hr
      refine YieldsIf.wpOp (S := fun w' => w' = w) (v := .func (.func 40) #[] #[.pointer (some ⟨W.heap.size, 0, none⟩)]) rfl (.inl ⟨by rfl, fun w' hw => ?_⟩) rfl ⟨0, rfl, Below.refl _ _, trivial⟩
      subst hw
      first | (go_simp; done) | (go_simp; with_reducible rfl) | (go_simp; intro hbad; exfalso; omega)
    · obtain rfl := Option.some.inj (show some _ = some o from ho)
      have ht1 : a.tmps.getD 1 undef = .int .i64 i := hr 1 (by kernel_rfl)
      have hT1 : a.tmps[1]?.getD undef = .int .i64 i := by rw [← Array.getD_eq_getD_getElem?]; exact ht1
      clear hf hr
      refine YieldsIf.wpOp (S := fun w' => w' = w) (v := .int .i64 i) rfl (.inl ⟨by rfl, fun w' hw => ?_⟩) rfl ⟨0, rfl, Below.refl _ _, trivial⟩
      subst hw
      first | (go_simp; done) | (go_simp; with_reducible rfl) | (go_simp; intro hbad; exfalso; omega)
    · obtain rfl := Option.some.inj (show some _ = some o from ho)
      have hs7 : a.tmps.getD 22 undef = .int .i64 i := (hf 7 (by decide) (by kernel_rfl)).2 _ _ rfl rfl
      have hS7 : a.tmps[22]?.getD undef = .int .i64 i := by rw [← Array.getD_eq_getD_getElem?]; exact hs7
      clear hf hr
      refine YieldsIf.wpOp (S := fun w' => w' = w) (v := .int .i64 (i + 3)) rfl (.inl ⟨by rfl, fun w' hw => ?_⟩) rfl ⟨0, rfl, Below.refl _ _, trivial⟩
      subst hw
      first | (go_simp; done) | (go_simp; with_reducible rfl) | (go_simp; intro hbad; exfalso; omega)
    · obtain rfl := Option.some.inj (show some _ = some o from ho)
      have hs6 : a.tmps.getD 21 undef = .func (.func 40) #[] #[.pointer (some ⟨W.heap.size, 0, none⟩)] := (hf 6 (by decide) (by kernel_rfl)).2 _ _ rfl rfl
      have hs8 : a.tmps.getD 23 undef = .int .i64 (i + 3) := (hf 8 (by decide) (by kernel_rfl)).2 _ _ rfl rfl
      have hS6 : a.tmps[21]?.getD undef = .func (.func 40) #[] #[.pointer (some ⟨W.heap.size, 0, none⟩)] := by rw [← Array.getD_eq_getD_getElem?]; exact hs6
      have hS8 : a.tmps[23]?.getD undef = .int .i64 (i + 3) := by rw [← Array.getD_eq_getD_getElem?]; exact hs8
      clear hf hr
      refine wpOp_step rfl (fun K hK => ?_)
      replace hK := Lib.hid hK
      rw [if_pos (by rfl)]
      go_simp
      refine (HYa.out _ (HD1.out.below hb) (cell_below hb HC1.out)).mono ?_
      rintro e w' ⟨rfl, hb'⟩
      go_wp2_with fail
      exact hK.out _ _ ⟨0, rfl, hb', trivial⟩
    · obtain rfl := Option.some.inj (show some _ = some o from ho)
      have ht5 : a.tmps.getD 5 undef = .pointer (some ⟨W.heap.size, 0, none⟩) := hr 5 (by kernel_rfl)
      have hT5 : a.tmps[5]?.getD undef = .pointer (some ⟨W.heap.size, 0, none⟩) := by rw [← Array.getD_eq_getD_getElem?]; exact ht5
      have hcl : w.cell? ⟨W.heap.size, 0, none⟩ = some (.slice A n cap) := cell_below hb HC1.out
      clear hf hr
      refine YieldsIf.wpOp (S := fun w' => w' = w) (v := .slice A n cap) rfl (.inl ⟨by rfl, fun w' hw => ?_⟩) rfl ⟨0, rfl, Below.refl _ _, trivial⟩
      subst hw
      first | (go_simp; done) | (go_simp; with_reducible rfl) | (go_simp; intro hbad; exfalso; omega)
    · obtain rfl := Option.some.inj (show some _ = some o from ho)
      have ht1 : a.tmps.getD 1 undef = .int .i64 i := hr 1 (by kernel_rfl)
      have hT1 : a.tmps[1]?.getD undef = .int .i64 i := by rw [← Array.getD_eq_getD_getElem?]; exact ht1
      clear hf hr
      refine YieldsIf.wpOp (S := fun w' => w' = w) (v := .int .i64 i) rfl (.inl ⟨by rfl, fun w' hw => ?_⟩) rfl ⟨0, rfl, Below.refl _ _, trivial⟩
      subst hw
      first | (go_simp; done) | (go_simp; with_reducible rfl) | (go_simp; intro hbad; exfalso; omega)
    · obtain rfl := Option.some.inj (show some _ = some o from ho)
      have hs11 : a.tmps.getD 26 undef = .int .i64 i := (hf 11 (by decide) (by kernel_rfl)).2 _ _ rfl rfl
      have hS11 : a.tmps[26]?.getD undef = .int .i64 i := by rw [← Array.getD_eq_getD_getElem?]; exact hs11
      clear hf hr
      refine YieldsIf.wpOp (S := fun w' => w' = w) (v := .int .i64 (i + 6)) rfl (.inl ⟨by rfl, fun w' hw => ?_⟩) rfl ⟨0, rfl, Below.refl _ _, trivial⟩
      subst hw
      first | (go_simp; done) | (go_simp; with_reducible rfl) | (go_simp; intro hbad; exfalso; omega)
    · obtain rfl := Option.some.inj (show some _ = some o from ho)
      have hs10 : a.tmps.getD 25 undef = .slice A n cap := (hf 10 (by decide) (by kernel_rfl)).2 _ _ rfl rfl
      have hs12 : a.tmps.getD 27 undef = .int .i64 (i + 6) := (hf 12 (by decide) (by kernel_rfl)).2 _ _ rfl rfl
      have hS10 : a.tmps[25]?.getD undef = .slice A n cap := by rw [← Array.getD_eq_getD_getElem?]; exact hs10
      have hS12 : a.tmps[27]?.getD undef = .int .i64 (i + 6) := by rw [← Array.getD_eq_getD_getElem?]; exact hs12
      clear hf hr
      refine wpOp_step rfl (fun K hK => ?_)
      replace hK := Lib.hid hK
      rw [if_pos (by rfl)]
      go_simp
      refine (HKa.out _ (HD1.out.below hb)).mono ?_
      rintro e w' ⟨rfl, hb'⟩
      go_wp2_with fail
      exact hK.out _ _ ⟨0, rfl, hb', trivial⟩
    · obtain rfl := Option.some.inj (show some _ = some o from ho)
      have ht4 : a.tmps.getD 4 undef = .int .i64 save := hr 4 (by kernel_rfl)
      have hT4 : a.tmps[4]?.getD undef = .int .i64 save := by rw [← Array.getD_eq_getD_getElem?]; exact ht4
      clear hf hr
      refine YieldsIf.wpOp (S := fun w' => w' = w) (v := .int .i64 save) rfl (.inl ⟨by rfl, fun w' hw => ?_⟩) rfl ⟨0, rfl, Below.refl _ _, trivial⟩
      subst hw
      first | (go_simp; done) | (go_simp; with_reducible rfl) | (go_simp; intro hbad; exfalso; omega)
    · obtain rfl := Option.some.inj (show some _ = some o from ho)
      clear hf hr
      have hsz : (W.heap.size + 1) ≤ w.heap.size := by have := hb.size; simpa using this
      refine wpOp_step rfl (fun K hK => ?_)
      rw [if_pos (by rfl)]
      go_simp
      exact hK _ _ ⟨w.heap.size, rfl, bel_alloc _ _, ⟨heap_alloc_new _ _, hsz⟩⟩
    · obtain rfl := Option.some.inj (show some _ = some o from ho)
      have ht5 : a.tmps.getD 5 undef = .pointer (some ⟨W.heap.size, 0, none⟩) := hr 5 (by kernel_rfl)
      have hT5 : a.tmps[5]?.getD undef = .pointer (some ⟨W.heap.size, 0, none⟩) := by rw [← Array.getD_eq_getD_getElem?]; exact ht5
      have hcl : w.cell? ⟨W.heap.size, 0, none⟩ = some (.slice A n cap) := cell_below hb HC1.out
      clear hf hr
      refine YieldsIf.wpOp (S := fun w' => w' = w) (v := .slice A n cap) rfl (.inl ⟨by rfl, fun w' hw => ?_⟩) rfl ⟨0, rfl, Below.refl _ _, trivial⟩
      subst hw
      first | (go_simp; done) | (go_simp; with_reducible rfl) | (go_simp; intro hbad; exfalso; omega)
    · obtain rfl := Option.some.inj (show some _ = some o from ho)
      have ht1 : a.tmps.getD 1 undef = .int .i64 i := hr 1 (by kernel_rfl)
      have hT1 : a.tmps[1]?.getD undef = .int .i64 i := by rw [← Array.getD_eq_getD_getElem?]; exact ht1
      clear hf hr
      refine YieldsIf.wpOp (S := fun w' => w' = w) (v := .int .i64 i) rfl (.inl ⟨by rfl, fun w' hw => ?_⟩) rfl ⟨0, rfl, Below.refl _ _, trivial⟩
      subst hw
      first | (go_simp; done) | (go_simp; with_reducible rfl) | (go_simp; intro hbad; exfalso; omega)
    · obtain rfl := Option.some.inj (show some _ = some o from ho)
      have hs17 : a.tmps.getD 32 undef = .int .i64 i := (hf 17 (by decide) (by kernel_rfl)).2 _ _ rfl rfl
      have hS17 : a.tmps[32]?.getD undef = .int .i64 i := by rw [← Array.getD_eq_getD_getElem?]; exact hs17
      clear hf hr
      refine YieldsIf.wpOp (S := fun w' => w' = w) (v := .int .i64 (i + 8)) rfl (.inl ⟨by rfl, fun w' hw => ?_⟩) rfl ⟨0, rfl, Below.refl _ _, trivial⟩
      subst hw
      first | (go_simp; done) | (go_simp; with_reducible rfl) | (go_simp; intro hbad; exfalso; omega)
    · obtain rfl := Option.some.inj (show some _ = some o from ho)
      have hs16 : a.tmps.getD 31 undef = .slice A n cap := (hf 16 (by decide) (by kernel_rfl)).2 _ _ rfl rfl
      have hs18 : a.tmps.getD 33 undef = .int .i64 (i + 8) := (hf 18 (by decide) (by kernel_rfl)).2 _ _ rfl rfl
      have hS16 : a.tmps[31]?.getD undef = .slice A n cap := by rw [← Array.getD_eq_getD_getElem?]; exact hs16
      have hS18 : a.tmps[33]?.getD undef = .int .i64 (i + 8) := by rw [← Array.getD_eq_getD_getElem?]; exact hs18
      clear hf hr
      refine wpOp_step rfl (fun K hK => ?_)
      replace hK := Lib.hid hK
      rw [if_pos (by rfl)]
      go_simp
      refine (HJa.out _ (HD1.out.below hb)).mono ?_
      rintro e w' ⟨rfl, rfl⟩
      go_wp2_with fail
      exact hK.out _ _ ⟨0, rfl, Below.refl _ _, trivial⟩
    · obtain rfl := Option.some.inj (show some _ = some o from ho)
      have hs15 : a.tmps.getD 30 undef = .slice (some ⟨(F 15), 0, none⟩) 3 3 := (hf 15 (by decide) (by kernel_rfl)).2 _ _ rfl rfl
      have hs19 : a.tmps.getD 34 undef = .int .i64 ((ja : Int)) := (hf 19 (by decide) (by kernel_rfl)).2 _ _ rfl rfl
      have hS15 : a.tmps[30]?.getD undef = .slice (some ⟨(F 15), 0, none⟩) 3 3 := by rw [← Array.getD_eq_getD_getElem?]; exact hs15
      have hS19 : a.tmps[34]?.getD undef = .int .i64 ((ja : Int)) := by rw [← Array.getD_eq_getD_getElem?]; exact hs19
      clear hf hr
      refine YieldsIf.wpOp (S := fun w' => w' = w) (v := .pointer (some ⟨(F 15), ja, none⟩)) rfl (.inl ⟨by rfl, fun w' hw => ?_⟩) rfl ⟨0, rfl, Below.refl _ _, trivial⟩
      subst hw
      first | (go_simp; done) | (go_simp; with_reducible rfl) | (go_simp; intro hbad; exfalso; omega)
    · obtain rfl := Option.some.inj (show some _ = some o from ho)
      have hs20 : a.tmps.getD 35 undef = .pointer (some ⟨(F 15), ja, none⟩) := (hf 20 (by decide) (by kernel_rfl)).2 _ _ rfl rfl
      have hS20 : a.tmps[35]?.getD undef = .pointer (some ⟨(F 15), ja, none⟩) := by rw [← Array.getD_eq_getD_getElem?]; exact hs20
      have hn := (hf 15 (by decide) (by kernel_rfl)).1
      have hl0 := HLa.out _ _ hn.1
      clear hf hr
      refine YieldsIf.wpOp (S := fun w' => w' = w) (v := .string la) rfl (.inl ⟨by rfl, fun w' hw => ?_⟩) rfl ⟨0, rfl, Below.refl _ _, trivial⟩
      subst hw
      first | (go_simp; done) | (go_simp; with_reducible rfl) | (go_simp; intro hbad; exfalso; omega)
    · obtain rfl := Option.some.inj (show some _ = some o from ho)
      have hs0 : a.tmps.getD 15 undef = .int .i64 fr := (hf 0 (by decide) (by kernel_rfl)).2 _ _ rfl rfl
      have hs1 : a.tmps.getD 16 undef = .int .i64 ut := (hf 1 (by decide) (by kernel_rfl)).2 _ _ rfl rfl
      have hs5 : a.tmps.getD 20 undef = .int .i64 (2 + ma) := (hf 5 (by decide) (by kernel_rfl)).2 _ _ rfl rfl
      have hs9 : a.tmps.getD 24 undef = .agg #[.int .i64 ka, .int .i64 wa, .int .i64 da] := (hf 9 (by decide) (by kernel_rfl)).2 _ _ rfl rfl
      have hs13 : a.tmps.getD 28 undef = .agg #[.int .i64 (ta * 1800), .int .i64 ba] := (hf 13 (by decide) (by kernel_rfl)).2 _ _ rfl rfl
      have hs14 : a.tmps.getD 29 undef = .int .i64 save := (hf 14 (by decide) (by kernel_rfl)).2 _ _ rfl rfl
      have hs21 : a.tmps.getD 36 undef = .string la := (hf 21 (by decide) (by kernel_rfl)).2 _ _ rfl rfl
      have hS0 : a.tmps[15]?.getD undef = .int .i64 fr := by rw [← Array.getD_eq_getD_getElem?]; exact hs0
      have hS1 : a.tmps[16]?.getD undef = .int .i64 ut := by rw [← Array.getD_eq_getD_getElem?]; exact hs1
      have hS5 : a.tmps[20]?.getD undef = .int .i64 (2 + ma) := by rw [← Array.getD_eq_getD_getElem?]; exact hs5
      have hS9 : a.tmps[24]?.getD undef = .agg #[.int .i64 ka, .int .i64 wa, .int .i64 da] := by rw [← Array.getD_eq_getD_getElem?]; exact hs9
      have hS13 : a.tmps[28]?.getD undef = .agg #[.int .i64 (ta * 1800), .int .i64 ba] := by rw [← Array.getD_eq_getD_getElem?]; exact hs13
      have hS14 : a.tmps[29]?.getD undef = .int .i64 save := by rw [← Array.getD_eq_getD_getElem?]; exact hs14
      have hS21 : a.tmps[36]?.getD undef = .string la := by rw [← Array.getD_eq_getD_getElem?]; exact hs21
      clear hf hr
      refine YieldsIf.wpOp (S := fun w' => w' = w) (v := .agg #[.string ⟨#[]⟩, .int .i64 fr, .int .i64 ut, .int .i64 (2 + ma), .int .i64 ka, .int .i64 wa, .int .i64 da, .int .i64 (ta * 1800), .int .i64 ba, .int .i64 save, .string la]) rfl (.inl ⟨by rfl, fun w' hw => ?_⟩) rfl ⟨0, rfl, Below.refl _ _, trivial⟩
      subst hw
      first | (go_simp; done) | (go_simp; with_reducible rfl) | (go_simp; intro hbad; exfalso; omega)
    · obtain rfl := Option.some.inj (show some _ = some o from ho)
      clear hf hr
      have hsz : (W.heap.size + 1) ≤ w.heap.size := by have := hb.size; simpa using this
      refine wpOp_step rfl (fun K hK => ?_)
      rw [if_pos (by rfl)]
      go_simp
      exact hK _ _ ⟨w.heap.size, rfl, bel_alloc _ _, ⟨heap_alloc_new _ _, hsz⟩⟩
  · intro Fa w hb hps
    obtain ⟨hn15, hg15⟩ : w.heap[Fa 15]? = some (.cells #[.string ⟨#[83]⟩, .string ⟨#[68]⟩, .string ⟨#[68, 84]⟩] 9) ∧ (W.heap.size + 1) ≤ Fa 15 := hps 15 (by decide)
    obtain ⟨hn23, hg23⟩ : w.heap[Fa 23]? = some (.cells #[.string ⟨#[]⟩, .int .i64 0, .int .i64 0, .int .i64 0, .int .i64 0, .int .i64 0, .int .i64 0, .int .i64 0, .int .i64 0, .int .i64 0, .string ⟨#[]⟩] 56) ∧ (W.heap.size + 1) ≤ Fa 23 := hps 23 (by decide)
    clear hps
    refine wpOp_step rfl (fun K hK => ?_)
    rw [if_pos (by rfl)]
    refine wp_store_mid _ _ _ rfl (Fa 23) 0 #[.string ⟨#[]⟩, .int .i64 fr, .int .i64 ut, .int .i64 (2 + ma), .int .i64 ka, .int .i64 wa, .int .i64 da, .int .i64 (ta * 1800), .int .i64 ba, .int .i64 save, .string la] rfl rfl (there11 hn23) (by kernel_rfl) (by simp [Value.oneCell']) ?_
    refine hK _ _ ?_
    have HZ := Lib.hid (show W.heap.size + 1 ≤ W.heap.size + 1 from Nat.le_refl _)
    have hR := Lib.hid (set11 (d0 := .string ⟨#[]⟩) (d1 := .int .i64 fr) (d2 := .int .i64 ut) (d3 := .int .i64 (2 + ma)) (d4 := .int .i64 ka) (d5 := .int .i64 wa) (d6 := .int .i64 da) (d7 := .int .i64 (ta * 1800)) (d8 := .int .i64 ba) (d9 := .int .i64 save) (d10 := .string la) hn23)
    have hB := Lib.hid (bel_setCells (b := Fa 23) (o := 0) (l := [.string ⟨#[]⟩, .int .i64 fr, .int .i64 ut, .int .i64 (2 + ma), .int .i64 ka, .int .i64 wa, .int .i64 da, .int .i64 (ta * 1800), .int .i64 ba, .int .i64 save, .string la]) (bel_trans HB1.out hb) (by have := HZ.out; omega))
    have hC := Lib.hid (cell_setCells (o := 0) (l := [.string ⟨#[]⟩, .int .i64 fr, .int .i64 ut, .int .i64 (2 + ma), .int .i64 ka, .int .i64 wa, .int .i64 da, .int .i64 (ta * 1800), .int .i64 ba, .int .i64 save, .string la]) (cell_below hb HC1.out) (by omega : W.heap.size ≠ Fa 23))
    clear hK K
    generalize w.setCells (Fa 23) 0 [.string ⟨#[]⟩, .int .i64 fr, .int .i64 ut, .int .i64 (2 + ma), .int .i64 ka, .int .i64 wa, .int .i64 da, .int .i64 (ta * 1800), .int .i64 ba, .int .i64 save, .string la] = W2 at hR hB hC ⊢
    have HR := hR; have HB2 := hB; have HC2 := hC
    have HD2 := Lib.hid (H.out.below hB.out)
    have hlt := (Array.getElem?_eq_some_iff.1 hR.out).1
    have HZ := Lib.hid (show W.heap.size + 1 ≤ W2.heap.size by omega)
    have HFA := Lib.hid (show W.heap.size + 1 ≤ Fa 23 by omega)
    clear hR hB hC hn15 hg15 hn23 hb hlt
    go_wp2_with fail
    refine Mono.wp_region_mono (by kernel_rfl) 26 24 (by kernel_rfl) (fun F ix => ([.int .i64 fr, .int .i64 ut, .slice A n cap, .int .i64 i, .int .i64 (i + 1), .int .i64 mb, .int .i64 (8 + mb), .func (.func 40) #[] #[.pointer (some ⟨W.heap.size, 0, none⟩)], .int .i64 i, .int .i64 (i + 9), .agg #[.int .i64 kb, .int .i64 wb, .int .i64 db], .slice A n cap, .int .i64 i, .int .i64 (i + 12), .agg #[.int .i64 (tb * 1800), .int .i64 bb], .slice (some ⟨(F 15), 0, none⟩) 2 2, .slice A n cap, .int .i64 i, .int .i64 (i + 14), .int .i64 ((jb : Int)), .pointer (some ⟨(F 15), jb, none⟩), .string lb, .agg #[.string ⟨#[]⟩, .int .i64 fr, .int .i64 ut, .int .i64 (8 + mb), .int .i64 kb, .int .i64 wb, .int .i64 db, .int .i64 (tb * 1800), .int .i64 bb, .int .i64 0, .string lb], .pointer (some ⟨(F 23), 0, none⟩)] : _root_.List Value).getD ix undef) (fun ix b w => (if ix = 15 then w.heap[b]? = some (.cells #[.string ⟨#[]⟩, .string ⟨#[83]⟩] 9) ∧ W2.heap.size ≤ b else (if ix = 23 then w.heap[b]? = some (.cells #[.string ⟨#[]⟩, .int .i64 0, .int .i64 0, .int .i64 0, .int .i64 0, .int .i64 0, .int .i64 0, .int .i64 0, .int .i64 0, .int .i64 0, .string ⟨#[]⟩] 56) ∧ W2.heap.size ≤ b else True))) ?_ ?_ ?_ (fun F => ⟨#[.slice A n cap, .int .i64 i, .int .i64 fr, .int .i64 ut, .int .i64 save, .pointer (some ⟨W.heap.size, 0, none⟩), undef, undef, undef, undef, .slice none 0 0, .func (.func 40) #[] #[.pointer (some ⟨W.heap.size, 0, none⟩)], .pointer (some ⟨(Fa 23), 0, none⟩), .pointer (some ⟨(F 23), 0, none⟩), .func (.func 40) #[] #[.pointer (some ⟨W.heap.size, 0, none⟩)], .int .i64 fr, .int .i64 ut, .slice A n cap, .int .i64 i, .int .i64 ma, .int .i64 (2 + ma), .func (.func 40) #[] #[.pointer (some ⟨W.heap.size, 0, none⟩)], .int .i64 i, .int .i64 (i + 3), .agg #[.int .i64 ka, .int .i64 wa, .int .i64 da], .slice A n cap, .int .i64 i, .int .i64 (i + 6), .agg #[.int .i64 (ta * 1800), .int .i64 ba], .int .i64 save, .slice (some ⟨(Fa 15), 0, none⟩) 3 3, .slice A n cap, .int .i64 i, .int .i64 (i + 8), .int .i64 ((ja : Int)), .pointer (some ⟨(Fa 15), ja, none⟩), .string la, .agg #[.string ⟨#[]⟩, .int .i64 fr, .int .i64 ut, .int .i64 (2 + ma), .int .i64 ka, .int .i64 wa, .int .i64 da, .int .i64 (ta * 1800), .int .i64 ba, .int .i64 save, .string la], .int .i64 fr, .int .i64 ut, .slice A n cap, .int .i64 i, .int .i64 (i + 1), .int .i64 mb, .int .i64 (8 + mb), .func (.func 40) #[] #[.pointer (some ⟨W.heap.size, 0, none⟩)], .int .i64 i, .int .i64 (i + 9), .agg #[.int .i64 kb, .int .i64 wb, .int .i64 db], .slice A n cap, .int .i64 i, .int .i64 (i + 12), .agg #[.int .i64 (tb * 1800), .int .i64 bb], .slice (some ⟨(F 15), 0, none⟩) 2 2, .slice A n cap, .int .i64 i, .int .i64 (i + 14), .int .i64 ((jb : Int)), .pointer (some ⟨(F 15), jb, none⟩), .string lb, .agg #[.string ⟨#[]⟩, .int .i64 fr, .int .i64 ut, .int .i64 (8 + mb), .int .i64 kb, .int .i64 wb, .int .i64 db, .int .i64 (tb * 1800), .int .i64 bb, .int .i64 0, .string lb], undef, undef, undef, undef, undef, undef, undef, undef, undef, undef, undef, undef, undef, undef], []⟩) (fun F => by kernel_rfl) ?_
    · intro ix b w w' h hb
      by_cases e15 : ix = 15
      · rw [if_pos e15] at h ⊢; exact ⟨block_below h.1 hb, h.2⟩
      · rw [if_neg e15] at h ⊢
        by_cases e23 : ix = 23
        · rw [if_pos e23] at h ⊢; exact ⟨block_below h.1 hb, h.2⟩
        · rw [if_neg e23]; trivial
    · intro F F' ix hi h
      have hic : ix = 0 ∨ ix = 1 ∨ ix = 2 ∨ ix = 3 ∨ ix = 4 ∨ ix = 5 ∨ ix = 6 ∨ ix = 7 ∨ ix = 8 ∨ ix = 9 ∨ ix = 10 ∨ ix = 11 ∨ ix = 12 ∨ ix = 13 ∨ ix = 14 ∨ ix = 15 ∨ ix = 16 ∨ ix = 17 ∨ ix = 18 ∨ ix = 19 ∨ ix = 20 ∨ ix = 21 ∨ ix = 22 ∨ ix = 23 := by omega
      rcases hic with rfl | rfl | rfl | rfl | rfl | rfl | rfl | rfl | rfl | rfl | rfl | rfl | rfl | rfl | rfl | rfl | rfl | rfl | rfl | rfl | rfl | rfl | rfl | rfl
      · rfl
      · rfl
      · rfl
      · rfl
      · rfl
      · rfl
      · rfl
      · rfl
      · rfl
      · rfl
      · rfl
      · rfl
      · rfl
      · rfl
      · rfl
      · have e : F 15 = F' 15 := h 15 (by decide) (.inl rfl)
        exact congrArg (fun z : Nat => (.slice (some ⟨z, 0, none⟩) 2 2 : Value)) e
      · rfl
      · rfl
      · rfl
      · rfl
      · have e : F 15 = F' 15 := h 15 (by decide) (.inr (by kernel_rfl))
        exact congrArg (fun z : Nat => (.pointer (some ⟨z, jb, none⟩) : Value)) e
      · rfl
      · rfl
      · have e : F 23 = F' 23 := h 23 (by decide) (.inl rfl)
        exact congrArg (fun z : Nat => (.pointer (some ⟨z, 0, none⟩) : Value)) e
    · intro ix o F a w ho hi hb hd hf hr
      have hic : ix = 0 ∨ ix = 1 ∨ ix = 2 ∨ ix = 3 ∨ ix = 4 ∨ ix = 5 ∨ ix = 6 ∨ ix = 7 ∨ ix = 8 ∨ ix = 9 ∨ ix = 10 ∨ ix = 11 ∨ ix = 12 ∨ ix = 13 ∨ ix = 14 ∨ ix = 15 ∨ ix = 16 ∨ ix = 17 ∨ ix = 18 ∨ ix = 19 ∨ ix = 20 ∨ ix = 21 ∨ ix = 22 ∨ ix = 23 := by omega
      clear hi hd
      rcases hic with rfl | rfl | rfl | rfl | rfl | rfl | rfl | rfl | rfl | rfl | rfl | rfl | rfl | rfl | rfl | rfl | rfl | rfl | rfl | rfl | rfl | rfl | rfl | rfl
      · obtain rfl := Option.some.inj (show some _ = some o from ho)
        have ht2 : a.tmps.getD 2 undef = .int .i64 fr := hr 2 (by kernel_rfl)
        have hT2 : a.tmps[2]?.getD undef = .int .i64 fr := by rw [← Array.getD_eq_getD_getElem?]; exact ht2
        clear hf hr
        refine YieldsIf.wpOp (S := fun w' => w' = w) (v := .int .i64 fr) rfl (.inl ⟨by rfl, fun w' hw => ?_⟩) rfl ⟨0, rfl, Below.refl _ _, trivial⟩
        subst hw
        first | (go_simp; done) | (go_simp; with_reducible rfl) | (go_simp; intro hbad; exfalso; omega)
      · obtain rfl := Option.some.inj (show some _ = some o from ho)
        have ht3 : a.tmps.getD 3 undef = .int .i64 ut := hr 3 (by kernel_rfl)
        have hT3 : a.tmps[3]?.getD undef = .int .i64 ut := by rw [← Array.getD_eq_getD_getElem?]; exact ht3
        clear hf hr
        refine YieldsIf.wpOp (S := fun w' => w' = w) (v := .int .i64 ut) rfl (.inl ⟨by rfl, fun w' hw => ?_⟩) rfl ⟨0, rfl, Below.refl _ _, trivial⟩
        subst hw
        first | (go_simp; done) | (go_simp; with_reducible rfl) | (go_simp; intro hbad; exfalso; omega)
      · obtain rfl := Option.some.inj (show some _ = some o from ho)
        have ht5 : a.tmps.getD 5 undef = .pointer (some ⟨W.heap.size, 0, none⟩) := hr 5 (by kernel_rfl)
        have hT5 : a.tmps[5]?.getD undef = .pointer (some ⟨W.heap.size, 0, none⟩) := by rw [← Array.getD_eq_getD_getElem?]; exact ht5
        have hcl : w.cell? ⟨W.heap.size, 0, none⟩ = some (.slice A n cap) := cell_below hb HC2.out
        clear hf hr
        refine YieldsIf.wpOp (S := fun w' => w' = w) (v := .slice A n cap) rfl (.inl ⟨by rfl, fun w' hw => ?_⟩) rfl ⟨0, rfl, Below.refl _ _, trivial⟩
        subst hw
        first | (go_simp; done) | (go_simp; with_reducible rfl) | (go_simp; intro hbad; exfalso; omega)
      · obtain rfl := Option.some.inj (show some _ = some o from ho)
        have ht1 : a.tmps.getD 1 undef = .int .i64 i := hr 1 (by kernel_rfl)
        have hT1 : a.tmps[1]?.getD undef = .int .i64 i := by rw [← Array.getD_eq_getD_getElem?]; exact ht1
        clear hf hr
        refine YieldsIf.wpOp (S := fun w' => w' = w) (v := .int .i64 i) rfl (.inl ⟨by rfl, fun w' hw => ?_⟩) rfl ⟨0, rfl, Below.refl _ _, trivial⟩
        subst hw
        first | (go_simp; done) | (go_simp; with_reducible rfl) | (go_simp; intro hbad; exfalso; omega)
      · obtain rfl := Option.some.inj (show some _ = some o from ho)
        have hs3 : a.tmps.getD 41 undef = .int .i64 i := (hf 3 (by decide) (by kernel_rfl)).2 _ _ rfl rfl
        have hS3 : a.tmps[41]?.getD undef = .int .i64 i := by rw [← Array.getD_eq_getD_getElem?]; exact hs3
        clear hf hr
        refine YieldsIf.wpOp (S := fun w' => w' = w) (v := .int .i64 (i + 1)) rfl (.inl ⟨by rfl, fun w' hw => ?_⟩) rfl ⟨0, rfl, Below.refl _ _, trivial⟩
        subst hw
        first | (go_simp; done) | (go_simp; with_reducible rfl) | (go_simp; intro hbad; exfalso; omega)
      · obtain rfl := Option.some.inj (show some _ = some o from ho)
        have hs2 : a.tmps.getD 40 undef = .slice A n cap := (hf 2 (by decide) (by kernel_rfl)).2 _ _ rfl rfl
        have hs4 : a.tmps.getD 42 undef = .int .i64 (i + 1) := (hf 4 (by decide) (by kernel_rfl)).2 _ _ rfl rfl
        have hS2 : a.tmps[40]?.getD undef = .slice A n cap := by rw [← Array.getD_eq_getD_getElem?]; exact hs2
        have hS4 : a.tmps[42]?.getD undef = .int .i64 (i + 1) := by rw [← Array.getD_eq_getD_getElem?]; exact hs4
        clear hf hr
        refine wpOp_step rfl (fun K hK => ?_)
        replace hK := Lib.hid hK
        rw [if_pos (by rfl)]
        go_simp
        refine (HMb.out _ (HD2.out.below hb)).mono ?_
        rintro e w' ⟨rfl, rfl⟩
        go_wp2_with fail
        exact hK.out _ _ ⟨0, rfl, Below.refl _ _, trivial⟩
      · obtain rfl := Option.some.inj (show some _ = some o from ho)
        have hs5 : a.tmps.getD 43 undef = .int .i64 mb := (hf 5 (by decide) (by kernel_rfl)).2 _ _ rfl rfl
        have hS5 : a.tmps[43]?.getD undef = .int .i64 mb := by rw [← Array.getD_eq_getD_getElem?]; exact hs5
        clear hf hr
        refine YieldsIf.wpOp (S := fun w' => w' = w) (v := .int .i64 (8 + mb)) rfl (.inl ⟨by rfl, fun w' hw => ?_⟩) rfl ⟨0, rfl, Below.refl _ _, trivial⟩
        subst hw
        first | (go_simp; done) | (go_simp; with_reducible rfl) | (go_simp; intro hbad; exfalso; omega)
      · obtain rfl := Option.some.inj (show some _ = some o from ho)
        have ht11 : a.tmps.getD 11 undef = .func (.func 40) #[] #[.pointer (some ⟨W.heap.size, 0, none⟩)] := hr 11 (by kernel_rfl)
        have hT11 : a.tmps[11]?.getD undef = .func (.func 40) #[] #[.pointer (some ⟨W.heap.size, 0, none⟩)] := by rw [← Array.getD_eq_getD_getElem?]; exact ht11
        clear hf hr
        refine YieldsIf.wpOp (S := fun w' => w' = w) (v := .func (.func 40) #[] #[.pointer (some ⟨W.heap.size, 0, none⟩)]) rfl (.inl ⟨by rfl, fun w' hw => ?_⟩) rfl ⟨0, rfl, Below.refl _ _, trivial⟩
        subst hw
        first | (go_simp; done) | (go_simp; with_reducible rfl) | (go_simp; intro hbad; exfalso; omega)
      · obtain rfl := Option.some.inj (show some _ = some o from ho)
        have ht1 : a.tmps.getD 1 undef = .int .i64 i := hr 1 (by kernel_rfl)
        have hT1 : a.tmps[1]?.getD undef = .int .i64 i := by rw [← Array.getD_eq_getD_getElem?]; exact ht1
        clear hf hr
        refine YieldsIf.wpOp (S := fun w' => w' = w) (v := .int .i64 i) rfl (.inl ⟨by rfl, fun w' hw => ?_⟩) rfl ⟨0, rfl, Below.refl _ _, trivial⟩
        subst hw
        first | (go_simp; done) | (go_simp; with_reducible rfl) | (go_simp; intro hbad; exfalso; omega)
      · obtain rfl := Option.some.inj (show some _ = some o from ho)
        have hs8 : a.tmps.getD 46 undef = .int .i64 i := (hf 8 (by decide) (by kernel_rfl)).2 _ _ rfl rfl
        have hS8 : a.tmps[46]?.getD undef = .int .i64 i := by rw [← Array.getD_eq_getD_getElem?]; exact hs8
        clear hf hr
        refine YieldsIf.wpOp (S := fun w' => w' = w) (v := .int .i64 (i + 9)) rfl (.inl ⟨by rfl, fun w' hw => ?_⟩) rfl ⟨0, rfl, Below.refl _ _, trivial⟩
        subst hw
        first | (go_simp; done) | (go_simp; with_reducible rfl) | (go_simp; intro hbad; exfalso; omega)
      · obtain rfl := Option.some.inj (show some _ = some o from ho)
        have hs7 : a.tmps.getD 45 undef = .func (.func 40) #[] #[.pointer (some ⟨W.heap.size, 0, none⟩)] := (hf 7 (by decide) (by kernel_rfl)).2 _ _ rfl rfl
        have hs9 : a.tmps.getD 47 undef = .int .i64 (i + 9) := (hf 9 (by decide) (by kernel_rfl)).2 _ _ rfl rfl
        have hS7 : a.tmps[45]?.getD undef = .func (.func 40) #[] #[.pointer (some ⟨W.heap.size, 0, none⟩)] := by rw [← Array.getD_eq_getD_getElem?]; exact hs7
        have hS9 : a.tmps[47]?.getD undef = .int .i64 (i + 9) := by rw [← Array.getD_eq_getD_getElem?]; exact hs9
        clear hf hr
        refine wpOp_step rfl (fun K hK => ?_)
        replace hK := Lib.hid hK
        rw [if_pos (by rfl)]
        go_simp
        refine (HYb.out _ (HD2.out.below hb) (cell_below hb HC2.out)).mono ?_
        rintro e w' ⟨rfl, hb'⟩
        go_wp2_with fail
        exact hK.out _ _ ⟨0, rfl, hb', trivial⟩
      · obtain rfl := Option.some.inj (show some _ = some o from ho)
        have ht5 : a.tmps.getD 5 undef = .pointer (some ⟨W.heap.size, 0, none⟩) := hr 5 (by kernel_rfl)
        have hT5 : a.tmps[5]?.getD undef = .pointer (some ⟨W.heap.size, 0, none⟩) := by rw [← Array.getD_eq_getD_getElem?]; exact ht5
        have hcl : w.cell? ⟨W.heap.size, 0, none⟩ = some (.slice A n cap) := cell_below hb HC2.out
        clear hf hr
        refine YieldsIf.wpOp (S := fun w' => w' = w) (v := .slice A n cap) rfl (.inl ⟨by rfl, fun w' hw => ?_⟩) rfl ⟨0, rfl, Below.refl _ _, trivial⟩
        subst hw
        first | (go_simp; done) | (go_simp; with_reducible rfl) | (go_simp; intro hbad; exfalso; omega)
      · obtain rfl := Option.some.inj (show some _ = some o from ho)
        have ht1 : a.tmps.getD 1 undef = .int .i64 i := hr 1 (by kernel_rfl)
        have hT1 : a.tmps[1]?.getD undef = .int .i64 i := by rw [← Array.getD_eq_getD_getElem?]; exact ht1
        clear hf hr
        refine YieldsIf.wpOp (S := fun w' => w' = w) (v := .int .i64 i) rfl (.inl ⟨by rfl, fun w' hw => ?_⟩) rfl ⟨0, rfl, Below.refl _ _, trivial⟩
        subst hw
        first | (go_simp; done) | (go_simp; with_reducible rfl) | (go_simp; intro hbad; exfalso; omega)
      · obtain rfl := Option.some.inj (show some _ = some o from ho)
        have hs12 : a.tmps.getD 50 undef = .int .i64 i := (hf 12 (by decide) (by kernel_rfl)).2 _ _ rfl rfl
        have hS12 : a.tmps[50]?.getD undef = .int .i64 i := by rw [← Array.getD_eq_getD_getElem?]; exact hs12
        clear hf hr
        refine YieldsIf.wpOp (S := fun w' => w' = w) (v := .int .i64 (i + 12)) rfl (.inl ⟨by rfl, fun w' hw => ?_⟩) rfl ⟨0, rfl, Below.refl _ _, trivial⟩
        subst hw
        first | (go_simp; done) | (go_simp; with_reducible rfl) | (go_simp; intro hbad; exfalso; omega)
      · obtain rfl := Option.some.inj (show some _ = some o from ho)
        have hs11 : a.tmps.getD 49 undef = .slice A n cap := (hf 11 (by decide) (by kernel_rfl)).2 _ _ rfl rfl
        have hs13 : a.tmps.getD 51 undef = .int .i64 (i + 12) := (hf 13 (by decide) (by kernel_rfl)).2 _ _ rfl rfl
        have hS11 : a.tmps[49]?.getD undef = .slice A n cap := by rw [← Array.getD_eq_getD_getElem?]; exact hs11
        have hS13 : a.tmps[51]?.getD undef = .int .i64 (i + 12) := by rw [← Array.getD_eq_getD_getElem?]; exact hs13
        clear hf hr
        refine wpOp_step rfl (fun K hK => ?_)
        replace hK := Lib.hid hK
        rw [if_pos (by rfl)]
        go_simp
        refine (HKb.out _ (HD2.out.below hb)).mono ?_
        rintro e w' ⟨rfl, hb'⟩
        go_wp2_with fail
        exact hK.out _ _ ⟨0, rfl, hb', trivial⟩
      · obtain rfl := Option.some.inj (show some _ = some o from ho)
        clear hf hr
        have hsz : W2.heap.size ≤ w.heap.size := by have := hb.size; simpa using this
        refine wpOp_step rfl (fun K hK => ?_)
        rw [if_pos (by rfl)]
        go_simp
        exact hK _ _ ⟨w.heap.size, rfl, bel_alloc _ _, ⟨heap_alloc_new _ _, hsz⟩⟩
      · obtain rfl := Option.some.inj (show some _ = some o from ho)
        have ht5 : a.tmps.getD 5 undef = .pointer (some ⟨W.heap.size, 0, none⟩) := hr 5 (by kernel_rfl)
        have hT5 : a.tmps[5]?.getD undef = .pointer (some ⟨W.heap.size, 0, none⟩) := by rw [← Array.getD_eq_getD_getElem?]; exact ht5
        have hcl : w.cell? ⟨W.heap.size, 0, none⟩ = some (.slice A n cap) := cell_below hb HC2.out
        clear hf hr
        refine YieldsIf.wpOp (S := fun w' => w' = w) (v := .slice A n cap) rfl (.inl ⟨by rfl, fun w' hw => ?_⟩) rfl ⟨0, rfl, Below.refl _ _, trivial⟩
        subst hw
        first | (go_simp; done) | (go_simp; with_reducible rfl) | (go_simp; intro hbad; exfalso; omega)
      · obtain rfl := Option.some.inj (show some _ = some o from ho)
        have ht1 : a.tmps.getD 1 undef = .int .i64 i := hr 1 (by kernel_rfl)
        have hT1 : a.tmps[1]?.getD undef = .int .i64 i := by rw [← Array.getD_eq_getD_getElem?]; exact ht1
        clear hf hr
        refine YieldsIf.wpOp (S := fun w' => w' = w) (v := .int .i64 i) rfl (.inl ⟨by rfl, fun w' hw => ?_⟩) rfl ⟨0, rfl, Below.refl _ _, trivial⟩
        subst hw
        first | (go_simp; done) | (go_simp; with_reducible rfl) | (go_simp; intro hbad; exfalso; omega)
      · obtain rfl := Option.some.inj (show some _ = some o from ho)
        have hs17 : a.tmps.getD 55 undef = .int .i64 i := (hf 17 (by decide) (by kernel_rfl)).2 _ _ rfl rfl
        have hS17 : a.tmps[55]?.getD undef = .int .i64 i := by rw [← Array.getD_eq_getD_getElem?]; exact hs17
        clear hf hr
        refine YieldsIf.wpOp (S := fun w' => w' = w) (v := .int .i64 (i + 14)) rfl (.inl ⟨by rfl, fun w' hw => ?_⟩) rfl ⟨0, rfl, Below.refl _ _, trivial⟩
        subst hw
        first | (go_simp; done) | (go_simp; with_reducible rfl) | (go_simp; intro hbad; exfalso; omega)
      · obtain rfl := Option.some.inj (show some _ = some o from ho)
        have hs16 : a.tmps.getD 54 undef = .slice A n cap := (hf 16 (by decide) (by kernel_rfl)).2 _ _ rfl rfl
        have hs18 : a.tmps.getD 56 undef = .int .i64 (i + 14) := (hf 18 (by decide) (by kernel_rfl)).2 _ _ rfl rfl
        have hS16 : a.tmps[54]?.getD undef = .slice A n cap := by rw [← Array.getD_eq_getD_getElem?]; exact hs16
        have hS18 : a.tmps[56]?.getD undef = .int .i64 (i + 14) := by rw [← Array.getD_eq_getD_getElem?]; exact hs18
        clear hf hr
        refine wpOp_step rfl (fun K hK => ?_)
        replace hK := Lib.hid hK
        rw [if_pos (by rfl)]
        go_simp
        refine (HJb.out _ (HD2.out.below hb)).mono ?_
        rintro e w' ⟨rfl, rfl⟩
        go_wp2_with fail
        exact hK.out _ _ ⟨0, rfl, Below.refl _ _, trivial⟩
      · obtain rfl := Option.some.inj (show some _ = some o from ho)
        have hs15 : a.tmps.getD 53 undef = .slice (some ⟨(F 15), 0, none⟩) 2 2 := (hf 15 (by decide) (by kernel_rfl)).2 _ _ rfl rfl
        have hs19 : a.tmps.getD 57 undef = .int .i64 ((jb : Int)) := (hf 19 (by decide) (by kernel_rfl)).2 _ _ rfl rfl
        have hS15 : a.tmps[53]?.getD undef = .slice (some ⟨(F 15), 0, none⟩) 2 2 := by rw [← Array.getD_eq_getD_getElem?]; exact hs15
        have hS19 : a.tmps[57]?.getD undef = .int .i64 ((jb : Int)) := by rw [← Array.getD_eq_getD_getElem?]; exact hs19
        clear hf hr
        refine YieldsIf.wpOp (S := fun w' => w' = w) (v := .pointer (some ⟨(F 15), jb, none⟩)) rfl (.inl ⟨by rfl, fun w' hw => ?_⟩) rfl ⟨0, rfl, Below.refl _ _, trivial⟩
        subst hw
        first | (go_simp; done) | (go_simp; with_reducible rfl) | (go_simp; intro hbad; exfalso; omega)
      · obtain rfl := Option.some.inj (show some _ = some o from ho)
        have hs20 : a.tmps.getD 58 undef = .pointer (some ⟨(F 15), jb, none⟩) := (hf 20 (by decide) (by kernel_rfl)).2 _ _ rfl rfl
        have hS20 : a.tmps[58]?.getD undef = .pointer (some ⟨(F 15), jb, none⟩) := by rw [← Array.getD_eq_getD_getElem?]; exact hs20
        have hn := (hf 15 (by decide) (by kernel_rfl)).1
        have hl0 := HLb.out _ _ hn.1
        clear hf hr
        refine YieldsIf.wpOp (S := fun w' => w' = w) (v := .string lb) rfl (.inl ⟨by rfl, fun w' hw => ?_⟩) rfl ⟨0, rfl, Below.refl _ _, trivial⟩
        subst hw
        first | (go_simp; done) | (go_simp; with_reducible rfl) | (go_simp; intro hbad; exfalso; omega)
      · obtain rfl := Option.some.inj (show some _ = some o from ho)
        have hs0 : a.tmps.getD 38 undef = .int .i64 fr := (hf 0 (by decide) (by kernel_rfl)).2 _ _ rfl rfl
        have hs1 : a.tmps.getD 39 undef = .int .i64 ut := (hf 1 (by decide) (by kernel_rfl)).2 _ _ rfl rfl
        have hs6 : a.tmps.getD 44 undef = .int .i64 (8 + mb) := (hf 6 (by decide) (by kernel_rfl)).2 _ _ rfl rfl
        have hs10 : a.tmps.getD 48 undef = .agg #[.int .i64 kb, .int .i64 wb, .int .i64 db] := (hf 10 (by decide) (by kernel_rfl)).2 _ _ rfl rfl
        have hs14 : a.tmps.getD 52 undef = .agg #[.int .i64 (tb * 1800), .int .i64 bb] := (hf 14 (by decide) (by kernel_rfl)).2 _ _ rfl rfl
        have hs21 : a.tmps.getD 59 undef = .string lb := (hf 21 (by decide) (by kernel_rfl)).2 _ _ rfl rfl
        have hS0 : a.tmps[38]?.getD undef = .int .i64 fr := by rw [← Array.getD_eq_getD_getElem?]; exact hs0
        have hS1 : a.tmps[39]?.getD undef = .int .i64 ut := by rw [← Array.getD_eq_getD_getElem?]; exact hs1
        have hS6 : a.tmps[44]?.getD undef = .int .i64 (8 + mb) := by rw [← Array.getD_eq_getD_getElem?]; exact hs6
        have hS10 : a.tmps[48]?.getD undef = .agg #[.int .i64 kb, .int .i64 wb, .int .i64 db] := by rw [← Array.getD_eq_getD_getElem?]; exact hs10
        have hS14 : a.tmps[52]?.getD undef = .agg #[.int .i64 (tb * 1800), .int .i64 bb] := by rw [← Array.getD_eq_getD_getElem?]; exact hs14
        have hS21 : a.tmps[59]?.getD undef = .string lb := by rw [← Array.getD_eq_getD_getElem?]; exact hs21
        clear hf hr
        refine YieldsIf.wpOp (S := fun w' => w' = w) (v := .agg #[.string ⟨#[]⟩, .int .i64 fr, .int .i64 ut, .int .i64 (8 + mb), .int .i64 kb, .int .i64 wb, .int .i64 db, .int .i64 (tb * 1800), .int .i64 bb, .int .i64 0, .string lb]) rfl (.inl ⟨by rfl, fun w' hw => ?_⟩) rfl ⟨0, rfl, Below.refl _ _, trivial⟩
        subst hw
        first | (go_simp; done) | (go_simp; with_reducible rfl) | (go_simp; intro hbad; exfalso; omega)
      · obtain rfl := Option.some.inj (show some _ = some o from ho)
        clear hf hr
        have hsz : W2.heap.size ≤ w.heap.size := by have := hb.size; simpa using this
        refine wpOp_step rfl (fun K hK => ?_)
        rw [if_pos (by rfl)]
        go_simp
        exact hK _ _ ⟨w.heap.size, rfl, bel_alloc _ _, ⟨heap_alloc_new _ _, hsz⟩⟩
    · intro Fb w hb hps
      obtain ⟨hn15, hg15⟩ : w.heap[Fb 15]? = some (.cells #[.string ⟨#[]⟩, .string ⟨#[83]⟩] 9) ∧ W2.heap.size ≤ Fb 15 := hps 15 (by decide)
      obtain ⟨hn23, hg23⟩ : w.heap[Fb 23]? = some (.cells #[.string ⟨#[]⟩, .int .i64 0, .int .i64 0, .int .i64 0, .int .i64 0, .int .i64 0, .int .i64 0, .int .i64 0, .int .i64 0, .int .i64 0, .string ⟨#[]⟩] 56) ∧ W2.heap.size ≤ Fb 23 := hps 23 (by decide)
      clear hps
      refine wpOp_step rfl (fun K hK => ?_)
      rw [if_pos (by rfl)]
      refine wp_store_mid _ _ _ rfl (Fb 23) 0 #[.string ⟨#[]⟩, .int .i64 fr, .int .i64 ut, .int .i64 (8 + mb), .int .i64 kb, .int .i64 wb, .int .i64 db, .int .i64 (tb * 1800), .int .i64 bb, .int .i64 0, .string lb] rfl rfl (there11 hn23) (by kernel_rfl) (by simp [Value.oneCell']) ?_
      refine hK _ _ ?_
      have hR := Lib.hid (set11 (d0 := .string ⟨#[]⟩) (d1 := .int .i64 fr) (d2 := .int .i64 ut) (d3 := .int .i64 (8 + mb)) (d4 := .int .i64 kb) (d5 := .int .i64 wb) (d6 := .int .i64 db) (d7 := .int .i64 (tb * 1800)) (d8 := .int .i64 bb) (d9 := .int .i64 0) (d10 := .string lb) hn23)
      have hB := Lib.hid (bel_setCells (b := Fb 23) (o := 0) (l := [.string ⟨#[]⟩, .int .i64 fr, .int .i64 ut, .int .i64 (8 + mb), .int .i64 kb, .int .i64 wb, .int .i64 db, .int .i64 (tb * 1800), .int .i64 bb, .int .i64 0, .string lb]) (bel_trans HB2.out hb) (by have := HZ.out; omega))
      have hne : Fa 23 ≠ Fb 23 := by have := (Array.getElem?_eq_some_iff.1 HR.out).1; omega
      have hC := Lib.hid (cell_setCells (o := 0) (l := [.string ⟨#[]⟩, .int .i64 fr, .int .i64 ut, .int .i64 (8 + mb), .int .i64 kb, .int .i64 wb, .int .i64 db, .int .i64 (tb * 1800), .int .i64 bb, .int .i64 0, .string lb]) (cell_below hb HC2.out) (by have := HZ.out; omega : W.heap.size ≠ Fb 23))
      have hRa := Lib.hid (block_setCells (o := 0) (l := [.string ⟨#[]⟩, .int .i64 fr, .int .i64 ut, .int .i64 (8 + mb), .int .i64 kb, .int .i64 wb, .int .i64 db, .int .i64 (tb * 1800), .int .i64 bb, .int .i64 0, .string lb]) (block_below HR.out hb) hne)
      clear hK K
      generalize w.setCells (Fb 23) 0 [.string ⟨#[]⟩, .int .i64 fr, .int .i64 ut, .int .i64 (8 + mb), .int .i64 kb, .int .i64 wb, .int .i64 db, .int .i64 (tb * 1800), .int .i64 bb, .int .i64 0, .string lb] = W3 at hR hB hC hRa ⊢
      have HRa := hRa; have HRb := hR; have HB3 := hB; have HC3 := hC; have HNE := Lib.hid hne
      have HFa := Lib.hid (show W.heap.size ≤ Fa 23 ∧ W.heap.size ≤ Fb 23 by have := HZ.out; have := HFA.out; omega)
      have HD3 := Lib.hid (H.out.below hB.out)
      have hlt := (Array.getElem?_eq_some_iff.1 hR.out).1
      have HZ3 := Lib.hid (show W.heap.size ≤ W3.heap.size by have := HZ.out; omega)
      clear hR hRa hB hC hn15 hg15 hn23 hg23 hb hlt hne
      have hc := HC3.out
      go_wp2_with fail
      clear hc
      have HPK1 : Hid (PairOk fr ut save ⟨⟨#[]⟩, fr, ut, 2 + ma, ka, wa, da, ta * 1800, ba, save, la⟩ ⟨⟨#[]⟩, fr, ut, 8 + mb, kb, wb, db, tb * 1800, bb, 0, lb⟩) := Lib.hid ⟨rfl, rfl, rfl, rfl, by dsimp only; omega, by dsimp only; omega, HOa.out, HOb.out, by dsimp only; omega, by dsimp only; omega, .inl ⟨rfl, rfl⟩, HSS.out, rfl, rfl⟩
      have HPK0 : Hid (PairOk fr ut save ⟨⟨#[]⟩, fr, ut, 2 + ma, ka, wa, da, ta * 1800, ba, 0, la⟩ ⟨⟨#[]⟩, fr, ut, 8 + mb, kb, wb, db, tb * 1800, bb, save, lb⟩) := Lib.hid ⟨rfl, rfl, rfl, rfl, by dsimp only; omega, by dsimp only; omega, HOa.out, HOb.out, by dsimp only; omega, by dsimp only; omega, .inr ⟨rfl, rfl⟩, HSS.out, rfl, rfl⟩
      refine (HN.out _ (by exact HD3.out)).mono ?_
      rintro e w' ⟨rfl, rfl⟩
      by_cases hsw : nsw = 0
      · subst hsw
        have hne1 := HNE.out
        have hne2 := Ne.symm HNE.out
        have c0 := cellB HRa.out (i := 0) rfl
        have c1 := cellB HRa.out (i := 1) rfl
        have c2 := cellB HRa.out (i := 2) rfl
        have c3 := cellB HRa.out (i := 3) rfl
        have c4 := cellB HRa.out (i := 4) rfl
        have c5 := cellB HRa.out (i := 5) rfl
        have c6 := cellB HRa.out (i := 6) rfl
        have c7 := cellB HRa.out (i := 7) rfl
        have c8 := cellB HRa.out (i := 8) rfl
        have c9 := cellB HRa.out (i := 9) rfl
        have c10 := cellB HRa.out (i := 10) rfl
        have f0 := frzB HRa.out 0
        have f1 := frzB HRa.out 1
        have f2 := frzB HRa.out 2
        have f3 := frzB HRa.out 3
        have f4 := frzB HRa.out 4
        have f5 := frzB HRa.out 5
        have f6 := frzB HRa.out 6
        have f7 := frzB HRa.out 7
        have f8 := frzB HRa.out 8
        have f9 := frzB HRa.out 9
        have f10 := frzB HRa.out 10
        have g0 := cellB HRb.out (i := 0) rfl
        have g1 := cellB HRb.out (i := 1) rfl
        have g2 := cellB HRb.out (i := 2) rfl
        have g3 := cellB HRb.out (i := 3) rfl
        have g4 := cellB HRb.out (i := 4) rfl
        have g5 := cellB HRb.out (i := 5) rfl
        have g6 := cellB HRb.out (i := 6) rfl
        have g7 := cellB HRb.out (i := 7) rfl
        have g8 := cellB HRb.out (i := 8) rfl
        have g9 := cellB HRb.out (i := 9) rfl
        have g10 := cellB HRb.out (i := 10) rfl
        have h0 := frzB HRb.out 0
        have h1 := frzB HRb.out 1
        have h2 := frzB HRb.out 2
        have h3 := frzB HRb.out 3
        have h4 := frzB HRb.out 4
        have h5 := frzB HRb.out 5
        have h6 := frzB HRb.out 6
        have h7 := frzB HRb.out 7
        have h8 := frzB HRb.out 8
        have h9 := frzB HRb.out 9
        have h10 := frzB HRb.out 10
        have hB' := Lib.hid ((HB3.out.setCell (p := ⟨Fa 23, 9, none⟩) HFa.out.1 (.int .i64 0)).setCell (p := ⟨Fb 23, 9, none⟩) HFa.out.2 (.int .i64 save))
        go_wp2_with fail
        go_ret
        exact ⟨⟨⟨#[]⟩, fr, ut, 2 + ma, ka, wa, da, ta * 1800, ba, 0, la⟩, ⟨⟨#[]⟩, fr, ut, 8 + mb, kb, wb, db, tb * 1800, bb, save, lb⟩, _, HPK0.out, rfl, new_set2 _ _ _ _ _ _ _ _, HZ3.out, hB'.out.alloc (by have := hB'.out.size; exact this) _⟩
      · have hswb : (nsw == 0) = false := by simp [hsw]
        have c0 := cellB HRa.out (i := 0) rfl
        have c1 := cellB HRa.out (i := 1) rfl
        have c2 := cellB HRa.out (i := 2) rfl
        have c3 := cellB HRa.out (i := 3) rfl
        have c4 := cellB HRa.out (i := 4) rfl
        have c5 := cellB HRa.out (i := 5) rfl
        have c6 := cellB HRa.out (i := 6) rfl
        have c7 := cellB HRa.out (i := 7) rfl
        have c8 := cellB HRa.out (i := 8) rfl
        have c9 := cellB HRa.out (i := 9) rfl
        have c10 := cellB HRa.out (i := 10) rfl
        have g0 := cellB HRb.out (i := 0) rfl
        have g1 := cellB HRb.out (i := 1) rfl
        have g2 := cellB HRb.out (i := 2) rfl
        have g3 := cellB HRb.out (i := 3) rfl
        have g4 := cellB HRb.out (i := 4) rfl
        have g5 := cellB HRb.out (i := 5) rfl
        have g6 := cellB HRb.out (i := 6) rfl
        have g7 := cellB HRb.out (i := 7) rfl
        have g8 := cellB HRb.out (i := 8) rfl
        have g9 := cellB HRb.out (i := 9) rfl
        have g10 := cellB HRb.out (i := 10) rfl
        go_wp2_with fail
        go_ret
        exact ⟨⟨⟨#[]⟩, fr, ut, 2 + ma, ka, wa, da, ta * 1800, ba, save, la⟩, ⟨⟨#[]⟩, fr, ut, 8 + mb, kb, wb, db, tb * 1800, bb, 0, lb⟩, _, HPK1.out, rfl, heap_alloc_new _ _, HB3.out.size, bel_trans HB3.out (bel_alloc _ _)⟩
end Go.Proofs.YtdppmeeobpbfnaaDoor
