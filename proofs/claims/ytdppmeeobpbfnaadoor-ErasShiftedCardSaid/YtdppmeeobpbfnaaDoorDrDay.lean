/-
  A day of a set by numbers (pair$1).
-/
import Derived.Test.YtdppmeeobpbfnaaDoorDrAt
namespace Go.Proofs.YtdppmeeobpbfnaaDoor
open Go.RowKit Cv
set_option linter.unusedVariables false
set_option linter.unusedSimpArgs false

namespace Cv
/-- a day by numbers -/
def dayv (bs : _root_.List Int) (i : Int) : Array Value :=
  if atv bs (i + 2) 3 = 0 then #[.int .i64 2, .int .i64 (atv bs i 7), .int .i64 0]
  else if atv bs (i + 2) 3 = 1 then #[.int .i64 3, .int .i64 (atv bs i 7), .int .i64 (1 + 7 * atv bs (i + 1) 4)]
  else #[.int .i64 1, .int .i64 0, .int .i64 (1 + atv bs (i + 1) 28)]
theorem ret_agg {a b : Array Value} (h : a = b) : Ending.returned (.agg a) = .returned (.agg b) := by rw [h]
theorem there3 {V : World} {b : Nat} {t : TypeId} {x y z : Value} (h : V.heap[b]? = some (.cells #[x, y, z] t)) : V.there b 0 3 := by
  intro j hj
  unfold World.cell? World.frozen?
  rw [h]
  have hc : j = 0 ∨ j = 1 ∨ j = 2 := by omega
  rcases hc with rfl | rfl | rfl <;> simp
end Cv

set_option maxRecDepth 100000 in
set_option maxHeartbeats 4000000 in
theorem day17_any (v : Value) (bs : _root_.List Int) (i : Int) (bl : Nat) (W : World) (h : Drf v bs W) (hc : W.cell? ⟨bl, 0, none⟩ = some v) (hi1 : 0 ≤ i) (hi2 : i ≤ 900) :
    Calls Tryd.prog 40 (#[.int .i64 i] ++ #[.pointer (some ⟨bl, 0, none⟩)]) W fun e w' => e = .returned (.agg (dayv bs i)) ∧ Below W.heap.size W w' := by
  have H := Lib.hid h
  obtain ⟨A, cap, rfl⟩ := h.sl
  obtain ⟨n, hN⟩ : ∃ n, n = bs.length := ⟨_, rfl⟩
  clear h
  rw [← hN] at H hc
  clear hN
  have HC := Lib.hid (cell_below (bel_alloc W (.cells #[.int .i64 0, .int .i64 0, .int .i64 0] 52)) hc)
  clear hc
  obtain ⟨x, hx⟩ : ∃ x, atv bs i 7 = x := ⟨_, rfl⟩
  have hxb := atv_bd bs i 7 (by decide)
  rw [hx] at hxb
  have HX := Lib.hid hx
  obtain ⟨hx1, hx2⟩ := hxb
  clear hx
  have HD := Lib.hid (H.out.below (bel_alloc W (.cells #[.int .i64 0, .int .i64 0, .int .i64 0] 52)))
  have HB := Lib.hid (bel_alloc W (.cells #[.int .i64 0, .int .i64 0, .int .i64 0] 52))
  have HK := Lib.hid (heap_alloc_new W (.cells #[.int .i64 0, .int .i64 0, .int .i64 0] 52))
  obtain ⟨y4, hy4⟩ : ∃ y, atv bs (i + 1) 4 = y := ⟨_, rfl⟩
  obtain ⟨y28, hy28⟩ : ∃ y, atv bs (i + 1) 28 = y := ⟨_, rfl⟩
  obtain ⟨z, hz⟩ : ∃ y, atv bs (i + 2) 3 = y := ⟨_, rfl⟩
  have hb4 := atv_bd bs (i + 1) 4 (by decide)
  have hb28 := atv_bd bs (i + 1) 28 (by decide)
  have hbz := atv_bd bs (i + 2) 3 (by decide)
  rw [hy4] at hb4
  rw [hy28] at hb28
  rw [hz] at hbz
  obtain ⟨hb41, hb42⟩ := hb4
  obtain ⟨hb281, hb282⟩ := hb28
  obtain ⟨kz, rfl⟩ : ∃ k : Nat, z = (k : Int) := ⟨z.toNat, by omega⟩
  have hkz : kz < 3 := by omega
  clear hbz
  have HY4 := Lib.hid hy4
  have HY28 := Lib.hid hy28
  have HZ := Lib.hid hz
  have HA7 := Lib.hid (at_is (v := .slice A n cap) HX (by omega) (by omega) (by decide) (by decide))
  have HA4 := Lib.hid (at_is (v := .slice A n cap) HY4 (by omega) (by omega) (by decide) (by decide))
  have HA28 := Lib.hid (at_is (v := .slice A n cap) HY28 (by omega) (by omega) (by decide) (by decide))
  have HA3 := Lib.hid (at_is (v := .slice A n cap) HZ (by omega) (by omega) (by decide) (by decide))
  clear hy4 hy28 hz
  have hw1 : IntKind.i64.wrap (i + 1) = i + 1 := IntWalk.i64_in _ (by omega)
  have hw2 : IntKind.i64.wrap (i + 2) = i + 2 := IntWalk.i64_in _ (by omega)
  have hw3 : IntKind.i64.wrap (7 * y4) = 7 * y4 := IntWalk.i64_in _ (by omega)
  have hw4 : IntKind.i64.wrap (1 + 7 * y4) = 1 + 7 * y4 := IntWalk.i64_in _ (by omega)
  have hw5 : IntKind.i64.wrap (1 + y28) = 1 + y28 := IntWalk.i64_in _ (by omega)
  obtain ⟨d0, d1, d2, hv, hl⟩ : ∃ d0 d1 d2 : Int, dayv bs i = #[.int .i64 d0, .int .i64 d1, .int .i64 d2] ∧ ∀ (V : World) (b : Nat), V.heap[b]? = some (.cells #[.int .i64 2, .int .i64 x, .int .i64 0, .int .i64 3, .int .i64 x, .int .i64 (1 + 7 * y4), .int .i64 1, .int .i64 0, .int .i64 (1 + y28)] 52) → V.cell? ⟨b, kz * 3, none⟩ = some (.int .i64 d0) ∧ V.cell? ⟨b, kz * 3 + 1, none⟩ = some (.int .i64 d1) ∧ V.cell? ⟨b, kz * 3 + 2, none⟩ = some (.int .i64 d2) := by
    have hzc : kz = 0 ∨ kz = 1 ∨ kz = 2 := by omega
    unfold dayv
    rw [HX.out, HY4.out, HY28.out, HZ.out]
    rcases hzc with rfl | rfl | rfl
    · exact ⟨_, _, _, rfl, fun V b h => ⟨cellB h rfl, cellB h rfl, cellB h rfl⟩⟩
    · exact ⟨_, _, _, rfl, fun V b h => ⟨cellB h rfl, cellB h rfl, cellB h rfl⟩⟩
    · exact ⟨_, _, _, rfl, fun V b h => ⟨cellB h rfl, cellB h rfl, cellB h rfl⟩⟩
  have HV := Lib.hid hv
  have HL := Lib.hid hl
  clear hv hl
  have hx0 := HX.out
  clear hx0
  go_enter Tryd.func40, Tryd.ntmps40
  have hc := HC.out
  go_wp2_with fail
  clear hc
  refine (HA7.out _ (by exact HD.out)).mono ?_
  rintro e w' ⟨rfl, rfl⟩
  go_wp2_with fail
  refine Mono.wp_region_mono (by kernel_rfl) 24 23 (by kernel_rfl) (fun F ix => ([.int .i64 x, .agg #[.int .i64 2, .int .i64 x, .int .i64 0], .int .i64 x, .slice A n cap, .int .i64 i, .int .i64 (i + 1), .int .i64 y4, .int .i64 (7 * y4), .int .i64 (1 + 7 * y4), .agg #[.int .i64 3, .int .i64 x, .int .i64 (1 + 7 * y4)], .slice A n cap, .int .i64 i, .int .i64 (i + 1), .int .i64 y28, .int .i64 (1 + y28), .agg #[.int .i64 1, .int .i64 0, .int .i64 (1 + y28)], .slice (some ⟨(F 16), 0, none⟩) 3 3, .slice A n cap, .int .i64 i, .int .i64 (i + 2), .int .i64 ((kz : Int)), .pointer (some ⟨(F 16), kz * 3, none⟩), .agg #[.int .i64 d0, .int .i64 d1, .int .i64 d2]] : _root_.List Value).getD ix undef) (fun ix b w => (if ix = 16 then w.heap[b]? = some (.cells #[.int .i64 2, .int .i64 x, .int .i64 0, .int .i64 3, .int .i64 x, .int .i64 (1 + 7 * y4), .int .i64 1, .int .i64 0, .int .i64 (1 + y28)] 52) else True)) ?_ ?_ ?_ (fun F => ⟨#[.int .i64 i, .pointer (some ⟨bl, 0, none⟩), undef, .pointer (some ⟨W.heap.size, 0, none⟩), .int .i64 x, .slice A n cap, .int .i64 i, .int .i64 x, .int .i64 x, .agg #[.int .i64 2, .int .i64 x, .int .i64 0], .int .i64 x, .slice A n cap, .int .i64 i, .int .i64 (i + 1), .int .i64 y4, .int .i64 (7 * y4), .int .i64 (1 + 7 * y4), .agg #[.int .i64 3, .int .i64 x, .int .i64 (1 + 7 * y4)], .slice A n cap, .int .i64 i, .int .i64 (i + 1), .int .i64 y28, .int .i64 (1 + y28), .agg #[.int .i64 1, .int .i64 0, .int .i64 (1 + y28)], .slice (some ⟨(F 16), 0, none⟩) 3 3, .slice A n cap, .int .i64 i, .int .i64 (i + 2), .int .i64 ((kz : Int)), .pointer (some ⟨(F 16), kz * 3, none⟩), .agg #[.int .i64 d0, .int .i64 d1, .int .i64 d2]], []⟩) (fun F => by kernel_rfl) ?_
  · intro ix b w w' h hb
    by_cases e16 : ix = 16
    · rw [if_pos e16] at h ⊢; exact block_below h hb
    · rw [if_neg e16]; trivial
  · intro F F' ix hi h
    have hic : ix = 0 ∨ ix = 1 ∨ ix = 2 ∨ ix = 3 ∨ ix = 4 ∨ ix = 5 ∨ ix = 6 ∨ ix = 7 ∨ ix = 8 ∨ ix = 9 ∨ ix = 10 ∨ ix = 11 ∨ ix = 12 ∨ ix = 13 ∨ ix = 14 ∨ ix = 15 ∨ ix = 16 ∨ ix = 17 ∨ ix = 18 ∨ ix = 19 ∨ ix = 20 ∨ ix = 21 ∨ ix = 22 := by omega
    rcases hic with rfl | rfl | rfl | rfl | rfl | rfl | rfl | rfl | rfl | rfl | rfl | rfl | rfl | rfl | rfl | rfl | rfl | rfl | rfl | rfl | rfl | rfl | rfl
    · rfl
    · rfl
    · rfl
    · rfl
    · rfl
    · rfl
    · rfl
    · rfl
    · rfl
    · rfl
    · rfl
    · rfl
    · rfl
    · rfl
    · rfl
    · rfl
    · have e : F 16 = F' 16 := h 16 (by decide) (.inl rfl)
      exact congrArg (fun z : Nat => (.slice (some ⟨z, 0, none⟩) 3 3 : Value)) e
    · rfl
    · rfl
    · rfl
    · rfl
    · have e : F 16 = F' 16 := h 16 (by decide) (.inr (by kernel_rfl))
      exact congrArg (fun z : Nat => (.pointer (some ⟨z, kz * 3, none⟩) : Value)) e
    · rfl
  · intro ix o F a w ho hi hb hd hf hr
    have hic : ix = 0 ∨ ix = 1 ∨ ix = 2 ∨ ix = 3 ∨ ix = 4 ∨ ix = 5 ∨ ix = 6 ∨ ix = 7 ∨ ix = 8 ∨ ix = 9 ∨ ix = 10 ∨ ix = 11 ∨ ix = 12 ∨ ix = 13 ∨ ix = 14 ∨ ix = 15 ∨ ix = 16 ∨ ix = 17 ∨ ix = 18 ∨ ix = 19 ∨ ix = 20 ∨ ix = 21 ∨ ix = 22 := by omega
    clear hi hd
    rcases hic with rfl | rfl | rfl | rfl | rfl | rfl | rfl | rfl | rfl | rfl | rfl | rfl | rfl | rfl | rfl | rfl | rfl | rfl | rfl | rfl | rfl | rfl | rfl
    · obtain rfl := Option.some.inj (show some _ = some o from ho)
      have ht4 : a.tmps.getD 4 undef = .int .i64 x := hr 4 (by kernel_rfl)
      have hT4 : a.tmps[4]?.getD undef = .int .i64 x := by rw [← Array.getD_eq_getD_getElem?]; exact ht4
      clear hf hr
      refine YieldsIf.wpOp (S := fun w' => w' = w) (v := .int .i64 x) rfl (.inl ⟨by rfl, fun w' hw => ?_⟩) rfl ⟨0, rfl, Below.refl _ _, trivial⟩
      subst hw
      first | (go_simp; done) | (go_simp; with_reducible rfl) | (go_simp; intro hbad; exfalso; omega)
    · obtain rfl := Option.some.inj (show some _ = some o from ho)
      have hs0 : a.tmps.getD 8 undef = .int .i64 x := (hf 0 (by decide) (by kernel_rfl)).2 _ _ rfl rfl
      have hS0 : a.tmps[8]?.getD undef = .int .i64 x := by rw [← Array.getD_eq_getD_getElem?]; exact hs0
      clear hf hr
      refine YieldsIf.wpOp (S := fun w' => w' = w) (v := .agg #[.int .i64 2, .int .i64 x, .int .i64 0]) rfl (.inl ⟨by rfl, fun w' hw => ?_⟩) rfl ⟨0, rfl, Below.refl _ _, trivial⟩
      subst hw
      first | (go_simp; done) | (go_simp; with_reducible rfl) | (go_simp; intro hbad; exfalso; omega)
    · obtain rfl := Option.some.inj (show some _ = some o from ho)
      have ht4 : a.tmps.getD 4 undef = .int .i64 x := hr 4 (by kernel_rfl)
      have hT4 : a.tmps[4]?.getD undef = .int .i64 x := by rw [← Array.getD_eq_getD_getElem?]; exact ht4
      clear hf hr
      refine YieldsIf.wpOp (S := fun w' => w' = w) (v := .int .i64 x) rfl (.inl ⟨by rfl, fun w' hw => ?_⟩) rfl ⟨0, rfl, Below.refl _ _, trivial⟩
      subst hw
      first | (go_simp; done) | (go_simp; with_reducible rfl) | (go_simp; intro hbad; exfalso; omega)
    · obtain rfl := Option.some.inj (show some _ = some o from ho)
      have ht1 : a.tmps.getD 1 undef = .pointer (some ⟨bl, 0, none⟩) := hr 1 (by kernel_rfl)
      have hT1 : a.tmps[1]?.getD undef = .pointer (some ⟨bl, 0, none⟩) := by rw [← Array.getD_eq_getD_getElem?]; exact ht1
      have hcl : w.cell? ⟨bl, 0, none⟩ = some (.slice A n cap) := cell_below hb HC.out
      clear hf hr
      refine YieldsIf.wpOp (S := fun w' => w' = w) (v := .slice A n cap) rfl (.inl ⟨by rfl, fun w' hw => ?_⟩) rfl ⟨0, rfl, Below.refl _ _, trivial⟩
      subst hw
      first | (go_simp; done) | (go_simp; with_reducible rfl) | (go_simp; intro hbad; exfalso; omega)
    · obtain rfl := Option.some.inj (show some _ = some o from ho)
      have ht0 : a.tmps.getD 0 undef = .int .i64 i := hr 0 (by kernel_rfl)
      have hT0 : a.tmps[0]?.getD undef = .int .i64 i := by rw [← Array.getD_eq_getD_getElem?]; exact ht0
      clear hf hr
      refine YieldsIf.wpOp (S := fun w' => w' = w) (v := .int .i64 i) rfl (.inl ⟨by rfl, fun w' hw => ?_⟩) rfl ⟨0, rfl, Below.refl _ _, trivial⟩
      subst hw
      first | (go_simp; done) | (go_simp; with_reducible rfl) | (go_simp; intro hbad; exfalso; omega)
    · obtain rfl := Option.some.inj (show some _ = some o from ho)
      have hs4 : a.tmps.getD 12 undef = .int .i64 i := (hf 4 (by decide) (by kernel_rfl)).2 _ _ rfl rfl
      have hS4 : a.tmps[12]?.getD undef = .int .i64 i := by rw [← Array.getD_eq_getD_getElem?]; exact hs4
      clear hf hr
      refine YieldsIf.wpOp (S := fun w' => w' = w) (v := .int .i64 (i + 1)) rfl (.inl ⟨by rfl, fun w' hw => ?_⟩) rfl ⟨0, rfl, Below.refl _ _, trivial⟩
      subst hw
      first | (go_simp; done) | (go_simp; with_reducible rfl) | (go_simp; intro hbad; exfalso; omega)
    · obtain rfl := Option.some.inj (show some _ = some o from ho)
      have hs3 : a.tmps.getD 11 undef = .slice A n cap := (hf 3 (by decide) (by kernel_rfl)).2 _ _ rfl rfl
      have hs5 : a.tmps.getD 13 undef = .int .i64 (i + 1) := (hf 5 (by decide) (by kernel_rfl)).2 _ _ rfl rfl
      have hS3 : a.tmps[11]?.getD undef = .slice A n cap := by rw [← Array.getD_eq_getD_getElem?]; exact hs3
      have hS5 : a.tmps[13]?.getD undef = .int .i64 (i + 1) := by rw [← Array.getD_eq_getD_getElem?]; exact hs5
      clear hf hr
      refine wpOp_step rfl (fun K hK => ?_)
      replace hK := Lib.hid hK
      rw [if_pos (by rfl)]
      go_simp
      refine (HA4.out _ (HD.out.below hb)).mono ?_
      rintro e w' ⟨rfl, rfl⟩
      go_wp2_with fail
      exact hK.out _ _ ⟨0, rfl, Below.refl _ _, trivial⟩
    · obtain rfl := Option.some.inj (show some _ = some o from ho)
      have hs6 : a.tmps.getD 14 undef = .int .i64 y4 := (hf 6 (by decide) (by kernel_rfl)).2 _ _ rfl rfl
      have hS6 : a.tmps[14]?.getD undef = .int .i64 y4 := by rw [← Array.getD_eq_getD_getElem?]; exact hs6
      clear hf hr
      refine YieldsIf.wpOp (S := fun w' => w' = w) (v := .int .i64 (7 * y4)) rfl (.inl ⟨by rfl, fun w' hw => ?_⟩) rfl ⟨0, rfl, Below.refl _ _, trivial⟩
      subst hw
      first | (go_simp; done) | (go_simp; with_reducible rfl) | (go_simp; intro hbad; exfalso; omega)
    · obtain rfl := Option.some.inj (show some _ = some o from ho)
      have hs7 : a.tmps.getD 15 undef = .int .i64 (7 * y4) := (hf 7 (by decide) (by kernel_rfl)).2 _ _ rfl rfl
      have hS7 : a.tmps[15]?.getD undef = .int .i64 (7 * y4) := by rw [← Array.getD_eq_getD_getElem?]; exact hs7
      clear hf hr
      refine YieldsIf.wpOp (S := fun w' => w' = w) (v := .int .i64 (1 + 7 * y4)) rfl (.inl ⟨by rfl, fun w' hw => ?_⟩) rfl ⟨0, rfl, Below.refl _ _, trivial⟩
      subst hw
      first | (go_simp; done) | (go_simp; with_reducible rfl) | (go_simp; intro hbad; exfalso; omega)
    · obtain rfl := Option.some.inj (show some _ = some o from ho)
      have hs2 : a.tmps.getD 10 undef = .int .i64 x := (hf 2 (by decide) (by kernel_rfl)).2 _ _ rfl rfl
      have hs8 : a.tmps.getD 16 undef = .int .i64 (1 + 7 * y4) := (hf 8 (by decide) (by kernel_rfl)).2 _ _ rfl rfl
      have hS2 : a.tmps[10]?.getD undef = .int .i64 x := by rw [← Array.getD_eq_getD_getElem?]; exact hs2
      have hS8 : a.tmps[16]?.getD undef = .int .i64 (1 + 7 * y4) := by rw [← Array.getD_eq_getD_getElem?]; exact hs8
      clear hf hr
      refine YieldsIf.wpOp (S := fun w' => w' = w) (v := .agg #[.int .i64 3, .int .i64 x, .int .i64 (1 + 7 * y4)]) rfl (.inl ⟨by rfl, fun w' hw => ?_⟩) rfl ⟨0, rfl, Below.refl _ _, trivial⟩
      subst hw
      first | (go_simp; done) | (go_simp; with_reducible rfl) | (go_simp; intro hbad; exfalso; omega)
    · obtain rfl := Option.some.inj (show some _ = some o from ho)
      have ht1 : a.tmps.getD 1 undef = .pointer (some ⟨bl, 0, none⟩) := hr 1 (by kernel_rfl)
      have hT1 : a.tmps[1]?.getD undef = .pointer (some ⟨bl, 0, none⟩) := by rw [← Array.getD_eq_getD_getElem?]; exact ht1
      have hcl : w.cell? ⟨bl, 0, none⟩ = some (.slice A n cap) := cell_below hb HC.out
      clear hf hr
      refine YieldsIf.wpOp (S := fun w' => w' = w) (v := .slice A n cap) rfl (.inl ⟨by rfl, fun w' hw => ?_⟩) rfl ⟨0, rfl, Below.refl _ _, trivial⟩
      subst hw
      first | (go_simp; done) | (go_simp; with_reducible rfl) | (go_simp; intro hbad; exfalso; omega)
    · obtain rfl := Option.some.inj (show some _ = some o from ho)
      have ht0 : a.tmps.getD 0 undef = .int .i64 i := hr 0 (by kernel_rfl)
      have hT0 : a.tmps[0]?.getD undef = .int .i64 i := by rw [← Array.getD_eq_getD_getElem?]; exact ht0
      clear hf hr
      refine YieldsIf.wpOp (S := fun w' => w' = w) (v := .int .i64 i) rfl (.inl ⟨by rfl, fun w' hw => ?_⟩) rfl ⟨0, rfl, Below.refl _ _, trivial⟩
      subst hw
      first | (go_simp; done) | (go_simp; with_reducible rfl) | (go_simp; intro hbad; exfalso; omega)
    · obtain rfl := Option.some.inj (show some _ = some o from ho)
      have hs11 : a.tmps.getD 19 undef = .int .i64 i := (hf 11 (by decide) (by kernel_rfl)).2 _ _ rfl rfl
      have hS11 : a.tmps[19]?.getD undef = .int .i64 i := by rw [← Array.getD_eq_getD_getElem?]; exact hs11
      clear hf hr
      refine YieldsIf.wpOp (S := fun w' => w' = w) (v := .int .i64 (i + 1)) rfl (.inl ⟨by rfl, fun w' hw => ?_⟩) rfl ⟨0, rfl, Below.refl _ _, trivial⟩
      subst hw
      first | (go_simp; done) | (go_simp; with_reducible rfl) | (go_simp; intro hbad; exfalso; omega)
    · obtain rfl := Option.some.inj (show some _ = some o from ho)
      have hs10 : a.tmps.getD 18 undef = .slice A n cap := (hf 10 (by decide) (by kernel_rfl)).2 _ _ rfl rfl
      have hs12 : a.tmps.getD 20 undef = .int .i64 (i + 1) := (hf 12 (by decide) (by kernel_rfl)).2 _ _ rfl rfl
      have hS10 : a.tmps[18]?.getD undef = .slice A n cap := by rw [← Array.getD_eq_getD_getElem?]; exact hs10
      have hS12 : a.tmps[20]?.getD undef = .int .i64 (i + 1) := by rw [← Array.getD_eq_getD_getElem?]; exact hs12
      clear hf hr
      refine wpOp_step rfl (fun K hK => ?_)
      replace hK := Lib.hid hK
      rw [if_pos (by rfl)]
      go_simp
      refine (HA28.out _ (HD.out.below hb)).mono ?_
      rintro e w' ⟨rfl, rfl⟩
      go_wp2_with fail
      exact hK.out _ _ ⟨0, rfl, Below.refl _ _, trivial⟩
    · obtain rfl := Option.some.inj (show some _ = some o from ho)
      have hs13 : a.tmps.getD 21 undef = .int .i64 y28 := (hf 13 (by decide) (by kernel_rfl)).2 _ _ rfl rfl
      have hS13 : a.tmps[21]?.getD undef = .int .i64 y28 := by rw [← Array.getD_eq_getD_getElem?]; exact hs13
      clear hf hr
      refine YieldsIf.wpOp (S := fun w' => w' = w) (v := .int .i64 (1 + y28)) rfl (.inl ⟨by rfl, fun w' hw => ?_⟩) rfl ⟨0, rfl, Below.refl _ _, trivial⟩
      subst hw
      first | (go_simp; done) | (go_simp; with_reducible rfl) | (go_simp; intro hbad; exfalso; omega)
    · obtain rfl := Option.some.inj (show some _ = some o from ho)
      have hs14 : a.tmps.getD 22 undef = .int .i64 (1 + y28) := (hf 14 (by decide) (by kernel_rfl)).2 _ _ rfl rfl
      have hS14 : a.tmps[22]?.getD undef = .int .i64 (1 + y28) := by rw [← Array.getD_eq_getD_getElem?]; exact hs14
      clear hf hr
      refine YieldsIf.wpOp (S := fun w' => w' = w) (v := .agg #[.int .i64 1, .int .i64 0, .int .i64 (1 + y28)]) rfl (.inl ⟨by rfl, fun w' hw => ?_⟩) rfl ⟨0, rfl, Below.refl _ _, trivial⟩
      subst hw
      first | (go_simp; done) | (go_simp; with_reducible rfl) | (go_simp; intro hbad; exfalso; omega)
    · obtain rfl := Option.some.inj (show some _ = some o from ho)
      have hs1 : a.tmps.getD 9 undef = .agg #[.int .i64 2, .int .i64 x, .int .i64 0] := (hf 1 (by decide) (by kernel_rfl)).2 _ _ rfl rfl
      have hs9 : a.tmps.getD 17 undef = .agg #[.int .i64 3, .int .i64 x, .int .i64 (1 + 7 * y4)] := (hf 9 (by decide) (by kernel_rfl)).2 _ _ rfl rfl
      have hs15 : a.tmps.getD 23 undef = .agg #[.int .i64 1, .int .i64 0, .int .i64 (1 + y28)] := (hf 15 (by decide) (by kernel_rfl)).2 _ _ rfl rfl
      have hS1 : a.tmps[9]?.getD undef = .agg #[.int .i64 2, .int .i64 x, .int .i64 0] := by rw [← Array.getD_eq_getD_getElem?]; exact hs1
      have hS9 : a.tmps[17]?.getD undef = .agg #[.int .i64 3, .int .i64 x, .int .i64 (1 + 7 * y4)] := by rw [← Array.getD_eq_getD_getElem?]; exact hs9
      have hS15 : a.tmps[23]?.getD undef = .agg #[.int .i64 1, .int .i64 0, .int .i64 (1 + y28)] := by rw [← Array.getD_eq_getD_getElem?]; exact hs15
      clear hf hr
      refine wpOp_step rfl (fun K hK => ?_)
      rw [if_pos (by rfl)]
      go_simp
      exact hK _ _ ⟨w.heap.size, rfl, bel_alloc _ _, heap_alloc_new _ _⟩
    · obtain rfl := Option.some.inj (show some _ = some o from ho)
      have ht1 : a.tmps.getD 1 undef = .pointer (some ⟨bl, 0, none⟩) := hr 1 (by kernel_rfl)
      have hT1 : a.tmps[1]?.getD undef = .pointer (some ⟨bl, 0, none⟩) := by rw [← Array.getD_eq_getD_getElem?]; exact ht1
      have hcl : w.cell? ⟨bl, 0, none⟩ = some (.slice A n cap) := cell_below hb HC.out
      clear hf hr
      refine YieldsIf.wpOp (S := fun w' => w' = w) (v := .slice A n cap) rfl (.inl ⟨by rfl, fun w' hw => ?_⟩) rfl ⟨0, rfl, Below.refl _ _, trivial⟩
      subst hw
      first | (go_simp; done) | (go_simp; with_reducible rfl) | (go_simp; intro hbad; exfalso; omega)
    · obtain rfl := Option.some.inj (show some _ = some o from ho)
      have ht0 : a.tmps.getD 0 undef = .int .i64 i := hr 0 (by kernel_rfl)
      have hT0 : a.tmps[0]?.getD undef = .int .i64 i := by rw [← Array.getD_eq_getD_getElem?]; exact ht0
      clear hf hr
      refine YieldsIf.wpOp (S := fun w' => w' = w) (v := .int .i64 i) rfl (.inl ⟨by rfl, fun w' hw => ?_⟩) rfl ⟨0, rfl, Below.refl _ _, trivial⟩
      subst hw
      first | (go_simp; done) | (go_simp; with_reducible rfl) | (go_simp; intro hbad; exfalso; omega)
    · obtain rfl := Option.some.inj (show some _ = some o from ho)
      have hs18 : a.tmps.getD 26 undef = .int .i64 i := (hf 18 (by decide) (by kernel_rfl)).2 _ _ rfl rfl
      have hS18 : a.tmps[26]?.getD undef = .int .i64 i := by rw [← Array.getD_eq_getD_getElem?]; exact hs18
      clear hf hr
      refine YieldsIf.wpOp (S := fun w' => w' = w) (v := .int .i64 (i + 2)) rfl (.inl ⟨by rfl, fun w' hw => ?_⟩) rfl ⟨0, rfl, Below.refl _ _, trivial⟩
      subst hw
      first | (go_simp; done) | (go_simp; with_reducible rfl) | (go_simp; intro hbad; exfalso; omega)
    · obtain rfl := Option.some.inj (show some _ = some o from ho)
      have hs17 : a.tmps.getD 25 undef = .slice A n cap := (hf 17 (by decide) (by kernel_rfl)).2 _ _ rfl rfl
      have hs19 : a.tmps.getD 27 undef = .int .i64 (i + 2) := (hf 19 (by decide) (by kernel_rfl)).2 _ _ rfl rfl
      have hS17 : a.tmps[25]?.getD undef = .slice A n cap := by rw [← Array.getD_eq_getD_getElem?]; exact hs17
      have hS19 : a.tmps[27]?.getD undef = .int .i64 (i + 2) := by rw [← Array.getD_eq_getD_getElem?]; exact hs19
      clear hf hr
      refine wpOp_step rfl (fun K hK => ?_)
      replace hK := Lib.hid hK
      rw [if_pos (by rfl)]
      go_simp
      refine (HA3.out _ (HD.out.below hb)).mono ?_
      rintro e w' ⟨rfl, rfl⟩
      go_wp2_with fail
      exact hK.out _ _ ⟨0, rfl, Below.refl _ _, trivial⟩
    · obtain rfl := Option.some.inj (show some _ = some o from ho)
      have hs16 : a.tmps.getD 24 undef = .slice (some ⟨(F 16), 0, none⟩) 3 3 := (hf 16 (by decide) (by kernel_rfl)).2 _ _ rfl rfl
      have hs20 : a.tmps.getD 28 undef = .int .i64 ((kz : Int)) := (hf 20 (by decide) (by kernel_rfl)).2 _ _ rfl rfl
      have hS16 : a.tmps[24]?.getD undef = .slice (some ⟨(F 16), 0, none⟩) 3 3 := by rw [← Array.getD_eq_getD_getElem?]; exact hs16
      have hS20 : a.tmps[28]?.getD undef = .int .i64 ((kz : Int)) := by rw [← Array.getD_eq_getD_getElem?]; exact hs20
      clear hf hr
      refine YieldsIf.wpOp (S := fun w' => w' = w) (v := .pointer (some ⟨(F 16), kz * 3, none⟩)) rfl (.inl ⟨by rfl, fun w' hw => ?_⟩) rfl ⟨0, rfl, Below.refl _ _, trivial⟩
      subst hw
      first | (go_simp; done) | (go_simp; with_reducible rfl) | (go_simp; intro hbad; exfalso; omega)
    · obtain rfl := Option.some.inj (show some _ = some o from ho)
      have hs21 : a.tmps.getD 29 undef = .pointer (some ⟨(F 16), kz * 3, none⟩) := (hf 21 (by decide) (by kernel_rfl)).2 _ _ rfl rfl
      have hS21 : a.tmps[29]?.getD undef = .pointer (some ⟨(F 16), kz * 3, none⟩) := by rw [← Array.getD_eq_getD_getElem?]; exact hs21
      have hn := (hf 16 (by decide) (by kernel_rfl)).1
      obtain ⟨hl0, hl1, hl2⟩ := HL.out _ _ hn
      clear hf hr
      refine YieldsIf.wpOp (S := fun w' => w' = w) (v := .agg #[.int .i64 d0, .int .i64 d1, .int .i64 d2]) rfl (.inl ⟨by rfl, fun w' hw => ?_⟩) rfl ⟨0, rfl, Below.refl _ _, trivial⟩
      subst hw
      first | (go_simp; done) | (go_simp; with_reducible rfl) | (go_simp; intro hbad; exfalso; omega)
  · intro F w hb hps
    have hn16 : w.heap[F 16]? = some (.cells #[.int .i64 2, .int .i64 x, .int .i64 0, .int .i64 3, .int .i64 x, .int .i64 (1 + 7 * y4), .int .i64 1, .int .i64 0, .int .i64 (1 + y28)] 52) := hps 16 (by decide)
    clear hps
    refine wpOp_step rfl (fun K hK => ?_)
    rw [if_pos (by rfl)]
    have hk := block_below HK.out hb
    have hbw : Below W.heap.size W w := bel_trans HB.out hb
    refine wp_store_mid _ _ _ rfl W.heap.size 0 #[.int .i64 d0, .int .i64 d1, .int .i64 d2] rfl rfl (there3 hk) (by kernel_rfl) (by simp [Value.oneCell']) ?_
    refine hK _ _ ?_
    have hk3 := set3c (d0 := .int .i64 d0) (d1 := .int .i64 d1) (d2 := .int .i64 d2) hk
    have hb3 := bel_setCells (o := 0) (l := [.int .i64 d0, .int .i64 d1, .int .i64 d2]) hbw (Nat.le_refl _)
    clear hK K hn16
    go_wp2_with fail
    refine bodyPost_ret (results_cell_row rfl _ _ _ _ _ _ _ rfl hk3 Tryd.underlying52 rfl (by kernel_rfl)) rfl ?_
    exact ⟨ret_agg HV.out.symm, hb3⟩
end Go.Proofs.YtdppmeeobpbfnaaDoor
