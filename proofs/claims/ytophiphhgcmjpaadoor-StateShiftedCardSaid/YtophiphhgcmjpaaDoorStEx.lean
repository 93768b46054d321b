/-
  The examples of chapter 19 (works).
-/
import Derived.Test.YtophiphhgcmjpaaDoorStAt
import Derived.Test.YtophiphhgcmjpaaDoorBefM
import Derived.Test.YtophiphhgcmjpaaDoorEvEx
namespace Go.Proofs.YtophiphhgcmjpaaDoor
open Go.RowKit Cv
set_option linter.unusedVariables false
set_option linter.unusedSimpArgs false

namespace Cv
def exQ0 (b : Int) : Ru := ⟨⟨#[82]⟩, 1972, 1048576, 3, 3, 0, 15, 7200, b, 0, ⟨#[]⟩⟩
def exQ1 : Ru := ⟨⟨#[82]⟩, 1972, 1048576, 10, 2, 0, 0, 3600, 2, -3600, ⟨#[83]⟩⟩
def exQ2 : Ru := ⟨⟨#[82]⟩, 1971, 1971, 10, 1, 0, 31, 7200, 2, -3600, ⟨#[83]⟩⟩
def exQ (b : Int) : _root_.List Ru := [exQ0 b, exQ1, exQ2]
theorem AtIs.uniq {rs : _root_.List Ru} {off t : Int} : ∀ {n : Nat} {N : Int} {s u : Sta}, AtIs rs off t n N s → AtIs rs off t n N u → s = u
  | 0, N, s, u, ⟨o, h1, h2⟩, ⟨p, k1, k2⟩ => by rw [h2, k2, h1.uniq k1]
  | n + 1, N, s, u, h, k => by
    rcases h with ⟨h1, h2⟩ | ⟨x, z, h1, h2, h3⟩ <;> rcases k with ⟨k1, k2⟩ | ⟨y, v, k1, k2, k3⟩
    · rw [h2, k2]
    · cases h1.uniq k1
    · cases h1.uniq k1
    · cases h1.uniq k1
      have := h2.uniq k2
      subst this
      rcases h3 with ⟨h4, h5⟩ | ⟨h4, h5⟩ <;> rcases k3 with ⟨k4, k5⟩ | ⟨k4, k5⟩
      · rw [h5, k5]
      · omega
      · omega
      · exact AtIs.uniq h5 k5
theorem BefR.to {rs : _root_.List Ru} {N : Int} {o : Option Ev} {W : World} {v : Value} (h : BefIs rs N o) (hv : staV (befS rs o) = v) : ∀ e w', BefR rs N W e w' → e = .returned v ∧ Below W.heap.size W w' := by
  rintro e w' ⟨p, hp, he, hb⟩
  obtain rfl := hp.out.uniq h
  exact ⟨by rw [he, hv], hb⟩
theorem AtR.to {rs : _root_.List Ru} {off t : Int} {s : Sta} {W : World} {v : Value} (h : AtIs rs off t 3 (t + 259200) s) (hv : staV s = v) : ∀ e w', AtR rs off t W e w' → e = .returned v ∧ Below W.heap.size W w' := by
  rintro e w' ⟨p, hp, he, hb⟩
  obtain rfl := hp.out.uniq h
  exact ⟨by rw [he, hv], hb⟩
theorem InstR.to {rs : _root_.List Ru} {x : Ev} {off z : Int} {W : World} (h : InstIs rs x off z) : ∀ e w', InstR rs x off W e w' → e = .returned (.int .i64 z) ∧ Below W.heap.size W w' := by
  rintro e w' ⟨p, hp, he, hb⟩
  obtain rfl := hp.out.uniq h
  exact ⟨he, hb⟩
def summer : Sta := ⟨0, ⟨#[]⟩⟩
def winter : Sta := ⟨-3600, ⟨#[83]⟩⟩
theorem qInit : (initS (exQ 2)).save = 0 ∧ (initS (exQ 2)).le = ⟨#[]⟩ := by decide +kernel
theorem qInit' : initS (exQ 2) = summer := by
  have h := qInit
  cases hh : initS (exQ 2) with
  | mk a b => rw [hh] at h; obtain ⟨h1, h2⟩ := h; dsimp only at h1 h2; rw [h1, h2]; rfl
theorem qB1 : BefIs (exQ 2) 63072000 (some ⟨1971, 2, 57722400⟩) := bef_of (lo := 1971) (n := 3) (by decide +kernel) (by decide +kernel) (by decide +kernel)
theorem qB2 : BefIs (exQ 2) 94694400 (some ⟨1972, 1, 89168400⟩) := bef_of (lo := 1971) (n := 4) (by decide +kernel) (by decide +kernel) (by decide +kernel)
theorem qB3 : BefIs (exQ 2) 57981599 (some ⟨1971, 2, 57722400⟩) := bef_of (lo := 1971) (n := 3) (by decide +kernel) (by decide +kernel) (by decide +kernel)
theorem qB4 : BefIs (exQ 2) 57722400 none := bef_of (lo := 1971) (n := 3) (by decide +kernel) (by decide +kernel) (by decide +kernel)
theorem qB5 : BefIs (exQ 2) 57981600 (some ⟨1971, 2, 57722400⟩) := bef_of (lo := 1971) (n := 3) (by decide +kernel) (by decide +kernel) (by decide +kernel)
theorem qB6 : BefIs (exQ 0) 69818400 (some ⟨1971, 2, 57722400⟩) := bef_of (lo := 1971) (n := 3) (by decide +kernel) (by decide +kernel) (by decide +kernel)
theorem qI1 : InstIs (exQ 2) ⟨1971, 2, 57722400⟩ 3600 57722400 := ⟨exQ2, rfl, .inr (.inr ⟨by decide, by decide, rfl⟩)⟩
theorem qI2 : InstIs (exQ 2) ⟨1972, 0, 69818400⟩ 3600 69818400 := ⟨exQ0 2, rfl, .inr (.inr ⟨by decide, by decide, rfl⟩)⟩
theorem qI3 : InstIs (exQ 0) ⟨1972, 0, 69818400⟩ 3600 69818400 := ⟨exQ0 0, rfl, .inl ⟨rfl, _, qB6, by rfl⟩⟩
theorem qA1 : AtIs (exQ 2) 3600 57722399 3 (57722399 + 259200) summer := .inr ⟨_, _, qB3, qI1, .inr ⟨by decide, .inl ⟨qB4, qInit'.symm⟩⟩⟩
theorem qA2 : AtIs (exQ 2) 3600 57722400 3 (57722400 + 259200) winter := .inr ⟨_, _, qB5, qI1, .inl ⟨by decide, rfl⟩⟩
theorem bef_nil19 (N : Int) : BefIs [] N none := by
  rintro e ⟨r, hr, _⟩
  unfold ruleAt at hr; split at hr <;> simp at hr
theorem qA3 : AtIs [] 0 0 3 (0 + 259200) summer := .inl ⟨bef_nil19 _, rfl⟩
theorem qE (b : Int) (hb : b = 2 ∨ b = 0) : evOn (exQ b) 0 1972 = some ⟨1972, 0, 69818400⟩ := by rcases hb with rfl | rfl <;> decide +kernel
theorem qTame (b : Int) : Tame (exQ b) := by
  intro r hr; simp [exQ] at hr; rcases hr with rfl | rfl | rfl <;> (simp only [exQ0, exQ1, exQ2]; constructor <;> decide)
theorem qSav (b : Int) : SavOk (exQ b) := by
  intro r hr; simp [exQ] at hr; rcases hr with rfl | rfl | rfl <;> (simp only [exQ0, exQ1, exQ2]; constructor <;> decide)
theorem qRul {w : World} {g : Nat} {b : Int} (hb : fit b) (h : w.heap[g]? = some (.cells #[.string ⟨#[82]⟩, .int .i64 1972, .int .i64 1048576, .int .i64 3, .int .i64 3, .int .i64 0, .int .i64 15, .int .i64 7200, .int .i64 b, .int .i64 0, .string ⟨#[]⟩, .string ⟨#[82]⟩, .int .i64 1972, .int .i64 1048576, .int .i64 10, .int .i64 2, .int .i64 0, .int .i64 0, .int .i64 3600, .int .i64 2, .int .i64 (-3600), .string ⟨#[83]⟩, .string ⟨#[82]⟩, .int .i64 1971, .int .i64 1971, .int .i64 10, .int .i64 1, .int .i64 0, .int .i64 31, .int .i64 7200, .int .i64 2, .int .i64 (-3600), .string ⟨#[83]⟩] 37)) : Rul (.slice (some ⟨g, 0, none⟩) 3 3) (exQ b) w :=
  Rul.block (rs := exQ b) h rfl (by simp [exQ]) (by
    intro r hr; simp [exQ] at hr
    rcases hr with rfl | rfl | rfl <;> (simp only [exQ0, exQ1, exQ2, Ru.fits]; unfold fit at *; omega))
theorem rul_nil19 (w : World) : Rul (.slice none 0 0) [] w := ⟨none, 0, rfl, by simp, fun r hr => (by cases hr), fun i r hr => by simp at hr⟩
end Cv

set_option maxRecDepth 100000 in
set_option maxHeartbeats 4000000 in
theorem rules19_any (b : Int) (W : World) (hb : fit b) : Calls Tryd.prog 30 #[.int .i64 b] W fun e w' => (∃ g : Nat, e = .returned (.slice (some ⟨g, 0, none⟩) 3 3) ∧ Hid (Rul (.slice (some ⟨g, 0, none⟩) 3 3) (exQ b) w')) ∧ Below W.heap.size W w' := by
  have HB := Lib.hid hb
  clear hb
  go_enter Tryd.func30, Tryd.ntmps30
  go_wp2_with fail
  go_ret
  exact ⟨⟨_, rfl, Lib.hid (qRul HB.out (heap_alloc_new _ _))⟩, bel_alloc _ _⟩

set_option maxRecDepth 100000 in
set_option maxHeartbeats 4000000 in
theorem day19_any (y m d v u : Int) (W : World) (hT : Tabs W) (hy1 : -9223372036854775808 ≤ y) (hy2 : y ≤ 9223372036854775807) (hm1 : -9223372036854775808 ≤ m) (hm2 : m ≤ 9223372036854775807) (hd1 : -9223372036854775808 ≤ d) (hd2 : d ≤ 9223372036854775807) (h1 : Hid (inr y ∧ ok y m d)) (h2 : Hid (num y m d = v)) (hv1 : -1000000000000 ≤ v) (hv2 : v ≤ 1000000000000) (hu : 86400 * v = u) :
    Calls Tryd.prog 31 #[.int .i64 y, .int .i64 m, .int .i64 d] W fun e w' => e = .returned (.int .i64 u) ∧ ∃ n, w' = W.drewN n := by
  have HT := Lib.hid hT
  clear hT
  go_enter Tryd.func31, Tryd.ntmps31
  go_wp2_with fail
  refine (days_any y m d _ (by exact HT.out.1) (by omega) (by omega) (by omega) (by omega)).mono ?_
  intro e w' hq; obtain ⟨rfl, nd, rfl⟩ := DaysR.to_yes (v := v) h1.out h2.out _ _ hq; clear hq
  go_wp2_with fail
  go_ret
  exact ⟨rfl, _, rfl⟩

set_option maxRecDepth 100000 in
set_option maxHeartbeats 4000000 in
theorem instNil_any (y i n off : Int) (W : World) (hi : 0 ≤ i) : Calls Tryd.prog 17 #[.slice none 0 0, .agg #[.int .i64 y, .int .i64 i, .int .i64 n], .int .i64 off] W fun e w' => e = .returned (.int .i64 0) ∧ Below W.heap.size W w' := by
  have h1 : ¬ i < 0 := by omega
  go_enter Tryd.func17, Tryd.ntmps17
  go_wp2_with fail
  go_ret
  exact ⟨rfl, bel_alloc _ _⟩
theorem eqSta0 (w : World) : (binOp .eql 39 (.agg #[.int .i64 0, .string ⟨#[]⟩]) (.agg #[.int .i64 0, .string ⟨#[]⟩])).run Tryd.prog w = .ok (.bool true) w := by kernel_rfl
theorem eqSta1 (w : World) : (binOp .eql 39 (.agg #[.int .i64 (-3600), .string ⟨#[83]⟩]) (.agg #[.int .i64 (-3600), .string ⟨#[83]⟩])).run Tryd.prog w = .ok (.bool true) w := by kernel_rfl

set_option maxRecDepth 100000 in
set_option maxHeartbeats 16000000 in
theorem works19_any (W : World) (hT : Tabs W) : Calls Tryd.prog 12 #[] W fun e w' => e = .returned (.bool true) ∧ Below W.heap.size W w' := by
  have HT := Lib.hid hT
  have hs0 := eqSta0
  have hs1 := eqSta1
  clear hT
  go_enter Tryd.func12, Tryd.ntmps12
  go_wp2_with fail
  refine (rules19_any 2 _ (by unfold fit; omega)).mono ?_
  rintro e w1 ⟨⟨g1, rfl, HR⟩, hb1⟩
  have HB := Lib.hid hb1
  clear hb1
  go_wp2_with fail
  refine (rules19_any 0 _ (by unfold fit; omega)).mono ?_
  rintro e w2 ⟨⟨g2, rfl, HS⟩, hb1⟩
  have HB := Lib.hid (bel_trans HB.out hb1)
  have HR := Lib.hid (HR.out.below hb1)
  clear hb1
  go_wp2_with fail
  refine (day19_any 1971 10 31 668 57715200 _ (by exact HT.out.below HB.out) (by omega) (by omega) (by omega) (by omega) (by omega) (by omega) (Lib.hid (by decide +kernel)) (Lib.hid (by decide +kernel)) (by omega) (by omega) (by omega)).mono ?_
  rintro e w3 ⟨rfl, n1, rfl⟩
  go_wp2_with fail
  refine (day19_any 1972 1 1 730 63072000 _ (by exact (HT.out.below HB.out).drewN _) (by omega) (by omega) (by omega) (by omega) (by omega) (by omega) (Lib.hid (by decide +kernel)) (Lib.hid (by decide +kernel)) (by omega) (by omega) (by omega)).mono ?_
  rintro e w3 ⟨rfl, n2, rfl⟩
  go_wp2_with fail
  refine (day19_any 1973 1 1 1096 94694400 _ (by exact (HT.out.below HB.out).drewN _) (by omega) (by omega) (by omega) (by omega) (by omega) (by omega) (Lib.hid (by decide +kernel)) (Lib.hid (by decide +kernel)) (by omega) (by omega) (by omega)).mono ?_
  rintro e w3 ⟨rfl, n3, hw3⟩
  obtain ⟨hR3, hS3, hB3⟩ : Rul (.slice (some ⟨g1, 0, none⟩) 3 3) (exQ 2) w3 ∧ Rul (.slice (some ⟨g2, 0, none⟩) 3 3) (exQ 0) w3 ∧ Below W.heap.size W w3 := by
    subst hw3
    exact ⟨HR.out.below (bel_drew (bel_drew (Below.refl _ _) _) _), HS.out.below (bel_drew (bel_drew (Below.refl _ _) _) _), bel_drew (bel_drew HB.out _) _⟩
  have HR := Lib.hid hR3
  have HS := Lib.hid hS3
  have HB := Lib.hid hB3
  clear hw3 hR3 hS3 hB3
  have HX := Lib.hid (bel_trans (bel_alloc w3 (.cells #[.int .i64 (-3600), .string ⟨#[83]⟩] 39)) (bel_alloc _ (.cells #[.int .i64 0, .string ⟨#[]⟩] 39)))
  have K6 := Lib.hid (show ((w3.alloc (.cells #[.int .i64 (-3600), .string ⟨#[83]⟩] 39)).alloc (.cells #[.int .i64 0, .string ⟨#[]⟩] 39)).heap[w3.heap.size]? = some (.cells #[.int .i64 (-3600), .string ⟨#[83]⟩] 39) from al_old (al_new rfl))
  have K7 := Lib.hid (show ((w3.alloc (.cells #[.int .i64 (-3600), .string ⟨#[83]⟩] 39)).alloc (.cells #[.int .i64 0, .string ⟨#[]⟩] 39)).heap[w3.heap.size + 1]? = some (.cells #[.int .i64 0, .string ⟨#[]⟩] 39) from al_new (by simp))
  have HR := Lib.hid (HR.out.below HX.out)
  have HS := Lib.hid (HS.out.below HX.out)
  have HB := Lib.hid (bel_trans HB.out HX.out)
  go_wp2_with fail
  go_wp2_with fail
  refine (evOn_any _ (exQ 2) 0 1972 _ (by exact HT.out.below HB.out) (by exact HR.out) (by omega) (by omega)).mono ?_
  intro e w4 hq; obtain ⟨rfl, hb⟩ := EvR.to (v := .tuple #[.agg #[.int .i64 1972, .int .i64 0, .int .i64 69818400], .bool true]) (by rw [qE 2 (.inl rfl)]; rfl) _ _ hq; clear hq
  have HB := Lib.hid (bel_trans HB.out (bel_trans hb (bel_alloc w4 (.cells #[.int .i64 1972, .int .i64 0, .int .i64 69818400] 31))))
  have HR := Lib.hid (HR.out.below (bel_trans hb (bel_alloc w4 (.cells #[.int .i64 1972, .int .i64 0, .int .i64 69818400] 31))))
  have HS := Lib.hid (HS.out.below (bel_trans hb (bel_alloc w4 (.cells #[.int .i64 1972, .int .i64 0, .int .i64 69818400] 31))))
  have K6 := Lib.hid (block_below K6.out (bel_trans hb (bel_alloc w4 (.cells #[.int .i64 1972, .int .i64 0, .int .i64 69818400] 31))))
  have K7 := Lib.hid (block_below K7.out (bel_trans hb (bel_alloc w4 (.cells #[.int .i64 1972, .int .i64 0, .int .i64 69818400] 31))))
  clear hb
  have K8 := Lib.hid (heap_alloc_new w4 (.cells #[.int .i64 1972, .int .i64 0, .int .i64 69818400] 31))
  go_wp2_with fail
  refine (evOn_any _ (exQ 0) 0 1972 _ (by exact HT.out.below HB.out) (by exact HS.out) (by omega) (by omega)).mono ?_
  intro e w5 hq; obtain ⟨rfl, hb⟩ := EvR.to (v := .tuple #[.agg #[.int .i64 1972, .int .i64 0, .int .i64 69818400], .bool true]) (by rw [qE 0 (.inr rfl)]; rfl) _ _ hq; clear hq
  have HB := Lib.hid (bel_trans HB.out (bel_trans hb (bel_alloc w5 (.cells #[.int .i64 1972, .int .i64 0, .int .i64 69818400] 31))))
  have HR := Lib.hid (HR.out.below (bel_trans hb (bel_alloc w5 (.cells #[.int .i64 1972, .int .i64 0, .int .i64 69818400] 31))))
  have HS := Lib.hid (HS.out.below (bel_trans hb (bel_alloc w5 (.cells #[.int .i64 1972, .int .i64 0, .int .i64 69818400] 31))))
  have K6 := Lib.hid (block_below K6.out (bel_trans hb (bel_alloc w5 (.cells #[.int .i64 1972, .int .i64 0, .int .i64 69818400] 31))))
  have K7 := Lib.hid (block_below K7.out (bel_trans hb (bel_alloc w5 (.cells #[.int .i64 1972, .int .i64 0, .int .i64 69818400] 31))))
  have K8 := Lib.hid (block_below K8.out (bel_trans hb (bel_alloc w5 (.cells #[.int .i64 1972, .int .i64 0, .int .i64 69818400] 31))))
  clear hb
  have K10 := Lib.hid (heap_alloc_new w5 (.cells #[.int .i64 1972, .int .i64 0, .int .i64 69818400] 31))
  go_wp2_with fail
  refine (day19_any 1972 3 19 808 69811200 _ (by exact HT.out.below HB.out) (by omega) (by omega) (by omega) (by omega) (by omega) (by omega) (Lib.hid (by decide +kernel)) (Lib.hid (by decide +kernel)) (by omega) (by omega) (by omega)).mono ?_
  rintro e w6 ⟨rfl, n4, hw6⟩
  have hb : Below (w5.alloc (.cells #[.int .i64 1972, .int .i64 0, .int .i64 69818400] 31)).heap.size (w5.alloc (.cells #[.int .i64 1972, .int .i64 0, .int .i64 69818400] 31)) w6 := by subst hw6; exact bel_drew (Below.refl _ _) _
  clear hw6
  have HB := Lib.hid (bel_trans HB.out hb)
  have HR := Lib.hid (HR.out.below hb)
  have HS := Lib.hid (HS.out.below hb)
  have K6 := Lib.hid (block_below K6.out hb)
  have K7 := Lib.hid (block_below K7.out hb)
  have K8 := Lib.hid (block_below K8.out hb)
  have K10 := Lib.hid (block_below K10.out hb)
  clear hb
  have hbd : Below w6.heap.size w6 w6.drew := Below.drew (Below.refl _ _)
  have HB := Lib.hid (bel_trans HB.out hbd)
  have HR := Lib.hid (HR.out.below hbd)
  have HS := Lib.hid (HS.out.below hbd)
  have K6 := Lib.hid (block_below K6.out hbd)
  have K7 := Lib.hid (block_below K7.out hbd)
  have K8 := Lib.hid (block_below K8.out hbd)
  have K10 := Lib.hid (block_below K10.out hbd)
  go_wp2_with fail
  simp only [_root_.List.append_eq, _root_.List.cons_append, _root_.List.nil_append]
  refine wp_region_held_drew (S := (fun w' => w'.cell? ⟨w3.heap.size, 0, none⟩ = some (.int .i64 (-3600)) ∧ w'.cell? ⟨w3.heap.size, 1, none⟩ = some (.string ⟨#[83]⟩) ∧ w'.cell? ⟨w3.heap.size + 1, 0, none⟩ = some (.int .i64 0) ∧ w'.cell? ⟨w3.heap.size + 1, 1, none⟩ = some (.string ⟨#[]⟩) ∧ w'.cell? ⟨w4.heap.size, 0, none⟩ = some (.int .i64 1972) ∧ w'.cell? ⟨w4.heap.size, 1, none⟩ = some (.int .i64 0) ∧ w'.cell? ⟨w4.heap.size, 2, none⟩ = some (.int .i64 69818400) ∧ w'.cell? ⟨w5.heap.size, 0, none⟩ = some (.int .i64 1972) ∧ w'.cell? ⟨w5.heap.size, 1, none⟩ = some (.int .i64 0) ∧ w'.cell? ⟨w5.heap.size, 2, none⟩ = some (.int .i64 69818400))) (by kernel_rfl) (by exact ⟨cellB (block_below K6.out (Below.refl _ _)) (i := 0) rfl, cellB (block_below K6.out (Below.refl _ _)) (i := 1) rfl, cellB (block_below K7.out (Below.refl _ _)) (i := 0) rfl, cellB (block_below K7.out (Below.refl _ _)) (i := 1) rfl, cellB (block_below K8.out (Below.refl _ _)) (i := 0) rfl, cellB (block_below K8.out (Below.refl _ _)) (i := 1) rfl, cellB (block_below K8.out (Below.refl _ _)) (i := 2) rfl, cellB (block_below K10.out (Below.refl _ _)) (i := 0) rfl, cellB (block_below K10.out (Below.refl _ _)) (i := 1) rfl, cellB (block_below K10.out (Below.refl _ _)) (i := 2) rfl⟩) (fun hHeld => ?_)
  refine wpAnyH_take (i := 0) (v := ?_) rfl (by kernel_rfl) (by kernel_rfl) (by kernel_rfl) (fun _ _ _ h => h) (Or.inl ⟨by rfl, ?_⟩) (by assumption) ?_
  rotate_left 1
  · (intro w hSw; (try dsimp only at hSw); first | (go_simp; done) | (go_simp; with_reducible rfl))
  try simp only [Act.put, List.getElem_toArray, List.getElem_cons_succ, List.getElem_cons_zero, List.setIfInBounds_toArray, List.set_cons_zero, List.set_cons_succ]
  refine wpAnyH_take (i := 1) (v := ?_) rfl (by kernel_rfl) (by kernel_rfl) (by kernel_rfl) (fun _ _ _ h => h) (Or.inl ⟨by rfl, ?_⟩) (by assumption) ?_
  rotate_left 1
  · (intro w hSw; (try dsimp only at hSw); first | (go_simp; done) | (go_simp; with_reducible rfl))
  try simp only [Act.put, List.getElem_toArray, List.getElem_cons_succ, List.getElem_cons_zero, List.setIfInBounds_toArray, List.set_cons_zero, List.set_cons_succ]
  refine wpAnyH_take (i := 2) (v := ?_) rfl (by kernel_rfl) (by kernel_rfl) (by kernel_rfl) (fun _ _ _ h => h) (Or.inl ⟨by rfl, ?_⟩) (by assumption) ?_
  rotate_left 1
  · (intro w hSw; (try dsimp only at hSw); first | (go_simp; done) | (go_simp; with_reducible rfl))
  try simp only [Act.put, List.getElem_toArray, List.getElem_cons_succ, List.getElem_cons_zero, List.setIfInBounds_toArray, List.set_cons_zero, List.set_cons_succ]
  refine wpAnyH_take (i := 3) (v := ?_) rfl (by kernel_rfl) (by kernel_rfl) (by kernel_rfl) (fun _ _ _ h => h) (Or.inl ⟨by rfl, ?_⟩) (by assumption) ?_
  rotate_left 1
  · (intro w hSw; (try dsimp only at hSw); first | (go_simp; done) | (go_simp; with_reducible rfl))
  try simp only [Act.put, List.getElem_toArray, List.getElem_cons_succ, List.getElem_cons_zero, List.setIfInBounds_toArray, List.set_cons_zero, List.set_cons_succ]
  refine wpAnyH_take (i := 4) (v := ?_) rfl (by kernel_rfl) (by kernel_rfl) (by kernel_rfl) (fun _ _ _ h => h) (Or.inl ⟨by rfl, ?_⟩) (by assumption) ?_
  rotate_left 1
  · (intro w hSw; (try dsimp only at hSw); first | (go_simp; done) | (go_simp; with_reducible rfl))
  try simp only [Act.put, List.getElem_toArray, List.getElem_cons_succ, List.getElem_cons_zero, List.setIfInBounds_toArray, List.set_cons_zero, List.set_cons_succ]
  refine wpAnyH_take (i := 5) (v := ?_) rfl (by kernel_rfl) (by kernel_rfl) (by kernel_rfl) (fun _ _ _ h => h) (Or.inl ⟨by rfl, ?_⟩) (by assumption) ?_
  rotate_left 1
  · (intro w hSw; (try dsimp only at hSw); first | (go_simp; done) | (go_simp; with_reducible rfl))
  try simp only [Act.put, List.getElem_toArray, List.getElem_cons_succ, List.getElem_cons_zero, List.setIfInBounds_toArray, List.set_cons_zero, List.set_cons_succ]
  refine wpAnyH_take (i := 6) (v := ?_) rfl (by kernel_rfl) (by kernel_rfl) (by kernel_rfl) (fun _ _ _ h => h) (Or.inl ⟨by rfl, ?_⟩) (by assumption) ?_
  rotate_left 1
  · (intro w hSw; (try dsimp only at hSw); first | (go_simp; done) | (go_simp; with_reducible rfl))
  try simp only [Act.put, List.getElem_toArray, List.getElem_cons_succ, List.getElem_cons_zero, List.setIfInBounds_toArray, List.set_cons_zero, List.set_cons_succ]
  refine wpAnyH_take (i := 7) (v := ?_) rfl (by kernel_rfl) (by kernel_rfl) (by kernel_rfl) (fun _ _ _ h => h) (Or.inl ⟨by rfl, ?_⟩) (by assumption) ?_
  rotate_left 1
  · (intro w hSw; (try dsimp only at hSw); first | (go_simp; done) | (go_simp; with_reducible rfl))
  try simp only [Act.put, List.getElem_toArray, List.getElem_cons_succ, List.getElem_cons_zero, List.setIfInBounds_toArray, List.set_cons_zero, List.set_cons_succ]
  refine wpAnyH_take (i := 8) (v := ?_) rfl (by kernel_rfl) (by kernel_rfl) (by kernel_rfl) (fun _ _ _ h => h) (Or.inl ⟨by rfl, ?_⟩) (by assumption) ?_
  rotate_left 1
  · (intro w hSw; (try dsimp only at hSw); first | (go_simp; done) | (go_simp; with_reducible rfl))
  try simp only [Act.put, List.getElem_toArray, List.getElem_cons_succ, List.getElem_cons_zero, List.setIfInBounds_toArray, List.set_cons_zero, List.set_cons_succ]
  refine wpAnyH_take (i := 9) (v := ?_) rfl (by kernel_rfl) (by kernel_rfl) (by kernel_rfl) (fun _ _ _ h => h) (Or.inl ⟨by rfl, ?_⟩) (by assumption) ?_
  rotate_left 1
  · (intro w hSw; (try dsimp only at hSw); first | (go_simp; done) | (go_simp; with_reducible rfl))
  try simp only [Act.put, List.getElem_toArray, List.getElem_cons_succ, List.getElem_cons_zero, List.setIfInBounds_toArray, List.set_cons_zero, List.set_cons_succ]
  refine wpAnyH_take (i := 11) (v := ?_) rfl (by kernel_rfl) (by kernel_rfl) (by kernel_rfl) (fun _ _ _ h => h) (Or.inl ⟨by rfl, ?_⟩) (by assumption) ?_
  rotate_left 1
  · (intro w hSw; (try dsimp only at hSw); first | (go_simp; done) | (go_simp; with_reducible rfl))
  try simp only [Act.put, List.getElem_toArray, List.getElem_cons_succ, List.getElem_cons_zero, List.setIfInBounds_toArray, List.set_cons_zero, List.set_cons_succ]
  refine wpAnyH_ready (rs := [10]) (by kernel_rfl) (by simp) ?_
  refine AllReadyH.cons rfl (fun K hK => ?_) AllReadyH.nil
  go_simp
  refine (initial_any _ (exQ 2) _ (by exact HT.out.below HB.out) (by exact HR.out) (qTame 2)).mono ?_
  intro e w8 hq; obtain ⟨rfl, hb8⟩ := StaR.to (v := .agg #[.int .i64 0, .string ⟨#[]⟩]) (by rw [qInit']; rfl) _ _ hq; clear hq
  go_wp2_with fail
  refine hK.out _ _ ?_ (fun hHeld => ?_)
  · exact ⟨cellB (block_below K6.out hb8) (i := 0) rfl, cellB (block_below K6.out hb8) (i := 1) rfl, cellB (block_below K7.out hb8) (i := 0) rfl, cellB (block_below K7.out hb8) (i := 1) rfl, cellB (block_below K8.out hb8) (i := 0) rfl, cellB (block_below K8.out hb8) (i := 1) rfl, cellB (block_below K8.out hb8) (i := 2) rfl, cellB (block_below K10.out hb8) (i := 0) rfl, cellB (block_below K10.out hb8) (i := 1) rfl, cellB (block_below K10.out hb8) (i := 2) rfl⟩
  clear hK K
  try simp only [Act.put, List.getElem_toArray, List.getElem_cons_succ, List.getElem_cons_zero, List.setIfInBounds_toArray, List.set_cons_zero, List.set_cons_succ]
  have HB := Lib.hid (bel_trans HB.out hb8)
  have HR := Lib.hid (HR.out.below hb8)
  have HS := Lib.hid (HS.out.below hb8)
  have K6 := Lib.hid (block_below K6.out hb8)
  have K7 := Lib.hid (block_below K7.out hb8)
  have K8 := Lib.hid (block_below K8.out hb8)
  have K10 := Lib.hid (block_below K10.out hb8)
  refine wpAnyH_take (i := 12) (v := ?_) rfl (by kernel_rfl) (by kernel_rfl) (by kernel_rfl) (fun _ _ _ h => h) (Or.inl ⟨by rfl, ?_⟩) (by assumption) ?_
  rotate_left 1
  · (intro w hSw; (try dsimp only at hSw); first | (go_simp; done) | (go_simp; with_reducible rfl))
  try simp only [Act.put, List.getElem_toArray, List.getElem_cons_succ, List.getElem_cons_zero, List.setIfInBounds_toArray, List.set_cons_zero, List.set_cons_succ]
  refine wpAnyH_take (i := 13) (v := ?_) rfl (by kernel_rfl) (by kernel_rfl) (by kernel_rfl) (fun _ _ _ h => h) (Or.inl ⟨by rfl, ?_⟩) (by assumption) ?_
  rotate_left 1
  · (intro w hSw; (try dsimp only at hSw); first | (go_simp; done) | (go_simp; with_reducible rfl))
  try simp only [Act.put, List.getElem_toArray, List.getElem_cons_succ, List.getElem_cons_zero, List.setIfInBounds_toArray, List.set_cons_zero, List.set_cons_succ]
  refine wpAnyH_take (i := 14) (v := ?_) rfl (by kernel_rfl) (by kernel_rfl) (by kernel_rfl) (fun _ _ _ h => h) (Or.inl ⟨by rfl, ?_⟩) (by assumption) ?_
  rotate_left 1
  · (intro w hSw; (try dsimp only at hSw); first | (go_simp; done) | (go_simp; with_reducible rfl))
  try simp only [Act.put, List.getElem_toArray, List.getElem_cons_succ, List.getElem_cons_zero, List.setIfInBounds_toArray, List.set_cons_zero, List.set_cons_succ]
  refine wpAnyH_take (i := 15) (v := ?_) rfl (by kernel_rfl) (by kernel_rfl) (by kernel_rfl) (fun _ _ _ h => h) (Or.inl ⟨by rfl, ?_⟩) (by assumption) ?_
  rotate_left 1
  · (intro w hSw; (try dsimp only at hSw); first | (go_simp; done) | (go_simp; with_reducible rfl))
  try simp only [Act.put, List.getElem_toArray, List.getElem_cons_succ, List.getElem_cons_zero, List.setIfInBounds_toArray, List.set_cons_zero, List.set_cons_succ]
  refine wpAnyH_take (i := 16) (v := ?_) rfl (by kernel_rfl) (by kernel_rfl) (by kernel_rfl) (fun _ _ _ h => h) (Or.inl ⟨by rfl, ?_⟩) (by assumption) ?_
  rotate_left 1
  · (intro w hSw; (try dsimp only at hSw); first | (go_simp; done) | (go_simp; with_reducible rfl))
  try simp only [Act.put, List.getElem_toArray, List.getElem_cons_succ, List.getElem_cons_zero, List.setIfInBounds_toArray, List.set_cons_zero, List.set_cons_succ]
  refine wpAnyH_take (i := 18) (v := ?_) rfl (by kernel_rfl) (by kernel_rfl) (by kernel_rfl) (fun _ _ _ h => h) (Or.inl ⟨by rfl, ?_⟩) (by assumption) ?_
  rotate_left 1
  · (intro w hSw; (try dsimp only at hSw); first | (go_simp; done) | (go_simp; with_reducible rfl))
  try simp only [Act.put, List.getElem_toArray, List.getElem_cons_succ, List.getElem_cons_zero, List.setIfInBounds_toArray, List.set_cons_zero, List.set_cons_succ]
  refine wpAnyH_ready (rs := [17]) (by kernel_rfl) (by simp) ?_
  refine AllReadyH.cons rfl (fun K hK => ?_) AllReadyH.nil
  go_simp
  refine (stBefore_any _ (exQ 2) 63072000 _ (by exact HT.out.below HB.out) (by exact HR.out) (qTame 2) (by omega) (by omega)).mono ?_
  intro e w9 hq; obtain ⟨rfl, hb9⟩ := BefR.to (v := .agg #[.int .i64 (-3600), .string ⟨#[83]⟩]) qB1 rfl _ _ hq; clear hq
  go_wp2_with fail
  refine hK.out _ _ ?_ (fun hHeld => ?_)
  · exact ⟨cellB (block_below K6.out hb9) (i := 0) rfl, cellB (block_below K6.out hb9) (i := 1) rfl, cellB (block_below K7.out hb9) (i := 0) rfl, cellB (block_below K7.out hb9) (i := 1) rfl, cellB (block_below K8.out hb9) (i := 0) rfl, cellB (block_below K8.out hb9) (i := 1) rfl, cellB (block_below K8.out hb9) (i := 2) rfl, cellB (block_below K10.out hb9) (i := 0) rfl, cellB (block_below K10.out hb9) (i := 1) rfl, cellB (block_below K10.out hb9) (i := 2) rfl⟩
  clear hK K
  try simp only [Act.put, List.getElem_toArray, List.getElem_cons_succ, List.getElem_cons_zero, List.setIfInBounds_toArray, List.set_cons_zero, List.set_cons_succ]
  have HB := Lib.hid (bel_trans HB.out hb9)
  have HR := Lib.hid (HR.out.below hb9)
  have HS := Lib.hid (HS.out.below hb9)
  have K6 := Lib.hid (block_below K6.out hb9)
  have K7 := Lib.hid (block_below K7.out hb9)
  have K8 := Lib.hid (block_below K8.out hb9)
  have K10 := Lib.hid (block_below K10.out hb9)
  refine wpAnyH_take (i := 19) (v := ?_) rfl (by kernel_rfl) (by kernel_rfl) (by kernel_rfl) (fun _ _ _ h => h) (Or.inl ⟨by rfl, ?_⟩) (by assumption) ?_
  rotate_left 1
  · (intro w hSw; (try dsimp only at hSw); first | (go_simp; done) | (go_simp; with_reducible rfl))
  try simp only [Act.put, List.getElem_toArray, List.getElem_cons_succ, List.getElem_cons_zero, List.setIfInBounds_toArray, List.set_cons_zero, List.set_cons_succ]
  refine wpAnyH_take (i := 20) (v := ?_) rfl (by kernel_rfl) (by kernel_rfl) (by kernel_rfl) (fun _ _ _ h => h) (Or.inl ⟨by rfl, ?_⟩) (by assumption) ?_
  rotate_left 1
  · (intro w hSw; (try dsimp only at hSw); first | (go_simp; done) | (go_simp; with_reducible rfl))
  try simp only [Act.put, List.getElem_toArray, List.getElem_cons_succ, List.getElem_cons_zero, List.setIfInBounds_toArray, List.set_cons_zero, List.set_cons_succ]
  refine wpAnyH_take (i := 21) (v := ?_) rfl (by kernel_rfl) (by kernel_rfl) (by kernel_rfl) (fun _ _ _ h => h) (Or.inl ⟨by rfl, ?_⟩) (by assumption) ?_
  rotate_left 1
  · (intro w hSw; (try dsimp only at hSw); first | (go_simp; done) | (go_simp; with_reducible rfl))
  try simp only [Act.put, List.getElem_toArray, List.getElem_cons_succ, List.getElem_cons_zero, List.setIfInBounds_toArray, List.set_cons_zero, List.set_cons_succ]
  refine wpAnyH_take (i := 22) (v := ?_) rfl (by kernel_rfl) (by kernel_rfl) (by kernel_rfl) (fun _ _ _ h => h) (Or.inl ⟨by rfl, ?_⟩) (by assumption) ?_
  rotate_left 1
  · (intro w hSw; (try dsimp only at hSw); first | (go_simp; done) | (go_simp; with_reducible rfl))
  try simp only [Act.put, List.getElem_toArray, List.getElem_cons_succ, List.getElem_cons_zero, List.setIfInBounds_toArray, List.set_cons_zero, List.set_cons_succ]
  refine wpAnyH_take (i := 23) (v := ?_) rfl (by kernel_rfl) (by kernel_rfl) (by kernel_rfl) (fun _ _ _ h => h) (Or.inl ⟨by rfl, ?_⟩) (by assumption) ?_
  rotate_left 1
  · (intro w hSw; (try dsimp only at hSw); first | (go_simp; done) | (go_simp; with_reducible rfl))
  try simp only [Act.put, List.getElem_toArray, List.getElem_cons_succ, List.getElem_cons_zero, List.setIfInBounds_toArray, List.set_cons_zero, List.set_cons_succ]
  refine wpAnyH_take (i := 25) (v := ?_) rfl (by kernel_rfl) (by kernel_rfl) (by kernel_rfl) (fun _ _ _ h => h) (Or.inl ⟨by rfl, ?_⟩) (by assumption) ?_
  rotate_left 1
  · (intro w hSw; (try dsimp only at hSw); first | (go_simp; done) | (go_simp; with_reducible rfl))
  try simp only [Act.put, List.getElem_toArray, List.getElem_cons_succ, List.getElem_cons_zero, List.setIfInBounds_toArray, List.set_cons_zero, List.set_cons_succ]
  refine wpAnyH_ready (rs := [24]) (by kernel_rfl) (by simp) ?_
  refine AllReadyH.cons rfl (fun K hK => ?_) AllReadyH.nil
  go_simp
  refine (stBefore_any _ (exQ 2) 94694400 _ (by exact HT.out.below HB.out) (by exact HR.out) (qTame 2) (by omega) (by omega)).mono ?_
  intro e w10 hq; obtain ⟨rfl, hb10⟩ := BefR.to (v := .agg #[.int .i64 (-3600), .string ⟨#[83]⟩]) qB2 rfl _ _ hq; clear hq
  go_wp2_with fail
  refine hK.out _ _ ?_ (fun hHeld => ?_)
  · exact ⟨cellB (block_below K6.out hb10) (i := 0) rfl, cellB (block_below K6.out hb10) (i := 1) rfl, cellB (block_below K7.out hb10) (i := 0) rfl, cellB (block_below K7.out hb10) (i := 1) rfl, cellB (block_below K8.out hb10) (i := 0) rfl, cellB (block_below K8.out hb10) (i := 1) rfl, cellB (block_below K8.out hb10) (i := 2) rfl, cellB (block_below K10.out hb10) (i := 0) rfl, cellB (block_below K10.out hb10) (i := 1) rfl, cellB (block_below K10.out hb10) (i := 2) rfl⟩
  clear hK K
  try simp only [Act.put, List.getElem_toArray, List.getElem_cons_succ, List.getElem_cons_zero, List.setIfInBounds_toArray, List.set_cons_zero, List.set_cons_succ]
  have HB := Lib.hid (bel_trans HB.out hb10)
  have HR := Lib.hid (HR.out.below hb10)
  have HS := Lib.hid (HS.out.below hb10)
  have K6 := Lib.hid (block_below K6.out hb10)
  have K7 := Lib.hid (block_below K7.out hb10)
  have K8 := Lib.hid (block_below K8.out hb10)
  have K10 := Lib.hid (block_below K10.out hb10)
  refine wpAnyH_take (i := 26) (v := ?_) rfl (by kernel_rfl) (by kernel_rfl) (by kernel_rfl) (fun _ _ _ h => h) (Or.inl ⟨by rfl, ?_⟩) (by assumption) ?_
  rotate_left 1
  · (intro w hSw; (try dsimp only at hSw); first | (go_simp; done) | (go_simp; with_reducible rfl))
  try simp only [Act.put, List.getElem_toArray, List.getElem_cons_succ, List.getElem_cons_zero, List.setIfInBounds_toArray, List.set_cons_zero, List.set_cons_succ]
  refine wpAnyH_take (i := 27) (v := ?_) rfl (by kernel_rfl) (by kernel_rfl) (by kernel_rfl) (fun _ _ _ h => h) (Or.inl ⟨by rfl, ?_⟩) (by assumption) ?_
  rotate_left 1
  · (intro w hSw; (try dsimp only at hSw); first | (go_simp; done) | (go_simp; with_reducible rfl))
  try simp only [Act.put, List.getElem_toArray, List.getElem_cons_succ, List.getElem_cons_zero, List.setIfInBounds_toArray, List.set_cons_zero, List.set_cons_succ]
  refine wpAnyH_take (i := 28) (v := ?_) rfl (by kernel_rfl) (by kernel_rfl) (by kernel_rfl) (fun _ _ _ h => h) (Or.inl ⟨by rfl, ?_⟩) (by assumption) ?_
  rotate_left 1
  · (intro w hSw; (try dsimp only at hSw); first | (go_simp; done) | (go_simp; with_reducible rfl))
  try simp only [Act.put, List.getElem_toArray, List.getElem_cons_succ, List.getElem_cons_zero, List.setIfInBounds_toArray, List.set_cons_zero, List.set_cons_succ]
  refine wpAnyH_take (i := 29) (v := ?_) rfl (by kernel_rfl) (by kernel_rfl) (by kernel_rfl) (fun _ _ _ h => h) (Or.inl ⟨by rfl, ?_⟩) (by assumption) ?_
  rotate_left 1
  · (intro w hSw; (try dsimp only at hSw); first | (go_simp; done) | (go_simp; with_reducible rfl))
  try simp only [Act.put, List.getElem_toArray, List.getElem_cons_succ, List.getElem_cons_zero, List.setIfInBounds_toArray, List.set_cons_zero, List.set_cons_succ]
  refine wpAnyH_take (i := 30) (v := ?_) rfl (by kernel_rfl) (by kernel_rfl) (by kernel_rfl) (fun _ _ _ h => h) (Or.inl ⟨by rfl, ?_⟩) (by assumption) ?_
  rotate_left 1
  · (intro w hSw; (try dsimp only at hSw); first | (go_simp; done) | (go_simp; with_reducible rfl))
  try simp only [Act.put, List.getElem_toArray, List.getElem_cons_succ, List.getElem_cons_zero, List.setIfInBounds_toArray, List.set_cons_zero, List.set_cons_succ]
  refine wpAnyH_take (i := 31) (v := ?_) rfl (by kernel_rfl) (by kernel_rfl) (by kernel_rfl) (fun _ _ _ h => h) (Or.inl ⟨by rfl, ?_⟩) (by assumption) ?_
  rotate_left 1
  · (intro w hSw; (try dsimp only at hSw); first | (go_simp; done) | (go_simp; with_reducible rfl))
  try simp only [Act.put, List.getElem_toArray, List.getElem_cons_succ, List.getElem_cons_zero, List.setIfInBounds_toArray, List.set_cons_zero, List.set_cons_succ]
  refine wpAnyH_take (i := 33) (v := ?_) rfl (by kernel_rfl) (by kernel_rfl) (by kernel_rfl) (fun _ _ _ h => h) (Or.inl ⟨by rfl, ?_⟩) (by assumption) ?_
  rotate_left 1
  · (intro w hSw; (try dsimp only at hSw); first | (go_simp; done) | (go_simp; with_reducible rfl))
  try simp only [Act.put, List.getElem_toArray, List.getElem_cons_succ, List.getElem_cons_zero, List.setIfInBounds_toArray, List.set_cons_zero, List.set_cons_succ]
  refine wpAnyH_ready (rs := [32]) (by kernel_rfl) (by simp) ?_
  refine AllReadyH.cons rfl (fun K hK => ?_) AllReadyH.nil
  go_simp
  refine (stAt_any _ (exQ 2) 3600 57722399 _ (by exact HT.out.below HB.out) (by exact HR.out) (qTame 2) (qSav 2) (by omega) (by omega) (by omega) (by omega)).mono ?_
  intro e w11 hq; obtain ⟨rfl, hb11⟩ := AtR.to (v := .agg #[.int .i64 0, .string ⟨#[]⟩]) qA1 rfl _ _ hq; clear hq
  go_wp2_with fail
  refine hK.out _ _ ?_ (fun hHeld => ?_)
  · exact ⟨cellB (block_below K6.out hb11) (i := 0) rfl, cellB (block_below K6.out hb11) (i := 1) rfl, cellB (block_below K7.out hb11) (i := 0) rfl, cellB (block_below K7.out hb11) (i := 1) rfl, cellB (block_below K8.out hb11) (i := 0) rfl, cellB (block_below K8.out hb11) (i := 1) rfl, cellB (block_below K8.out hb11) (i := 2) rfl, cellB (block_below K10.out hb11) (i := 0) rfl, cellB (block_below K10.out hb11) (i := 1) rfl, cellB (block_below K10.out hb11) (i := 2) rfl⟩
  clear hK K
  try simp only [Act.put, List.getElem_toArray, List.getElem_cons_succ, List.getElem_cons_zero, List.setIfInBounds_toArray, List.set_cons_zero, List.set_cons_succ]
  have HB := Lib.hid (bel_trans HB.out hb11)
  have HR := Lib.hid (HR.out.below hb11)
  have HS := Lib.hid (HS.out.below hb11)
  have K6 := Lib.hid (block_below K6.out hb11)
  have K7 := Lib.hid (block_below K7.out hb11)
  have K8 := Lib.hid (block_below K8.out hb11)
  have K10 := Lib.hid (block_below K10.out hb11)
  refine wpAnyH_take (i := 34) (v := ?_) rfl (by kernel_rfl) (by kernel_rfl) (by kernel_rfl) (fun _ _ _ h => h) (Or.inl ⟨by rfl, ?_⟩) (by assumption) ?_
  rotate_left 1
  · (intro w hSw; (try dsimp only at hSw); first | (go_simp; done) | (go_simp; with_reducible rfl))
  try simp only [Act.put, List.getElem_toArray, List.getElem_cons_succ, List.getElem_cons_zero, List.setIfInBounds_toArray, List.set_cons_zero, List.set_cons_succ]
  refine wpAnyH_take (i := 35) (v := ?_) rfl (by kernel_rfl) (by kernel_rfl) (by kernel_rfl) (fun _ _ _ h => h) (Or.inl ⟨by rfl, ?_⟩) (by assumption) ?_
  rotate_left 1
  · (intro w hSw; (try dsimp only at hSw); first | (go_simp; done) | (go_simp; with_reducible rfl))
  try simp only [Act.put, List.getElem_toArray, List.getElem_cons_succ, List.getElem_cons_zero, List.setIfInBounds_toArray, List.set_cons_zero, List.set_cons_succ]
  refine wpAnyH_take (i := 36) (v := ?_) rfl (by kernel_rfl) (by kernel_rfl) (by kernel_rfl) (fun _ _ _ h => h) (Or.inl ⟨by rfl, ?_⟩) (by assumption) ?_
  rotate_left 1
  · (intro w hSw; (try dsimp only at hSw); first | (go_simp; done) | (go_simp; with_reducible rfl))
  try simp only [Act.put, List.getElem_toArray, List.getElem_cons_succ, List.getElem_cons_zero, List.setIfInBounds_toArray, List.set_cons_zero, List.set_cons_succ]
  refine wpAnyH_take (i := 37) (v := ?_) rfl (by kernel_rfl) (by kernel_rfl) (by kernel_rfl) (fun _ _ _ h => h) (Or.inl ⟨by rfl, ?_⟩) (by assumption) ?_
  rotate_left 1
  · (intro w hSw; (try dsimp only at hSw); first | (go_simp; done) | (go_simp; with_reducible rfl))
  try simp only [Act.put, List.getElem_toArray, List.getElem_cons_succ, List.getElem_cons_zero, List.setIfInBounds_toArray, List.set_cons_zero, List.set_cons_succ]
  refine wpAnyH_take (i := 38) (v := ?_) rfl (by kernel_rfl) (by kernel_rfl) (by kernel_rfl) (fun _ _ _ h => h) (Or.inl ⟨by rfl, ?_⟩) (by assumption) ?_
  rotate_left 1
  · (intro w hSw; (try dsimp only at hSw); first | (go_simp; done) | (go_simp; with_reducible rfl))
  try simp only [Act.put, List.getElem_toArray, List.getElem_cons_succ, List.getElem_cons_zero, List.setIfInBounds_toArray, List.set_cons_zero, List.set_cons_succ]
  refine wpAnyH_take (i := 40) (v := ?_) rfl (by kernel_rfl) (by kernel_rfl) (by kernel_rfl) (fun _ _ _ h => h) (Or.inl ⟨by rfl, ?_⟩) (by assumption) ?_
  rotate_left 1
  · (intro w hSw; (try dsimp only at hSw); first | (go_simp; done) | (go_simp; with_reducible rfl))
  try simp only [Act.put, List.getElem_toArray, List.getElem_cons_succ, List.getElem_cons_zero, List.setIfInBounds_toArray, List.set_cons_zero, List.set_cons_succ]
  refine wpAnyH_ready (rs := [39]) (by kernel_rfl) (by simp) ?_
  refine AllReadyH.cons rfl (fun K hK => ?_) AllReadyH.nil
  go_simp
  refine (stAt_any _ (exQ 2) 3600 57722400 _ (by exact HT.out.below HB.out) (by exact HR.out) (qTame 2) (qSav 2) (by omega) (by omega) (by omega) (by omega)).mono ?_
  intro e w12 hq; obtain ⟨rfl, hb12⟩ := AtR.to (v := .agg #[.int .i64 (-3600), .string ⟨#[83]⟩]) qA2 rfl _ _ hq; clear hq
  go_wp2_with fail
  refine hK.out _ _ ?_ (fun hHeld => ?_)
  · exact ⟨cellB (block_below K6.out hb12) (i := 0) rfl, cellB (block_below K6.out hb12) (i := 1) rfl, cellB (block_below K7.out hb12) (i := 0) rfl, cellB (block_below K7.out hb12) (i := 1) rfl, cellB (block_below K8.out hb12) (i := 0) rfl, cellB (block_below K8.out hb12) (i := 1) rfl, cellB (block_below K8.out hb12) (i := 2) rfl, cellB (block_below K10.out hb12) (i := 0) rfl, cellB (block_below K10.out hb12) (i := 1) rfl, cellB (block_below K10.out hb12) (i := 2) rfl⟩
  clear hK K
  try simp only [Act.put, List.getElem_toArray, List.getElem_cons_succ, List.getElem_cons_zero, List.setIfInBounds_toArray, List.set_cons_zero, List.set_cons_succ]
  have HB := Lib.hid (bel_trans HB.out hb12)
  have HR := Lib.hid (HR.out.below hb12)
  have HS := Lib.hid (HS.out.below hb12)
  have K6 := Lib.hid (block_below K6.out hb12)
  have K7 := Lib.hid (block_below K7.out hb12)
  have K8 := Lib.hid (block_below K8.out hb12)
  have K10 := Lib.hid (block_below K10.out hb12)
  refine wpAnyH_take (i := 41) (v := ?_) rfl (by kernel_rfl) (by kernel_rfl) (by kernel_rfl) (fun _ _ _ h => h) (Or.inl ⟨by rfl, ?_⟩) (by assumption) ?_
  rotate_left 1
  · (intro w hSw; (try dsimp only at hSw); first | (go_simp; done) | (go_simp; with_reducible rfl))
  try simp only [Act.put, List.getElem_toArray, List.getElem_cons_succ, List.getElem_cons_zero, List.setIfInBounds_toArray, List.set_cons_zero, List.set_cons_succ]
  refine wpAnyH_take (i := 42) (v := ?_) rfl (by kernel_rfl) (by kernel_rfl) (by kernel_rfl) (fun _ _ _ h => h) (Or.inl ⟨by rfl, ?_⟩) (by assumption) ?_
  rotate_left 1
  · (intro w hSw; (try dsimp only at hSw); first | (go_simp; done) | (go_simp; with_reducible rfl))
  try simp only [Act.put, List.getElem_toArray, List.getElem_cons_succ, List.getElem_cons_zero, List.setIfInBounds_toArray, List.set_cons_zero, List.set_cons_succ]
  refine wpAnyH_take (i := 43) (v := ?_) rfl (by kernel_rfl) (by kernel_rfl) (by kernel_rfl) (fun _ _ _ h => h) (Or.inl ⟨by rfl, ?_⟩) (by assumption) ?_
  rotate_left 1
  · (intro w hSw; (try dsimp only at hSw); first | (go_simp; done) | (go_simp; with_reducible rfl))
  try simp only [Act.put, List.getElem_toArray, List.getElem_cons_succ, List.getElem_cons_zero, List.setIfInBounds_toArray, List.set_cons_zero, List.set_cons_succ]
  refine wpAnyH_take (i := 44) (v := ?_) rfl (by kernel_rfl) (by kernel_rfl) (by kernel_rfl) (fun _ _ _ h => h) (Or.inl ⟨by rfl, ?_⟩) (by assumption) ?_
  rotate_left 1
  · (intro w hSw; (try dsimp only at hSw); first | (go_simp; done) | (go_simp; with_reducible rfl))
  try simp only [Act.put, List.getElem_toArray, List.getElem_cons_succ, List.getElem_cons_zero, List.setIfInBounds_toArray, List.set_cons_zero, List.set_cons_succ]
  refine wpAnyH_take (i := 45) (v := ?_) rfl (by kernel_rfl) (by kernel_rfl) (by kernel_rfl) (fun _ _ _ h => h) (Or.inl ⟨by rfl, ?_⟩) (by assumption) ?_
  rotate_left 1
  · (intro w hSw; (try dsimp only at hSw); first | (go_simp; done) | (go_simp; with_reducible rfl))
  try simp only [Act.put, List.getElem_toArray, List.getElem_cons_succ, List.getElem_cons_zero, List.setIfInBounds_toArray, List.set_cons_zero, List.set_cons_succ]
  refine wpAnyH_take (i := 47) (v := ?_) rfl (by kernel_rfl) (by kernel_rfl) (by kernel_rfl) (fun _ _ _ h => h) (Or.inl ⟨by rfl, ?_⟩) (by assumption) ?_
  rotate_left 1
  · (intro w hSw; (try dsimp only at hSw); first | (go_simp; done) | (go_simp; with_reducible rfl))
  try simp only [Act.put, List.getElem_toArray, List.getElem_cons_succ, List.getElem_cons_zero, List.setIfInBounds_toArray, List.set_cons_zero, List.set_cons_succ]
  refine wpAnyH_ready (rs := [46]) (by kernel_rfl) (by simp) ?_
  refine AllReadyH.cons rfl (fun K hK => ?_) AllReadyH.nil
  go_simp
  refine (instant_any _ (exQ 2) 1972 0 69818400 3600 _ (by exact HT.out.below HB.out) (by exact HR.out) (qTame 2) (qSav 2) ⟨_, rfl⟩ (by omega) (by omega) (by omega) (by omega)).mono ?_
  intro e w13 hq; obtain ⟨rfl, hb13⟩ := InstR.to qI2 _ _ hq; clear hq
  go_wp2_with fail
  refine hK.out _ _ ?_ (fun hHeld => ?_)
  · exact ⟨cellB (block_below K6.out hb13) (i := 0) rfl, cellB (block_below K6.out hb13) (i := 1) rfl, cellB (block_below K7.out hb13) (i := 0) rfl, cellB (block_below K7.out hb13) (i := 1) rfl, cellB (block_below K8.out hb13) (i := 0) rfl, cellB (block_below K8.out hb13) (i := 1) rfl, cellB (block_below K8.out hb13) (i := 2) rfl, cellB (block_below K10.out hb13) (i := 0) rfl, cellB (block_below K10.out hb13) (i := 1) rfl, cellB (block_below K10.out hb13) (i := 2) rfl⟩
  clear hK K
  try simp only [Act.put, List.getElem_toArray, List.getElem_cons_succ, List.getElem_cons_zero, List.setIfInBounds_toArray, List.set_cons_zero, List.set_cons_succ]
  have HB := Lib.hid (bel_trans HB.out hb13)
  have HR := Lib.hid (HR.out.below hb13)
  have HS := Lib.hid (HS.out.below hb13)
  have K6 := Lib.hid (block_below K6.out hb13)
  have K7 := Lib.hid (block_below K7.out hb13)
  have K8 := Lib.hid (block_below K8.out hb13)
  have K10 := Lib.hid (block_below K10.out hb13)
  refine wpAnyH_take (i := 48) (v := ?_) rfl (by kernel_rfl) (by kernel_rfl) (by kernel_rfl) (fun _ _ _ h => h) (Or.inl ⟨by rfl, ?_⟩) (by assumption) ?_
  rotate_left 1
  · (intro w hSw; (try dsimp only at hSw); first | (go_simp; done) | (go_simp; with_reducible rfl))
  try simp only [Act.put, List.getElem_toArray, List.getElem_cons_succ, List.getElem_cons_zero, List.setIfInBounds_toArray, List.set_cons_zero, List.set_cons_succ]
  refine wpAnyH_take (i := 49) (v := ?_) rfl (by kernel_rfl) (by kernel_rfl) (by kernel_rfl) (fun _ _ _ h => h) (Or.inl ⟨by rfl, ?_⟩) (by assumption) ?_
  rotate_left 1
  · (intro w hSw; (try dsimp only at hSw); first | (go_simp; done) | (go_simp; with_reducible rfl))
  try simp only [Act.put, List.getElem_toArray, List.getElem_cons_succ, List.getElem_cons_zero, List.setIfInBounds_toArray, List.set_cons_zero, List.set_cons_succ]
  refine wpAnyH_take (i := 50) (v := ?_) rfl (by kernel_rfl) (by kernel_rfl) (by kernel_rfl) (fun _ _ _ h => h) (Or.inl ⟨by rfl, ?_⟩) (by assumption) ?_
  rotate_left 1
  · (intro w hSw; (try dsimp only at hSw); first | (go_simp; done) | (go_simp; with_reducible rfl))
  try simp only [Act.put, List.getElem_toArray, List.getElem_cons_succ, List.getElem_cons_zero, List.setIfInBounds_toArray, List.set_cons_zero, List.set_cons_succ]
  refine wpAnyH_take (i := 51) (v := ?_) rfl (by kernel_rfl) (by kernel_rfl) (by kernel_rfl) (fun _ _ _ h => h) (Or.inl ⟨by rfl, ?_⟩) (by assumption) ?_
  rotate_left 1
  · (intro w hSw; (try dsimp only at hSw); first | (go_simp; done) | (go_simp; with_reducible rfl))
  try simp only [Act.put, List.getElem_toArray, List.getElem_cons_succ, List.getElem_cons_zero, List.setIfInBounds_toArray, List.set_cons_zero, List.set_cons_succ]
  refine wpAnyH_take (i := 52) (v := ?_) rfl (by kernel_rfl) (by kernel_rfl) (by kernel_rfl) (fun _ _ _ h => h) (Or.inl ⟨by rfl, ?_⟩) (by assumption) ?_
  rotate_left 1
  · (intro w hSw; (try dsimp only at hSw); first | (go_simp; done) | (go_simp; with_reducible rfl))
  try simp only [Act.put, List.getElem_toArray, List.getElem_cons_succ, List.getElem_cons_zero, List.setIfInBounds_toArray, List.set_cons_zero, List.set_cons_succ]
  refine wpAnyH_take (i := 54) (v := ?_) rfl (by kernel_rfl) (by kernel_rfl) (by kernel_rfl) (fun _ _ _ h => h) (Or.inl ⟨by rfl, ?_⟩) (by assumption) ?_
  rotate_left 1
  · (intro w hSw; (try dsimp only at hSw); first | (go_simp; done) | (go_simp; with_reducible rfl))
  try simp only [Act.put, List.getElem_toArray, List.getElem_cons_succ, List.getElem_cons_zero, List.setIfInBounds_toArray, List.set_cons_zero, List.set_cons_succ]
  refine wpAnyH_ready (rs := [53]) (by kernel_rfl) (by simp) ?_
  refine AllReadyH.cons rfl (fun K hK => ?_) AllReadyH.nil
  go_simp
  refine (instant_any _ (exQ 0) 1972 0 69818400 3600 _ (by exact HT.out.below HB.out) (by exact HS.out) (qTame 0) (qSav 0) ⟨_, rfl⟩ (by omega) (by omega) (by omega) (by omega)).mono ?_
  intro e w14 hq; obtain ⟨rfl, hb14⟩ := InstR.to qI3 _ _ hq; clear hq
  go_wp2_with fail
  refine hK.out _ _ ?_ (fun hHeld => ?_)
  · exact ⟨cellB (block_below K6.out hb14) (i := 0) rfl, cellB (block_below K6.out hb14) (i := 1) rfl, cellB (block_below K7.out hb14) (i := 0) rfl, cellB (block_below K7.out hb14) (i := 1) rfl, cellB (block_below K8.out hb14) (i := 0) rfl, cellB (block_below K8.out hb14) (i := 1) rfl, cellB (block_below K8.out hb14) (i := 2) rfl, cellB (block_below K10.out hb14) (i := 0) rfl, cellB (block_below K10.out hb14) (i := 1) rfl, cellB (block_below K10.out hb14) (i := 2) rfl⟩
  clear hK K
  try simp only [Act.put, List.getElem_toArray, List.getElem_cons_succ, List.getElem_cons_zero, List.setIfInBounds_toArray, List.set_cons_zero, List.set_cons_succ]
  have HB := Lib.hid (bel_trans HB.out hb14)
  have HR := Lib.hid (HR.out.below hb14)
  have HS := Lib.hid (HS.out.below hb14)
  have K6 := Lib.hid (block_below K6.out hb14)
  have K7 := Lib.hid (block_below K7.out hb14)
  have K8 := Lib.hid (block_below K8.out hb14)
  have K10 := Lib.hid (block_below K10.out hb14)
  refine wpAnyH_take (i := 55) (v := ?_) rfl (by kernel_rfl) (by kernel_rfl) (by kernel_rfl) (fun _ _ _ h => h) (Or.inl ⟨by rfl, ?_⟩) (by assumption) ?_
  rotate_left 1
  · (intro w hSw; (try dsimp only at hSw); first | (go_simp; done) | (go_simp; with_reducible rfl))
  try simp only [Act.put, List.getElem_toArray, List.getElem_cons_succ, List.getElem_cons_zero, List.setIfInBounds_toArray, List.set_cons_zero, List.set_cons_succ]
  refine wpAnyH_take (i := 56) (v := ?_) rfl (by kernel_rfl) (by kernel_rfl) (by kernel_rfl) (fun _ _ _ h => h) (Or.inl ⟨by rfl, ?_⟩) (by assumption) ?_
  rotate_left 1
  · (intro w hSw; (try dsimp only at hSw); first | (go_simp; done) | (go_simp; with_reducible rfl))
  try simp only [Act.put, List.getElem_toArray, List.getElem_cons_succ, List.getElem_cons_zero, List.setIfInBounds_toArray, List.set_cons_zero, List.set_cons_succ]
  refine wpAnyH_take (i := 57) (v := ?_) rfl (by kernel_rfl) (by kernel_rfl) (by kernel_rfl) (fun _ _ _ h => h) (Or.inl ⟨by rfl, ?_⟩) (by assumption) ?_
  rotate_left 1
  · (intro w hSw; (try dsimp only at hSw); first | (go_simp; done) | (go_simp; with_reducible rfl))
  try simp only [Act.put, List.getElem_toArray, List.getElem_cons_succ, List.getElem_cons_zero, List.setIfInBounds_toArray, List.set_cons_zero, List.set_cons_succ]
  refine wpAnyH_take (i := 59) (v := ?_) rfl (by kernel_rfl) (by kernel_rfl) (by kernel_rfl) (fun _ _ _ h => h) (Or.inl ⟨by rfl, ?_⟩) (by assumption) ?_
  rotate_left 1
  · (intro w hSw; (try dsimp only at hSw); first | (go_simp; done) | (go_simp; with_reducible rfl))
  try simp only [Act.put, List.getElem_toArray, List.getElem_cons_succ, List.getElem_cons_zero, List.setIfInBounds_toArray, List.set_cons_zero, List.set_cons_succ]
  refine wpAnyH_ready (rs := [58]) (by kernel_rfl) (by simp) ?_
  refine AllReadyH.cons rfl (fun K hK => ?_) AllReadyH.nil
  go_simp
  refine (initial_any _ [] _ (by exact HT.out.below HB.out) (by exact rul_nil19 _) (fun r hr => by cases hr)).mono ?_
  intro e w15 hq; obtain ⟨rfl, hb15⟩ := StaR.to (v := .agg #[.int .i64 0, .string ⟨#[]⟩]) rfl _ _ hq; clear hq
  go_wp2_with fail
  refine hK.out _ _ ?_ (fun hHeld => ?_)
  · exact ⟨cellB (block_below K6.out hb15) (i := 0) rfl, cellB (block_below K6.out hb15) (i := 1) rfl, cellB (block_below K7.out hb15) (i := 0) rfl, cellB (block_below K7.out hb15) (i := 1) rfl, cellB (block_below K8.out hb15) (i := 0) rfl, cellB (block_below K8.out hb15) (i := 1) rfl, cellB (block_below K8.out hb15) (i := 2) rfl, cellB (block_below K10.out hb15) (i := 0) rfl, cellB (block_below K10.out hb15) (i := 1) rfl, cellB (block_below K10.out hb15) (i := 2) rfl⟩
  clear hK K
  try simp only [Act.put, List.getElem_toArray, List.getElem_cons_succ, List.getElem_cons_zero, List.setIfInBounds_toArray, List.set_cons_zero, List.set_cons_succ]
  have HB := Lib.hid (bel_trans HB.out hb15)
  have HR := Lib.hid (HR.out.below hb15)
  have HS := Lib.hid (HS.out.below hb15)
  have K6 := Lib.hid (block_below K6.out hb15)
  have K7 := Lib.hid (block_below K7.out hb15)
  have K8 := Lib.hid (block_below K8.out hb15)
  have K10 := Lib.hid (block_below K10.out hb15)
  refine wpAnyH_take (i := 60) (v := ?_) rfl (by kernel_rfl) (by kernel_rfl) (by kernel_rfl) (fun _ _ _ h => h) (Or.inl ⟨by rfl, ?_⟩) (by assumption) ?_
  rotate_left 1
  · (intro w hSw; (try dsimp only at hSw); first | (go_simp; done) | (go_simp; with_reducible rfl))
  try simp only [Act.put, List.getElem_toArray, List.getElem_cons_succ, List.getElem_cons_zero, List.setIfInBounds_toArray, List.set_cons_zero, List.set_cons_succ]
  refine wpAnyH_take (i := 61) (v := ?_) rfl (by kernel_rfl) (by kernel_rfl) (by kernel_rfl) (fun _ _ _ h => h) (Or.inl ⟨by rfl, ?_⟩) (by assumption) ?_
  rotate_left 1
  · (intro w hSw; (try dsimp only at hSw); first | (go_simp; done) | (go_simp; with_reducible rfl))
  try simp only [Act.put, List.getElem_toArray, List.getElem_cons_succ, List.getElem_cons_zero, List.setIfInBounds_toArray, List.set_cons_zero, List.set_cons_succ]
  refine wpAnyH_take (i := 62) (v := ?_) rfl (by kernel_rfl) (by kernel_rfl) (by kernel_rfl) (fun _ _ _ h => h) (Or.inl ⟨by rfl, ?_⟩) (by assumption) ?_
  rotate_left 1
  · (intro w hSw; (try dsimp only at hSw); first | (go_simp; done) | (go_simp; with_reducible rfl))
  try simp only [Act.put, List.getElem_toArray, List.getElem_cons_succ, List.getElem_cons_zero, List.setIfInBounds_toArray, List.set_cons_zero, List.set_cons_succ]
  refine wpAnyH_take (i := 64) (v := ?_) rfl (by kernel_rfl) (by kernel_rfl) (by kernel_rfl) (fun _ _ _ h => h) (Or.inl ⟨by rfl, ?_⟩) (by assumption) ?_
  rotate_left 1
  · (intro w hSw; (try dsimp only at hSw); first | (go_simp; done) | (go_simp; with_reducible rfl))
  try simp only [Act.put, List.getElem_toArray, List.getElem_cons_succ, List.getElem_cons_zero, List.setIfInBounds_toArray, List.set_cons_zero, List.set_cons_succ]
  refine wpAnyH_ready (rs := [63]) (by kernel_rfl) (by simp) ?_
  refine AllReadyH.cons rfl (fun K hK => ?_) AllReadyH.nil
  go_simp
  refine (stAt_any _ [] 0 0 _ (by exact HT.out.below HB.out) (by exact rul_nil19 _) (fun r hr => by cases hr) (fun r hr => by cases hr) (by omega) (by omega) (by omega) (by omega)).mono ?_
  intro e w16 hq; obtain ⟨rfl, hb16⟩ := AtR.to (v := .agg #[.int .i64 0, .string ⟨#[]⟩]) qA3 rfl _ _ hq; clear hq
  go_wp2_with fail
  refine hK.out _ _ ?_ (fun hHeld => ?_)
  · exact ⟨cellB (block_below K6.out hb16) (i := 0) rfl, cellB (block_below K6.out hb16) (i := 1) rfl, cellB (block_below K7.out hb16) (i := 0) rfl, cellB (block_below K7.out hb16) (i := 1) rfl, cellB (block_below K8.out hb16) (i := 0) rfl, cellB (block_below K8.out hb16) (i := 1) rfl, cellB (block_below K8.out hb16) (i := 2) rfl, cellB (block_below K10.out hb16) (i := 0) rfl, cellB (block_below K10.out hb16) (i := 1) rfl, cellB (block_below K10.out hb16) (i := 2) rfl⟩
  clear hK K
  try simp only [Act.put, List.getElem_toArray, List.getElem_cons_succ, List.getElem_cons_zero, List.setIfInBounds_toArray, List.set_cons_zero, List.set_cons_succ]
  have HB := Lib.hid (bel_trans HB.out hb16)
  have HR := Lib.hid (HR.out.below hb16)
  have HS := Lib.hid (HS.out.below hb16)
  have K6 := Lib.hid (block_below K6.out hb16)
  have K7 := Lib.hid (block_below K7.out hb16)
  have K8 := Lib.hid (block_below K8.out hb16)
  have K10 := Lib.hid (block_below K10.out hb16)
  refine wpAnyH_take (i := 65) (v := ?_) rfl (by kernel_rfl) (by kernel_rfl) (by kernel_rfl) (fun _ _ _ h => h) (Or.inl ⟨by rfl, ?_⟩) (by assumption) ?_
  rotate_left 1
  · (intro w hSw; (try dsimp only at hSw); first | (go_simp; done) | (go_simp; with_reducible rfl))
  try simp only [Act.put, List.getElem_toArray, List.getElem_cons_succ, List.getElem_cons_zero, List.setIfInBounds_toArray, List.set_cons_zero, List.set_cons_succ]
  refine wpAnyH_take (i := 66) (v := ?_) rfl (by kernel_rfl) (by kernel_rfl) (by kernel_rfl) (fun _ _ _ h => h) (Or.inl ⟨by rfl, ?_⟩) (by assumption) ?_
  rotate_left 1
  · (intro w hSw; (try dsimp only at hSw); first | (go_simp; done) | (go_simp; with_reducible rfl))
  try simp only [Act.put, List.getElem_toArray, List.getElem_cons_succ, List.getElem_cons_zero, List.setIfInBounds_toArray, List.set_cons_zero, List.set_cons_succ]
  refine wpAnyH_take (i := 67) (v := ?_) rfl (by kernel_rfl) (by kernel_rfl) (by kernel_rfl) (fun _ _ _ h => h) (Or.inl ⟨by rfl, ?_⟩) (by assumption) ?_
  rotate_left 1
  · (intro w hSw; (try dsimp only at hSw); first | (go_simp; done) | (go_simp; with_reducible rfl))
  try simp only [Act.put, List.getElem_toArray, List.getElem_cons_succ, List.getElem_cons_zero, List.setIfInBounds_toArray, List.set_cons_zero, List.set_cons_succ]
  refine wpAnyH_take (i := 68) (v := ?_) rfl (by kernel_rfl) (by kernel_rfl) (by kernel_rfl) (fun _ _ _ h => h) (Or.inl ⟨by rfl, ?_⟩) (by assumption) ?_
  rotate_left 1
  · (intro w hSw; (try dsimp only at hSw); first | (go_simp; done) | (go_simp; with_reducible rfl))
  try simp only [Act.put, List.getElem_toArray, List.getElem_cons_succ, List.getElem_cons_zero, List.setIfInBounds_toArray, List.set_cons_zero, List.set_cons_succ]
  refine wpAnyH_ready (rs := [69]) (by kernel_rfl) (by simp) ?_
  refine AllReadyH.cons rfl (fun K hK => ?_) AllReadyH.nil
  go_simp
  refine (instNil_any 1972 0 69818400 0 _ (by omega)).mono ?_
  rintro e w17 ⟨rfl, hb17⟩
  go_wp2_with fail
  refine hK.out _ _ ?_ (fun hHeld => ?_)
  · exact ⟨cellB (block_below K6.out hb17) (i := 0) rfl, cellB (block_below K6.out hb17) (i := 1) rfl, cellB (block_below K7.out hb17) (i := 0) rfl, cellB (block_below K7.out hb17) (i := 1) rfl, cellB (block_below K8.out hb17) (i := 0) rfl, cellB (block_below K8.out hb17) (i := 1) rfl, cellB (block_below K8.out hb17) (i := 2) rfl, cellB (block_below K10.out hb17) (i := 0) rfl, cellB (block_below K10.out hb17) (i := 1) rfl, cellB (block_below K10.out hb17) (i := 2) rfl⟩
  clear hK K
  try simp only [Act.put, List.getElem_toArray, List.getElem_cons_succ, List.getElem_cons_zero, List.setIfInBounds_toArray, List.set_cons_zero, List.set_cons_succ]
  have HB := Lib.hid (bel_trans HB.out hb17)
  have HR := Lib.hid (HR.out.below hb17)
  have HS := Lib.hid (HS.out.below hb17)
  have K6 := Lib.hid (block_below K6.out hb17)
  have K7 := Lib.hid (block_below K7.out hb17)
  have K8 := Lib.hid (block_below K8.out hb17)
  have K10 := Lib.hid (block_below K10.out hb17)
  refine wpAnyH_take (i := 70) (v := ?_) rfl (by kernel_rfl) (by kernel_rfl) (by kernel_rfl) (fun _ _ _ h => h) (Or.inl ⟨by rfl, ?_⟩) (by assumption) ?_
  rotate_left 1
  · (intro w hSw; (try dsimp only at hSw); first | (go_simp; done) | (go_simp; with_reducible rfl))
  try simp only [Act.put, List.getElem_toArray, List.getElem_cons_succ, List.getElem_cons_zero, List.setIfInBounds_toArray, List.set_cons_zero, List.set_cons_succ]
  refine wpAnyH_take (i := 71) (v := ?_) rfl (by kernel_rfl) (by kernel_rfl) (by kernel_rfl) (fun _ _ _ h => h) (Or.inl ⟨by rfl, ?_⟩) (by assumption) ?_
  rotate_left 1
  · (intro w hSw; (try dsimp only at hSw); first | (go_simp; done) | (go_simp; with_reducible rfl))
  try simp only [Act.put, List.getElem_toArray, List.getElem_cons_succ, List.getElem_cons_zero, List.setIfInBounds_toArray, List.set_cons_zero, List.set_cons_succ]
  refine wpAnyH_take (i := 72) (v := ?_) rfl (by kernel_rfl) (by kernel_rfl) (by kernel_rfl) (fun _ _ _ h => h) (Or.inl ⟨by rfl, ?_⟩) (by assumption) ?_
  rotate_left 1
  · (intro w hSw; (try dsimp only at hSw); first | (go_simp; done) | (go_simp; with_reducible rfl))
  try simp only [Act.put, List.getElem_toArray, List.getElem_cons_succ, List.getElem_cons_zero, List.setIfInBounds_toArray, List.set_cons_zero, List.set_cons_succ]
  refine wpAnyH_done (by kernel_rfl) ?_ _
  go_wp2_with fail
  go_ret
  exact ⟨rfl, HB.out⟩
end Go.Proofs.YtophiphhgcmjpaaDoor
