/-
  The walk of the examples of chapter 17.
-/
import Derived.Test.YtpimibchameakaaDoorEvEx
namespace Go.Proofs.YtpimibchameakaaDoor
open Go.RowKit Cv
set_option linter.unusedVariables false
set_option linter.unusedSimpArgs false

namespace Cv
def exR0 : Ru := ⟨⟨#[82]⟩, 1990, 1992, 3, 2, 0, 0, 7200, 1, 3600, ⟨#[]⟩⟩
def exR1 : Ru := ⟨⟨#[82]⟩, 1990, 1048576, 10, 1, 0, 1, 0, 0, 0, ⟨#[]⟩⟩
def exL : _root_.List Ru := [exR0, exR1]
theorem exBase : baseL exL = 0 := by decide +kernel
theorem ex_ev {e : Ev} (h : IsEv exL e) : (e.rule = 0 ∧ Has exR0 e.year ∧ e.nom = nomOf 0 exR0 e.year) ∨ (e.rule = 1 ∧ Has exR1 e.year ∧ e.nom = nomOf 0 exR1 e.year) := by
  obtain ⟨r, hr, hh, hn⟩ := h
  rw [exBase] at hn
  obtain ⟨k, hk, hr', hl⟩ := ruleAt_ex hr
  have hk2 : k = 0 ∨ k = 1 := by simp [exL] at hl; omega
  rcases hk2 with rfl | rfl
  · simp [exL] at hr'
    subst hr'
    exact .inl ⟨by omega, hh, hn⟩
  · simp [exL] at hr'
    subst hr'
    exact .inr ⟨by omega, hh, hn⟩
theorem exA : Has exR0 1990 ∧ nomOf 0 exR0 1990 = 638330400 ∧ Has exR0 1991 ∧ nomOf 0 exR0 1991 = 670384800 ∧ firstY exR0 = 1990 := by decide +kernel
theorem exB : Has exR1 1990 ∧ nomOf 0 exR1 1990 = 654739200 ∧ Has exR1 1991 ∧ nomOf 0 exR1 1991 = 686275200 ∧ firstY exR1 = 1990 := by decide +kernel
/-- a rule's later events -/
theorem later {r : Ru} {y z : Int} (hy : Has r y) (hz : Has r z) (h : y ≤ z) : nomOf 0 r y + 30240000 * (z - y) ≤ nomOf 0 r z := by
  by_cases e : y = z
  · subst e; omega
  · have := nom_gap (bs := 0) hy hz (by omega); omega
theorem exIs1 : IsEv exL ⟨1990, 0, 638330400⟩ := ⟨exR0, rfl, exA.1, by rw [exBase]; exact exA.2.1.symm⟩
theorem exIs2 : IsEv exL ⟨1990, 1, 654739200⟩ := ⟨exR1, rfl, exB.1, by rw [exBase]; exact exB.2.1.symm⟩
theorem exIs3 : IsEv exL ⟨1991, 0, 670384800⟩ := ⟨exR0, rfl, exA.2.2.1, by rw [exBase]; exact exA.2.2.2.1.symm⟩
theorem exBef0 : BefIs exL 638330400 none := by
  intro e he hlt
  rcases ex_ev he with ⟨h1, h2, h3⟩ | ⟨h1, h2, h3⟩
  · have hf := h2.1
    rw [exA.2.2.2.2] at hf
    have := later exA.1 h2 hf
    rw [exA.2.1] at this; omega
  · have hf := h2.1
    rw [exB.2.2.2.2] at hf
    have := later exB.1 h2 hf
    rw [exB.2.1] at this; omega
theorem exBef1 : BefIs exL 638330401 (some ⟨1990, 0, 638330400⟩) := by
  refine ⟨exIs1, by decide, fun e he hlt hl => ?_⟩
  unfold Ev.lt at hl
  dsimp only at hl
  rcases ex_ev he with ⟨h1, h2, h3⟩ | ⟨h1, h2, h3⟩
  · have hf := h2.1
    rw [exA.2.2.2.2] at hf
    have := later exA.1 h2 hf
    rw [exA.2.1] at this; omega
  · have hf := h2.1
    rw [exB.2.2.2.2] at hf
    have := later exB.1 h2 hf
    rw [exB.2.1] at this; omega
theorem exAft : AftIs exL 654739200 (some ⟨1991, 0, 670384800⟩) := by
  refine ⟨exIs3, by decide, fun e he hlt hl => ?_⟩
  unfold Ev.lt at hl
  dsimp only at hl
  rcases ex_ev he with ⟨h1, h2, h3⟩ | ⟨h1, h2, h3⟩
  · have hf := h2.1
    rw [exA.2.2.2.2] at hf
    by_cases hy : e.year = 1990
    · rw [hy, exA.2.1] at h3; omega
    · have := later exA.2.2.1 h2 (by omega)
      rw [exA.2.2.2.1] at this; omega
  · have hf := h2.1
    rw [exB.2.2.2.2] at hf
    by_cases hy : e.year = 1990
    · rw [hy, exB.2.1] at h3; omega
    · have := later exB.2.2.1 h2 (by omega)
      rw [exB.2.2.2.1] at this; omega
theorem exIn : InIs exL 1990 1990 [⟨1990, 0, 638330400⟩, ⟨1990, 1, 654739200⟩] := by
  refine ⟨by simp [Ev.lt], fun e => ⟨fun h => ?_, fun h => ?_⟩⟩
  · simp at h
    rcases h with rfl | rfl
    · exact ⟨exIs1, by decide, by decide⟩
    · exact ⟨exIs2, by decide, by decide⟩
  · obtain ⟨he, a, b⟩ := h
    obtain ⟨ey, er, en⟩ := e
    dsimp only at a b
    obtain rfl : ey = 1990 := by omega
    rcases ex_ev he with ⟨h1, h2, h3⟩ | ⟨h1, h2, h3⟩
    · dsimp only at h1 h3
      rw [exA.2.1] at h3
      simp [h1, h3]
    · dsimp only at h1 h3
      rw [exB.2.1] at h3
      simp [h1, h3]
/-- what In hands back, where its events are known -/
theorem InR.list {rs : _root_.List Ru} {a b : Int} {l : _root_.List Ev} {W : World} (h : InIs rs a b l) (hab : b - a ≤ 1000) : ∀ e w', InR rs a b W e w' → ∃ (A : Option Addr) (cap : Nat), e = .returned (.tuple #[.slice A l.length cap, .int .i64 0]) ∧ Hid (w'.ownsRow W.heap.size 34 3 (.slice A l.length cap) l.length (flatEv l)) ∧ Below W.heap.size W w' := by
  rintro e w' ⟨hb, ⟨h1, h2, _⟩ | ⟨_, v, k, hk, he, ho, _⟩⟩
  · omega
  · obtain rfl := hk.out.uniq h
    obtain ⟨A, cap, rfl⟩ := (RdEv.own ho.out).sl
    exact ⟨A, cap, he, ho, hb⟩
theorem InR.far {rs : _root_.List Ru} {a b : Int} {W : World} (h1 : a ≤ b) (h2 : 1000 < b - a) : ∀ e w', InR rs a b W e w' → e = .returned (.tuple #[.slice none 0 0, .int .i64 3]) ∧ Below W.heap.size W w' := by
  rintro e w' ⟨hb, ⟨_, _, he⟩ | ⟨h3, _⟩⟩
  · exact ⟨he, hb⟩
  · omega
theorem LookR.bef {rs : _root_.List Ru} {N : Int} {o : Option Ev} {v : Value} {W : World} (h : BefIs rs N o) (hv : evV o = v) : ∀ e w', LookR (BefIs rs N) W e w' → e = .returned v ∧ Below W.heap.size W w' := by
  rintro e w' ⟨p, hp, he, hb⟩
  obtain rfl := hp.out.uniq h
  exact ⟨by rw [he, hv], hb⟩
theorem LookR.aft {rs : _root_.List Ru} {N : Int} {o : Option Ev} {v : Value} {W : World} (h : AftIs rs N o) (hv : evV o = v) : ∀ e w', LookR (AftIs rs N) W e w' → e = .returned v ∧ Below W.heap.size W w' := by
  rintro e w' ⟨p, hp, he, hb⟩
  obtain rfl := hp.out.uniq h
  exact ⟨by rw [he, hv], hb⟩
theorem exRul {w : World} {b : Nat} (h : w.heap[b]? = some (.cells #[.string ⟨#[82]⟩, .int .i64 1990, .int .i64 1992, .int .i64 3, .int .i64 2, .int .i64 0, .int .i64 0, .int .i64 7200, .int .i64 1, .int .i64 3600, .string ⟨#[]⟩, .string ⟨#[82]⟩, .int .i64 1990, .int .i64 1048576, .int .i64 10, .int .i64 1, .int .i64 0, .int .i64 1, .int .i64 0, .int .i64 0, .int .i64 0, .string ⟨#[]⟩] 32)) : Rul (.slice (some ⟨b, 0, none⟩) 2 2) exL w :=
  Rul.block (rs := exL) h rfl (by decide) (by intro r hr; simp [exL] at hr; rcases hr with rfl | rfl <;> (unfold Ru.fits fit; decide))
end Cv

set_option maxRecDepth 100000 in
set_option maxHeartbeats 4000000 in
theorem works_any (W : World) (hT : Tabs W) : Calls Tryd.prog 13 #[] W fun e w' => e = .returned (.bool true) ∧ Below W.heap.size W w' := by
  have heq := eqEv
  have HB0 := Lib.hid (show Below W.heap.size W ((((W.alloc (.cells #[.string ⟨#[82]⟩, .int .i64 1990, .int .i64 1992, .int .i64 3, .int .i64 2, .int .i64 0, .int .i64 0, .int .i64 7200, .int .i64 1, .int .i64 3600, .string ⟨#[]⟩, .string ⟨#[82]⟩, .int .i64 1990, .int .i64 1048576, .int .i64 10, .int .i64 1, .int .i64 0, .int .i64 1, .int .i64 0, .int .i64 0, .int .i64 0, .string ⟨#[]⟩] 32)).alloc (.cells #[.int .i64 1990, .int .i64 0, .int .i64 638330400] 34)).alloc (.cells #[.int .i64 1990, .int .i64 1, .int .i64 654739200] 34)).alloc (.cells #[.int .i64 1991, .int .i64 0, .int .i64 670384800] 34)) from bel_trans (bel_trans (bel_trans (bel_alloc _ _) (bel_alloc _ _)) (bel_alloc _ _)) (bel_alloc _ _))
  have HR0 := Lib.hid (show Rul (.slice (some ⟨W.heap.size, 0, none⟩) 2 2) exL ((((W.alloc (.cells #[.string ⟨#[82]⟩, .int .i64 1990, .int .i64 1992, .int .i64 3, .int .i64 2, .int .i64 0, .int .i64 0, .int .i64 7200, .int .i64 1, .int .i64 3600, .string ⟨#[]⟩, .string ⟨#[82]⟩, .int .i64 1990, .int .i64 1048576, .int .i64 10, .int .i64 1, .int .i64 0, .int .i64 1, .int .i64 0, .int .i64 0, .int .i64 0, .string ⟨#[]⟩] 32)).alloc (.cells #[.int .i64 1990, .int .i64 0, .int .i64 638330400] 34)).alloc (.cells #[.int .i64 1990, .int .i64 1, .int .i64 654739200] 34)).alloc (.cells #[.int .i64 1991, .int .i64 0, .int .i64 670384800] 34)) from exRul (block_below (heap_alloc_new W _) (bel_trans (bel_trans (bel_alloc _ _) (bel_alloc _ _)) (bel_alloc _ _))))
  have H20 := Lib.hid (show ((((W.alloc (.cells #[.string ⟨#[82]⟩, .int .i64 1990, .int .i64 1992, .int .i64 3, .int .i64 2, .int .i64 0, .int .i64 0, .int .i64 7200, .int .i64 1, .int .i64 3600, .string ⟨#[]⟩, .string ⟨#[82]⟩, .int .i64 1990, .int .i64 1048576, .int .i64 10, .int .i64 1, .int .i64 0, .int .i64 1, .int .i64 0, .int .i64 0, .int .i64 0, .string ⟨#[]⟩] 32)).alloc (.cells #[.int .i64 1990, .int .i64 0, .int .i64 638330400] 34)).alloc (.cells #[.int .i64 1990, .int .i64 1, .int .i64 654739200] 34)).alloc (.cells #[.int .i64 1991, .int .i64 0, .int .i64 670384800] 34)).heap[W.heap.size + 1]? = some (.cells #[.int .i64 1990, .int .i64 0, .int .i64 638330400] 34) from block_below (heap_alloc2_new W _ _) (bel_trans (bel_alloc _ _) (bel_alloc _ _)))
  have H30 := Lib.hid (show ((((W.alloc (.cells #[.string ⟨#[82]⟩, .int .i64 1990, .int .i64 1992, .int .i64 3, .int .i64 2, .int .i64 0, .int .i64 0, .int .i64 7200, .int .i64 1, .int .i64 3600, .string ⟨#[]⟩, .string ⟨#[82]⟩, .int .i64 1990, .int .i64 1048576, .int .i64 10, .int .i64 1, .int .i64 0, .int .i64 1, .int .i64 0, .int .i64 0, .int .i64 0, .string ⟨#[]⟩] 32)).alloc (.cells #[.int .i64 1990, .int .i64 0, .int .i64 638330400] 34)).alloc (.cells #[.int .i64 1990, .int .i64 1, .int .i64 654739200] 34)).alloc (.cells #[.int .i64 1991, .int .i64 0, .int .i64 670384800] 34)).heap[W.heap.size + 1 + 1]? = some (.cells #[.int .i64 1990, .int .i64 1, .int .i64 654739200] 34) from block_below (heap_alloc3_new W _ _ _) (bel_alloc _ _))
  have H40 := Lib.hid (show ((((W.alloc (.cells #[.string ⟨#[82]⟩, .int .i64 1990, .int .i64 1992, .int .i64 3, .int .i64 2, .int .i64 0, .int .i64 0, .int .i64 7200, .int .i64 1, .int .i64 3600, .string ⟨#[]⟩, .string ⟨#[82]⟩, .int .i64 1990, .int .i64 1048576, .int .i64 10, .int .i64 1, .int .i64 0, .int .i64 1, .int .i64 0, .int .i64 0, .int .i64 0, .string ⟨#[]⟩] 32)).alloc (.cells #[.int .i64 1990, .int .i64 0, .int .i64 638330400] 34)).alloc (.cells #[.int .i64 1990, .int .i64 1, .int .i64 654739200] 34)).alloc (.cells #[.int .i64 1991, .int .i64 0, .int .i64 670384800] 34)).heap[W.heap.size + 1 + 1 + 1]? = some (.cells #[.int .i64 1991, .int .i64 0, .int .i64 670384800] 34) from heap_alloc_at (by simp))
  have HT0 := Lib.hid (hT.below HB0.out)
  clear hT
  go_enter Tryd.func13, Tryd.ntmps13
  go_wp2_with fail
  refine (evOn_any (.slice (some ⟨W.heap.size, 0, none⟩) 2 2) exL 0 1990 _ (by exact HT0.out) (by exact HR0.out) (by decide) (by decide)).mono ?_
  intro e w1 hq; obtain ⟨rfl, hb⟩ := EvR.to (v := .tuple #[.agg #[.int .i64 1990, .int .i64 0, .int .i64 638330400], .bool true]) (congrArg evV (show evOn exL 0 1990 = some ⟨1990, 0, 638330400⟩ by decide +kernel)) _ _ hq; clear hq
  have HB1 := Lib.hid (bel_trans (bel_trans HB0.out hb) (bel_alloc w1 (.cells #[.int .i64 1990, .int .i64 0, .int .i64 638330400] 34)))
  have HR1 := Lib.hid ((HR0.out.below hb).below (bel_alloc w1 (.cells #[.int .i64 1990, .int .i64 0, .int .i64 638330400] 34)))
  have HT1 := Lib.hid ((HT0.out.below hb).below (bel_alloc w1 (.cells #[.int .i64 1990, .int .i64 0, .int .i64 638330400] 34)))
  have H21 := Lib.hid (block_below (block_below H20.out hb) (bel_alloc w1 (.cells #[.int .i64 1990, .int .i64 0, .int .i64 638330400] 34)))
  have H31 := Lib.hid (block_below (block_below H30.out hb) (bel_alloc w1 (.cells #[.int .i64 1990, .int .i64 0, .int .i64 638330400] 34)))
  have H41 := Lib.hid (block_below (block_below H40.out hb) (bel_alloc w1 (.cells #[.int .i64 1990, .int .i64 0, .int .i64 638330400] 34)))
  have H51 := Lib.hid (heap_alloc_new w1 (.cells #[.int .i64 1990, .int .i64 0, .int .i64 638330400] 34))
  clear hb HB0 HR0 HT0 H20 H30 H40
  go_wp2_with fail
  refine (evOn_any (.slice (some ⟨W.heap.size, 0, none⟩) 2 2) exL 0 1993 _ (by exact HT1.out) (by exact HR1.out) (by decide) (by decide)).mono ?_
  intro e w2 hq; obtain ⟨rfl, hb⟩ := EvR.to (v := .tuple #[.agg #[.int .i64 0, .int .i64 0, .int .i64 0], .bool false]) (congrArg evV (show evOn exL 0 1993 = none by decide +kernel)) _ _ hq; clear hq
  have HB2 := Lib.hid (bel_trans (bel_trans HB1.out hb) (bel_alloc w2 (.cells #[.int .i64 0, .int .i64 0, .int .i64 0] 34)))
  have HR2 := Lib.hid ((HR1.out.below hb).below (bel_alloc w2 (.cells #[.int .i64 0, .int .i64 0, .int .i64 0] 34)))
  have HT2 := Lib.hid ((HT1.out.below hb).below (bel_alloc w2 (.cells #[.int .i64 0, .int .i64 0, .int .i64 0] 34)))
  have H22 := Lib.hid (block_below (block_below H21.out hb) (bel_alloc w2 (.cells #[.int .i64 0, .int .i64 0, .int .i64 0] 34)))
  have H32 := Lib.hid (block_below (block_below H31.out hb) (bel_alloc w2 (.cells #[.int .i64 0, .int .i64 0, .int .i64 0] 34)))
  have H42 := Lib.hid (block_below (block_below H41.out hb) (bel_alloc w2 (.cells #[.int .i64 0, .int .i64 0, .int .i64 0] 34)))
  have H52 := Lib.hid (block_below (block_below H51.out hb) (bel_alloc w2 (.cells #[.int .i64 0, .int .i64 0, .int .i64 0] 34)))
  clear hb HB1 HR1 HT1 H21 H31 H41 H51
  go_wp2_with fail
  refine (evOn_any (.slice (some ⟨W.heap.size, 0, none⟩) 2 2) exL 2 1990 _ (by exact HT2.out) (by exact HR2.out) (by decide) (by decide)).mono ?_
  intro e w3 hq; obtain ⟨rfl, hb⟩ := EvR.to (v := .tuple #[.agg #[.int .i64 0, .int .i64 0, .int .i64 0], .bool false]) (congrArg evV (show evOn exL 2 1990 = none by decide +kernel)) _ _ hq; clear hq
  have HB3 := Lib.hid (bel_trans (bel_trans HB2.out hb) (bel_alloc w3 (.cells #[.int .i64 0, .int .i64 0, .int .i64 0] 34)))
  have HR3 := Lib.hid ((HR2.out.below hb).below (bel_alloc w3 (.cells #[.int .i64 0, .int .i64 0, .int .i64 0] 34)))
  have HT3 := Lib.hid ((HT2.out.below hb).below (bel_alloc w3 (.cells #[.int .i64 0, .int .i64 0, .int .i64 0] 34)))
  have H23 := Lib.hid (block_below (block_below H22.out hb) (bel_alloc w3 (.cells #[.int .i64 0, .int .i64 0, .int .i64 0] 34)))
  have H33 := Lib.hid (block_below (block_below H32.out hb) (bel_alloc w3 (.cells #[.int .i64 0, .int .i64 0, .int .i64 0] 34)))
  have H43 := Lib.hid (block_below (block_below H42.out hb) (bel_alloc w3 (.cells #[.int .i64 0, .int .i64 0, .int .i64 0] 34)))
  have H53 := Lib.hid (block_below (block_below H52.out hb) (bel_alloc w3 (.cells #[.int .i64 0, .int .i64 0, .int .i64 0] 34)))
  clear hb HB2 HR2 HT2 H22 H32 H42 H52
  go_wp2_with fail
  refine (evIn_any (.slice (some ⟨W.heap.size, 0, none⟩) 2 2) exL 1990 1990 _ (by exact HT3.out) (by exact HR3.out) (by decide) (by decide) (by decide) (by decide)).mono ?_
  intro e w4 hq; obtain ⟨A4, c4, rfl, ho, hb⟩ := InR.list exIn (by decide) _ _ hq; clear hq
  have HB4 := Lib.hid (bel_trans HB3.out hb)
  have HR4 := Lib.hid (HR3.out.below hb)
  have HT4 := Lib.hid (HT3.out.below hb)
  have H24 := Lib.hid (block_below H23.out hb)
  have H34 := Lib.hid (block_below H33.out hb)
  have H44 := Lib.hid (block_below H43.out hb)
  have H54 := Lib.hid (block_below H53.out hb)
  have HI4 := Lib.hid (RdEv.own ho.out)
  clear hb ho HB3 HR3 HT3 H23 H33 H43 H53
  go_wp2_with fail
  refine (evIn_any (.slice (some ⟨W.heap.size, 0, none⟩) 2 2) exL 1993 1992 _ (by exact HT4.out) (by exact HR4.out) (by decide) (by decide) (by decide) (by decide)).mono ?_
  intro e w5 hq; obtain ⟨A5, c5, rfl, ho, hb⟩ := InR.list (inIs_none (rs := exL) (show (1992 : Int) < 1993 by decide)) (by decide) _ _ hq; clear hq
  have HB5 := Lib.hid (bel_trans HB4.out hb)
  have HR5 := Lib.hid (HR4.out.below hb)
  have HT5 := Lib.hid (HT4.out.below hb)
  have H25 := Lib.hid (block_below H24.out hb)
  have H35 := Lib.hid (block_below H34.out hb)
  have H45 := Lib.hid (block_below H44.out hb)
  have H55 := Lib.hid (block_below H54.out hb)
  have HI5 := Lib.hid (HI4.out.below hb)
  have HJ5 := Lib.hid (RdEv.own ho.out)
  clear hb ho HB4 HR4 HT4 H24 H34 H44 H54 HI4
  go_wp2_with fail
  refine (evBefore_any (.slice (some ⟨W.heap.size, 0, none⟩) 2 2) exL 638330400 _ (by exact HT5.out) (by exact HR5.out) (by decide) (by decide)).mono ?_
  intro e w6 hq; obtain ⟨rfl, hb⟩ := LookR.bef exBef0 (v := .tuple #[.agg #[.int .i64 0, .int .i64 0, .int .i64 0], .bool false]) rfl _ _ hq; clear hq
  have HB6 := Lib.hid (bel_trans (bel_trans HB5.out hb) (bel_alloc w6 (.cells #[.int .i64 0, .int .i64 0, .int .i64 0] 34)))
  have HR6 := Lib.hid ((HR5.out.below hb).below (bel_alloc w6 (.cells #[.int .i64 0, .int .i64 0, .int .i64 0] 34)))
  have HT6 := Lib.hid ((HT5.out.below hb).below (bel_alloc w6 (.cells #[.int .i64 0, .int .i64 0, .int .i64 0] 34)))
  have H26 := Lib.hid (block_below (block_below H25.out hb) (bel_alloc w6 (.cells #[.int .i64 0, .int .i64 0, .int .i64 0] 34)))
  have H36 := Lib.hid (block_below (block_below H35.out hb) (bel_alloc w6 (.cells #[.int .i64 0, .int .i64 0, .int .i64 0] 34)))
  have H46 := Lib.hid (block_below (block_below H45.out hb) (bel_alloc w6 (.cells #[.int .i64 0, .int .i64 0, .int .i64 0] 34)))
  have H56 := Lib.hid (block_below (block_below H55.out hb) (bel_alloc w6 (.cells #[.int .i64 0, .int .i64 0, .int .i64 0] 34)))
  have HI6 := Lib.hid ((HI5.out.below hb).below (bel_alloc w6 (.cells #[.int .i64 0, .int .i64 0, .int .i64 0] 34)))
  have HJ6 := Lib.hid ((HJ5.out.below hb).below (bel_alloc w6 (.cells #[.int .i64 0, .int .i64 0, .int .i64 0] 34)))
  clear hb HB5 HR5 HT5 H25 H35 H45 H55 HI5 HJ5
  go_wp2_with fail
  refine (evBefore_any (.slice (some ⟨W.heap.size, 0, none⟩) 2 2) exL 638330401 _ (by exact HT6.out) (by exact HR6.out) (by decide) (by decide)).mono ?_
  intro e w7 hq; obtain ⟨rfl, hb⟩ := LookR.bef exBef1 (v := .tuple #[.agg #[.int .i64 1990, .int .i64 0, .int .i64 638330400], .bool true]) rfl _ _ hq; clear hq
  have HB7 := Lib.hid (bel_trans (bel_trans HB6.out hb) (bel_alloc w7 (.cells #[.int .i64 1990, .int .i64 0, .int .i64 638330400] 34)))
  have HR7 := Lib.hid ((HR6.out.below hb).below (bel_alloc w7 (.cells #[.int .i64 1990, .int .i64 0, .int .i64 638330400] 34)))
  have HT7 := Lib.hid ((HT6.out.below hb).below (bel_alloc w7 (.cells #[.int .i64 1990, .int .i64 0, .int .i64 638330400] 34)))
  have H27 := Lib.hid (block_below (block_below H26.out hb) (bel_alloc w7 (.cells #[.int .i64 1990, .int .i64 0, .int .i64 638330400] 34)))
  have H37 := Lib.hid (block_below (block_below H36.out hb) (bel_alloc w7 (.cells #[.int .i64 1990, .int .i64 0, .int .i64 638330400] 34)))
  have H47 := Lib.hid (block_below (block_below H46.out hb) (bel_alloc w7 (.cells #[.int .i64 1990, .int .i64 0, .int .i64 638330400] 34)))
  have H57 := Lib.hid (block_below (block_below H56.out hb) (bel_alloc w7 (.cells #[.int .i64 1990, .int .i64 0, .int .i64 638330400] 34)))
  have HI7 := Lib.hid ((HI6.out.below hb).below (bel_alloc w7 (.cells #[.int .i64 1990, .int .i64 0, .int .i64 638330400] 34)))
  have HJ7 := Lib.hid ((HJ6.out.below hb).below (bel_alloc w7 (.cells #[.int .i64 1990, .int .i64 0, .int .i64 638330400] 34)))
  have H67 := Lib.hid (heap_alloc_new w7 (.cells #[.int .i64 1990, .int .i64 0, .int .i64 638330400] 34))
  clear hb HB6 HR6 HT6 H26 H36 H46 H56 HI6 HJ6
  go_wp2_with fail
  refine (evAfter_any (.slice (some ⟨W.heap.size, 0, none⟩) 2 2) exL 654739200 _ (by exact HT7.out) (by exact HR7.out) (by decide) (by decide)).mono ?_
  intro e w8 hq; obtain ⟨rfl, hb⟩ := LookR.aft exAft (v := .tuple #[.agg #[.int .i64 1991, .int .i64 0, .int .i64 670384800], .bool true]) rfl _ _ hq; clear hq
  have HB8 := Lib.hid (bel_trans (bel_trans HB7.out hb) (bel_alloc w8 (.cells #[.int .i64 1991, .int .i64 0, .int .i64 670384800] 34)))
  have HR8 := Lib.hid ((HR7.out.below hb).below (bel_alloc w8 (.cells #[.int .i64 1991, .int .i64 0, .int .i64 670384800] 34)))
  have HT8 := Lib.hid ((HT7.out.below hb).below (bel_alloc w8 (.cells #[.int .i64 1991, .int .i64 0, .int .i64 670384800] 34)))
  have H28 := Lib.hid (block_below (block_below H27.out hb) (bel_alloc w8 (.cells #[.int .i64 1991, .int .i64 0, .int .i64 670384800] 34)))
  have H38 := Lib.hid (block_below (block_below H37.out hb) (bel_alloc w8 (.cells #[.int .i64 1991, .int .i64 0, .int .i64 670384800] 34)))
  have H48 := Lib.hid (block_below (block_below H47.out hb) (bel_alloc w8 (.cells #[.int .i64 1991, .int .i64 0, .int .i64 670384800] 34)))
  have H58 := Lib.hid (block_below (block_below H57.out hb) (bel_alloc w8 (.cells #[.int .i64 1991, .int .i64 0, .int .i64 670384800] 34)))
  have H68 := Lib.hid (block_below (block_below H67.out hb) (bel_alloc w8 (.cells #[.int .i64 1991, .int .i64 0, .int .i64 670384800] 34)))
  have HI8 := Lib.hid ((HI7.out.below hb).below (bel_alloc w8 (.cells #[.int .i64 1991, .int .i64 0, .int .i64 670384800] 34)))
  have HJ8 := Lib.hid ((HJ7.out.below hb).below (bel_alloc w8 (.cells #[.int .i64 1991, .int .i64 0, .int .i64 670384800] 34)))
  have H78 := Lib.hid (heap_alloc_new w8 (.cells #[.int .i64 1991, .int .i64 0, .int .i64 670384800] 34))
  clear hb HB7 HR7 HT7 H27 H37 H47 H57 H67 HI7 HJ7
  go_wp2_with fail
  refine (evIn_any (.slice (some ⟨W.heap.size, 0, none⟩) 2 2) exL 0 1001 _ (by exact HT8.out) (by exact HR8.out) (by decide) (by decide) (by decide) (by decide)).mono ?_
  intro e w9 hq; obtain ⟨rfl, hb⟩ := InR.far (by decide) (by decide) _ _ hq; clear hq
  have HB9 := Lib.hid (bel_trans HB8.out hb)
  have HR9 := Lib.hid (HR8.out.below hb)
  have HT9 := Lib.hid (HT8.out.below hb)
  have H29 := Lib.hid (block_below H28.out hb)
  have H39 := Lib.hid (block_below H38.out hb)
  have H49 := Lib.hid (block_below H48.out hb)
  have H59 := Lib.hid (block_below H58.out hb)
  have H69 := Lib.hid (block_below H68.out hb)
  have H79 := Lib.hid (block_below H78.out hb)
  have HI9 := Lib.hid (HI8.out.below hb)
  have HJ9 := Lib.hid (HJ8.out.below hb)
  clear hb HB8 HR8 HT8 H28 H38 H48 H58 H68 H78 HI8 HJ8
  have a0 := cellB H29.out (i := 0) rfl
  have a1 := cellB H29.out (i := 1) rfl
  have a2 := cellB H29.out (i := 2) rfl
  have b0 := cellB H39.out (i := 0) rfl
  have b1 := cellB H39.out (i := 1) rfl
  have b2 := cellB H39.out (i := 2) rfl
  have c0 := cellB H49.out (i := 0) rfl
  have c1 := cellB H49.out (i := 1) rfl
  have c2 := cellB H49.out (i := 2) rfl
  have d0 := cellB H59.out (i := 0) rfl
  have d1 := cellB H59.out (i := 1) rfl
  have d2 := cellB H59.out (i := 2) rfl
  have e0 := cellB H69.out (i := 0) rfl
  have e1 := cellB H69.out (i := 1) rfl
  have e2 := cellB H69.out (i := 2) rfl
  have f0 := cellB H79.out (i := 0) rfl
  have f1 := cellB H79.out (i := 1) rfl
  have f2 := cellB H79.out (i := 2) rfl
  go_wp2_with fail
  refine (equalEv_any (.slice A4 2 c4) _ [⟨1990, 0, 638330400⟩, ⟨1990, 1, 654739200⟩] _ (by exact HI9.out.below (bel_alloc _ _)) (by exact RdEv.block (l := [⟨1990, 0, 638330400⟩, ⟨1990, 1, 654739200⟩]) (heap_alloc_new _ _) rfl) (by decide)).mono ?_
  rintro e w10 ⟨rfl, hb⟩
  have HB10 := Lib.hid (bel_trans (bel_trans HB9.out (bel_alloc w9 _)) hb)
  have H2X := Lib.hid (block_below (block_below H29.out (bel_alloc w9 _)) hb)
  have H4X := Lib.hid (block_below (block_below H49.out (bel_alloc w9 _)) hb)
  have H6X := Lib.hid (block_below (block_below H69.out (bel_alloc w9 _)) hb)
  have H7X := Lib.hid (block_below (block_below H79.out (bel_alloc w9 _)) hb)
  clear hb a0 a1 a2 b0 b1 b2 c0 c1 c2 d0 d1 d2 e0 e1 e2 f0 f1 f2
  have a0 := cellB H2X.out (i := 0) rfl
  have a1 := cellB H2X.out (i := 1) rfl
  have a2 := cellB H2X.out (i := 2) rfl
  have c0 := cellB H4X.out (i := 0) rfl
  have c1 := cellB H4X.out (i := 1) rfl
  have c2 := cellB H4X.out (i := 2) rfl
  have e0 := cellB H6X.out (i := 0) rfl
  have e1 := cellB H6X.out (i := 1) rfl
  have e2 := cellB H6X.out (i := 2) rfl
  have f0 := cellB H7X.out (i := 0) rfl
  have f1 := cellB H7X.out (i := 1) rfl
  have f2 := cellB H7X.out (i := 2) rfl
  go_wp2_with fail
  go_ret
  exact ⟨rfl, HB10.out⟩
end Go.Proofs.YtpimibchameakaaDoor

