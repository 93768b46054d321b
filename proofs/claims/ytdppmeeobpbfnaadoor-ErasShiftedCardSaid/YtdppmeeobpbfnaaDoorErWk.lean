/-
  The examples of chapter 23 hold.
-/
import Derived.Test.YtdppmeeobpbfnaaDoorErSp
import Derived.Test.YtdppmeeobpbfnaaDoorErEx
import Derived.Test.YtdppmeeobpbfnaaDoorCivDays
import Derived.Deep.AppendLies
namespace Go.Proofs.YtdppmeeobpbfnaaDoor
open Go.RowKit Cv
set_option linter.unusedVariables false
set_option linter.unusedSimpArgs false

namespace Cv
theorem ok_ex0 : Ok0 ex0 := ⟨rfl, rfl, by decide +kernel, by decide, by decide⟩
theorem exArr (i : Nat) (e : Er) (es : _root_.List Er) (h : es[i]? = some e) : ∀ j, j < 13 → (es.flatMap fun e => e.arr.toList)[i * 13 + j]? = e.arr.toList[j]? := by
  induction es generalizing i with
  | nil => simp at h
  | cons a l ih =>
    intro j hj
    rw [_root_.List.flatMap_cons]
    have hl : a.arr.toList.length = 13 := rfl
    cases i with
    | zero =>
      simp at h; subst h
      rw [_root_.List.getElem?_append_left (by omega)]; congr 1; omega
    | succ i =>
      rw [_root_.List.getElem?_append_right (by omega), hl, show (i + 1) * 13 + j - 13 = i * 13 + j by omega]
      exact ih i (by simpa using h) j hj
theorem rdEr_block {w : World} {b : Nat} {t : TypeId} {cs : Array Value} {es : _root_.List Er} (h : w.heap[b]? = some (.cells cs t)) (hc : cs.toList = es.flatMap fun e => e.arr.toList) : RdEr (.slice (some ⟨b, 0, none⟩) es.length es.length) es w := by
  refine ⟨_, _, rfl, fun i e he => ⟨b, 0, rfl, fun j u hu => ?_⟩⟩
  have hj : j < 13 := (_root_.List.getElem?_eq_some_iff.1 hu).1
  refine cellB h ?_
  rw [← Array.getElem?_toList, hc, Nat.zero_add, exArr i e es he j hj]; exact hu
theorem ex_zo {w : World} {zb eb : Nat} (hz : w.heap[zb]? = some (.cells #[.string ⟨#[90]⟩, .slice (some ⟨eb, 0, none⟩) 2 2] 45)) (he : w.heap[eb]? = some (.cells (ex0.arr ++ ex1.arr) 60)) : RdZo (.slice (some ⟨zb, 0, none⟩) 1 1) [(⟨#[90]⟩, [ex0, ex1])] w := by
  refine ⟨_, _, rfl, fun i z hi => ?_⟩
  match i, hi with
  | 0, hi =>
    obtain rfl := Option.some.inj hi
    exact ⟨zb, 0, _, rfl, cellB hz (i := 0) rfl, cellB hz (i := 1) rfl, rdEr_block (es := [ex0, ex1]) he (by rfl)⟩
def exG : Er := ⟨0, 0, 0, ⟨#[]⟩, ⟨#[71, 77, 84]⟩, false, 0, 0, 0, 0, 0, 0, 0⟩
def zs3 : _root_.List (ByteArray × _root_.List Er) := [(⟨#[90]⟩, [ex0, ex1]), (⟨#[89]⟩, []), (⟨#[88]⟩, [ex0, ex0, exG])]
theorem ex_zo3 {w : World} {base g cap eb b39 : Nat} (ho : w.ownsRow base 45 2 (.slice (some ⟨g, 0, none⟩) 3 cap) 3 [.string ⟨#[90]⟩, .slice (some ⟨eb, 0, none⟩) 2 2, .string ⟨#[89]⟩, .slice none 0 0, .string ⟨#[88]⟩, .slice (some ⟨b39, 0, none⟩) 3 3]) (he : w.heap[eb]? = some (.cells (ex0.arr ++ ex1.arr) 60)) (h3 : w.heap[b39]? = some (.cells #[.int .i64 0, .int .i64 0, .int .i64 0, .string ⟨#[]⟩, .string ⟨#[71, 77, 84]⟩, .bool true, .int .i64 1968, .int .i64 10, .int .i64 1, .int .i64 0, .int .i64 27, .int .i64 0, .int .i64 0, .int .i64 0, .int .i64 0, .int .i64 0, .string ⟨#[]⟩, .string ⟨#[71, 77, 84]⟩, .bool true, .int .i64 1968, .int .i64 10, .int .i64 1, .int .i64 0, .int .i64 27, .int .i64 0, .int .i64 0, .int .i64 0, .int .i64 0, .int .i64 0, .string ⟨#[]⟩, .string ⟨#[71, 77, 84]⟩, .bool false, .int .i64 0, .int .i64 0, .int .i64 0, .int .i64 0, .int .i64 0, .int .i64 0, .int .i64 0] 60)) : RdZo (.slice (some ⟨g, 0, none⟩) 3 cap) zs3 w := by
  refine ⟨_, _, rfl, fun i z hi => ?_⟩
  match i, hi with
  | 0, hi =>
    obtain rfl := Option.some.inj hi
    exact ⟨g, 0, _, rfl, ho.cellAt 0 (by decide), ho.cellAt 1 (by decide), rdEr_block (es := [ex0, ex1]) he (by rfl)⟩
  | 1, hi =>
    obtain rfl := Option.some.inj hi
    exact ⟨g, 0, _, rfl, ho.cellAt 2 (by decide), ho.cellAt 3 (by decide), none, 0, rfl, fun i e h => by simp at h⟩
  | 2, hi =>
    obtain rfl := Option.some.inj hi
    exact ⟨g, 0, _, rfl, ho.cellAt 4 (by decide), ho.cellAt 5 (by decide), rdEr_block (es := [ex0, ex0, exG]) h3 (by rfl)⟩
theorem own_zone {w : World} {zb : Nat} {a b : Value} (h : w.heap[zb]? = some (.cells #[a, b] 45)) : w.ownsRow zb 45 2 (.slice (some ⟨zb, 0, none⟩) 1 1) 1 [a, b] :=
  ⟨rfl, .inr ⟨zb, 1, #[a, b], rfl, Nat.le_refl _, h, Nat.le_refl _, by unfold maxLen; decide, rfl, rfl⟩⟩
theorem grown_block {w w' : World} {k zb : Nat} {o : Obj} (hg : w.grownBy w' (some zb)) (h : w.heap[k]? = some o) (hne : k ≠ zb) : w'.heap[k]? = some o := by
  rw [hg.block k (Array.getElem?_eq_some_iff.1 h).1 (fun e => hne (Option.some.inj e))]; exact h
theorem set4_1 {V : World} {b : Nat} {t : TypeId} {a0 a1 a2 a3 d : Value} (h : V.heap[b]? = some (.cells #[a0, a1, a2, a3] t)) : (V.setCell ⟨b, 1, none⟩ d).heap[b]? = some (.cells #[a0, d, a2, a3] t) := by
  simp [World.setCell, Array.getElem?_modify, h]
theorem own_set_far {w : World} {base g n cap size c j : Nat} {e : TypeId} {x : Value} {xs : _root_.List Value} (h : w.ownsRow base e size (.slice (some ⟨g, 0, none⟩) n cap) n xs) (hne : g ≠ c) : (w.setCell ⟨c, j, none⟩ x).ownsRow base e size (.slice (some ⟨g, 0, none⟩) n cap) n xs := by
  obtain ⟨hl, ⟨h1, _⟩ | ⟨g', c', cur, h1, h2, h3, h4⟩⟩ := h
  · cases h1
  · cases h1
    exact ⟨hl, .inr ⟨g, cap, cur, rfl, h2, block_setCells (l := [x]) h3 hne, h4⟩⟩
theorem sp_ex : spansFrom (-9223372036854775808) 0 [ex0, ex1] = some [⟨(-9223372036854775808), (-37238400), 0⟩, ⟨(-37238400), 9223372036854775807, 1⟩] := by decide +kernel
theorem fi_a : FindIs [⟨(-9223372036854775808), (-37238400), 0⟩, ⟨(-37238400), 9223372036854775807, 1⟩] (-37238400) (some ⟨(-37238400), 9223372036854775807, 1⟩) := ⟨1, rfl, by decide, fun i e hi he => by
  obtain rfl : i = 0 := by omega
  obtain rfl := Option.some.inj he
  decide⟩
theorem fi_b : FindIs [⟨(-9223372036854775808), (-37238400), 0⟩, ⟨(-37238400), 9223372036854775807, 1⟩] (-37238401) (some ⟨(-9223372036854775808), (-37238400), 0⟩) := ⟨0, rfl, by decide, fun i e hi he => by omega⟩
theorem fi_c : FindIs [⟨(-9223372036854775808), (-37238400), 0⟩, ⟨(-37238400), 9223372036854775807, 1⟩] 9223372036854775807 none := fun i e he => by
  match i, he with
  | 0, he => obtain rfl := Option.some.inj he; decide
  | 1, he => obtain rfl := Option.some.inj he; decide
theorem sp_y : spansFrom (-9223372036854775808) 0 [] = some [] := rfl
theorem sp_x : spansFrom (-9223372036854775808) 0 [ex0, ex0, exG] = none := by decide +kernel
theorem infoZo : (Tryd.prog.info? 45).map (fun i => (i.zero, i.size, i.bytes)) = some (some (.agg #[.string ⟨#[]⟩, .slice none 0 0]), 2, 40) := by kernel_rfl
theorem SpansR.to {o : Option (_root_.List Sp)} {l : _root_.List Sp} {W : World} (h : o = some l) : ∀ e w', SpansR o W e w' → ∃ v, e = .returned (.tuple #[v, .int .i64 0]) ∧ RdSp v l w' ∧ Below W.heap.size W w' := by subst h; intro e w' h; exact h
theorem SpansR.no {o : Option (_root_.List Sp)} {W : World} (h : o = none) : ∀ e w', SpansR o W e w' → e = .returned (.tuple #[.slice none 0 0, .int .i64 12]) ∧ Below W.heap.size W w' := by subst h; intro e w' h; exact h
end Cv

set_option maxRecDepth 100000 in
set_option maxHeartbeats 32000000 in
theorem works23_any (W : World) (hT : Tabs W) : Calls Tryd.prog 7 #[] W fun e w' => e = .returned (.bool true) ∧ Below W.heap.size W w' := by
  have HT := Lib.hid hT
  have heq := eqSp
  clear hT
  go_enter Tryd.func7, Tryd.ntmps7
  go_wp2_with fail
  refine (example23_any _).mono ?_
  rintro e w1 ⟨rb, zb, eb, rfl, KZ, KE, hz1, he1, hne, hb⟩
  have HNE := Lib.hid hne
  have HZ1 := Lib.hid ((Array.getElem?_eq_some_iff.1 KZ.out).1)
  have HE0 := Lib.hid ((Array.getElem?_eq_some_iff.1 KE.out).1)
  have HW1 := Lib.hid hb.size
  have hx := bel_alloc w1 (.cells #[.slice (some ⟨rb, 0, none⟩) 3 3, .slice (some ⟨zb, 0, none⟩) 1 1, .slice none 0 0, .slice none 0 0] 41)
  have KS := Lib.hid (heap_alloc_new w1 (.cells #[.slice (some ⟨rb, 0, none⟩) 3 3, .slice (some ⟨zb, 0, none⟩) 1 1, .slice none 0 0, .slice none 0 0] 41))
  have KZ := Lib.hid (block_below KZ.out hx)
  have KE := Lib.hid (block_below KE.out hx)
  have HB := Lib.hid (bel_trans hb hx)
  have HZB := Lib.hid (And.intro hz1 he1)
  clear hb hx hz1 he1 hne
  have x0 := cellB KS.out (i := 0) rfl
  have x1 := cellB KS.out (i := 1) rfl
  have x2 := cellB KS.out (i := 2) rfl
  have x3 := cellB KS.out (i := 3) rfl
  go_wp2_with fail
  refine (days_any 1968 10 27 _ (by exact (HT.out.below HB.out).1) (by omega) (by omega) (by omega) (by omega)).mono ?_
  intro e w2 hq; obtain ⟨rfl, nd, hw2⟩ := DaysR.to_yes (v := (-431)) (by decide +kernel) (by decide +kernel) _ _ hq; clear hq
  obtain ⟨wd, hwd⟩ : ∃ wd, wd = w2 := ⟨_, rfl⟩
  have hbd : Below (w1.alloc (.cells #[.slice (some ⟨rb, 0, none⟩) 3 3, .slice (some ⟨zb, 0, none⟩) 1 1, .slice none 0 0, .slice none 0 0] 41)).heap.size (w1.alloc (.cells #[.slice (some ⟨rb, 0, none⟩) 3 3, .slice (some ⟨zb, 0, none⟩) 1 1, .slice none 0 0, .slice none 0 0] 41)) wd := by rw [hwd, hw2]; exact bel_drew (Below.refl _ _) nd
  rw [← hwd]
  clear hw2 hwd w2
  have HB := Lib.hid (bel_trans HB.out hbd)
  have KS := Lib.hid (block_below KS.out hbd)
  have KZ := Lib.hid (block_below KZ.out hbd)
  have KE := Lib.hid (block_below KE.out hbd)
  clear hbd x0 x1 x2 x3
  have hx : Below wd.heap.size wd ((wd.alloc (.cells #[.int .i64 (-9223372036854775808), .int .i64 (-37238400), .int .i64 0] 26)).alloc (.cells #[.int .i64 (-37238400), .int .i64 9223372036854775807, .int .i64 1] 26)) := bel_trans (bel_alloc _ _) (bel_alloc _ _)
  have hdz := (Array.getElem?_eq_some_iff.1 KS.out).1
  have HL4 := Lib.hid (show w1.heap.size < wd.heap.size ∧ zb < wd.heap.size from ⟨hdz, Nat.lt_trans HZ1.out hdz⟩)
  have HL5 := Lib.hid (show w1.heap.size < wd.heap.size + 1 ∧ zb < wd.heap.size + 1 from ⟨Nat.lt_succ_of_lt hdz, Nat.lt_succ_of_lt (Nat.lt_trans HZ1.out hdz)⟩)
  clear hdz
  have K4 := Lib.hid (show ((wd.alloc (.cells #[.int .i64 (-9223372036854775808), .int .i64 (-37238400), .int .i64 0] 26)).alloc (.cells #[.int .i64 (-37238400), .int .i64 9223372036854775807, .int .i64 1] 26)).heap[wd.heap.size]? = some (.cells #[.int .i64 (-9223372036854775808), .int .i64 (-37238400), .int .i64 0] 26) from block_below (heap_alloc_new _ _) (bel_alloc _ _))
  have K5 := Lib.hid (show ((wd.alloc (.cells #[.int .i64 (-9223372036854775808), .int .i64 (-37238400), .int .i64 0] 26)).alloc (.cells #[.int .i64 (-37238400), .int .i64 9223372036854775807, .int .i64 1] 26)).heap[wd.heap.size + 1]? = some (.cells #[.int .i64 (-37238400), .int .i64 9223372036854775807, .int .i64 1] 26) from heap_alloc2_new _ _ _)
  have HB := Lib.hid (bel_trans HB.out hx)
  have KS := Lib.hid (block_below KS.out hx)
  have KZ := Lib.hid (block_below KZ.out hx)
  have KE := Lib.hid (block_below KE.out hx)
  clear hx
  have x0 := cellB KS.out (i := 0) rfl
  have x1 := cellB KS.out (i := 1) rfl
  have x2 := cellB KS.out (i := 2) rfl
  have x3 := cellB KS.out (i := 3) rfl
  go_wp2_with fail
  refine (spans_any (some ⟨zb, 0, none⟩) 1 1 0 _ _ _ _ _ _ _ _ _ [(⟨#[90]⟩, [ex0, ex1])] ⟨#[90]⟩ [ex0, ex1] _ (by exact HT.out.below HB.out) (ex_zo KZ.out KE.out) rfl (by decide) (by decide) (fun i e hi he => by
    obtain rfl : i = 0 := by simp at hi; omega
    obtain rfl := Option.some.inj he
    exact ok_ex0)).mono ?_
  intro e w3 hq; obtain ⟨vl, rfl, hl, hb⟩ := SpansR.to sp_ex _ _ hq; clear hq
  have HB := Lib.hid (bel_trans HB.out hb)
  have KS := Lib.hid (block_below KS.out hb)
  have KZ := Lib.hid (block_below KZ.out hb)
  have KE := Lib.hid (block_below KE.out hb)
  have K4 := Lib.hid (block_below K4.out hb)
  have K5 := Lib.hid (block_below K5.out hb)
  have HL := Lib.hid hl
  obtain ⟨Al, cl, rfl⟩ := hl.sl
  clear hb hl x0 x1 x2 x3
  have y0 := cellB K4.out (i := 0) rfl
  have y1 := cellB K4.out (i := 1) rfl
  have y2 := cellB K4.out (i := 2) rfl
  have z0 := cellB K5.out (i := 0) rfl
  have z1 := cellB K5.out (i := 1) rfl
  have z2 := cellB K5.out (i := 2) rfl
  go_wp2_with fail
  have hx := bel_alloc w3 (.cells #[.int .i64 (-9223372036854775808), .int .i64 (-37238400), .int .i64 0, .int .i64 (-37238400), .int .i64 9223372036854775807, .int .i64 1] 26)
  have KL := Lib.hid (heap_alloc_new w3 (.cells #[.int .i64 (-9223372036854775808), .int .i64 (-37238400), .int .i64 0, .int .i64 (-37238400), .int .i64 9223372036854775807, .int .i64 1] 26))
  have HB := Lib.hid (bel_trans HB.out hx)
  have KS := Lib.hid (block_below KS.out hx)
  have KZ := Lib.hid (block_below KZ.out hx)
  have KE := Lib.hid (block_below KE.out hx)
  have K4 := Lib.hid (block_below K4.out hx)
  have K5 := Lib.hid (block_below K5.out hx)
  have HL := Lib.hid (HL.out.below hx)
  clear hx y0 y1 y2 z0 z1 z2
  refine (equalSp_any _ _ [⟨(-9223372036854775808), (-37238400), 0⟩, ⟨(-37238400), 9223372036854775807, 1⟩] _ (by exact HL.out) (RdSp.block (l := [⟨(-9223372036854775808), (-37238400), 0⟩, ⟨(-37238400), 9223372036854775807, 1⟩]) KL.out (by rfl)) (by decide)).mono ?_
  rintro e w4 ⟨rfl, hb⟩
  have HB := Lib.hid (bel_trans HB.out hb)
  have KS := Lib.hid (block_below KS.out hb)
  have KZ := Lib.hid (block_below KZ.out hb)
  have KE := Lib.hid (block_below KE.out hb)
  have K4 := Lib.hid (block_below K4.out hb)
  have K5 := Lib.hid (block_below K5.out hb)
  have HL := Lib.hid (HL.out.below hb)
  clear hb KL
  go_wp2_with fail
  refine (find_any _ [⟨(-9223372036854775808), (-37238400), 0⟩, ⟨(-37238400), 9223372036854775807, 1⟩] (-37238400) _ (by exact HL.out) (by decide)).mono ?_
  intro e w5 hq; obtain ⟨rfl, hb⟩ := FindR.to (v := .tuple #[.agg #[.int .i64 (-37238400), .int .i64 9223372036854775807, .int .i64 1], .bool true]) fi_a rfl _ _ hq; clear hq
  have hx := bel_trans hb (bel_alloc w5 (.cells #[.int .i64 (-37238400), .int .i64 9223372036854775807, .int .i64 1] 26))
  have hdz := (Array.getElem?_eq_some_iff.1 (block_below KS.out hb)).1
  have HL8 := Lib.hid (show w1.heap.size < w5.heap.size ∧ zb < w5.heap.size from ⟨hdz, Nat.lt_trans HZ1.out hdz⟩)
  clear hdz
  have K8 := Lib.hid (heap_alloc_new w5 (.cells #[.int .i64 (-37238400), .int .i64 9223372036854775807, .int .i64 1] 26))
  have HB := Lib.hid (bel_trans HB.out hx)
  have KS := Lib.hid (block_below KS.out hx)
  have KZ := Lib.hid (block_below KZ.out hx)
  have KE := Lib.hid (block_below KE.out hx)
  have K4 := Lib.hid (block_below K4.out hx)
  have K5 := Lib.hid (block_below K5.out hx)
  have HL := Lib.hid (HL.out.below hx)
  clear hb hx
  go_wp2_with fail
  refine (find_any _ [⟨(-9223372036854775808), (-37238400), 0⟩, ⟨(-37238400), 9223372036854775807, 1⟩] (-37238401) _ (by exact HL.out) (by decide)).mono ?_
  intro e w6 hq; obtain ⟨rfl, hb⟩ := FindR.to (v := .tuple #[.agg #[.int .i64 (-9223372036854775808), .int .i64 (-37238400), .int .i64 0], .bool true]) fi_b rfl _ _ hq; clear hq
  have hx := bel_trans hb (bel_alloc w6 (.cells #[.int .i64 (-9223372036854775808), .int .i64 (-37238400), .int .i64 0] 26))
  have hdz := (Array.getElem?_eq_some_iff.1 (block_below KS.out hb)).1
  have HL10 := Lib.hid (show w1.heap.size < w6.heap.size ∧ zb < w6.heap.size from ⟨hdz, Nat.lt_trans HZ1.out hdz⟩)
  clear hdz
  have K10 := Lib.hid (heap_alloc_new w6 (.cells #[.int .i64 (-9223372036854775808), .int .i64 (-37238400), .int .i64 0] 26))
  have HB := Lib.hid (bel_trans HB.out hx)
  have KS := Lib.hid (block_below KS.out hx)
  have KZ := Lib.hid (block_below KZ.out hx)
  have KE := Lib.hid (block_below KE.out hx)
  have K4 := Lib.hid (block_below K4.out hx)
  have K5 := Lib.hid (block_below K5.out hx)
  have K8 := Lib.hid (block_below K8.out hx)
  have HL := Lib.hid (HL.out.below hx)
  clear hb hx
  go_wp2_with fail
  refine (find_any _ [⟨(-9223372036854775808), (-37238400), 0⟩, ⟨(-37238400), 9223372036854775807, 1⟩] 9223372036854775807 _ (by exact HL.out) (by decide)).mono ?_
  intro e w7 hq; obtain ⟨rfl, hb⟩ := FindR.to (v := .tuple #[.agg #[.int .i64 0, .int .i64 0, .int .i64 0], .bool false]) fi_c rfl _ _ hq; clear hq
  have hx := bel_trans hb (bel_alloc w7 (.cells #[.int .i64 0, .int .i64 0, .int .i64 0] 26))
  have hdz := (Array.getElem?_eq_some_iff.1 (block_below KS.out hb)).1
  have HL12 := Lib.hid (show w1.heap.size < w7.heap.size ∧ zb < w7.heap.size from ⟨hdz, Nat.lt_trans HZ1.out hdz⟩)
  clear hdz
  have K12 := Lib.hid (heap_alloc_new w7 (.cells #[.int .i64 0, .int .i64 0, .int .i64 0] 26))
  have HB := Lib.hid (bel_trans HB.out hx)
  have KS := Lib.hid (block_below KS.out hx)
  have KZ := Lib.hid (block_below KZ.out hx)
  have KE := Lib.hid (block_below KE.out hx)
  have K4 := Lib.hid (block_below K4.out hx)
  have K5 := Lib.hid (block_below K5.out hx)
  have K8 := Lib.hid (block_below K8.out hx)
  have K10 := Lib.hid (block_below K10.out hx)
  clear hb hx HL
  have x0 := cellB KS.out (i := 0) rfl
  have x1 := cellB KS.out (i := 1) rfl
  have x2 := cellB KS.out (i := 2) rfl
  have x3 := cellB KS.out (i := 3) rfl
  go_wp2_with fail
  refine (spansBad_any (some ⟨zb, 0, none⟩) 1 1 _ _ _ _ _ _ _ _ _ 1 _ (by decide)).mono ?_
  rintro e w8 ⟨rfl, hb⟩
  have HB := Lib.hid (bel_trans HB.out hb)
  have KS := Lib.hid (block_below KS.out hb)
  have KZ := Lib.hid (block_below KZ.out hb)
  have KE := Lib.hid (block_below KE.out hb)
  have K4 := Lib.hid (block_below K4.out hb)
  have K5 := Lib.hid (block_below K5.out hb)
  have K8 := Lib.hid (block_below K8.out hb)
  have K10 := Lib.hid (block_below K10.out hb)
  have K12 := Lib.hid (block_below K12.out hb)
  clear hb x0 x1 x2 x3
  go_wp2_with fail
  have HZL := Lib.hid (show zb < w1.heap.size from HZ1.out)
  have HE1 := Lib.hid (show eb < w1.heap.size from HE0.out)
  obtain ⟨i0, hi, hz0, hzs, hzb⟩ := info_parts infoZo
  have HI := Lib.hid (And.intro hi (And.intro hz0 (And.intro hzs hzb)))
  clear hi hz0 hzs hzb
  have hbd : Below w8.heap.size w8 w8.drew := Below.drew (Below.refl _ _)
  have KS := Lib.hid (block_below KS.out hbd)
  have KZ := Lib.hid (block_below KZ.out hbd)
  have KE := Lib.hid (block_below KE.out hbd)
  have K4 := Lib.hid (block_below K4.out hbd)
  have K5 := Lib.hid (block_below K5.out hbd)
  have K8 := Lib.hid (block_below K8.out hbd)
  have K10 := Lib.hid (block_below K10.out hbd)
  have K12 := Lib.hid (block_below K12.out hbd)
  have HB := Lib.hid (bel_trans HB.out hbd)
  clear hbd
  refine wp_region_held_drew (S := (fun w' => w'.heap[eb]? = some (.cells (ex0.arr ++ ex1.arr) 60))) (by kernel_rfl) (by exact KE.out) (fun hHeld => ?_)
  generalize w8.drew = w9 at KS KZ KE K4 K5 K8 K10 K12 HB hHeld ⊢
  have HL9 := Lib.hid (show w1.heap.size < w9.heap.size from (Array.getElem?_eq_some_iff.1 KS.out).1)
  have hx1 := bel_alloc w9 (.cells #[.int .i64 0, .int .i64 0, .int .i64 0, .string ⟨#[]⟩, .string ⟨#[71, 77, 84]⟩, .bool true, .int .i64 1968, .int .i64 10, .int .i64 1, .int .i64 0, .int .i64 27, .int .i64 0, .int .i64 0, .int .i64 0, .int .i64 0, .int .i64 0, .string ⟨#[]⟩, .string ⟨#[71, 77, 84]⟩, .bool true, .int .i64 1968, .int .i64 10, .int .i64 1, .int .i64 0, .int .i64 27, .int .i64 0, .int .i64 0, .int .i64 0, .int .i64 0, .int .i64 0, .string ⟨#[]⟩, .string ⟨#[71, 77, 84]⟩, .bool false, .int .i64 0, .int .i64 0, .int .i64 0, .int .i64 0, .int .i64 0, .int .i64 0, .int .i64 0] 60)
  have hx2 := bel_alloc (w9.alloc (.cells #[.int .i64 0, .int .i64 0, .int .i64 0, .string ⟨#[]⟩, .string ⟨#[71, 77, 84]⟩, .bool true, .int .i64 1968, .int .i64 10, .int .i64 1, .int .i64 0, .int .i64 27, .int .i64 0, .int .i64 0, .int .i64 0, .int .i64 0, .int .i64 0, .string ⟨#[]⟩, .string ⟨#[71, 77, 84]⟩, .bool true, .int .i64 1968, .int .i64 10, .int .i64 1, .int .i64 0, .int .i64 27, .int .i64 0, .int .i64 0, .int .i64 0, .int .i64 0, .int .i64 0, .string ⟨#[]⟩, .string ⟨#[71, 77, 84]⟩, .bool false, .int .i64 0, .int .i64 0, .int .i64 0, .int .i64 0, .int .i64 0, .int .i64 0, .int .i64 0] 60)) (.cells #[.string ⟨#[89]⟩, .slice none 0 0, .string ⟨#[88]⟩, .slice (some ⟨w9.heap.size, 0, none⟩) 3 3] 45)
  have KS0 := KS
  have KE0 := KE
  have KS1 := Lib.hid (block_below KS.out hx1)
  have KE1 := Lib.hid (block_below KE.out hx1)
  have KZ1 := Lib.hid (block_below KZ.out hx1)
  have KS2 := Lib.hid (block_below KS1.out hx2)
  have KE2 := Lib.hid (block_below KE1.out hx2)
  have KZ2 := Lib.hid (block_below KZ1.out hx2)
  have HB2 := Lib.hid (bel_trans (bel_trans HB.out hx1) hx2)
  have K39 := Lib.hid (block_below (heap_alloc_new w9 (.cells #[.int .i64 0, .int .i64 0, .int .i64 0, .string ⟨#[]⟩, .string ⟨#[71, 77, 84]⟩, .bool true, .int .i64 1968, .int .i64 10, .int .i64 1, .int .i64 0, .int .i64 27, .int .i64 0, .int .i64 0, .int .i64 0, .int .i64 0, .int .i64 0, .string ⟨#[]⟩, .string ⟨#[71, 77, 84]⟩, .bool true, .int .i64 1968, .int .i64 10, .int .i64 1, .int .i64 0, .int .i64 27, .int .i64 0, .int .i64 0, .int .i64 0, .int .i64 0, .int .i64 0, .string ⟨#[]⟩, .string ⟨#[71, 77, 84]⟩, .bool false, .int .i64 0, .int .i64 0, .int .i64 0, .int .i64 0, .int .i64 0, .int .i64 0, .int .i64 0] 60)) hx2)
  have KA4 := Lib.hid (show ((w9.alloc (.cells #[.int .i64 0, .int .i64 0, .int .i64 0, .string ⟨#[]⟩, .string ⟨#[71, 77, 84]⟩, .bool true, .int .i64 1968, .int .i64 10, .int .i64 1, .int .i64 0, .int .i64 27, .int .i64 0, .int .i64 0, .int .i64 0, .int .i64 0, .int .i64 0, .string ⟨#[]⟩, .string ⟨#[71, 77, 84]⟩, .bool true, .int .i64 1968, .int .i64 10, .int .i64 1, .int .i64 0, .int .i64 27, .int .i64 0, .int .i64 0, .int .i64 0, .int .i64 0, .int .i64 0, .string ⟨#[]⟩, .string ⟨#[71, 77, 84]⟩, .bool false, .int .i64 0, .int .i64 0, .int .i64 0, .int .i64 0, .int .i64 0, .int .i64 0, .int .i64 0] 60)).alloc (.cells #[.string ⟨#[89]⟩, .slice none 0 0, .string ⟨#[88]⟩, .slice (some ⟨w9.heap.size, 0, none⟩) 3 3] 45)).heap[w9.heap.size + 1]? = some (.cells #[.string ⟨#[89]⟩, .slice none 0 0, .string ⟨#[88]⟩, .slice (some ⟨w9.heap.size, 0, none⟩) 3 3] 45) from heap_alloc2_new w9 _ _)
  have hx1 := Lib.hid hx1
  have hx2 := Lib.hid hx2
  refine wpAnyH_take (i := 0) (v := ?_) rfl (by kernel_rfl) (by kernel_rfl) (by kernel_rfl) (fun _ _ _ h => h) (Or.inl ⟨by rfl, ?_⟩) (by assumption) ?_
  rotate_left 1
  · (intro w hSw; have e0 : w.cell? ⟨eb, 0, none⟩ = some (.int .i64 0) := cellB hSw (i := 0) (by rfl); have e1 : w.cell? ⟨eb, 1, none⟩ = some (.int .i64 0) := cellB hSw (i := 1) (by rfl); have e2 : w.cell? ⟨eb, 2, none⟩ = some (.int .i64 0) := cellB hSw (i := 2) (by rfl); have e3 : w.cell? ⟨eb, 3, none⟩ = some (.string ⟨#[]⟩) := cellB hSw (i := 3) (by rfl); have e4 : w.cell? ⟨eb, 4, none⟩ = some (.string ⟨#[71, 77, 84]⟩) := cellB hSw (i := 4) (by rfl); have e5 : w.cell? ⟨eb, 5, none⟩ = some (.bool true) := cellB hSw (i := 5) (by rfl); have e6 : w.cell? ⟨eb, 6, none⟩ = some (.int .i64 1968) := cellB hSw (i := 6) (by rfl); have e7 : w.cell? ⟨eb, 7, none⟩ = some (.int .i64 10) := cellB hSw (i := 7) (by rfl); have e8 : w.cell? ⟨eb, 8, none⟩ = some (.int .i64 1) := cellB hSw (i := 8) (by rfl); have e9 : w.cell? ⟨eb, 9, none⟩ = some (.int .i64 0) := cellB hSw (i := 9) (by rfl); have e10 : w.cell? ⟨eb, 10, none⟩ = some (.int .i64 27) := cellB hSw (i := 10) (by rfl); have e11 : w.cell? ⟨eb, 11, none⟩ = some (.int .i64 0) := cellB hSw (i := 11) (by rfl); have e12 : w.cell? ⟨eb, 12, none⟩ = some (.int .i64 0) := cellB hSw (i := 12) (by rfl); clear hSw; first | (go_simp; done) | (go_simp; with_reducible rfl))
  try simp only [Act.put, List.getElem_toArray, List.getElem_cons_succ, List.getElem_cons_zero, List.setIfInBounds_toArray, List.set_cons_zero, List.set_cons_succ]
  refine wpAnyH_take (i := 2) (v := ?_) rfl (by kernel_rfl) (by kernel_rfl) (by kernel_rfl) (fun _ _ _ h => h) (Or.inl ⟨by rfl, ?_⟩) (by assumption) ?_
  rotate_left 1
  · (intro w hSw; have e0 : w.cell? ⟨eb, 0, none⟩ = some (.int .i64 0) := cellB hSw (i := 0) (by rfl); have e1 : w.cell? ⟨eb, 1, none⟩ = some (.int .i64 0) := cellB hSw (i := 1) (by rfl); have e2 : w.cell? ⟨eb, 2, none⟩ = some (.int .i64 0) := cellB hSw (i := 2) (by rfl); have e3 : w.cell? ⟨eb, 3, none⟩ = some (.string ⟨#[]⟩) := cellB hSw (i := 3) (by rfl); have e4 : w.cell? ⟨eb, 4, none⟩ = some (.string ⟨#[71, 77, 84]⟩) := cellB hSw (i := 4) (by rfl); have e5 : w.cell? ⟨eb, 5, none⟩ = some (.bool true) := cellB hSw (i := 5) (by rfl); have e6 : w.cell? ⟨eb, 6, none⟩ = some (.int .i64 1968) := cellB hSw (i := 6) (by rfl); have e7 : w.cell? ⟨eb, 7, none⟩ = some (.int .i64 10) := cellB hSw (i := 7) (by rfl); have e8 : w.cell? ⟨eb, 8, none⟩ = some (.int .i64 1) := cellB hSw (i := 8) (by rfl); have e9 : w.cell? ⟨eb, 9, none⟩ = some (.int .i64 0) := cellB hSw (i := 9) (by rfl); have e10 : w.cell? ⟨eb, 10, none⟩ = some (.int .i64 27) := cellB hSw (i := 10) (by rfl); have e11 : w.cell? ⟨eb, 11, none⟩ = some (.int .i64 0) := cellB hSw (i := 11) (by rfl); have e12 : w.cell? ⟨eb, 12, none⟩ = some (.int .i64 0) := cellB hSw (i := 12) (by rfl); clear hSw; first | (go_simp; done) | (go_simp; with_reducible rfl))
  try simp only [Act.put, List.getElem_toArray, List.getElem_cons_succ, List.getElem_cons_zero, List.setIfInBounds_toArray, List.set_cons_zero, List.set_cons_succ]
  refine wpAnyH_take (i := 3) (v := ?_) rfl (by kernel_rfl) (by kernel_rfl) (by kernel_rfl) (fun _ _ _ h => h) (Or.inl ⟨by rfl, ?_⟩) (by assumption) ?_
  rotate_left 1
  · (intro w hSw; have e0 : w.cell? ⟨eb, 0, none⟩ = some (.int .i64 0) := cellB hSw (i := 0) (by rfl); have e1 : w.cell? ⟨eb, 1, none⟩ = some (.int .i64 0) := cellB hSw (i := 1) (by rfl); have e2 : w.cell? ⟨eb, 2, none⟩ = some (.int .i64 0) := cellB hSw (i := 2) (by rfl); have e3 : w.cell? ⟨eb, 3, none⟩ = some (.string ⟨#[]⟩) := cellB hSw (i := 3) (by rfl); have e4 : w.cell? ⟨eb, 4, none⟩ = some (.string ⟨#[71, 77, 84]⟩) := cellB hSw (i := 4) (by rfl); have e5 : w.cell? ⟨eb, 5, none⟩ = some (.bool true) := cellB hSw (i := 5) (by rfl); have e6 : w.cell? ⟨eb, 6, none⟩ = some (.int .i64 1968) := cellB hSw (i := 6) (by rfl); have e7 : w.cell? ⟨eb, 7, none⟩ = some (.int .i64 10) := cellB hSw (i := 7) (by rfl); have e8 : w.cell? ⟨eb, 8, none⟩ = some (.int .i64 1) := cellB hSw (i := 8) (by rfl); have e9 : w.cell? ⟨eb, 9, none⟩ = some (.int .i64 0) := cellB hSw (i := 9) (by rfl); have e10 : w.cell? ⟨eb, 10, none⟩ = some (.int .i64 27) := cellB hSw (i := 10) (by rfl); have e11 : w.cell? ⟨eb, 11, none⟩ = some (.int .i64 0) := cellB hSw (i := 11) (by rfl); have e12 : w.cell? ⟨eb, 12, none⟩ = some (.int .i64 0) := cellB hSw (i := 12) (by rfl); clear hSw; first | (go_simp; done) | (go_simp; with_reducible rfl))
  try simp only [Act.put, List.getElem_toArray, List.getElem_cons_succ, List.getElem_cons_zero, List.setIfInBounds_toArray, List.set_cons_zero, List.set_cons_succ]
  refine wpAnyH_take (i := 10) (v := ?_) rfl (by kernel_rfl) (by kernel_rfl) (by kernel_rfl) (fun _ _ _ h => h) (Or.inl ⟨by rfl, ?_⟩) (by assumption) ?_
  rotate_left 1
  · (intro w hSw; have e0 : w.cell? ⟨eb, 0, none⟩ = some (.int .i64 0) := cellB hSw (i := 0) (by rfl); have e1 : w.cell? ⟨eb, 1, none⟩ = some (.int .i64 0) := cellB hSw (i := 1) (by rfl); have e2 : w.cell? ⟨eb, 2, none⟩ = some (.int .i64 0) := cellB hSw (i := 2) (by rfl); have e3 : w.cell? ⟨eb, 3, none⟩ = some (.string ⟨#[]⟩) := cellB hSw (i := 3) (by rfl); have e4 : w.cell? ⟨eb, 4, none⟩ = some (.string ⟨#[71, 77, 84]⟩) := cellB hSw (i := 4) (by rfl); have e5 : w.cell? ⟨eb, 5, none⟩ = some (.bool true) := cellB hSw (i := 5) (by rfl); have e6 : w.cell? ⟨eb, 6, none⟩ = some (.int .i64 1968) := cellB hSw (i := 6) (by rfl); have e7 : w.cell? ⟨eb, 7, none⟩ = some (.int .i64 10) := cellB hSw (i := 7) (by rfl); have e8 : w.cell? ⟨eb, 8, none⟩ = some (.int .i64 1) := cellB hSw (i := 8) (by rfl); have e9 : w.cell? ⟨eb, 9, none⟩ = some (.int .i64 0) := cellB hSw (i := 9) (by rfl); have e10 : w.cell? ⟨eb, 10, none⟩ = some (.int .i64 27) := cellB hSw (i := 10) (by rfl); have e11 : w.cell? ⟨eb, 11, none⟩ = some (.int .i64 0) := cellB hSw (i := 11) (by rfl); have e12 : w.cell? ⟨eb, 12, none⟩ = some (.int .i64 0) := cellB hSw (i := 12) (by rfl); clear hSw; first | (go_simp; done) | (go_simp; with_reducible rfl))
  try simp only [Act.put, List.getElem_toArray, List.getElem_cons_succ, List.getElem_cons_zero, List.setIfInBounds_toArray, List.set_cons_zero, List.set_cons_succ]
  refine wpAnyH_take (i := 17) (v := ?_) rfl (by kernel_rfl) (by kernel_rfl) (by kernel_rfl) (fun _ _ _ h => h) (Or.inl ⟨by rfl, ?_⟩) (by assumption) ?_
  rotate_left 1
  · (intro w hSw; have e0 : w.cell? ⟨eb, 0, none⟩ = some (.int .i64 0) := cellB hSw (i := 0) (by rfl); have e1 : w.cell? ⟨eb, 1, none⟩ = some (.int .i64 0) := cellB hSw (i := 1) (by rfl); have e2 : w.cell? ⟨eb, 2, none⟩ = some (.int .i64 0) := cellB hSw (i := 2) (by rfl); have e3 : w.cell? ⟨eb, 3, none⟩ = some (.string ⟨#[]⟩) := cellB hSw (i := 3) (by rfl); have e4 : w.cell? ⟨eb, 4, none⟩ = some (.string ⟨#[71, 77, 84]⟩) := cellB hSw (i := 4) (by rfl); have e5 : w.cell? ⟨eb, 5, none⟩ = some (.bool true) := cellB hSw (i := 5) (by rfl); have e6 : w.cell? ⟨eb, 6, none⟩ = some (.int .i64 1968) := cellB hSw (i := 6) (by rfl); have e7 : w.cell? ⟨eb, 7, none⟩ = some (.int .i64 10) := cellB hSw (i := 7) (by rfl); have e8 : w.cell? ⟨eb, 8, none⟩ = some (.int .i64 1) := cellB hSw (i := 8) (by rfl); have e9 : w.cell? ⟨eb, 9, none⟩ = some (.int .i64 0) := cellB hSw (i := 9) (by rfl); have e10 : w.cell? ⟨eb, 10, none⟩ = some (.int .i64 27) := cellB hSw (i := 10) (by rfl); have e11 : w.cell? ⟨eb, 11, none⟩ = some (.int .i64 0) := cellB hSw (i := 11) (by rfl); have e12 : w.cell? ⟨eb, 12, none⟩ = some (.int .i64 0) := cellB hSw (i := 12) (by rfl); clear hSw; first | (go_simp; done) | (go_simp; with_reducible rfl))
  try simp only [Act.put, List.getElem_toArray, List.getElem_cons_succ, List.getElem_cons_zero, List.setIfInBounds_toArray, List.set_cons_zero, List.set_cons_succ]
  refine' (fun (t21 : (_ : Prop)) => ?bb0) ?aa0
  case' bb0 => refine' (fun (t20 : (_ : Prop)) => ?bb1) ?aa1
  case' bb1 => refine' (fun (t19 : (_ : Prop)) => ?bb2) ?aa2
  case' bb2 => refine' (fun (t18 : (_ : Prop)) => ?bb3) ?aa3
  case' bb3 => refine' (fun (t17 : (_ : Prop)) => ?bb4) ?aa4
  case' bb4 => refine' (fun (t16 : (_ : Prop)) => ?bb5) ?aa5
  case' bb5 => refine' (fun (t15 : (_ : Prop)) => ?bb6) ?aa6
  case' bb6 => refine' (fun (t14 : (_ : Prop)) => ?bb7) ?aa7
  case' bb7 => refine' (fun (t13 : (_ : Prop)) => ?bb8) ?aa8
  case' bb8 => refine' (fun (t12 : (_ : Prop)) => ?bb9) ?aa9
  case' bb9 => refine' (fun (t11 : (_ : Prop)) => ?bb10) ?aa10
  case' bb10 => refine' (fun (t10 : (_ : Prop)) => ?bb11) ?aa11
  case' bb11 => refine' (fun (t9 : (_ : Prop)) => ?bb12) ?aa12
  case' bb12 => refine' (fun (t8 : (_ : Prop)) => ?bb13) ?aa13
  case' bb13 => refine' (fun (t7 : (_ : Prop)) => ?bb14) ?aa14
  case' bb14 => refine' (fun (t6 : (_ : Prop)) => ?bb15) ?aa15
  case' bb15 => refine' (fun (t5 : (_ : Prop)) => ?bb16) ?aa16
  case' bb16 => refine' (fun (t4 : (_ : Prop)) => ?bb17) ?aa17
  case' bb17 => refine' (fun (t3 : (_ : Prop)) => ?bb18) ?aa18
  case' bb18 => refine' (fun (t2 : (_ : Prop)) => ?bb19) ?aa19
  case' bb19 => refine' (fun (t1 : (_ : Prop)) => ?bb20) ?aa20
  case bb20 =>
    have hHeld : w9.heap[eb]? = some (.cells (ex0.arr ++ ex1.arr) 60) := KE0.out
    refine wpAnyH_ready (rs := [1, 4, 11]) (by kernel_rfl) (by simp) ?_
    refine (AllReadyH.cons rfl (fun K hK => ?_) (AllReadyH.cons rfl (fun K hK => ?_) (AllReadyH.cons rfl (fun K hK => ?_) AllReadyH.nil)))
    · have x1 := cellB KS0.out (i := 1) rfl
      go_simp
      clear hHeld
      refine hK.out _ _ ?_ (fun hHeld => ?_)
      · exact KE0.out
      clear hK K x1
      try simp only [Act.put, List.getElem_toArray, List.getElem_cons_succ, List.getElem_cons_zero, List.setIfInBounds_toArray, List.set_cons_zero, List.set_cons_succ]
      exact t11
    · have x1 := cellB KS0.out (i := 1) rfl
      go_simp
      clear hHeld
      refine hK.out _ _ ?_ (fun hHeld => ?_)
      · exact KE0.out
      clear hK K x1
      try simp only [Act.put, List.getElem_toArray, List.getElem_cons_succ, List.getElem_cons_zero, List.setIfInBounds_toArray, List.set_cons_zero, List.set_cons_succ]
      refine wpAnyH_take (i := 5) (v := ?_) rfl (by kernel_rfl) (by kernel_rfl) (by kernel_rfl) (fun _ _ _ h => h) (Or.inl ⟨by rfl, ?_⟩) (by assumption) ?_
      rotate_left 1
      · (intro w hSw; have e0 : w.cell? ⟨eb, 0, none⟩ = some (.int .i64 0) := cellB hSw (i := 0) (by rfl); have e1 : w.cell? ⟨eb, 1, none⟩ = some (.int .i64 0) := cellB hSw (i := 1) (by rfl); have e2 : w.cell? ⟨eb, 2, none⟩ = some (.int .i64 0) := cellB hSw (i := 2) (by rfl); have e3 : w.cell? ⟨eb, 3, none⟩ = some (.string ⟨#[]⟩) := cellB hSw (i := 3) (by rfl); have e4 : w.cell? ⟨eb, 4, none⟩ = some (.string ⟨#[71, 77, 84]⟩) := cellB hSw (i := 4) (by rfl); have e5 : w.cell? ⟨eb, 5, none⟩ = some (.bool true) := cellB hSw (i := 5) (by rfl); have e6 : w.cell? ⟨eb, 6, none⟩ = some (.int .i64 1968) := cellB hSw (i := 6) (by rfl); have e7 : w.cell? ⟨eb, 7, none⟩ = some (.int .i64 10) := cellB hSw (i := 7) (by rfl); have e8 : w.cell? ⟨eb, 8, none⟩ = some (.int .i64 1) := cellB hSw (i := 8) (by rfl); have e9 : w.cell? ⟨eb, 9, none⟩ = some (.int .i64 0) := cellB hSw (i := 9) (by rfl); have e10 : w.cell? ⟨eb, 10, none⟩ = some (.int .i64 27) := cellB hSw (i := 10) (by rfl); have e11 : w.cell? ⟨eb, 11, none⟩ = some (.int .i64 0) := cellB hSw (i := 11) (by rfl); have e12 : w.cell? ⟨eb, 12, none⟩ = some (.int .i64 0) := cellB hSw (i := 12) (by rfl); clear hSw; first | (go_simp; done) | (go_simp; with_reducible rfl))
      try simp only [Act.put, List.getElem_toArray, List.getElem_cons_succ, List.getElem_cons_zero, List.setIfInBounds_toArray, List.set_cons_zero, List.set_cons_succ]
      refine wpAnyH_take (i := 6) (v := ?_) rfl (by kernel_rfl) (by kernel_rfl) (by kernel_rfl) (fun _ _ _ h => h) (Or.inl ⟨by rfl, ?_⟩) (by assumption) ?_
      rotate_left 1
      · (intro w hSw; have e0 : w.cell? ⟨eb, 0, none⟩ = some (.int .i64 0) := cellB hSw (i := 0) (by rfl); have e1 : w.cell? ⟨eb, 1, none⟩ = some (.int .i64 0) := cellB hSw (i := 1) (by rfl); have e2 : w.cell? ⟨eb, 2, none⟩ = some (.int .i64 0) := cellB hSw (i := 2) (by rfl); have e3 : w.cell? ⟨eb, 3, none⟩ = some (.string ⟨#[]⟩) := cellB hSw (i := 3) (by rfl); have e4 : w.cell? ⟨eb, 4, none⟩ = some (.string ⟨#[71, 77, 84]⟩) := cellB hSw (i := 4) (by rfl); have e5 : w.cell? ⟨eb, 5, none⟩ = some (.bool true) := cellB hSw (i := 5) (by rfl); have e6 : w.cell? ⟨eb, 6, none⟩ = some (.int .i64 1968) := cellB hSw (i := 6) (by rfl); have e7 : w.cell? ⟨eb, 7, none⟩ = some (.int .i64 10) := cellB hSw (i := 7) (by rfl); have e8 : w.cell? ⟨eb, 8, none⟩ = some (.int .i64 1) := cellB hSw (i := 8) (by rfl); have e9 : w.cell? ⟨eb, 9, none⟩ = some (.int .i64 0) := cellB hSw (i := 9) (by rfl); have e10 : w.cell? ⟨eb, 10, none⟩ = some (.int .i64 27) := cellB hSw (i := 10) (by rfl); have e11 : w.cell? ⟨eb, 11, none⟩ = some (.int .i64 0) := cellB hSw (i := 11) (by rfl); have e12 : w.cell? ⟨eb, 12, none⟩ = some (.int .i64 0) := cellB hSw (i := 12) (by rfl); clear hSw; first | (go_simp; done) | (go_simp; with_reducible rfl))
      try simp only [Act.put, List.getElem_toArray, List.getElem_cons_succ, List.getElem_cons_zero, List.setIfInBounds_toArray, List.set_cons_zero, List.set_cons_succ]
      exact t3
    · have x1 := cellB KS0.out (i := 1) rfl
      go_simp
      clear hHeld
      refine hK.out _ _ ?_ (fun hHeld => ?_)
      · exact KE0.out
      clear hK K x1
      try simp only [Act.put, List.getElem_toArray, List.getElem_cons_succ, List.getElem_cons_zero, List.setIfInBounds_toArray, List.set_cons_zero, List.set_cons_succ]
      refine wpAnyH_take (i := 12) (v := ?_) rfl (by kernel_rfl) (by kernel_rfl) (by kernel_rfl) (fun _ _ _ h => h) (Or.inl ⟨by rfl, ?_⟩) (by assumption) ?_
      rotate_left 1
      · (intro w hSw; have e0 : w.cell? ⟨eb, 0, none⟩ = some (.int .i64 0) := cellB hSw (i := 0) (by rfl); have e1 : w.cell? ⟨eb, 1, none⟩ = some (.int .i64 0) := cellB hSw (i := 1) (by rfl); have e2 : w.cell? ⟨eb, 2, none⟩ = some (.int .i64 0) := cellB hSw (i := 2) (by rfl); have e3 : w.cell? ⟨eb, 3, none⟩ = some (.string ⟨#[]⟩) := cellB hSw (i := 3) (by rfl); have e4 : w.cell? ⟨eb, 4, none⟩ = some (.string ⟨#[71, 77, 84]⟩) := cellB hSw (i := 4) (by rfl); have e5 : w.cell? ⟨eb, 5, none⟩ = some (.bool true) := cellB hSw (i := 5) (by rfl); have e6 : w.cell? ⟨eb, 6, none⟩ = some (.int .i64 1968) := cellB hSw (i := 6) (by rfl); have e7 : w.cell? ⟨eb, 7, none⟩ = some (.int .i64 10) := cellB hSw (i := 7) (by rfl); have e8 : w.cell? ⟨eb, 8, none⟩ = some (.int .i64 1) := cellB hSw (i := 8) (by rfl); have e9 : w.cell? ⟨eb, 9, none⟩ = some (.int .i64 0) := cellB hSw (i := 9) (by rfl); have e10 : w.cell? ⟨eb, 10, none⟩ = some (.int .i64 27) := cellB hSw (i := 10) (by rfl); have e11 : w.cell? ⟨eb, 11, none⟩ = some (.int .i64 0) := cellB hSw (i := 11) (by rfl); have e12 : w.cell? ⟨eb, 12, none⟩ = some (.int .i64 0) := cellB hSw (i := 12) (by rfl); clear hSw; first | (go_simp; done) | (go_simp; with_reducible rfl))
      try simp only [Act.put, List.getElem_toArray, List.getElem_cons_succ, List.getElem_cons_zero, List.setIfInBounds_toArray, List.set_cons_zero, List.set_cons_succ]
      refine wpAnyH_take (i := 13) (v := ?_) rfl (by kernel_rfl) (by kernel_rfl) (by kernel_rfl) (fun _ _ _ h => h) (Or.inl ⟨by rfl, ?_⟩) (by assumption) ?_
      rotate_left 1
      · (intro w hSw; have e0 : w.cell? ⟨eb, 0, none⟩ = some (.int .i64 0) := cellB hSw (i := 0) (by rfl); have e1 : w.cell? ⟨eb, 1, none⟩ = some (.int .i64 0) := cellB hSw (i := 1) (by rfl); have e2 : w.cell? ⟨eb, 2, none⟩ = some (.int .i64 0) := cellB hSw (i := 2) (by rfl); have e3 : w.cell? ⟨eb, 3, none⟩ = some (.string ⟨#[]⟩) := cellB hSw (i := 3) (by rfl); have e4 : w.cell? ⟨eb, 4, none⟩ = some (.string ⟨#[71, 77, 84]⟩) := cellB hSw (i := 4) (by rfl); have e5 : w.cell? ⟨eb, 5, none⟩ = some (.bool true) := cellB hSw (i := 5) (by rfl); have e6 : w.cell? ⟨eb, 6, none⟩ = some (.int .i64 1968) := cellB hSw (i := 6) (by rfl); have e7 : w.cell? ⟨eb, 7, none⟩ = some (.int .i64 10) := cellB hSw (i := 7) (by rfl); have e8 : w.cell? ⟨eb, 8, none⟩ = some (.int .i64 1) := cellB hSw (i := 8) (by rfl); have e9 : w.cell? ⟨eb, 9, none⟩ = some (.int .i64 0) := cellB hSw (i := 9) (by rfl); have e10 : w.cell? ⟨eb, 10, none⟩ = some (.int .i64 27) := cellB hSw (i := 10) (by rfl); have e11 : w.cell? ⟨eb, 11, none⟩ = some (.int .i64 0) := cellB hSw (i := 11) (by rfl); have e12 : w.cell? ⟨eb, 12, none⟩ = some (.int .i64 0) := cellB hSw (i := 12) (by rfl); clear hSw; first | (go_simp; done) | (go_simp; with_reducible rfl))
      try simp only [Act.put, List.getElem_toArray, List.getElem_cons_succ, List.getElem_cons_zero, List.setIfInBounds_toArray, List.set_cons_zero, List.set_cons_succ]
      exact t1
  case aa20 =>
    have hHeld : w9.heap[eb]? = some (.cells (ex0.arr ++ ex1.arr) 60) := KE0.out
    refine wpAnyH_ready (rs := [1, 4, 14]) (by kernel_rfl) (by simp) ?_
    refine (AllReadyH.cons rfl (fun K hK => ?_) (AllReadyH.cons rfl (fun K hK => ?_) (AllReadyH.cons rfl (fun K hK => ?_) AllReadyH.nil)))
    · have x1 := cellB KS0.out (i := 1) rfl
      go_simp
      clear hHeld
      refine hK.out _ _ ?_ (fun hHeld => ?_)
      · exact KE0.out
      clear hK K x1
      try simp only [Act.put, List.getElem_toArray, List.getElem_cons_succ, List.getElem_cons_zero, List.setIfInBounds_toArray, List.set_cons_zero, List.set_cons_succ]
      exact t12
    · have x1 := cellB KS0.out (i := 1) rfl
      go_simp
      clear hHeld
      refine hK.out _ _ ?_ (fun hHeld => ?_)
      · exact KE0.out
      clear hK K x1
      try simp only [Act.put, List.getElem_toArray, List.getElem_cons_succ, List.getElem_cons_zero, List.setIfInBounds_toArray, List.set_cons_zero, List.set_cons_succ]
      refine wpAnyH_take (i := 5) (v := ?_) rfl (by kernel_rfl) (by kernel_rfl) (by kernel_rfl) (fun _ _ _ h => h) (Or.inl ⟨by rfl, ?_⟩) (by assumption) ?_
      rotate_left 1
      · (intro w hSw; have e0 : w.cell? ⟨eb, 0, none⟩ = some (.int .i64 0) := cellB hSw (i := 0) (by rfl); have e1 : w.cell? ⟨eb, 1, none⟩ = some (.int .i64 0) := cellB hSw (i := 1) (by rfl); have e2 : w.cell? ⟨eb, 2, none⟩ = some (.int .i64 0) := cellB hSw (i := 2) (by rfl); have e3 : w.cell? ⟨eb, 3, none⟩ = some (.string ⟨#[]⟩) := cellB hSw (i := 3) (by rfl); have e4 : w.cell? ⟨eb, 4, none⟩ = some (.string ⟨#[71, 77, 84]⟩) := cellB hSw (i := 4) (by rfl); have e5 : w.cell? ⟨eb, 5, none⟩ = some (.bool true) := cellB hSw (i := 5) (by rfl); have e6 : w.cell? ⟨eb, 6, none⟩ = some (.int .i64 1968) := cellB hSw (i := 6) (by rfl); have e7 : w.cell? ⟨eb, 7, none⟩ = some (.int .i64 10) := cellB hSw (i := 7) (by rfl); have e8 : w.cell? ⟨eb, 8, none⟩ = some (.int .i64 1) := cellB hSw (i := 8) (by rfl); have e9 : w.cell? ⟨eb, 9, none⟩ = some (.int .i64 0) := cellB hSw (i := 9) (by rfl); have e10 : w.cell? ⟨eb, 10, none⟩ = some (.int .i64 27) := cellB hSw (i := 10) (by rfl); have e11 : w.cell? ⟨eb, 11, none⟩ = some (.int .i64 0) := cellB hSw (i := 11) (by rfl); have e12 : w.cell? ⟨eb, 12, none⟩ = some (.int .i64 0) := cellB hSw (i := 12) (by rfl); clear hSw; first | (go_simp; done) | (go_simp; with_reducible rfl))
      try simp only [Act.put, List.getElem_toArray, List.getElem_cons_succ, List.getElem_cons_zero, List.setIfInBounds_toArray, List.set_cons_zero, List.set_cons_succ]
      refine wpAnyH_take (i := 6) (v := ?_) rfl (by kernel_rfl) (by kernel_rfl) (by kernel_rfl) (fun _ _ _ h => h) (Or.inl ⟨by rfl, ?_⟩) (by assumption) ?_
      rotate_left 1
      · (intro w hSw; have e0 : w.cell? ⟨eb, 0, none⟩ = some (.int .i64 0) := cellB hSw (i := 0) (by rfl); have e1 : w.cell? ⟨eb, 1, none⟩ = some (.int .i64 0) := cellB hSw (i := 1) (by rfl); have e2 : w.cell? ⟨eb, 2, none⟩ = some (.int .i64 0) := cellB hSw (i := 2) (by rfl); have e3 : w.cell? ⟨eb, 3, none⟩ = some (.string ⟨#[]⟩) := cellB hSw (i := 3) (by rfl); have e4 : w.cell? ⟨eb, 4, none⟩ = some (.string ⟨#[71, 77, 84]⟩) := cellB hSw (i := 4) (by rfl); have e5 : w.cell? ⟨eb, 5, none⟩ = some (.bool true) := cellB hSw (i := 5) (by rfl); have e6 : w.cell? ⟨eb, 6, none⟩ = some (.int .i64 1968) := cellB hSw (i := 6) (by rfl); have e7 : w.cell? ⟨eb, 7, none⟩ = some (.int .i64 10) := cellB hSw (i := 7) (by rfl); have e8 : w.cell? ⟨eb, 8, none⟩ = some (.int .i64 1) := cellB hSw (i := 8) (by rfl); have e9 : w.cell? ⟨eb, 9, none⟩ = some (.int .i64 0) := cellB hSw (i := 9) (by rfl); have e10 : w.cell? ⟨eb, 10, none⟩ = some (.int .i64 27) := cellB hSw (i := 10) (by rfl); have e11 : w.cell? ⟨eb, 11, none⟩ = some (.int .i64 0) := cellB hSw (i := 11) (by rfl); have e12 : w.cell? ⟨eb, 12, none⟩ = some (.int .i64 0) := cellB hSw (i := 12) (by rfl); clear hSw; first | (go_simp; done) | (go_simp; with_reducible rfl))
      try simp only [Act.put, List.getElem_toArray, List.getElem_cons_succ, List.getElem_cons_zero, List.setIfInBounds_toArray, List.set_cons_zero, List.set_cons_succ]
      exact t4
    · have x1 := cellB KZ.out (i := 1) rfl
      go_simp
      clear hHeld
      refine hK.out _ _ ?_ (fun hHeld => ?_)
      · exact KE0.out
      clear hK K x1
      try simp only [Act.put, List.getElem_toArray, List.getElem_cons_succ, List.getElem_cons_zero, List.setIfInBounds_toArray, List.set_cons_zero, List.set_cons_succ]
      refine wpAnyH_take (i := 15) (v := ?_) rfl (by kernel_rfl) (by kernel_rfl) (by kernel_rfl) (fun _ _ _ h => h) (Or.inl ⟨by rfl, ?_⟩) (by assumption) ?_
      rotate_left 1
      · (intro w hSw; have e0 : w.cell? ⟨eb, 0, none⟩ = some (.int .i64 0) := cellB hSw (i := 0) (by rfl); have e1 : w.cell? ⟨eb, 1, none⟩ = some (.int .i64 0) := cellB hSw (i := 1) (by rfl); have e2 : w.cell? ⟨eb, 2, none⟩ = some (.int .i64 0) := cellB hSw (i := 2) (by rfl); have e3 : w.cell? ⟨eb, 3, none⟩ = some (.string ⟨#[]⟩) := cellB hSw (i := 3) (by rfl); have e4 : w.cell? ⟨eb, 4, none⟩ = some (.string ⟨#[71, 77, 84]⟩) := cellB hSw (i := 4) (by rfl); have e5 : w.cell? ⟨eb, 5, none⟩ = some (.bool true) := cellB hSw (i := 5) (by rfl); have e6 : w.cell? ⟨eb, 6, none⟩ = some (.int .i64 1968) := cellB hSw (i := 6) (by rfl); have e7 : w.cell? ⟨eb, 7, none⟩ = some (.int .i64 10) := cellB hSw (i := 7) (by rfl); have e8 : w.cell? ⟨eb, 8, none⟩ = some (.int .i64 1) := cellB hSw (i := 8) (by rfl); have e9 : w.cell? ⟨eb, 9, none⟩ = some (.int .i64 0) := cellB hSw (i := 9) (by rfl); have e10 : w.cell? ⟨eb, 10, none⟩ = some (.int .i64 27) := cellB hSw (i := 10) (by rfl); have e11 : w.cell? ⟨eb, 11, none⟩ = some (.int .i64 0) := cellB hSw (i := 11) (by rfl); have e12 : w.cell? ⟨eb, 12, none⟩ = some (.int .i64 0) := cellB hSw (i := 12) (by rfl); clear hSw; first | (go_simp; done) | (go_simp; with_reducible rfl))
      try simp only [Act.put, List.getElem_toArray, List.getElem_cons_succ, List.getElem_cons_zero, List.setIfInBounds_toArray, List.set_cons_zero, List.set_cons_succ]
      refine wpAnyH_take (i := 16) (v := ?_) rfl (by kernel_rfl) (by kernel_rfl) (by kernel_rfl) (fun _ _ _ h => h) (Or.inl ⟨by rfl, ?_⟩) (by assumption) ?_
      rotate_left 1
      · (intro w hSw; have e0 : w.cell? ⟨eb, 0, none⟩ = some (.int .i64 0) := cellB hSw (i := 0) (by rfl); have e1 : w.cell? ⟨eb, 1, none⟩ = some (.int .i64 0) := cellB hSw (i := 1) (by rfl); have e2 : w.cell? ⟨eb, 2, none⟩ = some (.int .i64 0) := cellB hSw (i := 2) (by rfl); have e3 : w.cell? ⟨eb, 3, none⟩ = some (.string ⟨#[]⟩) := cellB hSw (i := 3) (by rfl); have e4 : w.cell? ⟨eb, 4, none⟩ = some (.string ⟨#[71, 77, 84]⟩) := cellB hSw (i := 4) (by rfl); have e5 : w.cell? ⟨eb, 5, none⟩ = some (.bool true) := cellB hSw (i := 5) (by rfl); have e6 : w.cell? ⟨eb, 6, none⟩ = some (.int .i64 1968) := cellB hSw (i := 6) (by rfl); have e7 : w.cell? ⟨eb, 7, none⟩ = some (.int .i64 10) := cellB hSw (i := 7) (by rfl); have e8 : w.cell? ⟨eb, 8, none⟩ = some (.int .i64 1) := cellB hSw (i := 8) (by rfl); have e9 : w.cell? ⟨eb, 9, none⟩ = some (.int .i64 0) := cellB hSw (i := 9) (by rfl); have e10 : w.cell? ⟨eb, 10, none⟩ = some (.int .i64 27) := cellB hSw (i := 10) (by rfl); have e11 : w.cell? ⟨eb, 11, none⟩ = some (.int .i64 0) := cellB hSw (i := 11) (by rfl); have e12 : w.cell? ⟨eb, 12, none⟩ = some (.int .i64 0) := cellB hSw (i := 12) (by rfl); clear hSw; first | (go_simp; done) | (go_simp; with_reducible rfl))
      try simp only [Act.put, List.getElem_toArray, List.getElem_cons_succ, List.getElem_cons_zero, List.setIfInBounds_toArray, List.set_cons_zero, List.set_cons_succ]
      exact t2
  case aa19 =>
    have hHeld : w9.heap[eb]? = some (.cells (ex0.arr ++ ex1.arr) 60) := KE0.out
    refine wpAnyH_ready (rs := [1, 4]) (by kernel_rfl) (by simp) ?_
    refine (AllReadyH.cons rfl (fun K hK => ?_) (AllReadyH.cons rfl (fun K hK => ?_) AllReadyH.nil))
    · have x1 := cellB KS0.out (i := 1) rfl
      go_simp
      clear hHeld
      refine hK.out _ _ ?_ (fun hHeld => ?_)
      · exact KE0.out
      clear hK K x1
      try simp only [Act.put, List.getElem_toArray, List.getElem_cons_succ, List.getElem_cons_zero, List.setIfInBounds_toArray, List.set_cons_zero, List.set_cons_succ]
      exact t13
    · have x1 := cellB KS0.out (i := 1) rfl
      go_simp
      clear hHeld
      refine hK.out _ _ ?_ (fun hHeld => ?_)
      · exact KE0.out
      clear hK K x1
      try simp only [Act.put, List.getElem_toArray, List.getElem_cons_succ, List.getElem_cons_zero, List.setIfInBounds_toArray, List.set_cons_zero, List.set_cons_succ]
      refine wpAnyH_take (i := 5) (v := ?_) rfl (by kernel_rfl) (by kernel_rfl) (by kernel_rfl) (fun _ _ _ h => h) (Or.inl ⟨by rfl, ?_⟩) (by assumption) ?_
      rotate_left 1
      · (intro w hSw; have e0 : w.cell? ⟨eb, 0, none⟩ = some (.int .i64 0) := cellB hSw (i := 0) (by rfl); have e1 : w.cell? ⟨eb, 1, none⟩ = some (.int .i64 0) := cellB hSw (i := 1) (by rfl); have e2 : w.cell? ⟨eb, 2, none⟩ = some (.int .i64 0) := cellB hSw (i := 2) (by rfl); have e3 : w.cell? ⟨eb, 3, none⟩ = some (.string ⟨#[]⟩) := cellB hSw (i := 3) (by rfl); have e4 : w.cell? ⟨eb, 4, none⟩ = some (.string ⟨#[71, 77, 84]⟩) := cellB hSw (i := 4) (by rfl); have e5 : w.cell? ⟨eb, 5, none⟩ = some (.bool true) := cellB hSw (i := 5) (by rfl); have e6 : w.cell? ⟨eb, 6, none⟩ = some (.int .i64 1968) := cellB hSw (i := 6) (by rfl); have e7 : w.cell? ⟨eb, 7, none⟩ = some (.int .i64 10) := cellB hSw (i := 7) (by rfl); have e8 : w.cell? ⟨eb, 8, none⟩ = some (.int .i64 1) := cellB hSw (i := 8) (by rfl); have e9 : w.cell? ⟨eb, 9, none⟩ = some (.int .i64 0) := cellB hSw (i := 9) (by rfl); have e10 : w.cell? ⟨eb, 10, none⟩ = some (.int .i64 27) := cellB hSw (i := 10) (by rfl); have e11 : w.cell? ⟨eb, 11, none⟩ = some (.int .i64 0) := cellB hSw (i := 11) (by rfl); have e12 : w.cell? ⟨eb, 12, none⟩ = some (.int .i64 0) := cellB hSw (i := 12) (by rfl); clear hSw; first | (go_simp; done) | (go_simp; with_reducible rfl))
      try simp only [Act.put, List.getElem_toArray, List.getElem_cons_succ, List.getElem_cons_zero, List.setIfInBounds_toArray, List.set_cons_zero, List.set_cons_succ]
      refine wpAnyH_take (i := 6) (v := ?_) rfl (by kernel_rfl) (by kernel_rfl) (by kernel_rfl) (fun _ _ _ h => h) (Or.inl ⟨by rfl, ?_⟩) (by assumption) ?_
      rotate_left 1
      · (intro w hSw; have e0 : w.cell? ⟨eb, 0, none⟩ = some (.int .i64 0) := cellB hSw (i := 0) (by rfl); have e1 : w.cell? ⟨eb, 1, none⟩ = some (.int .i64 0) := cellB hSw (i := 1) (by rfl); have e2 : w.cell? ⟨eb, 2, none⟩ = some (.int .i64 0) := cellB hSw (i := 2) (by rfl); have e3 : w.cell? ⟨eb, 3, none⟩ = some (.string ⟨#[]⟩) := cellB hSw (i := 3) (by rfl); have e4 : w.cell? ⟨eb, 4, none⟩ = some (.string ⟨#[71, 77, 84]⟩) := cellB hSw (i := 4) (by rfl); have e5 : w.cell? ⟨eb, 5, none⟩ = some (.bool true) := cellB hSw (i := 5) (by rfl); have e6 : w.cell? ⟨eb, 6, none⟩ = some (.int .i64 1968) := cellB hSw (i := 6) (by rfl); have e7 : w.cell? ⟨eb, 7, none⟩ = some (.int .i64 10) := cellB hSw (i := 7) (by rfl); have e8 : w.cell? ⟨eb, 8, none⟩ = some (.int .i64 1) := cellB hSw (i := 8) (by rfl); have e9 : w.cell? ⟨eb, 9, none⟩ = some (.int .i64 0) := cellB hSw (i := 9) (by rfl); have e10 : w.cell? ⟨eb, 10, none⟩ = some (.int .i64 27) := cellB hSw (i := 10) (by rfl); have e11 : w.cell? ⟨eb, 11, none⟩ = some (.int .i64 0) := cellB hSw (i := 11) (by rfl); have e12 : w.cell? ⟨eb, 12, none⟩ = some (.int .i64 0) := cellB hSw (i := 12) (by rfl); clear hSw; first | (go_simp; done) | (go_simp; with_reducible rfl))
      try simp only [Act.put, List.getElem_toArray, List.getElem_cons_succ, List.getElem_cons_zero, List.setIfInBounds_toArray, List.set_cons_zero, List.set_cons_succ]
      exact t5
  case aa18 =>
    have hHeld : w9.heap[eb]? = some (.cells (ex0.arr ++ ex1.arr) 60) := KE0.out
    refine wpAnyH_ready (rs := [1, 7, 11]) (by kernel_rfl) (by simp) ?_
    refine (AllReadyH.cons rfl (fun K hK => ?_) (AllReadyH.cons rfl (fun K hK => ?_) (AllReadyH.cons rfl (fun K hK => ?_) AllReadyH.nil)))
    · have x1 := cellB KS0.out (i := 1) rfl
      go_simp
      clear hHeld
      refine hK.out _ _ ?_ (fun hHeld => ?_)
      · exact KE0.out
      clear hK K x1
      try simp only [Act.put, List.getElem_toArray, List.getElem_cons_succ, List.getElem_cons_zero, List.setIfInBounds_toArray, List.set_cons_zero, List.set_cons_succ]
      exact t14
    · have x1 := cellB KZ.out (i := 1) rfl
      go_simp
      clear hHeld
      refine hK.out _ _ ?_ (fun hHeld => ?_)
      · exact KE0.out
      clear hK K x1
      try simp only [Act.put, List.getElem_toArray, List.getElem_cons_succ, List.getElem_cons_zero, List.setIfInBounds_toArray, List.set_cons_zero, List.set_cons_succ]
      refine wpAnyH_take (i := 8) (v := ?_) rfl (by kernel_rfl) (by kernel_rfl) (by kernel_rfl) (fun _ _ _ h => h) (Or.inl ⟨by rfl, ?_⟩) (by assumption) ?_
      rotate_left 1
      · (intro w hSw; have e0 : w.cell? ⟨eb, 0, none⟩ = some (.int .i64 0) := cellB hSw (i := 0) (by rfl); have e1 : w.cell? ⟨eb, 1, none⟩ = some (.int .i64 0) := cellB hSw (i := 1) (by rfl); have e2 : w.cell? ⟨eb, 2, none⟩ = some (.int .i64 0) := cellB hSw (i := 2) (by rfl); have e3 : w.cell? ⟨eb, 3, none⟩ = some (.string ⟨#[]⟩) := cellB hSw (i := 3) (by rfl); have e4 : w.cell? ⟨eb, 4, none⟩ = some (.string ⟨#[71, 77, 84]⟩) := cellB hSw (i := 4) (by rfl); have e5 : w.cell? ⟨eb, 5, none⟩ = some (.bool true) := cellB hSw (i := 5) (by rfl); have e6 : w.cell? ⟨eb, 6, none⟩ = some (.int .i64 1968) := cellB hSw (i := 6) (by rfl); have e7 : w.cell? ⟨eb, 7, none⟩ = some (.int .i64 10) := cellB hSw (i := 7) (by rfl); have e8 : w.cell? ⟨eb, 8, none⟩ = some (.int .i64 1) := cellB hSw (i := 8) (by rfl); have e9 : w.cell? ⟨eb, 9, none⟩ = some (.int .i64 0) := cellB hSw (i := 9) (by rfl); have e10 : w.cell? ⟨eb, 10, none⟩ = some (.int .i64 27) := cellB hSw (i := 10) (by rfl); have e11 : w.cell? ⟨eb, 11, none⟩ = some (.int .i64 0) := cellB hSw (i := 11) (by rfl); have e12 : w.cell? ⟨eb, 12, none⟩ = some (.int .i64 0) := cellB hSw (i := 12) (by rfl); clear hSw; first | (go_simp; done) | (go_simp; with_reducible rfl))
      try simp only [Act.put, List.getElem_toArray, List.getElem_cons_succ, List.getElem_cons_zero, List.setIfInBounds_toArray, List.set_cons_zero, List.set_cons_succ]
      refine wpAnyH_take (i := 9) (v := ?_) rfl (by kernel_rfl) (by kernel_rfl) (by kernel_rfl) (fun _ _ _ h => h) (Or.inl ⟨by rfl, ?_⟩) (by assumption) ?_
      rotate_left 1
      · (intro w hSw; have e0 : w.cell? ⟨eb, 0, none⟩ = some (.int .i64 0) := cellB hSw (i := 0) (by rfl); have e1 : w.cell? ⟨eb, 1, none⟩ = some (.int .i64 0) := cellB hSw (i := 1) (by rfl); have e2 : w.cell? ⟨eb, 2, none⟩ = some (.int .i64 0) := cellB hSw (i := 2) (by rfl); have e3 : w.cell? ⟨eb, 3, none⟩ = some (.string ⟨#[]⟩) := cellB hSw (i := 3) (by rfl); have e4 : w.cell? ⟨eb, 4, none⟩ = some (.string ⟨#[71, 77, 84]⟩) := cellB hSw (i := 4) (by rfl); have e5 : w.cell? ⟨eb, 5, none⟩ = some (.bool true) := cellB hSw (i := 5) (by rfl); have e6 : w.cell? ⟨eb, 6, none⟩ = some (.int .i64 1968) := cellB hSw (i := 6) (by rfl); have e7 : w.cell? ⟨eb, 7, none⟩ = some (.int .i64 10) := cellB hSw (i := 7) (by rfl); have e8 : w.cell? ⟨eb, 8, none⟩ = some (.int .i64 1) := cellB hSw (i := 8) (by rfl); have e9 : w.cell? ⟨eb, 9, none⟩ = some (.int .i64 0) := cellB hSw (i := 9) (by rfl); have e10 : w.cell? ⟨eb, 10, none⟩ = some (.int .i64 27) := cellB hSw (i := 10) (by rfl); have e11 : w.cell? ⟨eb, 11, none⟩ = some (.int .i64 0) := cellB hSw (i := 11) (by rfl); have e12 : w.cell? ⟨eb, 12, none⟩ = some (.int .i64 0) := cellB hSw (i := 12) (by rfl); clear hSw; first | (go_simp; done) | (go_simp; with_reducible rfl))
      try simp only [Act.put, List.getElem_toArray, List.getElem_cons_succ, List.getElem_cons_zero, List.setIfInBounds_toArray, List.set_cons_zero, List.set_cons_succ]
      exact t6
    · have x1 := cellB KS0.out (i := 1) rfl
      go_simp
      clear hHeld
      refine hK.out _ _ ?_ (fun hHeld => ?_)
      · exact KE0.out
      clear hK K x1
      try simp only [Act.put, List.getElem_toArray, List.getElem_cons_succ, List.getElem_cons_zero, List.setIfInBounds_toArray, List.set_cons_zero, List.set_cons_succ]
      refine wpAnyH_take (i := 12) (v := ?_) rfl (by kernel_rfl) (by kernel_rfl) (by kernel_rfl) (fun _ _ _ h => h) (Or.inl ⟨by rfl, ?_⟩) (by assumption) ?_
      rotate_left 1
      · (intro w hSw; have e0 : w.cell? ⟨eb, 0, none⟩ = some (.int .i64 0) := cellB hSw (i := 0) (by rfl); have e1 : w.cell? ⟨eb, 1, none⟩ = some (.int .i64 0) := cellB hSw (i := 1) (by rfl); have e2 : w.cell? ⟨eb, 2, none⟩ = some (.int .i64 0) := cellB hSw (i := 2) (by rfl); have e3 : w.cell? ⟨eb, 3, none⟩ = some (.string ⟨#[]⟩) := cellB hSw (i := 3) (by rfl); have e4 : w.cell? ⟨eb, 4, none⟩ = some (.string ⟨#[71, 77, 84]⟩) := cellB hSw (i := 4) (by rfl); have e5 : w.cell? ⟨eb, 5, none⟩ = some (.bool true) := cellB hSw (i := 5) (by rfl); have e6 : w.cell? ⟨eb, 6, none⟩ = some (.int .i64 1968) := cellB hSw (i := 6) (by rfl); have e7 : w.cell? ⟨eb, 7, none⟩ = some (.int .i64 10) := cellB hSw (i := 7) (by rfl); have e8 : w.cell? ⟨eb, 8, none⟩ = some (.int .i64 1) := cellB hSw (i := 8) (by rfl); have e9 : w.cell? ⟨eb, 9, none⟩ = some (.int .i64 0) := cellB hSw (i := 9) (by rfl); have e10 : w.cell? ⟨eb, 10, none⟩ = some (.int .i64 27) := cellB hSw (i := 10) (by rfl); have e11 : w.cell? ⟨eb, 11, none⟩ = some (.int .i64 0) := cellB hSw (i := 11) (by rfl); have e12 : w.cell? ⟨eb, 12, none⟩ = some (.int .i64 0) := cellB hSw (i := 12) (by rfl); clear hSw; first | (go_simp; done) | (go_simp; with_reducible rfl))
      try simp only [Act.put, List.getElem_toArray, List.getElem_cons_succ, List.getElem_cons_zero, List.setIfInBounds_toArray, List.set_cons_zero, List.set_cons_succ]
      refine wpAnyH_take (i := 13) (v := ?_) rfl (by kernel_rfl) (by kernel_rfl) (by kernel_rfl) (fun _ _ _ h => h) (Or.inl ⟨by rfl, ?_⟩) (by assumption) ?_
      rotate_left 1
      · (intro w hSw; have e0 : w.cell? ⟨eb, 0, none⟩ = some (.int .i64 0) := cellB hSw (i := 0) (by rfl); have e1 : w.cell? ⟨eb, 1, none⟩ = some (.int .i64 0) := cellB hSw (i := 1) (by rfl); have e2 : w.cell? ⟨eb, 2, none⟩ = some (.int .i64 0) := cellB hSw (i := 2) (by rfl); have e3 : w.cell? ⟨eb, 3, none⟩ = some (.string ⟨#[]⟩) := cellB hSw (i := 3) (by rfl); have e4 : w.cell? ⟨eb, 4, none⟩ = some (.string ⟨#[71, 77, 84]⟩) := cellB hSw (i := 4) (by rfl); have e5 : w.cell? ⟨eb, 5, none⟩ = some (.bool true) := cellB hSw (i := 5) (by rfl); have e6 : w.cell? ⟨eb, 6, none⟩ = some (.int .i64 1968) := cellB hSw (i := 6) (by rfl); have e7 : w.cell? ⟨eb, 7, none⟩ = some (.int .i64 10) := cellB hSw (i := 7) (by rfl); have e8 : w.cell? ⟨eb, 8, none⟩ = some (.int .i64 1) := cellB hSw (i := 8) (by rfl); have e9 : w.cell? ⟨eb, 9, none⟩ = some (.int .i64 0) := cellB hSw (i := 9) (by rfl); have e10 : w.cell? ⟨eb, 10, none⟩ = some (.int .i64 27) := cellB hSw (i := 10) (by rfl); have e11 : w.cell? ⟨eb, 11, none⟩ = some (.int .i64 0) := cellB hSw (i := 11) (by rfl); have e12 : w.cell? ⟨eb, 12, none⟩ = some (.int .i64 0) := cellB hSw (i := 12) (by rfl); clear hSw; first | (go_simp; done) | (go_simp; with_reducible rfl))
      try simp only [Act.put, List.getElem_toArray, List.getElem_cons_succ, List.getElem_cons_zero, List.setIfInBounds_toArray, List.set_cons_zero, List.set_cons_succ]
      exact t4
  case aa17 =>
    have hHeld : w9.heap[eb]? = some (.cells (ex0.arr ++ ex1.arr) 60) := KE0.out
    refine wpAnyH_ready (rs := [1, 7, 14]) (by kernel_rfl) (by simp) ?_
    refine (AllReadyH.cons rfl (fun K hK => ?_) (AllReadyH.cons rfl (fun K hK => ?_) (AllReadyH.cons rfl (fun K hK => ?_) AllReadyH.nil)))
    · have x1 := cellB KS0.out (i := 1) rfl
      go_simp
      clear hHeld
      refine hK.out _ _ ?_ (fun hHeld => ?_)
      · exact KE0.out
      clear hK K x1
      try simp only [Act.put, List.getElem_toArray, List.getElem_cons_succ, List.getElem_cons_zero, List.setIfInBounds_toArray, List.set_cons_zero, List.set_cons_succ]
      exact t15
    · have x1 := cellB KZ.out (i := 1) rfl
      go_simp
      clear hHeld
      refine hK.out _ _ ?_ (fun hHeld => ?_)
      · exact KE0.out
      clear hK K x1
      try simp only [Act.put, List.getElem_toArray, List.getElem_cons_succ, List.getElem_cons_zero, List.setIfInBounds_toArray, List.set_cons_zero, List.set_cons_succ]
      refine wpAnyH_take (i := 8) (v := ?_) rfl (by kernel_rfl) (by kernel_rfl) (by kernel_rfl) (fun _ _ _ h => h) (Or.inl ⟨by rfl, ?_⟩) (by assumption) ?_
      rotate_left 1
      · (intro w hSw; have e0 : w.cell? ⟨eb, 0, none⟩ = some (.int .i64 0) := cellB hSw (i := 0) (by rfl); have e1 : w.cell? ⟨eb, 1, none⟩ = some (.int .i64 0) := cellB hSw (i := 1) (by rfl); have e2 : w.cell? ⟨eb, 2, none⟩ = some (.int .i64 0) := cellB hSw (i := 2) (by rfl); have e3 : w.cell? ⟨eb, 3, none⟩ = some (.string ⟨#[]⟩) := cellB hSw (i := 3) (by rfl); have e4 : w.cell? ⟨eb, 4, none⟩ = some (.string ⟨#[71, 77, 84]⟩) := cellB hSw (i := 4) (by rfl); have e5 : w.cell? ⟨eb, 5, none⟩ = some (.bool true) := cellB hSw (i := 5) (by rfl); have e6 : w.cell? ⟨eb, 6, none⟩ = some (.int .i64 1968) := cellB hSw (i := 6) (by rfl); have e7 : w.cell? ⟨eb, 7, none⟩ = some (.int .i64 10) := cellB hSw (i := 7) (by rfl); have e8 : w.cell? ⟨eb, 8, none⟩ = some (.int .i64 1) := cellB hSw (i := 8) (by rfl); have e9 : w.cell? ⟨eb, 9, none⟩ = some (.int .i64 0) := cellB hSw (i := 9) (by rfl); have e10 : w.cell? ⟨eb, 10, none⟩ = some (.int .i64 27) := cellB hSw (i := 10) (by rfl); have e11 : w.cell? ⟨eb, 11, none⟩ = some (.int .i64 0) := cellB hSw (i := 11) (by rfl); have e12 : w.cell? ⟨eb, 12, none⟩ = some (.int .i64 0) := cellB hSw (i := 12) (by rfl); clear hSw; first | (go_simp; done) | (go_simp; with_reducible rfl))
      try simp only [Act.put, List.getElem_toArray, List.getElem_cons_succ, List.getElem_cons_zero, List.setIfInBounds_toArray, List.set_cons_zero, List.set_cons_succ]
      refine wpAnyH_take (i := 9) (v := ?_) rfl (by kernel_rfl) (by kernel_rfl) (by kernel_rfl) (fun _ _ _ h => h) (Or.inl ⟨by rfl, ?_⟩) (by assumption) ?_
      rotate_left 1
      · (intro w hSw; have e0 : w.cell? ⟨eb, 0, none⟩ = some (.int .i64 0) := cellB hSw (i := 0) (by rfl); have e1 : w.cell? ⟨eb, 1, none⟩ = some (.int .i64 0) := cellB hSw (i := 1) (by rfl); have e2 : w.cell? ⟨eb, 2, none⟩ = some (.int .i64 0) := cellB hSw (i := 2) (by rfl); have e3 : w.cell? ⟨eb, 3, none⟩ = some (.string ⟨#[]⟩) := cellB hSw (i := 3) (by rfl); have e4 : w.cell? ⟨eb, 4, none⟩ = some (.string ⟨#[71, 77, 84]⟩) := cellB hSw (i := 4) (by rfl); have e5 : w.cell? ⟨eb, 5, none⟩ = some (.bool true) := cellB hSw (i := 5) (by rfl); have e6 : w.cell? ⟨eb, 6, none⟩ = some (.int .i64 1968) := cellB hSw (i := 6) (by rfl); have e7 : w.cell? ⟨eb, 7, none⟩ = some (.int .i64 10) := cellB hSw (i := 7) (by rfl); have e8 : w.cell? ⟨eb, 8, none⟩ = some (.int .i64 1) := cellB hSw (i := 8) (by rfl); have e9 : w.cell? ⟨eb, 9, none⟩ = some (.int .i64 0) := cellB hSw (i := 9) (by rfl); have e10 : w.cell? ⟨eb, 10, none⟩ = some (.int .i64 27) := cellB hSw (i := 10) (by rfl); have e11 : w.cell? ⟨eb, 11, none⟩ = some (.int .i64 0) := cellB hSw (i := 11) (by rfl); have e12 : w.cell? ⟨eb, 12, none⟩ = some (.int .i64 0) := cellB hSw (i := 12) (by rfl); clear hSw; first | (go_simp; done) | (go_simp; with_reducible rfl))
      try simp only [Act.put, List.getElem_toArray, List.getElem_cons_succ, List.getElem_cons_zero, List.setIfInBounds_toArray, List.set_cons_zero, List.set_cons_succ]
      exact t7
    · have x1 := cellB KZ.out (i := 1) rfl
      go_simp
      clear hHeld
      refine hK.out _ _ ?_ (fun hHeld => ?_)
      · exact KE0.out
      clear hK K x1
      try simp only [Act.put, List.getElem_toArray, List.getElem_cons_succ, List.getElem_cons_zero, List.setIfInBounds_toArray, List.set_cons_zero, List.set_cons_succ]
      refine wpAnyH_take (i := 15) (v := ?_) rfl (by kernel_rfl) (by kernel_rfl) (by kernel_rfl) (fun _ _ _ h => h) (Or.inl ⟨by rfl, ?_⟩) (by assumption) ?_
      rotate_left 1
      · (intro w hSw; have e0 : w.cell? ⟨eb, 0, none⟩ = some (.int .i64 0) := cellB hSw (i := 0) (by rfl); have e1 : w.cell? ⟨eb, 1, none⟩ = some (.int .i64 0) := cellB hSw (i := 1) (by rfl); have e2 : w.cell? ⟨eb, 2, none⟩ = some (.int .i64 0) := cellB hSw (i := 2) (by rfl); have e3 : w.cell? ⟨eb, 3, none⟩ = some (.string ⟨#[]⟩) := cellB hSw (i := 3) (by rfl); have e4 : w.cell? ⟨eb, 4, none⟩ = some (.string ⟨#[71, 77, 84]⟩) := cellB hSw (i := 4) (by rfl); have e5 : w.cell? ⟨eb, 5, none⟩ = some (.bool true) := cellB hSw (i := 5) (by rfl); have e6 : w.cell? ⟨eb, 6, none⟩ = some (.int .i64 1968) := cellB hSw (i := 6) (by rfl); have e7 : w.cell? ⟨eb, 7, none⟩ = some (.int .i64 10) := cellB hSw (i := 7) (by rfl); have e8 : w.cell? ⟨eb, 8, none⟩ = some (.int .i64 1) := cellB hSw (i := 8) (by rfl); have e9 : w.cell? ⟨eb, 9, none⟩ = some (.int .i64 0) := cellB hSw (i := 9) (by rfl); have e10 : w.cell? ⟨eb, 10, none⟩ = some (.int .i64 27) := cellB hSw (i := 10) (by rfl); have e11 : w.cell? ⟨eb, 11, none⟩ = some (.int .i64 0) := cellB hSw (i := 11) (by rfl); have e12 : w.cell? ⟨eb, 12, none⟩ = some (.int .i64 0) := cellB hSw (i := 12) (by rfl); clear hSw; first | (go_simp; done) | (go_simp; with_reducible rfl))
      try simp only [Act.put, List.getElem_toArray, List.getElem_cons_succ, List.getElem_cons_zero, List.setIfInBounds_toArray, List.set_cons_zero, List.set_cons_succ]
      refine wpAnyH_take (i := 16) (v := ?_) rfl (by kernel_rfl) (by kernel_rfl) (by kernel_rfl) (fun _ _ _ h => h) (Or.inl ⟨by rfl, ?_⟩) (by assumption) ?_
      rotate_left 1
      · (intro w hSw; have e0 : w.cell? ⟨eb, 0, none⟩ = some (.int .i64 0) := cellB hSw (i := 0) (by rfl); have e1 : w.cell? ⟨eb, 1, none⟩ = some (.int .i64 0) := cellB hSw (i := 1) (by rfl); have e2 : w.cell? ⟨eb, 2, none⟩ = some (.int .i64 0) := cellB hSw (i := 2) (by rfl); have e3 : w.cell? ⟨eb, 3, none⟩ = some (.string ⟨#[]⟩) := cellB hSw (i := 3) (by rfl); have e4 : w.cell? ⟨eb, 4, none⟩ = some (.string ⟨#[71, 77, 84]⟩) := cellB hSw (i := 4) (by rfl); have e5 : w.cell? ⟨eb, 5, none⟩ = some (.bool true) := cellB hSw (i := 5) (by rfl); have e6 : w.cell? ⟨eb, 6, none⟩ = some (.int .i64 1968) := cellB hSw (i := 6) (by rfl); have e7 : w.cell? ⟨eb, 7, none⟩ = some (.int .i64 10) := cellB hSw (i := 7) (by rfl); have e8 : w.cell? ⟨eb, 8, none⟩ = some (.int .i64 1) := cellB hSw (i := 8) (by rfl); have e9 : w.cell? ⟨eb, 9, none⟩ = some (.int .i64 0) := cellB hSw (i := 9) (by rfl); have e10 : w.cell? ⟨eb, 10, none⟩ = some (.int .i64 27) := cellB hSw (i := 10) (by rfl); have e11 : w.cell? ⟨eb, 11, none⟩ = some (.int .i64 0) := cellB hSw (i := 11) (by rfl); have e12 : w.cell? ⟨eb, 12, none⟩ = some (.int .i64 0) := cellB hSw (i := 12) (by rfl); clear hSw; first | (go_simp; done) | (go_simp; with_reducible rfl))
      try simp only [Act.put, List.getElem_toArray, List.getElem_cons_succ, List.getElem_cons_zero, List.setIfInBounds_toArray, List.set_cons_zero, List.set_cons_succ]
      exact t5
  case aa16 =>
    have hHeld : w9.heap[eb]? = some (.cells (ex0.arr ++ ex1.arr) 60) := KE0.out
    refine wpAnyH_ready (rs := [1, 7]) (by kernel_rfl) (by simp) ?_
    refine (AllReadyH.cons rfl (fun K hK => ?_) (AllReadyH.cons rfl (fun K hK => ?_) AllReadyH.nil))
    · have x1 := cellB KS0.out (i := 1) rfl
      go_simp
      clear hHeld
      refine hK.out _ _ ?_ (fun hHeld => ?_)
      · exact KE0.out
      clear hK K x1
      try simp only [Act.put, List.getElem_toArray, List.getElem_cons_succ, List.getElem_cons_zero, List.setIfInBounds_toArray, List.set_cons_zero, List.set_cons_succ]
      exact t16
    · have x1 := cellB KZ.out (i := 1) rfl
      go_simp
      clear hHeld
      refine hK.out _ _ ?_ (fun hHeld => ?_)
      · exact KE0.out
      clear hK K x1
      try simp only [Act.put, List.getElem_toArray, List.getElem_cons_succ, List.getElem_cons_zero, List.setIfInBounds_toArray, List.set_cons_zero, List.set_cons_succ]
      refine wpAnyH_take (i := 8) (v := ?_) rfl (by kernel_rfl) (by kernel_rfl) (by kernel_rfl) (fun _ _ _ h => h) (Or.inl ⟨by rfl, ?_⟩) (by assumption) ?_
      rotate_left 1
      · (intro w hSw; have e0 : w.cell? ⟨eb, 0, none⟩ = some (.int .i64 0) := cellB hSw (i := 0) (by rfl); have e1 : w.cell? ⟨eb, 1, none⟩ = some (.int .i64 0) := cellB hSw (i := 1) (by rfl); have e2 : w.cell? ⟨eb, 2, none⟩ = some (.int .i64 0) := cellB hSw (i := 2) (by rfl); have e3 : w.cell? ⟨eb, 3, none⟩ = some (.string ⟨#[]⟩) := cellB hSw (i := 3) (by rfl); have e4 : w.cell? ⟨eb, 4, none⟩ = some (.string ⟨#[71, 77, 84]⟩) := cellB hSw (i := 4) (by rfl); have e5 : w.cell? ⟨eb, 5, none⟩ = some (.bool true) := cellB hSw (i := 5) (by rfl); have e6 : w.cell? ⟨eb, 6, none⟩ = some (.int .i64 1968) := cellB hSw (i := 6) (by rfl); have e7 : w.cell? ⟨eb, 7, none⟩ = some (.int .i64 10) := cellB hSw (i := 7) (by rfl); have e8 : w.cell? ⟨eb, 8, none⟩ = some (.int .i64 1) := cellB hSw (i := 8) (by rfl); have e9 : w.cell? ⟨eb, 9, none⟩ = some (.int .i64 0) := cellB hSw (i := 9) (by rfl); have e10 : w.cell? ⟨eb, 10, none⟩ = some (.int .i64 27) := cellB hSw (i := 10) (by rfl); have e11 : w.cell? ⟨eb, 11, none⟩ = some (.int .i64 0) := cellB hSw (i := 11) (by rfl); have e12 : w.cell? ⟨eb, 12, none⟩ = some (.int .i64 0) := cellB hSw (i := 12) (by rfl); clear hSw; first | (go_simp; done) | (go_simp; with_reducible rfl))
      try simp only [Act.put, List.getElem_toArray, List.getElem_cons_succ, List.getElem_cons_zero, List.setIfInBounds_toArray, List.set_cons_zero, List.set_cons_succ]
      refine wpAnyH_take (i := 9) (v := ?_) rfl (by kernel_rfl) (by kernel_rfl) (by kernel_rfl) (fun _ _ _ h => h) (Or.inl ⟨by rfl, ?_⟩) (by assumption) ?_
      rotate_left 1
      · (intro w hSw; have e0 : w.cell? ⟨eb, 0, none⟩ = some (.int .i64 0) := cellB hSw (i := 0) (by rfl); have e1 : w.cell? ⟨eb, 1, none⟩ = some (.int .i64 0) := cellB hSw (i := 1) (by rfl); have e2 : w.cell? ⟨eb, 2, none⟩ = some (.int .i64 0) := cellB hSw (i := 2) (by rfl); have e3 : w.cell? ⟨eb, 3, none⟩ = some (.string ⟨#[]⟩) := cellB hSw (i := 3) (by rfl); have e4 : w.cell? ⟨eb, 4, none⟩ = some (.string ⟨#[71, 77, 84]⟩) := cellB hSw (i := 4) (by rfl); have e5 : w.cell? ⟨eb, 5, none⟩ = some (.bool true) := cellB hSw (i := 5) (by rfl); have e6 : w.cell? ⟨eb, 6, none⟩ = some (.int .i64 1968) := cellB hSw (i := 6) (by rfl); have e7 : w.cell? ⟨eb, 7, none⟩ = some (.int .i64 10) := cellB hSw (i := 7) (by rfl); have e8 : w.cell? ⟨eb, 8, none⟩ = some (.int .i64 1) := cellB hSw (i := 8) (by rfl); have e9 : w.cell? ⟨eb, 9, none⟩ = some (.int .i64 0) := cellB hSw (i := 9) (by rfl); have e10 : w.cell? ⟨eb, 10, none⟩ = some (.int .i64 27) := cellB hSw (i := 10) (by rfl); have e11 : w.cell? ⟨eb, 11, none⟩ = some (.int .i64 0) := cellB hSw (i := 11) (by rfl); have e12 : w.cell? ⟨eb, 12, none⟩ = some (.int .i64 0) := cellB hSw (i := 12) (by rfl); clear hSw; first | (go_simp; done) | (go_simp; with_reducible rfl))
      try simp only [Act.put, List.getElem_toArray, List.getElem_cons_succ, List.getElem_cons_zero, List.setIfInBounds_toArray, List.set_cons_zero, List.set_cons_succ]
      exact t8
  case aa15 =>
    have hHeld : w9.heap[eb]? = some (.cells (ex0.arr ++ ex1.arr) 60) := KE0.out
    refine wpAnyH_ready (rs := [1, 11]) (by kernel_rfl) (by simp) ?_
    refine (AllReadyH.cons rfl (fun K hK => ?_) (AllReadyH.cons rfl (fun K hK => ?_) AllReadyH.nil))
    · have x1 := cellB KS0.out (i := 1) rfl
      go_simp
      clear hHeld
      refine hK.out _ _ ?_ (fun hHeld => ?_)
      · exact KE0.out
      clear hK K x1
      try simp only [Act.put, List.getElem_toArray, List.getElem_cons_succ, List.getElem_cons_zero, List.setIfInBounds_toArray, List.set_cons_zero, List.set_cons_succ]
      exact t17
    · have x1 := cellB KS0.out (i := 1) rfl
      go_simp
      clear hHeld
      refine hK.out _ _ ?_ (fun hHeld => ?_)
      · exact KE0.out
      clear hK K x1
      try simp only [Act.put, List.getElem_toArray, List.getElem_cons_succ, List.getElem_cons_zero, List.setIfInBounds_toArray, List.set_cons_zero, List.set_cons_succ]
      refine wpAnyH_take (i := 12) (v := ?_) rfl (by kernel_rfl) (by kernel_rfl) (by kernel_rfl) (fun _ _ _ h => h) (Or.inl ⟨by rfl, ?_⟩) (by assumption) ?_
      rotate_left 1
      · (intro w hSw; have e0 : w.cell? ⟨eb, 0, none⟩ = some (.int .i64 0) := cellB hSw (i := 0) (by rfl); have e1 : w.cell? ⟨eb, 1, none⟩ = some (.int .i64 0) := cellB hSw (i := 1) (by rfl); have e2 : w.cell? ⟨eb, 2, none⟩ = some (.int .i64 0) := cellB hSw (i := 2) (by rfl); have e3 : w.cell? ⟨eb, 3, none⟩ = some (.string ⟨#[]⟩) := cellB hSw (i := 3) (by rfl); have e4 : w.cell? ⟨eb, 4, none⟩ = some (.string ⟨#[71, 77, 84]⟩) := cellB hSw (i := 4) (by rfl); have e5 : w.cell? ⟨eb, 5, none⟩ = some (.bool true) := cellB hSw (i := 5) (by rfl); have e6 : w.cell? ⟨eb, 6, none⟩ = some (.int .i64 1968) := cellB hSw (i := 6) (by rfl); have e7 : w.cell? ⟨eb, 7, none⟩ = some (.int .i64 10) := cellB hSw (i := 7) (by rfl); have e8 : w.cell? ⟨eb, 8, none⟩ = some (.int .i64 1) := cellB hSw (i := 8) (by rfl); have e9 : w.cell? ⟨eb, 9, none⟩ = some (.int .i64 0) := cellB hSw (i := 9) (by rfl); have e10 : w.cell? ⟨eb, 10, none⟩ = some (.int .i64 27) := cellB hSw (i := 10) (by rfl); have e11 : w.cell? ⟨eb, 11, none⟩ = some (.int .i64 0) := cellB hSw (i := 11) (by rfl); have e12 : w.cell? ⟨eb, 12, none⟩ = some (.int .i64 0) := cellB hSw (i := 12) (by rfl); clear hSw; first | (go_simp; done) | (go_simp; with_reducible rfl))
      try simp only [Act.put, List.getElem_toArray, List.getElem_cons_succ, List.getElem_cons_zero, List.setIfInBounds_toArray, List.set_cons_zero, List.set_cons_succ]
      refine wpAnyH_take (i := 13) (v := ?_) rfl (by kernel_rfl) (by kernel_rfl) (by kernel_rfl) (fun _ _ _ h => h) (Or.inl ⟨by rfl, ?_⟩) (by assumption) ?_
      rotate_left 1
      · (intro w hSw; have e0 : w.cell? ⟨eb, 0, none⟩ = some (.int .i64 0) := cellB hSw (i := 0) (by rfl); have e1 : w.cell? ⟨eb, 1, none⟩ = some (.int .i64 0) := cellB hSw (i := 1) (by rfl); have e2 : w.cell? ⟨eb, 2, none⟩ = some (.int .i64 0) := cellB hSw (i := 2) (by rfl); have e3 : w.cell? ⟨eb, 3, none⟩ = some (.string ⟨#[]⟩) := cellB hSw (i := 3) (by rfl); have e4 : w.cell? ⟨eb, 4, none⟩ = some (.string ⟨#[71, 77, 84]⟩) := cellB hSw (i := 4) (by rfl); have e5 : w.cell? ⟨eb, 5, none⟩ = some (.bool true) := cellB hSw (i := 5) (by rfl); have e6 : w.cell? ⟨eb, 6, none⟩ = some (.int .i64 1968) := cellB hSw (i := 6) (by rfl); have e7 : w.cell? ⟨eb, 7, none⟩ = some (.int .i64 10) := cellB hSw (i := 7) (by rfl); have e8 : w.cell? ⟨eb, 8, none⟩ = some (.int .i64 1) := cellB hSw (i := 8) (by rfl); have e9 : w.cell? ⟨eb, 9, none⟩ = some (.int .i64 0) := cellB hSw (i := 9) (by rfl); have e10 : w.cell? ⟨eb, 10, none⟩ = some (.int .i64 27) := cellB hSw (i := 10) (by rfl); have e11 : w.cell? ⟨eb, 11, none⟩ = some (.int .i64 0) := cellB hSw (i := 11) (by rfl); have e12 : w.cell? ⟨eb, 12, none⟩ = some (.int .i64 0) := cellB hSw (i := 12) (by rfl); clear hSw; first | (go_simp; done) | (go_simp; with_reducible rfl))
      try simp only [Act.put, List.getElem_toArray, List.getElem_cons_succ, List.getElem_cons_zero, List.setIfInBounds_toArray, List.set_cons_zero, List.set_cons_succ]
      exact t7
  case aa14 =>
    have hHeld : w9.heap[eb]? = some (.cells (ex0.arr ++ ex1.arr) 60) := KE0.out
    refine wpAnyH_ready (rs := [1, 14]) (by kernel_rfl) (by simp) ?_
    refine (AllReadyH.cons rfl (fun K hK => ?_) (AllReadyH.cons rfl (fun K hK => ?_) AllReadyH.nil))
    · have x1 := cellB KS0.out (i := 1) rfl
      go_simp
      clear hHeld
      refine hK.out _ _ ?_ (fun hHeld => ?_)
      · exact KE0.out
      clear hK K x1
      try simp only [Act.put, List.getElem_toArray, List.getElem_cons_succ, List.getElem_cons_zero, List.setIfInBounds_toArray, List.set_cons_zero, List.set_cons_succ]
      exact t18
    · have x1 := cellB KZ.out (i := 1) rfl
      go_simp
      clear hHeld
      refine hK.out _ _ ?_ (fun hHeld => ?_)
      · exact KE0.out
      clear hK K x1
      try simp only [Act.put, List.getElem_toArray, List.getElem_cons_succ, List.getElem_cons_zero, List.setIfInBounds_toArray, List.set_cons_zero, List.set_cons_succ]
      refine wpAnyH_take (i := 15) (v := ?_) rfl (by kernel_rfl) (by kernel_rfl) (by kernel_rfl) (fun _ _ _ h => h) (Or.inl ⟨by rfl, ?_⟩) (by assumption) ?_
      rotate_left 1
      · (intro w hSw; have e0 : w.cell? ⟨eb, 0, none⟩ = some (.int .i64 0) := cellB hSw (i := 0) (by rfl); have e1 : w.cell? ⟨eb, 1, none⟩ = some (.int .i64 0) := cellB hSw (i := 1) (by rfl); have e2 : w.cell? ⟨eb, 2, none⟩ = some (.int .i64 0) := cellB hSw (i := 2) (by rfl); have e3 : w.cell? ⟨eb, 3, none⟩ = some (.string ⟨#[]⟩) := cellB hSw (i := 3) (by rfl); have e4 : w.cell? ⟨eb, 4, none⟩ = some (.string ⟨#[71, 77, 84]⟩) := cellB hSw (i := 4) (by rfl); have e5 : w.cell? ⟨eb, 5, none⟩ = some (.bool true) := cellB hSw (i := 5) (by rfl); have e6 : w.cell? ⟨eb, 6, none⟩ = some (.int .i64 1968) := cellB hSw (i := 6) (by rfl); have e7 : w.cell? ⟨eb, 7, none⟩ = some (.int .i64 10) := cellB hSw (i := 7) (by rfl); have e8 : w.cell? ⟨eb, 8, none⟩ = some (.int .i64 1) := cellB hSw (i := 8) (by rfl); have e9 : w.cell? ⟨eb, 9, none⟩ = some (.int .i64 0) := cellB hSw (i := 9) (by rfl); have e10 : w.cell? ⟨eb, 10, none⟩ = some (.int .i64 27) := cellB hSw (i := 10) (by rfl); have e11 : w.cell? ⟨eb, 11, none⟩ = some (.int .i64 0) := cellB hSw (i := 11) (by rfl); have e12 : w.cell? ⟨eb, 12, none⟩ = some (.int .i64 0) := cellB hSw (i := 12) (by rfl); clear hSw; first | (go_simp; done) | (go_simp; with_reducible rfl))
      try simp only [Act.put, List.getElem_toArray, List.getElem_cons_succ, List.getElem_cons_zero, List.setIfInBounds_toArray, List.set_cons_zero, List.set_cons_succ]
      refine wpAnyH_take (i := 16) (v := ?_) rfl (by kernel_rfl) (by kernel_rfl) (by kernel_rfl) (fun _ _ _ h => h) (Or.inl ⟨by rfl, ?_⟩) (by assumption) ?_
      rotate_left 1
      · (intro w hSw; have e0 : w.cell? ⟨eb, 0, none⟩ = some (.int .i64 0) := cellB hSw (i := 0) (by rfl); have e1 : w.cell? ⟨eb, 1, none⟩ = some (.int .i64 0) := cellB hSw (i := 1) (by rfl); have e2 : w.cell? ⟨eb, 2, none⟩ = some (.int .i64 0) := cellB hSw (i := 2) (by rfl); have e3 : w.cell? ⟨eb, 3, none⟩ = some (.string ⟨#[]⟩) := cellB hSw (i := 3) (by rfl); have e4 : w.cell? ⟨eb, 4, none⟩ = some (.string ⟨#[71, 77, 84]⟩) := cellB hSw (i := 4) (by rfl); have e5 : w.cell? ⟨eb, 5, none⟩ = some (.bool true) := cellB hSw (i := 5) (by rfl); have e6 : w.cell? ⟨eb, 6, none⟩ = some (.int .i64 1968) := cellB hSw (i := 6) (by rfl); have e7 : w.cell? ⟨eb, 7, none⟩ = some (.int .i64 10) := cellB hSw (i := 7) (by rfl); have e8 : w.cell? ⟨eb, 8, none⟩ = some (.int .i64 1) := cellB hSw (i := 8) (by rfl); have e9 : w.cell? ⟨eb, 9, none⟩ = some (.int .i64 0) := cellB hSw (i := 9) (by rfl); have e10 : w.cell? ⟨eb, 10, none⟩ = some (.int .i64 27) := cellB hSw (i := 10) (by rfl); have e11 : w.cell? ⟨eb, 11, none⟩ = some (.int .i64 0) := cellB hSw (i := 11) (by rfl); have e12 : w.cell? ⟨eb, 12, none⟩ = some (.int .i64 0) := cellB hSw (i := 12) (by rfl); clear hSw; first | (go_simp; done) | (go_simp; with_reducible rfl))
      try simp only [Act.put, List.getElem_toArray, List.getElem_cons_succ, List.getElem_cons_zero, List.setIfInBounds_toArray, List.set_cons_zero, List.set_cons_succ]
      exact t8
  case aa13 =>
    have hHeld : w9.heap[eb]? = some (.cells (ex0.arr ++ ex1.arr) 60) := KE0.out
    refine wpAnyH_ready (rs := [1, 18]) (by kernel_rfl) (by simp) ?_
    refine (AllReadyH.cons rfl (fun K hK => ?_) (AllReadyH.cons rfl (fun K hK => ?_) AllReadyH.nil))
    · have x1 := cellB KS0.out (i := 1) rfl
      go_simp
      clear hHeld
      refine hK.out _ _ ?_ (fun hHeld => ?_)
      · exact KE0.out
      clear hK K x1
      try simp only [Act.put, List.getElem_toArray, List.getElem_cons_succ, List.getElem_cons_zero, List.setIfInBounds_toArray, List.set_cons_zero, List.set_cons_succ]
      exact t19
    · go_simp
      clear hHeld
      refine hK.out _ _ ?_ (fun hHeld => ?_)
      · exact KE1.out
      clear hK K
      try simp only [Act.put, List.getElem_toArray, List.getElem_cons_succ, List.getElem_cons_zero, List.setIfInBounds_toArray, List.set_cons_zero, List.set_cons_succ]
      refine wpAnyH_take (i := 19) (v := ?_) rfl (by kernel_rfl) (by kernel_rfl) (by kernel_rfl) (fun _ _ _ h => h) (Or.inl ⟨by rfl, ?_⟩) (by assumption) ?_
      rotate_left 1
      · (intro w hSw; have e0 : w.cell? ⟨eb, 0, none⟩ = some (.int .i64 0) := cellB hSw (i := 0) (by rfl); have e1 : w.cell? ⟨eb, 1, none⟩ = some (.int .i64 0) := cellB hSw (i := 1) (by rfl); have e2 : w.cell? ⟨eb, 2, none⟩ = some (.int .i64 0) := cellB hSw (i := 2) (by rfl); have e3 : w.cell? ⟨eb, 3, none⟩ = some (.string ⟨#[]⟩) := cellB hSw (i := 3) (by rfl); have e4 : w.cell? ⟨eb, 4, none⟩ = some (.string ⟨#[71, 77, 84]⟩) := cellB hSw (i := 4) (by rfl); have e5 : w.cell? ⟨eb, 5, none⟩ = some (.bool true) := cellB hSw (i := 5) (by rfl); have e6 : w.cell? ⟨eb, 6, none⟩ = some (.int .i64 1968) := cellB hSw (i := 6) (by rfl); have e7 : w.cell? ⟨eb, 7, none⟩ = some (.int .i64 10) := cellB hSw (i := 7) (by rfl); have e8 : w.cell? ⟨eb, 8, none⟩ = some (.int .i64 1) := cellB hSw (i := 8) (by rfl); have e9 : w.cell? ⟨eb, 9, none⟩ = some (.int .i64 0) := cellB hSw (i := 9) (by rfl); have e10 : w.cell? ⟨eb, 10, none⟩ = some (.int .i64 27) := cellB hSw (i := 10) (by rfl); have e11 : w.cell? ⟨eb, 11, none⟩ = some (.int .i64 0) := cellB hSw (i := 11) (by rfl); have e12 : w.cell? ⟨eb, 12, none⟩ = some (.int .i64 0) := cellB hSw (i := 12) (by rfl); clear hSw; first | (go_simp; done) | (go_simp; with_reducible rfl))
      try simp only [Act.put, List.getElem_toArray, List.getElem_cons_succ, List.getElem_cons_zero, List.setIfInBounds_toArray, List.set_cons_zero, List.set_cons_succ]
      exact t9
  case aa12 =>
    have hHeld : (w9.alloc (.cells #[.int .i64 0, .int .i64 0, .int .i64 0, .string ⟨#[]⟩, .string ⟨#[71, 77, 84]⟩, .bool true, .int .i64 1968, .int .i64 10, .int .i64 1, .int .i64 0, .int .i64 27, .int .i64 0, .int .i64 0, .int .i64 0, .int .i64 0, .int .i64 0, .string ⟨#[]⟩, .string ⟨#[71, 77, 84]⟩, .bool true, .int .i64 1968, .int .i64 10, .int .i64 1, .int .i64 0, .int .i64 27, .int .i64 0, .int .i64 0, .int .i64 0, .int .i64 0, .int .i64 0, .string ⟨#[]⟩, .string ⟨#[71, 77, 84]⟩, .bool false, .int .i64 0, .int .i64 0, .int .i64 0, .int .i64 0, .int .i64 0, .int .i64 0, .int .i64 0] 60)).heap[eb]? = some (.cells (ex0.arr ++ ex1.arr) 60) := KE1.out
    refine wpAnyH_ready (rs := [1, 20]) (by kernel_rfl) (by simp) ?_
    refine (AllReadyH.cons rfl (fun K hK => ?_) (AllReadyH.cons rfl (fun K hK => ?_) AllReadyH.nil))
    · have x1 := cellB KS1.out (i := 1) rfl
      go_simp
      clear hHeld
      refine hK.out _ _ ?_ (fun hHeld => ?_)
      · exact KE1.out
      clear hK K x1
      try simp only [Act.put, List.getElem_toArray, List.getElem_cons_succ, List.getElem_cons_zero, List.setIfInBounds_toArray, List.set_cons_zero, List.set_cons_succ]
      exact t20
    · go_simp
      clear hHeld
      refine hK.out _ _ ?_ (fun hHeld => ?_)
      · exact KE2.out
      clear hK K
      try simp only [Act.put, List.getElem_toArray, List.getElem_cons_succ, List.getElem_cons_zero, List.setIfInBounds_toArray, List.set_cons_zero, List.set_cons_succ]
      exact t10
  case aa11 =>
    have hHeld : ((w9.alloc (.cells #[.int .i64 0, .int .i64 0, .int .i64 0, .string ⟨#[]⟩, .string ⟨#[71, 77, 84]⟩, .bool true, .int .i64 1968, .int .i64 10, .int .i64 1, .int .i64 0, .int .i64 27, .int .i64 0, .int .i64 0, .int .i64 0, .int .i64 0, .int .i64 0, .string ⟨#[]⟩, .string ⟨#[71, 77, 84]⟩, .bool true, .int .i64 1968, .int .i64 10, .int .i64 1, .int .i64 0, .int .i64 27, .int .i64 0, .int .i64 0, .int .i64 0, .int .i64 0, .int .i64 0, .string ⟨#[]⟩, .string ⟨#[71, 77, 84]⟩, .bool false, .int .i64 0, .int .i64 0, .int .i64 0, .int .i64 0, .int .i64 0, .int .i64 0, .int .i64 0] 60)).alloc (.cells #[.string ⟨#[89]⟩, .slice none 0 0, .string ⟨#[88]⟩, .slice (some ⟨w9.heap.size, 0, none⟩) 3 3] 45)).heap[eb]? = some (.cells (ex0.arr ++ ex1.arr) 60) := KE2.out
    refine wpAnyH_ready (rs := [1]) (by kernel_rfl) (by simp) ?_
    refine (AllReadyH.cons rfl (fun K hK => ?_) AllReadyH.nil)
    · have x1 := cellB KS2.out (i := 1) rfl
      go_simp
      clear hHeld
      refine hK.out _ _ ?_ (fun hHeld => ?_)
      · exact KE2.out
      clear hK K x1
      try simp only [Act.put, List.getElem_toArray, List.getElem_cons_succ, List.getElem_cons_zero, List.setIfInBounds_toArray, List.set_cons_zero, List.set_cons_succ]
      exact t21
  case aa10 =>
    have hHeld : w9.heap[eb]? = some (.cells (ex0.arr ++ ex1.arr) 60) := KE0.out
    refine wpAnyH_ready (rs := [4, 11]) (by kernel_rfl) (by simp) ?_
    refine (AllReadyH.cons rfl (fun K hK => ?_) (AllReadyH.cons rfl (fun K hK => ?_) AllReadyH.nil))
    · have x1 := cellB KS0.out (i := 1) rfl
      go_simp
      clear hHeld
      refine hK.out _ _ ?_ (fun hHeld => ?_)
      · exact KE0.out
      clear hK K x1
      try simp only [Act.put, List.getElem_toArray, List.getElem_cons_succ, List.getElem_cons_zero, List.setIfInBounds_toArray, List.set_cons_zero, List.set_cons_succ]
      refine wpAnyH_take (i := 5) (v := ?_) rfl (by kernel_rfl) (by kernel_rfl) (by kernel_rfl) (fun _ _ _ h => h) (Or.inl ⟨by rfl, ?_⟩) (by assumption) ?_
      rotate_left 1
      · (intro w hSw; have e0 : w.cell? ⟨eb, 0, none⟩ = some (.int .i64 0) := cellB hSw (i := 0) (by rfl); have e1 : w.cell? ⟨eb, 1, none⟩ = some (.int .i64 0) := cellB hSw (i := 1) (by rfl); have e2 : w.cell? ⟨eb, 2, none⟩ = some (.int .i64 0) := cellB hSw (i := 2) (by rfl); have e3 : w.cell? ⟨eb, 3, none⟩ = some (.string ⟨#[]⟩) := cellB hSw (i := 3) (by rfl); have e4 : w.cell? ⟨eb, 4, none⟩ = some (.string ⟨#[71, 77, 84]⟩) := cellB hSw (i := 4) (by rfl); have e5 : w.cell? ⟨eb, 5, none⟩ = some (.bool true) := cellB hSw (i := 5) (by rfl); have e6 : w.cell? ⟨eb, 6, none⟩ = some (.int .i64 1968) := cellB hSw (i := 6) (by rfl); have e7 : w.cell? ⟨eb, 7, none⟩ = some (.int .i64 10) := cellB hSw (i := 7) (by rfl); have e8 : w.cell? ⟨eb, 8, none⟩ = some (.int .i64 1) := cellB hSw (i := 8) (by rfl); have e9 : w.cell? ⟨eb, 9, none⟩ = some (.int .i64 0) := cellB hSw (i := 9) (by rfl); have e10 : w.cell? ⟨eb, 10, none⟩ = some (.int .i64 27) := cellB hSw (i := 10) (by rfl); have e11 : w.cell? ⟨eb, 11, none⟩ = some (.int .i64 0) := cellB hSw (i := 11) (by rfl); have e12 : w.cell? ⟨eb, 12, none⟩ = some (.int .i64 0) := cellB hSw (i := 12) (by rfl); clear hSw; first | (go_simp; done) | (go_simp; with_reducible rfl))
      try simp only [Act.put, List.getElem_toArray, List.getElem_cons_succ, List.getElem_cons_zero, List.setIfInBounds_toArray, List.set_cons_zero, List.set_cons_succ]
      refine wpAnyH_take (i := 6) (v := ?_) rfl (by kernel_rfl) (by kernel_rfl) (by kernel_rfl) (fun _ _ _ h => h) (Or.inl ⟨by rfl, ?_⟩) (by assumption) ?_
      rotate_left 1
      · (intro w hSw; have e0 : w.cell? ⟨eb, 0, none⟩ = some (.int .i64 0) := cellB hSw (i := 0) (by rfl); have e1 : w.cell? ⟨eb, 1, none⟩ = some (.int .i64 0) := cellB hSw (i := 1) (by rfl); have e2 : w.cell? ⟨eb, 2, none⟩ = some (.int .i64 0) := cellB hSw (i := 2) (by rfl); have e3 : w.cell? ⟨eb, 3, none⟩ = some (.string ⟨#[]⟩) := cellB hSw (i := 3) (by rfl); have e4 : w.cell? ⟨eb, 4, none⟩ = some (.string ⟨#[71, 77, 84]⟩) := cellB hSw (i := 4) (by rfl); have e5 : w.cell? ⟨eb, 5, none⟩ = some (.bool true) := cellB hSw (i := 5) (by rfl); have e6 : w.cell? ⟨eb, 6, none⟩ = some (.int .i64 1968) := cellB hSw (i := 6) (by rfl); have e7 : w.cell? ⟨eb, 7, none⟩ = some (.int .i64 10) := cellB hSw (i := 7) (by rfl); have e8 : w.cell? ⟨eb, 8, none⟩ = some (.int .i64 1) := cellB hSw (i := 8) (by rfl); have e9 : w.cell? ⟨eb, 9, none⟩ = some (.int .i64 0) := cellB hSw (i := 9) (by rfl); have e10 : w.cell? ⟨eb, 10, none⟩ = some (.int .i64 27) := cellB hSw (i := 10) (by rfl); have e11 : w.cell? ⟨eb, 11, none⟩ = some (.int .i64 0) := cellB hSw (i := 11) (by rfl); have e12 : w.cell? ⟨eb, 12, none⟩ = some (.int .i64 0) := cellB hSw (i := 12) (by rfl); clear hSw; first | (go_simp; done) | (go_simp; with_reducible rfl))
      try simp only [Act.put, List.getElem_toArray, List.getElem_cons_succ, List.getElem_cons_zero, List.setIfInBounds_toArray, List.set_cons_zero, List.set_cons_succ]
      exact t14
    · have x1 := cellB KS0.out (i := 1) rfl
      go_simp
      clear hHeld
      refine hK.out _ _ ?_ (fun hHeld => ?_)
      · exact KE0.out
      clear hK K x1
      try simp only [Act.put, List.getElem_toArray, List.getElem_cons_succ, List.getElem_cons_zero, List.setIfInBounds_toArray, List.set_cons_zero, List.set_cons_succ]
      refine wpAnyH_take (i := 12) (v := ?_) rfl (by kernel_rfl) (by kernel_rfl) (by kernel_rfl) (fun _ _ _ h => h) (Or.inl ⟨by rfl, ?_⟩) (by assumption) ?_
      rotate_left 1
      · (intro w hSw; have e0 : w.cell? ⟨eb, 0, none⟩ = some (.int .i64 0) := cellB hSw (i := 0) (by rfl); have e1 : w.cell? ⟨eb, 1, none⟩ = some (.int .i64 0) := cellB hSw (i := 1) (by rfl); have e2 : w.cell? ⟨eb, 2, none⟩ = some (.int .i64 0) := cellB hSw (i := 2) (by rfl); have e3 : w.cell? ⟨eb, 3, none⟩ = some (.string ⟨#[]⟩) := cellB hSw (i := 3) (by rfl); have e4 : w.cell? ⟨eb, 4, none⟩ = some (.string ⟨#[71, 77, 84]⟩) := cellB hSw (i := 4) (by rfl); have e5 : w.cell? ⟨eb, 5, none⟩ = some (.bool true) := cellB hSw (i := 5) (by rfl); have e6 : w.cell? ⟨eb, 6, none⟩ = some (.int .i64 1968) := cellB hSw (i := 6) (by rfl); have e7 : w.cell? ⟨eb, 7, none⟩ = some (.int .i64 10) := cellB hSw (i := 7) (by rfl); have e8 : w.cell? ⟨eb, 8, none⟩ = some (.int .i64 1) := cellB hSw (i := 8) (by rfl); have e9 : w.cell? ⟨eb, 9, none⟩ = some (.int .i64 0) := cellB hSw (i := 9) (by rfl); have e10 : w.cell? ⟨eb, 10, none⟩ = some (.int .i64 27) := cellB hSw (i := 10) (by rfl); have e11 : w.cell? ⟨eb, 11, none⟩ = some (.int .i64 0) := cellB hSw (i := 11) (by rfl); have e12 : w.cell? ⟨eb, 12, none⟩ = some (.int .i64 0) := cellB hSw (i := 12) (by rfl); clear hSw; first | (go_simp; done) | (go_simp; with_reducible rfl))
      try simp only [Act.put, List.getElem_toArray, List.getElem_cons_succ, List.getElem_cons_zero, List.setIfInBounds_toArray, List.set_cons_zero, List.set_cons_succ]
      refine wpAnyH_take (i := 13) (v := ?_) rfl (by kernel_rfl) (by kernel_rfl) (by kernel_rfl) (fun _ _ _ h => h) (Or.inl ⟨by rfl, ?_⟩) (by assumption) ?_
      rotate_left 1
      · (intro w hSw; have e0 : w.cell? ⟨eb, 0, none⟩ = some (.int .i64 0) := cellB hSw (i := 0) (by rfl); have e1 : w.cell? ⟨eb, 1, none⟩ = some (.int .i64 0) := cellB hSw (i := 1) (by rfl); have e2 : w.cell? ⟨eb, 2, none⟩ = some (.int .i64 0) := cellB hSw (i := 2) (by rfl); have e3 : w.cell? ⟨eb, 3, none⟩ = some (.string ⟨#[]⟩) := cellB hSw (i := 3) (by rfl); have e4 : w.cell? ⟨eb, 4, none⟩ = some (.string ⟨#[71, 77, 84]⟩) := cellB hSw (i := 4) (by rfl); have e5 : w.cell? ⟨eb, 5, none⟩ = some (.bool true) := cellB hSw (i := 5) (by rfl); have e6 : w.cell? ⟨eb, 6, none⟩ = some (.int .i64 1968) := cellB hSw (i := 6) (by rfl); have e7 : w.cell? ⟨eb, 7, none⟩ = some (.int .i64 10) := cellB hSw (i := 7) (by rfl); have e8 : w.cell? ⟨eb, 8, none⟩ = some (.int .i64 1) := cellB hSw (i := 8) (by rfl); have e9 : w.cell? ⟨eb, 9, none⟩ = some (.int .i64 0) := cellB hSw (i := 9) (by rfl); have e10 : w.cell? ⟨eb, 10, none⟩ = some (.int .i64 27) := cellB hSw (i := 10) (by rfl); have e11 : w.cell? ⟨eb, 11, none⟩ = some (.int .i64 0) := cellB hSw (i := 11) (by rfl); have e12 : w.cell? ⟨eb, 12, none⟩ = some (.int .i64 0) := cellB hSw (i := 12) (by rfl); clear hSw; first | (go_simp; done) | (go_simp; with_reducible rfl))
      try simp only [Act.put, List.getElem_toArray, List.getElem_cons_succ, List.getElem_cons_zero, List.setIfInBounds_toArray, List.set_cons_zero, List.set_cons_succ]
      exact t12
  case aa9 =>
    have hHeld : w9.heap[eb]? = some (.cells (ex0.arr ++ ex1.arr) 60) := KE0.out
    refine wpAnyH_ready (rs := [4, 14]) (by kernel_rfl) (by simp) ?_
    refine (AllReadyH.cons rfl (fun K hK => ?_) (AllReadyH.cons rfl (fun K hK => ?_) AllReadyH.nil))
    · have x1 := cellB KS0.out (i := 1) rfl
      go_simp
      clear hHeld
      refine hK.out _ _ ?_ (fun hHeld => ?_)
      · exact KE0.out
      clear hK K x1
      try simp only [Act.put, List.getElem_toArray, List.getElem_cons_succ, List.getElem_cons_zero, List.setIfInBounds_toArray, List.set_cons_zero, List.set_cons_succ]
      refine wpAnyH_take (i := 5) (v := ?_) rfl (by kernel_rfl) (by kernel_rfl) (by kernel_rfl) (fun _ _ _ h => h) (Or.inl ⟨by rfl, ?_⟩) (by assumption) ?_
      rotate_left 1
      · (intro w hSw; have e0 : w.cell? ⟨eb, 0, none⟩ = some (.int .i64 0) := cellB hSw (i := 0) (by rfl); have e1 : w.cell? ⟨eb, 1, none⟩ = some (.int .i64 0) := cellB hSw (i := 1) (by rfl); have e2 : w.cell? ⟨eb, 2, none⟩ = some (.int .i64 0) := cellB hSw (i := 2) (by rfl); have e3 : w.cell? ⟨eb, 3, none⟩ = some (.string ⟨#[]⟩) := cellB hSw (i := 3) (by rfl); have e4 : w.cell? ⟨eb, 4, none⟩ = some (.string ⟨#[71, 77, 84]⟩) := cellB hSw (i := 4) (by rfl); have e5 : w.cell? ⟨eb, 5, none⟩ = some (.bool true) := cellB hSw (i := 5) (by rfl); have e6 : w.cell? ⟨eb, 6, none⟩ = some (.int .i64 1968) := cellB hSw (i := 6) (by rfl); have e7 : w.cell? ⟨eb, 7, none⟩ = some (.int .i64 10) := cellB hSw (i := 7) (by rfl); have e8 : w.cell? ⟨eb, 8, none⟩ = some (.int .i64 1) := cellB hSw (i := 8) (by rfl); have e9 : w.cell? ⟨eb, 9, none⟩ = some (.int .i64 0) := cellB hSw (i := 9) (by rfl); have e10 : w.cell? ⟨eb, 10, none⟩ = some (.int .i64 27) := cellB hSw (i := 10) (by rfl); have e11 : w.cell? ⟨eb, 11, none⟩ = some (.int .i64 0) := cellB hSw (i := 11) (by rfl); have e12 : w.cell? ⟨eb, 12, none⟩ = some (.int .i64 0) := cellB hSw (i := 12) (by rfl); clear hSw; first | (go_simp; done) | (go_simp; with_reducible rfl))
      try simp only [Act.put, List.getElem_toArray, List.getElem_cons_succ, List.getElem_cons_zero, List.setIfInBounds_toArray, List.set_cons_zero, List.set_cons_succ]
      refine wpAnyH_take (i := 6) (v := ?_) rfl (by kernel_rfl) (by kernel_rfl) (by kernel_rfl) (fun _ _ _ h => h) (Or.inl ⟨by rfl, ?_⟩) (by assumption) ?_
      rotate_left 1
      · (intro w hSw; have e0 : w.cell? ⟨eb, 0, none⟩ = some (.int .i64 0) := cellB hSw (i := 0) (by rfl); have e1 : w.cell? ⟨eb, 1, none⟩ = some (.int .i64 0) := cellB hSw (i := 1) (by rfl); have e2 : w.cell? ⟨eb, 2, none⟩ = some (.int .i64 0) := cellB hSw (i := 2) (by rfl); have e3 : w.cell? ⟨eb, 3, none⟩ = some (.string ⟨#[]⟩) := cellB hSw (i := 3) (by rfl); have e4 : w.cell? ⟨eb, 4, none⟩ = some (.string ⟨#[71, 77, 84]⟩) := cellB hSw (i := 4) (by rfl); have e5 : w.cell? ⟨eb, 5, none⟩ = some (.bool true) := cellB hSw (i := 5) (by rfl); have e6 : w.cell? ⟨eb, 6, none⟩ = some (.int .i64 1968) := cellB hSw (i := 6) (by rfl); have e7 : w.cell? ⟨eb, 7, none⟩ = some (.int .i64 10) := cellB hSw (i := 7) (by rfl); have e8 : w.cell? ⟨eb, 8, none⟩ = some (.int .i64 1) := cellB hSw (i := 8) (by rfl); have e9 : w.cell? ⟨eb, 9, none⟩ = some (.int .i64 0) := cellB hSw (i := 9) (by rfl); have e10 : w.cell? ⟨eb, 10, none⟩ = some (.int .i64 27) := cellB hSw (i := 10) (by rfl); have e11 : w.cell? ⟨eb, 11, none⟩ = some (.int .i64 0) := cellB hSw (i := 11) (by rfl); have e12 : w.cell? ⟨eb, 12, none⟩ = some (.int .i64 0) := cellB hSw (i := 12) (by rfl); clear hSw; first | (go_simp; done) | (go_simp; with_reducible rfl))
      try simp only [Act.put, List.getElem_toArray, List.getElem_cons_succ, List.getElem_cons_zero, List.setIfInBounds_toArray, List.set_cons_zero, List.set_cons_succ]
      exact t15
    · have x1 := cellB KZ.out (i := 1) rfl
      go_simp
      clear hHeld
      refine hK.out _ _ ?_ (fun hHeld => ?_)
      · exact KE0.out
      clear hK K x1
      try simp only [Act.put, List.getElem_toArray, List.getElem_cons_succ, List.getElem_cons_zero, List.setIfInBounds_toArray, List.set_cons_zero, List.set_cons_succ]
      refine wpAnyH_take (i := 15) (v := ?_) rfl (by kernel_rfl) (by kernel_rfl) (by kernel_rfl) (fun _ _ _ h => h) (Or.inl ⟨by rfl, ?_⟩) (by assumption) ?_
      rotate_left 1
      · (intro w hSw; have e0 : w.cell? ⟨eb, 0, none⟩ = some (.int .i64 0) := cellB hSw (i := 0) (by rfl); have e1 : w.cell? ⟨eb, 1, none⟩ = some (.int .i64 0) := cellB hSw (i := 1) (by rfl); have e2 : w.cell? ⟨eb, 2, none⟩ = some (.int .i64 0) := cellB hSw (i := 2) (by rfl); have e3 : w.cell? ⟨eb, 3, none⟩ = some (.string ⟨#[]⟩) := cellB hSw (i := 3) (by rfl); have e4 : w.cell? ⟨eb, 4, none⟩ = some (.string ⟨#[71, 77, 84]⟩) := cellB hSw (i := 4) (by rfl); have e5 : w.cell? ⟨eb, 5, none⟩ = some (.bool true) := cellB hSw (i := 5) (by rfl); have e6 : w.cell? ⟨eb, 6, none⟩ = some (.int .i64 1968) := cellB hSw (i := 6) (by rfl); have e7 : w.cell? ⟨eb, 7, none⟩ = some (.int .i64 10) := cellB hSw (i := 7) (by rfl); have e8 : w.cell? ⟨eb, 8, none⟩ = some (.int .i64 1) := cellB hSw (i := 8) (by rfl); have e9 : w.cell? ⟨eb, 9, none⟩ = some (.int .i64 0) := cellB hSw (i := 9) (by rfl); have e10 : w.cell? ⟨eb, 10, none⟩ = some (.int .i64 27) := cellB hSw (i := 10) (by rfl); have e11 : w.cell? ⟨eb, 11, none⟩ = some (.int .i64 0) := cellB hSw (i := 11) (by rfl); have e12 : w.cell? ⟨eb, 12, none⟩ = some (.int .i64 0) := cellB hSw (i := 12) (by rfl); clear hSw; first | (go_simp; done) | (go_simp; with_reducible rfl))
      try simp only [Act.put, List.getElem_toArray, List.getElem_cons_succ, List.getElem_cons_zero, List.setIfInBounds_toArray, List.set_cons_zero, List.set_cons_succ]
      refine wpAnyH_take (i := 16) (v := ?_) rfl (by kernel_rfl) (by kernel_rfl) (by kernel_rfl) (fun _ _ _ h => h) (Or.inl ⟨by rfl, ?_⟩) (by assumption) ?_
      rotate_left 1
      · (intro w hSw; have e0 : w.cell? ⟨eb, 0, none⟩ = some (.int .i64 0) := cellB hSw (i := 0) (by rfl); have e1 : w.cell? ⟨eb, 1, none⟩ = some (.int .i64 0) := cellB hSw (i := 1) (by rfl); have e2 : w.cell? ⟨eb, 2, none⟩ = some (.int .i64 0) := cellB hSw (i := 2) (by rfl); have e3 : w.cell? ⟨eb, 3, none⟩ = some (.string ⟨#[]⟩) := cellB hSw (i := 3) (by rfl); have e4 : w.cell? ⟨eb, 4, none⟩ = some (.string ⟨#[71, 77, 84]⟩) := cellB hSw (i := 4) (by rfl); have e5 : w.cell? ⟨eb, 5, none⟩ = some (.bool true) := cellB hSw (i := 5) (by rfl); have e6 : w.cell? ⟨eb, 6, none⟩ = some (.int .i64 1968) := cellB hSw (i := 6) (by rfl); have e7 : w.cell? ⟨eb, 7, none⟩ = some (.int .i64 10) := cellB hSw (i := 7) (by rfl); have e8 : w.cell? ⟨eb, 8, none⟩ = some (.int .i64 1) := cellB hSw (i := 8) (by rfl); have e9 : w.cell? ⟨eb, 9, none⟩ = some (.int .i64 0) := cellB hSw (i := 9) (by rfl); have e10 : w.cell? ⟨eb, 10, none⟩ = some (.int .i64 27) := cellB hSw (i := 10) (by rfl); have e11 : w.cell? ⟨eb, 11, none⟩ = some (.int .i64 0) := cellB hSw (i := 11) (by rfl); have e12 : w.cell? ⟨eb, 12, none⟩ = some (.int .i64 0) := cellB hSw (i := 12) (by rfl); clear hSw; first | (go_simp; done) | (go_simp; with_reducible rfl))
      try simp only [Act.put, List.getElem_toArray, List.getElem_cons_succ, List.getElem_cons_zero, List.setIfInBounds_toArray, List.set_cons_zero, List.set_cons_succ]
      exact t13
  case aa8 =>
    have hHeld : w9.heap[eb]? = some (.cells (ex0.arr ++ ex1.arr) 60) := KE0.out
    refine wpAnyH_ready (rs := [4]) (by kernel_rfl) (by simp) ?_
    refine (AllReadyH.cons rfl (fun K hK => ?_) AllReadyH.nil)
    · have x1 := cellB KS0.out (i := 1) rfl
      go_simp
      clear hHeld
      refine hK.out _ _ ?_ (fun hHeld => ?_)
      · exact KE0.out
      clear hK K x1
      try simp only [Act.put, List.getElem_toArray, List.getElem_cons_succ, List.getElem_cons_zero, List.setIfInBounds_toArray, List.set_cons_zero, List.set_cons_succ]
      refine wpAnyH_take (i := 5) (v := ?_) rfl (by kernel_rfl) (by kernel_rfl) (by kernel_rfl) (fun _ _ _ h => h) (Or.inl ⟨by rfl, ?_⟩) (by assumption) ?_
      rotate_left 1
      · (intro w hSw; have e0 : w.cell? ⟨eb, 0, none⟩ = some (.int .i64 0) := cellB hSw (i := 0) (by rfl); have e1 : w.cell? ⟨eb, 1, none⟩ = some (.int .i64 0) := cellB hSw (i := 1) (by rfl); have e2 : w.cell? ⟨eb, 2, none⟩ = some (.int .i64 0) := cellB hSw (i := 2) (by rfl); have e3 : w.cell? ⟨eb, 3, none⟩ = some (.string ⟨#[]⟩) := cellB hSw (i := 3) (by rfl); have e4 : w.cell? ⟨eb, 4, none⟩ = some (.string ⟨#[71, 77, 84]⟩) := cellB hSw (i := 4) (by rfl); have e5 : w.cell? ⟨eb, 5, none⟩ = some (.bool true) := cellB hSw (i := 5) (by rfl); have e6 : w.cell? ⟨eb, 6, none⟩ = some (.int .i64 1968) := cellB hSw (i := 6) (by rfl); have e7 : w.cell? ⟨eb, 7, none⟩ = some (.int .i64 10) := cellB hSw (i := 7) (by rfl); have e8 : w.cell? ⟨eb, 8, none⟩ = some (.int .i64 1) := cellB hSw (i := 8) (by rfl); have e9 : w.cell? ⟨eb, 9, none⟩ = some (.int .i64 0) := cellB hSw (i := 9) (by rfl); have e10 : w.cell? ⟨eb, 10, none⟩ = some (.int .i64 27) := cellB hSw (i := 10) (by rfl); have e11 : w.cell? ⟨eb, 11, none⟩ = some (.int .i64 0) := cellB hSw (i := 11) (by rfl); have e12 : w.cell? ⟨eb, 12, none⟩ = some (.int .i64 0) := cellB hSw (i := 12) (by rfl); clear hSw; first | (go_simp; done) | (go_simp; with_reducible rfl))
      try simp only [Act.put, List.getElem_toArray, List.getElem_cons_succ, List.getElem_cons_zero, List.setIfInBounds_toArray, List.set_cons_zero, List.set_cons_succ]
      refine wpAnyH_take (i := 6) (v := ?_) rfl (by kernel_rfl) (by kernel_rfl) (by kernel_rfl) (fun _ _ _ h => h) (Or.inl ⟨by rfl, ?_⟩) (by assumption) ?_
      rotate_left 1
      · (intro w hSw; have e0 : w.cell? ⟨eb, 0, none⟩ = some (.int .i64 0) := cellB hSw (i := 0) (by rfl); have e1 : w.cell? ⟨eb, 1, none⟩ = some (.int .i64 0) := cellB hSw (i := 1) (by rfl); have e2 : w.cell? ⟨eb, 2, none⟩ = some (.int .i64 0) := cellB hSw (i := 2) (by rfl); have e3 : w.cell? ⟨eb, 3, none⟩ = some (.string ⟨#[]⟩) := cellB hSw (i := 3) (by rfl); have e4 : w.cell? ⟨eb, 4, none⟩ = some (.string ⟨#[71, 77, 84]⟩) := cellB hSw (i := 4) (by rfl); have e5 : w.cell? ⟨eb, 5, none⟩ = some (.bool true) := cellB hSw (i := 5) (by rfl); have e6 : w.cell? ⟨eb, 6, none⟩ = some (.int .i64 1968) := cellB hSw (i := 6) (by rfl); have e7 : w.cell? ⟨eb, 7, none⟩ = some (.int .i64 10) := cellB hSw (i := 7) (by rfl); have e8 : w.cell? ⟨eb, 8, none⟩ = some (.int .i64 1) := cellB hSw (i := 8) (by rfl); have e9 : w.cell? ⟨eb, 9, none⟩ = some (.int .i64 0) := cellB hSw (i := 9) (by rfl); have e10 : w.cell? ⟨eb, 10, none⟩ = some (.int .i64 27) := cellB hSw (i := 10) (by rfl); have e11 : w.cell? ⟨eb, 11, none⟩ = some (.int .i64 0) := cellB hSw (i := 11) (by rfl); have e12 : w.cell? ⟨eb, 12, none⟩ = some (.int .i64 0) := cellB hSw (i := 12) (by rfl); clear hSw; first | (go_simp; done) | (go_simp; with_reducible rfl))
      try simp only [Act.put, List.getElem_toArray, List.getElem_cons_succ, List.getElem_cons_zero, List.setIfInBounds_toArray, List.set_cons_zero, List.set_cons_succ]
      exact t16
  case aa7 =>
    have hHeld : w9.heap[eb]? = some (.cells (ex0.arr ++ ex1.arr) 60) := KE0.out
    refine wpAnyH_ready (rs := [7, 11]) (by kernel_rfl) (by simp) ?_
    refine (AllReadyH.cons rfl (fun K hK => ?_) (AllReadyH.cons rfl (fun K hK => ?_) AllReadyH.nil))
    · have x1 := cellB KZ.out (i := 1) rfl
      go_simp
      clear hHeld
      refine hK.out _ _ ?_ (fun hHeld => ?_)
      · exact KE0.out
      clear hK K x1
      try simp only [Act.put, List.getElem_toArray, List.getElem_cons_succ, List.getElem_cons_zero, List.setIfInBounds_toArray, List.set_cons_zero, List.set_cons_succ]
      refine wpAnyH_take (i := 8) (v := ?_) rfl (by kernel_rfl) (by kernel_rfl) (by kernel_rfl) (fun _ _ _ h => h) (Or.inl ⟨by rfl, ?_⟩) (by assumption) ?_
      rotate_left 1
      · (intro w hSw; have e0 : w.cell? ⟨eb, 0, none⟩ = some (.int .i64 0) := cellB hSw (i := 0) (by rfl); have e1 : w.cell? ⟨eb, 1, none⟩ = some (.int .i64 0) := cellB hSw (i := 1) (by rfl); have e2 : w.cell? ⟨eb, 2, none⟩ = some (.int .i64 0) := cellB hSw (i := 2) (by rfl); have e3 : w.cell? ⟨eb, 3, none⟩ = some (.string ⟨#[]⟩) := cellB hSw (i := 3) (by rfl); have e4 : w.cell? ⟨eb, 4, none⟩ = some (.string ⟨#[71, 77, 84]⟩) := cellB hSw (i := 4) (by rfl); have e5 : w.cell? ⟨eb, 5, none⟩ = some (.bool true) := cellB hSw (i := 5) (by rfl); have e6 : w.cell? ⟨eb, 6, none⟩ = some (.int .i64 1968) := cellB hSw (i := 6) (by rfl); have e7 : w.cell? ⟨eb, 7, none⟩ = some (.int .i64 10) := cellB hSw (i := 7) (by rfl); have e8 : w.cell? ⟨eb, 8, none⟩ = some (.int .i64 1) := cellB hSw (i := 8) (by rfl); have e9 : w.cell? ⟨eb, 9, none⟩ = some (.int .i64 0) := cellB hSw (i := 9) (by rfl); have e10 : w.cell? ⟨eb, 10, none⟩ = some (.int .i64 27) := cellB hSw (i := 10) (by rfl); have e11 : w.cell? ⟨eb, 11, none⟩ = some (.int .i64 0) := cellB hSw (i := 11) (by rfl); have e12 : w.cell? ⟨eb, 12, none⟩ = some (.int .i64 0) := cellB hSw (i := 12) (by rfl); clear hSw; first | (go_simp; done) | (go_simp; with_reducible rfl))
      try simp only [Act.put, List.getElem_toArray, List.getElem_cons_succ, List.getElem_cons_zero, List.setIfInBounds_toArray, List.set_cons_zero, List.set_cons_succ]
      refine wpAnyH_take (i := 9) (v := ?_) rfl (by kernel_rfl) (by kernel_rfl) (by kernel_rfl) (fun _ _ _ h => h) (Or.inl ⟨by rfl, ?_⟩) (by assumption) ?_
      rotate_left 1
      · (intro w hSw; have e0 : w.cell? ⟨eb, 0, none⟩ = some (.int .i64 0) := cellB hSw (i := 0) (by rfl); have e1 : w.cell? ⟨eb, 1, none⟩ = some (.int .i64 0) := cellB hSw (i := 1) (by rfl); have e2 : w.cell? ⟨eb, 2, none⟩ = some (.int .i64 0) := cellB hSw (i := 2) (by rfl); have e3 : w.cell? ⟨eb, 3, none⟩ = some (.string ⟨#[]⟩) := cellB hSw (i := 3) (by rfl); have e4 : w.cell? ⟨eb, 4, none⟩ = some (.string ⟨#[71, 77, 84]⟩) := cellB hSw (i := 4) (by rfl); have e5 : w.cell? ⟨eb, 5, none⟩ = some (.bool true) := cellB hSw (i := 5) (by rfl); have e6 : w.cell? ⟨eb, 6, none⟩ = some (.int .i64 1968) := cellB hSw (i := 6) (by rfl); have e7 : w.cell? ⟨eb, 7, none⟩ = some (.int .i64 10) := cellB hSw (i := 7) (by rfl); have e8 : w.cell? ⟨eb, 8, none⟩ = some (.int .i64 1) := cellB hSw (i := 8) (by rfl); have e9 : w.cell? ⟨eb, 9, none⟩ = some (.int .i64 0) := cellB hSw (i := 9) (by rfl); have e10 : w.cell? ⟨eb, 10, none⟩ = some (.int .i64 27) := cellB hSw (i := 10) (by rfl); have e11 : w.cell? ⟨eb, 11, none⟩ = some (.int .i64 0) := cellB hSw (i := 11) (by rfl); have e12 : w.cell? ⟨eb, 12, none⟩ = some (.int .i64 0) := cellB hSw (i := 12) (by rfl); clear hSw; first | (go_simp; done) | (go_simp; with_reducible rfl))
      try simp only [Act.put, List.getElem_toArray, List.getElem_cons_succ, List.getElem_cons_zero, List.setIfInBounds_toArray, List.set_cons_zero, List.set_cons_succ]
      exact t17
    · have x1 := cellB KS0.out (i := 1) rfl
      go_simp
      clear hHeld
      refine hK.out _ _ ?_ (fun hHeld => ?_)
      · exact KE0.out
      clear hK K x1
      try simp only [Act.put, List.getElem_toArray, List.getElem_cons_succ, List.getElem_cons_zero, List.setIfInBounds_toArray, List.set_cons_zero, List.set_cons_succ]
      refine wpAnyH_take (i := 12) (v := ?_) rfl (by kernel_rfl) (by kernel_rfl) (by kernel_rfl) (fun _ _ _ h => h) (Or.inl ⟨by rfl, ?_⟩) (by assumption) ?_
      rotate_left 1
      · (intro w hSw; have e0 : w.cell? ⟨eb, 0, none⟩ = some (.int .i64 0) := cellB hSw (i := 0) (by rfl); have e1 : w.cell? ⟨eb, 1, none⟩ = some (.int .i64 0) := cellB hSw (i := 1) (by rfl); have e2 : w.cell? ⟨eb, 2, none⟩ = some (.int .i64 0) := cellB hSw (i := 2) (by rfl); have e3 : w.cell? ⟨eb, 3, none⟩ = some (.string ⟨#[]⟩) := cellB hSw (i := 3) (by rfl); have e4 : w.cell? ⟨eb, 4, none⟩ = some (.string ⟨#[71, 77, 84]⟩) := cellB hSw (i := 4) (by rfl); have e5 : w.cell? ⟨eb, 5, none⟩ = some (.bool true) := cellB hSw (i := 5) (by rfl); have e6 : w.cell? ⟨eb, 6, none⟩ = some (.int .i64 1968) := cellB hSw (i := 6) (by rfl); have e7 : w.cell? ⟨eb, 7, none⟩ = some (.int .i64 10) := cellB hSw (i := 7) (by rfl); have e8 : w.cell? ⟨eb, 8, none⟩ = some (.int .i64 1) := cellB hSw (i := 8) (by rfl); have e9 : w.cell? ⟨eb, 9, none⟩ = some (.int .i64 0) := cellB hSw (i := 9) (by rfl); have e10 : w.cell? ⟨eb, 10, none⟩ = some (.int .i64 27) := cellB hSw (i := 10) (by rfl); have e11 : w.cell? ⟨eb, 11, none⟩ = some (.int .i64 0) := cellB hSw (i := 11) (by rfl); have e12 : w.cell? ⟨eb, 12, none⟩ = some (.int .i64 0) := cellB hSw (i := 12) (by rfl); clear hSw; first | (go_simp; done) | (go_simp; with_reducible rfl))
      try simp only [Act.put, List.getElem_toArray, List.getElem_cons_succ, List.getElem_cons_zero, List.setIfInBounds_toArray, List.set_cons_zero, List.set_cons_succ]
      refine wpAnyH_take (i := 13) (v := ?_) rfl (by kernel_rfl) (by kernel_rfl) (by kernel_rfl) (fun _ _ _ h => h) (Or.inl ⟨by rfl, ?_⟩) (by assumption) ?_
      rotate_left 1
      · (intro w hSw; have e0 : w.cell? ⟨eb, 0, none⟩ = some (.int .i64 0) := cellB hSw (i := 0) (by rfl); have e1 : w.cell? ⟨eb, 1, none⟩ = some (.int .i64 0) := cellB hSw (i := 1) (by rfl); have e2 : w.cell? ⟨eb, 2, none⟩ = some (.int .i64 0) := cellB hSw (i := 2) (by rfl); have e3 : w.cell? ⟨eb, 3, none⟩ = some (.string ⟨#[]⟩) := cellB hSw (i := 3) (by rfl); have e4 : w.cell? ⟨eb, 4, none⟩ = some (.string ⟨#[71, 77, 84]⟩) := cellB hSw (i := 4) (by rfl); have e5 : w.cell? ⟨eb, 5, none⟩ = some (.bool true) := cellB hSw (i := 5) (by rfl); have e6 : w.cell? ⟨eb, 6, none⟩ = some (.int .i64 1968) := cellB hSw (i := 6) (by rfl); have e7 : w.cell? ⟨eb, 7, none⟩ = some (.int .i64 10) := cellB hSw (i := 7) (by rfl); have e8 : w.cell? ⟨eb, 8, none⟩ = some (.int .i64 1) := cellB hSw (i := 8) (by rfl); have e9 : w.cell? ⟨eb, 9, none⟩ = some (.int .i64 0) := cellB hSw (i := 9) (by rfl); have e10 : w.cell? ⟨eb, 10, none⟩ = some (.int .i64 27) := cellB hSw (i := 10) (by rfl); have e11 : w.cell? ⟨eb, 11, none⟩ = some (.int .i64 0) := cellB hSw (i := 11) (by rfl); have e12 : w.cell? ⟨eb, 12, none⟩ = some (.int .i64 0) := cellB hSw (i := 12) (by rfl); clear hSw; first | (go_simp; done) | (go_simp; with_reducible rfl))
      try simp only [Act.put, List.getElem_toArray, List.getElem_cons_succ, List.getElem_cons_zero, List.setIfInBounds_toArray, List.set_cons_zero, List.set_cons_succ]
      exact t15
  case aa6 =>
    have hHeld : w9.heap[eb]? = some (.cells (ex0.arr ++ ex1.arr) 60) := KE0.out
    refine wpAnyH_ready (rs := [7, 14]) (by kernel_rfl) (by simp) ?_
    refine (AllReadyH.cons rfl (fun K hK => ?_) (AllReadyH.cons rfl (fun K hK => ?_) AllReadyH.nil))
    · have x1 := cellB KZ.out (i := 1) rfl
      go_simp
      clear hHeld
      refine hK.out _ _ ?_ (fun hHeld => ?_)
      · exact KE0.out
      clear hK K x1
      try simp only [Act.put, List.getElem_toArray, List.getElem_cons_succ, List.getElem_cons_zero, List.setIfInBounds_toArray, List.set_cons_zero, List.set_cons_succ]
      refine wpAnyH_take (i := 8) (v := ?_) rfl (by kernel_rfl) (by kernel_rfl) (by kernel_rfl) (fun _ _ _ h => h) (Or.inl ⟨by rfl, ?_⟩) (by assumption) ?_
      rotate_left 1
      · (intro w hSw; have e0 : w.cell? ⟨eb, 0, none⟩ = some (.int .i64 0) := cellB hSw (i := 0) (by rfl); have e1 : w.cell? ⟨eb, 1, none⟩ = some (.int .i64 0) := cellB hSw (i := 1) (by rfl); have e2 : w.cell? ⟨eb, 2, none⟩ = some (.int .i64 0) := cellB hSw (i := 2) (by rfl); have e3 : w.cell? ⟨eb, 3, none⟩ = some (.string ⟨#[]⟩) := cellB hSw (i := 3) (by rfl); have e4 : w.cell? ⟨eb, 4, none⟩ = some (.string ⟨#[71, 77, 84]⟩) := cellB hSw (i := 4) (by rfl); have e5 : w.cell? ⟨eb, 5, none⟩ = some (.bool true) := cellB hSw (i := 5) (by rfl); have e6 : w.cell? ⟨eb, 6, none⟩ = some (.int .i64 1968) := cellB hSw (i := 6) (by rfl); have e7 : w.cell? ⟨eb, 7, none⟩ = some (.int .i64 10) := cellB hSw (i := 7) (by rfl); have e8 : w.cell? ⟨eb, 8, none⟩ = some (.int .i64 1) := cellB hSw (i := 8) (by rfl); have e9 : w.cell? ⟨eb, 9, none⟩ = some (.int .i64 0) := cellB hSw (i := 9) (by rfl); have e10 : w.cell? ⟨eb, 10, none⟩ = some (.int .i64 27) := cellB hSw (i := 10) (by rfl); have e11 : w.cell? ⟨eb, 11, none⟩ = some (.int .i64 0) := cellB hSw (i := 11) (by rfl); have e12 : w.cell? ⟨eb, 12, none⟩ = some (.int .i64 0) := cellB hSw (i := 12) (by rfl); clear hSw; first | (go_simp; done) | (go_simp; with_reducible rfl))
      try simp only [Act.put, List.getElem_toArray, List.getElem_cons_succ, List.getElem_cons_zero, List.setIfInBounds_toArray, List.set_cons_zero, List.set_cons_succ]
      refine wpAnyH_take (i := 9) (v := ?_) rfl (by kernel_rfl) (by kernel_rfl) (by kernel_rfl) (fun _ _ _ h => h) (Or.inl ⟨by rfl, ?_⟩) (by assumption) ?_
      rotate_left 1
      · (intro w hSw; have e0 : w.cell? ⟨eb, 0, none⟩ = some (.int .i64 0) := cellB hSw (i := 0) (by rfl); have e1 : w.cell? ⟨eb, 1, none⟩ = some (.int .i64 0) := cellB hSw (i := 1) (by rfl); have e2 : w.cell? ⟨eb, 2, none⟩ = some (.int .i64 0) := cellB hSw (i := 2) (by rfl); have e3 : w.cell? ⟨eb, 3, none⟩ = some (.string ⟨#[]⟩) := cellB hSw (i := 3) (by rfl); have e4 : w.cell? ⟨eb, 4, none⟩ = some (.string ⟨#[71, 77, 84]⟩) := cellB hSw (i := 4) (by rfl); have e5 : w.cell? ⟨eb, 5, none⟩ = some (.bool true) := cellB hSw (i := 5) (by rfl); have e6 : w.cell? ⟨eb, 6, none⟩ = some (.int .i64 1968) := cellB hSw (i := 6) (by rfl); have e7 : w.cell? ⟨eb, 7, none⟩ = some (.int .i64 10) := cellB hSw (i := 7) (by rfl); have e8 : w.cell? ⟨eb, 8, none⟩ = some (.int .i64 1) := cellB hSw (i := 8) (by rfl); have e9 : w.cell? ⟨eb, 9, none⟩ = some (.int .i64 0) := cellB hSw (i := 9) (by rfl); have e10 : w.cell? ⟨eb, 10, none⟩ = some (.int .i64 27) := cellB hSw (i := 10) (by rfl); have e11 : w.cell? ⟨eb, 11, none⟩ = some (.int .i64 0) := cellB hSw (i := 11) (by rfl); have e12 : w.cell? ⟨eb, 12, none⟩ = some (.int .i64 0) := cellB hSw (i := 12) (by rfl); clear hSw; first | (go_simp; done) | (go_simp; with_reducible rfl))
      try simp only [Act.put, List.getElem_toArray, List.getElem_cons_succ, List.getElem_cons_zero, List.setIfInBounds_toArray, List.set_cons_zero, List.set_cons_succ]
      exact t18
    · have x1 := cellB KZ.out (i := 1) rfl
      go_simp
      clear hHeld
      refine hK.out _ _ ?_ (fun hHeld => ?_)
      · exact KE0.out
      clear hK K x1
      try simp only [Act.put, List.getElem_toArray, List.getElem_cons_succ, List.getElem_cons_zero, List.setIfInBounds_toArray, List.set_cons_zero, List.set_cons_succ]
      refine wpAnyH_take (i := 15) (v := ?_) rfl (by kernel_rfl) (by kernel_rfl) (by kernel_rfl) (fun _ _ _ h => h) (Or.inl ⟨by rfl, ?_⟩) (by assumption) ?_
      rotate_left 1
      · (intro w hSw; have e0 : w.cell? ⟨eb, 0, none⟩ = some (.int .i64 0) := cellB hSw (i := 0) (by rfl); have e1 : w.cell? ⟨eb, 1, none⟩ = some (.int .i64 0) := cellB hSw (i := 1) (by rfl); have e2 : w.cell? ⟨eb, 2, none⟩ = some (.int .i64 0) := cellB hSw (i := 2) (by rfl); have e3 : w.cell? ⟨eb, 3, none⟩ = some (.string ⟨#[]⟩) := cellB hSw (i := 3) (by rfl); have e4 : w.cell? ⟨eb, 4, none⟩ = some (.string ⟨#[71, 77, 84]⟩) := cellB hSw (i := 4) (by rfl); have e5 : w.cell? ⟨eb, 5, none⟩ = some (.bool true) := cellB hSw (i := 5) (by rfl); have e6 : w.cell? ⟨eb, 6, none⟩ = some (.int .i64 1968) := cellB hSw (i := 6) (by rfl); have e7 : w.cell? ⟨eb, 7, none⟩ = some (.int .i64 10) := cellB hSw (i := 7) (by rfl); have e8 : w.cell? ⟨eb, 8, none⟩ = some (.int .i64 1) := cellB hSw (i := 8) (by rfl); have e9 : w.cell? ⟨eb, 9, none⟩ = some (.int .i64 0) := cellB hSw (i := 9) (by rfl); have e10 : w.cell? ⟨eb, 10, none⟩ = some (.int .i64 27) := cellB hSw (i := 10) (by rfl); have e11 : w.cell? ⟨eb, 11, none⟩ = some (.int .i64 0) := cellB hSw (i := 11) (by rfl); have e12 : w.cell? ⟨eb, 12, none⟩ = some (.int .i64 0) := cellB hSw (i := 12) (by rfl); clear hSw; first | (go_simp; done) | (go_simp; with_reducible rfl))
      try simp only [Act.put, List.getElem_toArray, List.getElem_cons_succ, List.getElem_cons_zero, List.setIfInBounds_toArray, List.set_cons_zero, List.set_cons_succ]
      refine wpAnyH_take (i := 16) (v := ?_) rfl (by kernel_rfl) (by kernel_rfl) (by kernel_rfl) (fun _ _ _ h => h) (Or.inl ⟨by rfl, ?_⟩) (by assumption) ?_
      rotate_left 1
      · (intro w hSw; have e0 : w.cell? ⟨eb, 0, none⟩ = some (.int .i64 0) := cellB hSw (i := 0) (by rfl); have e1 : w.cell? ⟨eb, 1, none⟩ = some (.int .i64 0) := cellB hSw (i := 1) (by rfl); have e2 : w.cell? ⟨eb, 2, none⟩ = some (.int .i64 0) := cellB hSw (i := 2) (by rfl); have e3 : w.cell? ⟨eb, 3, none⟩ = some (.string ⟨#[]⟩) := cellB hSw (i := 3) (by rfl); have e4 : w.cell? ⟨eb, 4, none⟩ = some (.string ⟨#[71, 77, 84]⟩) := cellB hSw (i := 4) (by rfl); have e5 : w.cell? ⟨eb, 5, none⟩ = some (.bool true) := cellB hSw (i := 5) (by rfl); have e6 : w.cell? ⟨eb, 6, none⟩ = some (.int .i64 1968) := cellB hSw (i := 6) (by rfl); have e7 : w.cell? ⟨eb, 7, none⟩ = some (.int .i64 10) := cellB hSw (i := 7) (by rfl); have e8 : w.cell? ⟨eb, 8, none⟩ = some (.int .i64 1) := cellB hSw (i := 8) (by rfl); have e9 : w.cell? ⟨eb, 9, none⟩ = some (.int .i64 0) := cellB hSw (i := 9) (by rfl); have e10 : w.cell? ⟨eb, 10, none⟩ = some (.int .i64 27) := cellB hSw (i := 10) (by rfl); have e11 : w.cell? ⟨eb, 11, none⟩ = some (.int .i64 0) := cellB hSw (i := 11) (by rfl); have e12 : w.cell? ⟨eb, 12, none⟩ = some (.int .i64 0) := cellB hSw (i := 12) (by rfl); clear hSw; first | (go_simp; done) | (go_simp; with_reducible rfl))
      try simp only [Act.put, List.getElem_toArray, List.getElem_cons_succ, List.getElem_cons_zero, List.setIfInBounds_toArray, List.set_cons_zero, List.set_cons_succ]
      exact t16
  case aa5 =>
    have hHeld : w9.heap[eb]? = some (.cells (ex0.arr ++ ex1.arr) 60) := KE0.out
    refine wpAnyH_ready (rs := [7]) (by kernel_rfl) (by simp) ?_
    refine (AllReadyH.cons rfl (fun K hK => ?_) AllReadyH.nil)
    · have x1 := cellB KZ.out (i := 1) rfl
      go_simp
      clear hHeld
      refine hK.out _ _ ?_ (fun hHeld => ?_)
      · exact KE0.out
      clear hK K x1
      try simp only [Act.put, List.getElem_toArray, List.getElem_cons_succ, List.getElem_cons_zero, List.setIfInBounds_toArray, List.set_cons_zero, List.set_cons_succ]
      refine wpAnyH_take (i := 8) (v := ?_) rfl (by kernel_rfl) (by kernel_rfl) (by kernel_rfl) (fun _ _ _ h => h) (Or.inl ⟨by rfl, ?_⟩) (by assumption) ?_
      rotate_left 1
      · (intro w hSw; have e0 : w.cell? ⟨eb, 0, none⟩ = some (.int .i64 0) := cellB hSw (i := 0) (by rfl); have e1 : w.cell? ⟨eb, 1, none⟩ = some (.int .i64 0) := cellB hSw (i := 1) (by rfl); have e2 : w.cell? ⟨eb, 2, none⟩ = some (.int .i64 0) := cellB hSw (i := 2) (by rfl); have e3 : w.cell? ⟨eb, 3, none⟩ = some (.string ⟨#[]⟩) := cellB hSw (i := 3) (by rfl); have e4 : w.cell? ⟨eb, 4, none⟩ = some (.string ⟨#[71, 77, 84]⟩) := cellB hSw (i := 4) (by rfl); have e5 : w.cell? ⟨eb, 5, none⟩ = some (.bool true) := cellB hSw (i := 5) (by rfl); have e6 : w.cell? ⟨eb, 6, none⟩ = some (.int .i64 1968) := cellB hSw (i := 6) (by rfl); have e7 : w.cell? ⟨eb, 7, none⟩ = some (.int .i64 10) := cellB hSw (i := 7) (by rfl); have e8 : w.cell? ⟨eb, 8, none⟩ = some (.int .i64 1) := cellB hSw (i := 8) (by rfl); have e9 : w.cell? ⟨eb, 9, none⟩ = some (.int .i64 0) := cellB hSw (i := 9) (by rfl); have e10 : w.cell? ⟨eb, 10, none⟩ = some (.int .i64 27) := cellB hSw (i := 10) (by rfl); have e11 : w.cell? ⟨eb, 11, none⟩ = some (.int .i64 0) := cellB hSw (i := 11) (by rfl); have e12 : w.cell? ⟨eb, 12, none⟩ = some (.int .i64 0) := cellB hSw (i := 12) (by rfl); clear hSw; first | (go_simp; done) | (go_simp; with_reducible rfl))
      try simp only [Act.put, List.getElem_toArray, List.getElem_cons_succ, List.getElem_cons_zero, List.setIfInBounds_toArray, List.set_cons_zero, List.set_cons_succ]
      refine wpAnyH_take (i := 9) (v := ?_) rfl (by kernel_rfl) (by kernel_rfl) (by kernel_rfl) (fun _ _ _ h => h) (Or.inl ⟨by rfl, ?_⟩) (by assumption) ?_
      rotate_left 1
      · (intro w hSw; have e0 : w.cell? ⟨eb, 0, none⟩ = some (.int .i64 0) := cellB hSw (i := 0) (by rfl); have e1 : w.cell? ⟨eb, 1, none⟩ = some (.int .i64 0) := cellB hSw (i := 1) (by rfl); have e2 : w.cell? ⟨eb, 2, none⟩ = some (.int .i64 0) := cellB hSw (i := 2) (by rfl); have e3 : w.cell? ⟨eb, 3, none⟩ = some (.string ⟨#[]⟩) := cellB hSw (i := 3) (by rfl); have e4 : w.cell? ⟨eb, 4, none⟩ = some (.string ⟨#[71, 77, 84]⟩) := cellB hSw (i := 4) (by rfl); have e5 : w.cell? ⟨eb, 5, none⟩ = some (.bool true) := cellB hSw (i := 5) (by rfl); have e6 : w.cell? ⟨eb, 6, none⟩ = some (.int .i64 1968) := cellB hSw (i := 6) (by rfl); have e7 : w.cell? ⟨eb, 7, none⟩ = some (.int .i64 10) := cellB hSw (i := 7) (by rfl); have e8 : w.cell? ⟨eb, 8, none⟩ = some (.int .i64 1) := cellB hSw (i := 8) (by rfl); have e9 : w.cell? ⟨eb, 9, none⟩ = some (.int .i64 0) := cellB hSw (i := 9) (by rfl); have e10 : w.cell? ⟨eb, 10, none⟩ = some (.int .i64 27) := cellB hSw (i := 10) (by rfl); have e11 : w.cell? ⟨eb, 11, none⟩ = some (.int .i64 0) := cellB hSw (i := 11) (by rfl); have e12 : w.cell? ⟨eb, 12, none⟩ = some (.int .i64 0) := cellB hSw (i := 12) (by rfl); clear hSw; first | (go_simp; done) | (go_simp; with_reducible rfl))
      try simp only [Act.put, List.getElem_toArray, List.getElem_cons_succ, List.getElem_cons_zero, List.setIfInBounds_toArray, List.set_cons_zero, List.set_cons_succ]
      exact t19
  case aa4 =>
    have hHeld : w9.heap[eb]? = some (.cells (ex0.arr ++ ex1.arr) 60) := KE0.out
    refine wpAnyH_ready (rs := [11]) (by kernel_rfl) (by simp) ?_
    refine (AllReadyH.cons rfl (fun K hK => ?_) AllReadyH.nil)
    · have x1 := cellB KS0.out (i := 1) rfl
      go_simp
      clear hHeld
      refine hK.out _ _ ?_ (fun hHeld => ?_)
      · exact KE0.out
      clear hK K x1
      try simp only [Act.put, List.getElem_toArray, List.getElem_cons_succ, List.getElem_cons_zero, List.setIfInBounds_toArray, List.set_cons_zero, List.set_cons_succ]
      refine wpAnyH_take (i := 12) (v := ?_) rfl (by kernel_rfl) (by kernel_rfl) (by kernel_rfl) (fun _ _ _ h => h) (Or.inl ⟨by rfl, ?_⟩) (by assumption) ?_
      rotate_left 1
      · (intro w hSw; have e0 : w.cell? ⟨eb, 0, none⟩ = some (.int .i64 0) := cellB hSw (i := 0) (by rfl); have e1 : w.cell? ⟨eb, 1, none⟩ = some (.int .i64 0) := cellB hSw (i := 1) (by rfl); have e2 : w.cell? ⟨eb, 2, none⟩ = some (.int .i64 0) := cellB hSw (i := 2) (by rfl); have e3 : w.cell? ⟨eb, 3, none⟩ = some (.string ⟨#[]⟩) := cellB hSw (i := 3) (by rfl); have e4 : w.cell? ⟨eb, 4, none⟩ = some (.string ⟨#[71, 77, 84]⟩) := cellB hSw (i := 4) (by rfl); have e5 : w.cell? ⟨eb, 5, none⟩ = some (.bool true) := cellB hSw (i := 5) (by rfl); have e6 : w.cell? ⟨eb, 6, none⟩ = some (.int .i64 1968) := cellB hSw (i := 6) (by rfl); have e7 : w.cell? ⟨eb, 7, none⟩ = some (.int .i64 10) := cellB hSw (i := 7) (by rfl); have e8 : w.cell? ⟨eb, 8, none⟩ = some (.int .i64 1) := cellB hSw (i := 8) (by rfl); have e9 : w.cell? ⟨eb, 9, none⟩ = some (.int .i64 0) := cellB hSw (i := 9) (by rfl); have e10 : w.cell? ⟨eb, 10, none⟩ = some (.int .i64 27) := cellB hSw (i := 10) (by rfl); have e11 : w.cell? ⟨eb, 11, none⟩ = some (.int .i64 0) := cellB hSw (i := 11) (by rfl); have e12 : w.cell? ⟨eb, 12, none⟩ = some (.int .i64 0) := cellB hSw (i := 12) (by rfl); clear hSw; first | (go_simp; done) | (go_simp; with_reducible rfl))
      try simp only [Act.put, List.getElem_toArray, List.getElem_cons_succ, List.getElem_cons_zero, List.setIfInBounds_toArray, List.set_cons_zero, List.set_cons_succ]
      refine wpAnyH_take (i := 13) (v := ?_) rfl (by kernel_rfl) (by kernel_rfl) (by kernel_rfl) (fun _ _ _ h => h) (Or.inl ⟨by rfl, ?_⟩) (by assumption) ?_
      rotate_left 1
      · (intro w hSw; have e0 : w.cell? ⟨eb, 0, none⟩ = some (.int .i64 0) := cellB hSw (i := 0) (by rfl); have e1 : w.cell? ⟨eb, 1, none⟩ = some (.int .i64 0) := cellB hSw (i := 1) (by rfl); have e2 : w.cell? ⟨eb, 2, none⟩ = some (.int .i64 0) := cellB hSw (i := 2) (by rfl); have e3 : w.cell? ⟨eb, 3, none⟩ = some (.string ⟨#[]⟩) := cellB hSw (i := 3) (by rfl); have e4 : w.cell? ⟨eb, 4, none⟩ = some (.string ⟨#[71, 77, 84]⟩) := cellB hSw (i := 4) (by rfl); have e5 : w.cell? ⟨eb, 5, none⟩ = some (.bool true) := cellB hSw (i := 5) (by rfl); have e6 : w.cell? ⟨eb, 6, none⟩ = some (.int .i64 1968) := cellB hSw (i := 6) (by rfl); have e7 : w.cell? ⟨eb, 7, none⟩ = some (.int .i64 10) := cellB hSw (i := 7) (by rfl); have e8 : w.cell? ⟨eb, 8, none⟩ = some (.int .i64 1) := cellB hSw (i := 8) (by rfl); have e9 : w.cell? ⟨eb, 9, none⟩ = some (.int .i64 0) := cellB hSw (i := 9) (by rfl); have e10 : w.cell? ⟨eb, 10, none⟩ = some (.int .i64 27) := cellB hSw (i := 10) (by rfl); have e11 : w.cell? ⟨eb, 11, none⟩ = some (.int .i64 0) := cellB hSw (i := 11) (by rfl); have e12 : w.cell? ⟨eb, 12, none⟩ = some (.int .i64 0) := cellB hSw (i := 12) (by rfl); clear hSw; first | (go_simp; done) | (go_simp; with_reducible rfl))
      try simp only [Act.put, List.getElem_toArray, List.getElem_cons_succ, List.getElem_cons_zero, List.setIfInBounds_toArray, List.set_cons_zero, List.set_cons_succ]
      exact t18
  case aa3 =>
    have hHeld : w9.heap[eb]? = some (.cells (ex0.arr ++ ex1.arr) 60) := KE0.out
    refine wpAnyH_ready (rs := [14]) (by kernel_rfl) (by simp) ?_
    refine (AllReadyH.cons rfl (fun K hK => ?_) AllReadyH.nil)
    · have x1 := cellB KZ.out (i := 1) rfl
      go_simp
      clear hHeld
      refine hK.out _ _ ?_ (fun hHeld => ?_)
      · exact KE0.out
      clear hK K x1
      try simp only [Act.put, List.getElem_toArray, List.getElem_cons_succ, List.getElem_cons_zero, List.setIfInBounds_toArray, List.set_cons_zero, List.set_cons_succ]
      refine wpAnyH_take (i := 15) (v := ?_) rfl (by kernel_rfl) (by kernel_rfl) (by kernel_rfl) (fun _ _ _ h => h) (Or.inl ⟨by rfl, ?_⟩) (by assumption) ?_
      rotate_left 1
      · (intro w hSw; have e0 : w.cell? ⟨eb, 0, none⟩ = some (.int .i64 0) := cellB hSw (i := 0) (by rfl); have e1 : w.cell? ⟨eb, 1, none⟩ = some (.int .i64 0) := cellB hSw (i := 1) (by rfl); have e2 : w.cell? ⟨eb, 2, none⟩ = some (.int .i64 0) := cellB hSw (i := 2) (by rfl); have e3 : w.cell? ⟨eb, 3, none⟩ = some (.string ⟨#[]⟩) := cellB hSw (i := 3) (by rfl); have e4 : w.cell? ⟨eb, 4, none⟩ = some (.string ⟨#[71, 77, 84]⟩) := cellB hSw (i := 4) (by rfl); have e5 : w.cell? ⟨eb, 5, none⟩ = some (.bool true) := cellB hSw (i := 5) (by rfl); have e6 : w.cell? ⟨eb, 6, none⟩ = some (.int .i64 1968) := cellB hSw (i := 6) (by rfl); have e7 : w.cell? ⟨eb, 7, none⟩ = some (.int .i64 10) := cellB hSw (i := 7) (by rfl); have e8 : w.cell? ⟨eb, 8, none⟩ = some (.int .i64 1) := cellB hSw (i := 8) (by rfl); have e9 : w.cell? ⟨eb, 9, none⟩ = some (.int .i64 0) := cellB hSw (i := 9) (by rfl); have e10 : w.cell? ⟨eb, 10, none⟩ = some (.int .i64 27) := cellB hSw (i := 10) (by rfl); have e11 : w.cell? ⟨eb, 11, none⟩ = some (.int .i64 0) := cellB hSw (i := 11) (by rfl); have e12 : w.cell? ⟨eb, 12, none⟩ = some (.int .i64 0) := cellB hSw (i := 12) (by rfl); clear hSw; first | (go_simp; done) | (go_simp; with_reducible rfl))
      try simp only [Act.put, List.getElem_toArray, List.getElem_cons_succ, List.getElem_cons_zero, List.setIfInBounds_toArray, List.set_cons_zero, List.set_cons_succ]
      refine wpAnyH_take (i := 16) (v := ?_) rfl (by kernel_rfl) (by kernel_rfl) (by kernel_rfl) (fun _ _ _ h => h) (Or.inl ⟨by rfl, ?_⟩) (by assumption) ?_
      rotate_left 1
      · (intro w hSw; have e0 : w.cell? ⟨eb, 0, none⟩ = some (.int .i64 0) := cellB hSw (i := 0) (by rfl); have e1 : w.cell? ⟨eb, 1, none⟩ = some (.int .i64 0) := cellB hSw (i := 1) (by rfl); have e2 : w.cell? ⟨eb, 2, none⟩ = some (.int .i64 0) := cellB hSw (i := 2) (by rfl); have e3 : w.cell? ⟨eb, 3, none⟩ = some (.string ⟨#[]⟩) := cellB hSw (i := 3) (by rfl); have e4 : w.cell? ⟨eb, 4, none⟩ = some (.string ⟨#[71, 77, 84]⟩) := cellB hSw (i := 4) (by rfl); have e5 : w.cell? ⟨eb, 5, none⟩ = some (.bool true) := cellB hSw (i := 5) (by rfl); have e6 : w.cell? ⟨eb, 6, none⟩ = some (.int .i64 1968) := cellB hSw (i := 6) (by rfl); have e7 : w.cell? ⟨eb, 7, none⟩ = some (.int .i64 10) := cellB hSw (i := 7) (by rfl); have e8 : w.cell? ⟨eb, 8, none⟩ = some (.int .i64 1) := cellB hSw (i := 8) (by rfl); have e9 : w.cell? ⟨eb, 9, none⟩ = some (.int .i64 0) := cellB hSw (i := 9) (by rfl); have e10 : w.cell? ⟨eb, 10, none⟩ = some (.int .i64 27) := cellB hSw (i := 10) (by rfl); have e11 : w.cell? ⟨eb, 11, none⟩ = some (.int .i64 0) := cellB hSw (i := 11) (by rfl); have e12 : w.cell? ⟨eb, 12, none⟩ = some (.int .i64 0) := cellB hSw (i := 12) (by rfl); clear hSw; first | (go_simp; done) | (go_simp; with_reducible rfl))
      try simp only [Act.put, List.getElem_toArray, List.getElem_cons_succ, List.getElem_cons_zero, List.setIfInBounds_toArray, List.set_cons_zero, List.set_cons_succ]
      exact t19
  case aa2 =>
    have hHeld : w9.heap[eb]? = some (.cells (ex0.arr ++ ex1.arr) 60) := KE0.out
    refine wpAnyH_ready (rs := [18]) (by kernel_rfl) (by simp) ?_
    refine (AllReadyH.cons rfl (fun K hK => ?_) AllReadyH.nil)
    · go_simp
      clear hHeld
      refine hK.out _ _ ?_ (fun hHeld => ?_)
      · exact KE1.out
      clear hK K
      try simp only [Act.put, List.getElem_toArray, List.getElem_cons_succ, List.getElem_cons_zero, List.setIfInBounds_toArray, List.set_cons_zero, List.set_cons_succ]
      refine wpAnyH_take (i := 19) (v := ?_) rfl (by kernel_rfl) (by kernel_rfl) (by kernel_rfl) (fun _ _ _ h => h) (Or.inl ⟨by rfl, ?_⟩) (by assumption) ?_
      rotate_left 1
      · (intro w hSw; have e0 : w.cell? ⟨eb, 0, none⟩ = some (.int .i64 0) := cellB hSw (i := 0) (by rfl); have e1 : w.cell? ⟨eb, 1, none⟩ = some (.int .i64 0) := cellB hSw (i := 1) (by rfl); have e2 : w.cell? ⟨eb, 2, none⟩ = some (.int .i64 0) := cellB hSw (i := 2) (by rfl); have e3 : w.cell? ⟨eb, 3, none⟩ = some (.string ⟨#[]⟩) := cellB hSw (i := 3) (by rfl); have e4 : w.cell? ⟨eb, 4, none⟩ = some (.string ⟨#[71, 77, 84]⟩) := cellB hSw (i := 4) (by rfl); have e5 : w.cell? ⟨eb, 5, none⟩ = some (.bool true) := cellB hSw (i := 5) (by rfl); have e6 : w.cell? ⟨eb, 6, none⟩ = some (.int .i64 1968) := cellB hSw (i := 6) (by rfl); have e7 : w.cell? ⟨eb, 7, none⟩ = some (.int .i64 10) := cellB hSw (i := 7) (by rfl); have e8 : w.cell? ⟨eb, 8, none⟩ = some (.int .i64 1) := cellB hSw (i := 8) (by rfl); have e9 : w.cell? ⟨eb, 9, none⟩ = some (.int .i64 0) := cellB hSw (i := 9) (by rfl); have e10 : w.cell? ⟨eb, 10, none⟩ = some (.int .i64 27) := cellB hSw (i := 10) (by rfl); have e11 : w.cell? ⟨eb, 11, none⟩ = some (.int .i64 0) := cellB hSw (i := 11) (by rfl); have e12 : w.cell? ⟨eb, 12, none⟩ = some (.int .i64 0) := cellB hSw (i := 12) (by rfl); clear hSw; first | (go_simp; done) | (go_simp; with_reducible rfl))
      try simp only [Act.put, List.getElem_toArray, List.getElem_cons_succ, List.getElem_cons_zero, List.setIfInBounds_toArray, List.set_cons_zero, List.set_cons_succ]
      exact t20
  case aa1 =>
    have hHeld : (w9.alloc (.cells #[.int .i64 0, .int .i64 0, .int .i64 0, .string ⟨#[]⟩, .string ⟨#[71, 77, 84]⟩, .bool true, .int .i64 1968, .int .i64 10, .int .i64 1, .int .i64 0, .int .i64 27, .int .i64 0, .int .i64 0, .int .i64 0, .int .i64 0, .int .i64 0, .string ⟨#[]⟩, .string ⟨#[71, 77, 84]⟩, .bool true, .int .i64 1968, .int .i64 10, .int .i64 1, .int .i64 0, .int .i64 27, .int .i64 0, .int .i64 0, .int .i64 0, .int .i64 0, .int .i64 0, .string ⟨#[]⟩, .string ⟨#[71, 77, 84]⟩, .bool false, .int .i64 0, .int .i64 0, .int .i64 0, .int .i64 0, .int .i64 0, .int .i64 0, .int .i64 0] 60)).heap[eb]? = some (.cells (ex0.arr ++ ex1.arr) 60) := KE1.out
    refine wpAnyH_ready (rs := [20]) (by kernel_rfl) (by simp) ?_
    refine (AllReadyH.cons rfl (fun K hK => ?_) AllReadyH.nil)
    · go_simp
      clear hHeld
      refine hK.out _ _ ?_ (fun hHeld => ?_)
      · exact KE2.out
      clear hK K
      try simp only [Act.put, List.getElem_toArray, List.getElem_cons_succ, List.getElem_cons_zero, List.setIfInBounds_toArray, List.set_cons_zero, List.set_cons_succ]
      exact t21
  case aa0 =>
    have hHeld : ((w9.alloc (.cells #[.int .i64 0, .int .i64 0, .int .i64 0, .string ⟨#[]⟩, .string ⟨#[71, 77, 84]⟩, .bool true, .int .i64 1968, .int .i64 10, .int .i64 1, .int .i64 0, .int .i64 27, .int .i64 0, .int .i64 0, .int .i64 0, .int .i64 0, .int .i64 0, .string ⟨#[]⟩, .string ⟨#[71, 77, 84]⟩, .bool true, .int .i64 1968, .int .i64 10, .int .i64 1, .int .i64 0, .int .i64 27, .int .i64 0, .int .i64 0, .int .i64 0, .int .i64 0, .int .i64 0, .string ⟨#[]⟩, .string ⟨#[71, 77, 84]⟩, .bool false, .int .i64 0, .int .i64 0, .int .i64 0, .int .i64 0, .int .i64 0, .int .i64 0, .int .i64 0] 60)).alloc (.cells #[.string ⟨#[89]⟩, .slice none 0 0, .string ⟨#[88]⟩, .slice (some ⟨w9.heap.size, 0, none⟩) 3 3] 45)).heap[eb]? = some (.cells (ex0.arr ++ ex1.arr) 60) := KE2.out
    refine wpAnyH_ready (rs := [21]) (by kernel_rfl) (by simp) ?_
    refine AllReadyH.cons rfl (fun K hK => ?_) AllReadyH.nil
    refine step_append_lies _ (by rfl) (.tmp 72) (.tmp 91) 37 (by rfl) zb 45 i0 (.agg #[.string ⟨#[]⟩, .slice none 0 0]) 2 40 Tryd.underlying37 HI.out.1 HI.out.2.1 HI.out.2.2.1 HI.out.2.2.2 rfl (by decide) (.slice (some ⟨zb, 0, none⟩) 1 1) 1 [.string ⟨#[90]⟩, .slice (some ⟨eb, 0, none⟩) 2 2] (by rfl) (own_zone KZ2.out) ⟨w9.heap.size + 1, 0, none⟩ 2 2 [.string ⟨#[89]⟩, .slice none 0 0, .string ⟨#[88]⟩, .slice (some ⟨w9.heap.size, 0, none⟩) 3 3] (by rfl) rfl (World.news_of_block KA4.out) (by intro u hu; simp at hu; rcases hu with rfl | rfl | rfl | rfl <;> rfl) (by decide) (by unfold maxLen; decide) (by decide) (Nat.le_of_lt (Array.getElem?_eq_some_iff.1 KZ2.out).1) _ rfl ?_
    intro g cap wA hown hgrow hat hlt
    replace hgrow : World.grownBy _ wA (some zb) := hgrow
    have hgz : g = zb ∨ w1.heap.size < g := by
      have h1 := (Array.getElem?_eq_some_iff.1 KA4.out).1
      have h2 := HL9.out
      rcases hat with hat | hat
      · exact .inl (Option.some.inj hat).symm
      · right
        have h3 : w9.heap.size + 1 < g := by rw [hat]; exact h1
        omega
    have HBA := Lib.hid (Below.grown HB2.out hgrow HB2.out.size (fun k hk => by obtain rfl := Option.some.inj hk; exact HZB.out.1))
    have KSA := Lib.hid (grown_block hgrow KS2.out (by have := HZL.out; omega))
    have KEA := Lib.hid (grown_block hgrow KE2.out HNE.out)
    have K4 := Lib.hid (grown_block hgrow (block_below (block_below K4.out hx1.out) hx2.out) (by have := HL4.out; omega))
    have K5 := Lib.hid (grown_block hgrow (block_below (block_below K5.out hx1.out) hx2.out) (by have := HL5.out; omega))
    have K8 := Lib.hid (grown_block hgrow (block_below (block_below K8.out hx1.out) hx2.out) (by have := HL8.out; omega))
    have K10 := Lib.hid (grown_block hgrow (block_below (block_below K10.out hx1.out) hx2.out) (by have := HL10.out; omega))
    have K12 := Lib.hid (grown_block hgrow (block_below (block_below K12.out hx1.out) hx2.out) (by have := HL12.out; omega))
    have K39 := Lib.hid (grown_block hgrow K39.out (by have := HL9.out; have := HZL.out; omega))
    have HOW := Lib.hid hown
    have HGZ := Lib.hid hgz
    clear hown hgrow hat hlt KA4 hHeld hgz
    refine hK.out _ _ ?_ (fun hHeld => ?_)
    · exact KEA.out
    clear hK K
    try simp only [Act.put, List.getElem_toArray, List.getElem_cons_succ, List.getElem_cons_zero, List.setIfInBounds_toArray, List.set_cons_zero, List.set_cons_succ]
    refine wpAnyH_take (i := 22) (v := ?_) rfl (by kernel_rfl) (by kernel_rfl) (by kernel_rfl) (fun _ _ _ h => h) (Or.inl ⟨by rfl, ?_⟩) (by assumption) ?_
    rotate_left 1
    · (intro w hSw; have e0 : w.cell? ⟨eb, 0, none⟩ = some (.int .i64 0) := cellB hSw (i := 0) (by rfl); have e1 : w.cell? ⟨eb, 1, none⟩ = some (.int .i64 0) := cellB hSw (i := 1) (by rfl); have e2 : w.cell? ⟨eb, 2, none⟩ = some (.int .i64 0) := cellB hSw (i := 2) (by rfl); have e3 : w.cell? ⟨eb, 3, none⟩ = some (.string ⟨#[]⟩) := cellB hSw (i := 3) (by rfl); have e4 : w.cell? ⟨eb, 4, none⟩ = some (.string ⟨#[71, 77, 84]⟩) := cellB hSw (i := 4) (by rfl); have e5 : w.cell? ⟨eb, 5, none⟩ = some (.bool true) := cellB hSw (i := 5) (by rfl); have e6 : w.cell? ⟨eb, 6, none⟩ = some (.int .i64 1968) := cellB hSw (i := 6) (by rfl); have e7 : w.cell? ⟨eb, 7, none⟩ = some (.int .i64 10) := cellB hSw (i := 7) (by rfl); have e8 : w.cell? ⟨eb, 8, none⟩ = some (.int .i64 1) := cellB hSw (i := 8) (by rfl); have e9 : w.cell? ⟨eb, 9, none⟩ = some (.int .i64 0) := cellB hSw (i := 9) (by rfl); have e10 : w.cell? ⟨eb, 10, none⟩ = some (.int .i64 27) := cellB hSw (i := 10) (by rfl); have e11 : w.cell? ⟨eb, 11, none⟩ = some (.int .i64 0) := cellB hSw (i := 11) (by rfl); have e12 : w.cell? ⟨eb, 12, none⟩ = some (.int .i64 0) := cellB hSw (i := 12) (by rfl); clear hSw; first | (go_simp; done) | (go_simp; with_reducible rfl))
    try simp only [Act.put, List.getElem_toArray, List.getElem_cons_succ, List.getElem_cons_zero, List.setIfInBounds_toArray, List.set_cons_zero, List.set_cons_succ]
    refine wpAnyH_ready (rs := [23]) (by kernel_rfl) (by simp) ?_
    refine AllReadyH.cons rfl (fun K hK => ?_) AllReadyH.nil
    have x1 := cellB KSA.out (i := 1) rfl
    have u1 := frzB KSA.out 1
    go_simp
    clear hHeld
    refine hK.out _ _ ?_ (fun hHeld => ?_)
    · exact block_setCells (l := [_]) KEA.out (by have := HE1.out; omega)
    clear hK K x1 u1
    try simp only [Act.put, List.getElem_toArray, List.getElem_cons_succ, List.getElem_cons_zero, List.setIfInBounds_toArray, List.set_cons_zero, List.set_cons_succ]
    refine wpAnyH_done (by kernel_rfl) ?_ _
    have hgx : g ≠ w1.heap.size := by have := HGZ.out; have := HZL.out; omega
    have KSB := Lib.hid (set4_1 (d := .slice (some ⟨g, 0, none⟩) 3 cap) KSA.out)
    have HBB := Lib.hid (HBA.out.setCell (p := ⟨w1.heap.size, 1, none⟩) HW1.out (.slice (some ⟨g, 0, none⟩) 3 cap))
    have HOB := Lib.hid (own_set_far (c := w1.heap.size) (j := 1) (x := .slice (some ⟨g, 0, none⟩) 3 cap) HOW.out hgx)
    have KEB := Lib.hid (show (wA.setCell ⟨w1.heap.size, 1, none⟩ (.slice (some ⟨g, 0, none⟩) 3 cap)).heap[_]? = _ from block_setCells (c := w1.heap.size) (o := 1) (l := [.slice (some ⟨g, 0, none⟩) 3 cap]) KEA.out (by have := HE1.out; omega))
    have K4 := Lib.hid (show (wA.setCell ⟨w1.heap.size, 1, none⟩ (.slice (some ⟨g, 0, none⟩) 3 cap)).heap[_]? = _ from block_setCells (c := w1.heap.size) (o := 1) (l := [.slice (some ⟨g, 0, none⟩) 3 cap]) K4.out (by have := HL4.out; omega))
    have K5 := Lib.hid (show (wA.setCell ⟨w1.heap.size, 1, none⟩ (.slice (some ⟨g, 0, none⟩) 3 cap)).heap[_]? = _ from block_setCells (c := w1.heap.size) (o := 1) (l := [.slice (some ⟨g, 0, none⟩) 3 cap]) K5.out (by have := HL5.out; omega))
    have K8 := Lib.hid (show (wA.setCell ⟨w1.heap.size, 1, none⟩ (.slice (some ⟨g, 0, none⟩) 3 cap)).heap[_]? = _ from block_setCells (c := w1.heap.size) (o := 1) (l := [.slice (some ⟨g, 0, none⟩) 3 cap]) K8.out (by have := HL8.out; omega))
    have K10 := Lib.hid (show (wA.setCell ⟨w1.heap.size, 1, none⟩ (.slice (some ⟨g, 0, none⟩) 3 cap)).heap[_]? = _ from block_setCells (c := w1.heap.size) (o := 1) (l := [.slice (some ⟨g, 0, none⟩) 3 cap]) K10.out (by have := HL10.out; omega))
    have K12 := Lib.hid (show (wA.setCell ⟨w1.heap.size, 1, none⟩ (.slice (some ⟨g, 0, none⟩) 3 cap)).heap[_]? = _ from block_setCells (c := w1.heap.size) (o := 1) (l := [.slice (some ⟨g, 0, none⟩) 3 cap]) K12.out (by have := HL12.out; omega))
    have K39 := Lib.hid (show (wA.setCell ⟨w1.heap.size, 1, none⟩ (.slice (some ⟨g, 0, none⟩) 3 cap)).heap[_]? = _ from block_setCells (c := w1.heap.size) (o := 1) (l := [.slice (some ⟨g, 0, none⟩) 3 cap]) K39.out (by have := HL9.out; omega))
    have HZ3 := Lib.hid (ex_zo3 HOB.out KEB.out K39.out)
    generalize wA.setCell ⟨w1.heap.size, 1, none⟩ (.slice (some ⟨g, 0, none⟩) 3 cap) = wB at KSB HBB HOB KEB K4 K5 K8 K10 K12 K39 HZ3 ⊢
    have HB := HBB
    have x0 := cellB KSB.out (i := 0) rfl
    have x1 := cellB KSB.out (i := 1) rfl
    have x2 := cellB KSB.out (i := 2) rfl
    have x3 := cellB KSB.out (i := 3) rfl
    go_wp2_with fail
    refine (spans_any (some ⟨g, 0, none⟩) 3 cap 1 _ _ _ _ _ _ _ _ _ zs3 ⟨#[89]⟩ [] _ (by exact HT.out.below HB.out) HZ3.out rfl (by decide) (by decide) (fun i e hi he => by simp at he)).mono ?_
    intro e w10 hq; obtain ⟨vl2, rfl, hl2, hb⟩ := SpansR.to sp_y _ _ hq; clear hq
    have HB := Lib.hid (bel_trans HB.out hb)
    have KSB := Lib.hid (block_below KSB.out hb)
    have K4 := Lib.hid (block_below K4.out hb)
    have K5 := Lib.hid (block_below K5.out hb)
    have K8 := Lib.hid (block_below K8.out hb)
    have K10 := Lib.hid (block_below K10.out hb)
    have K12 := Lib.hid (block_below K12.out hb)
    have HZ3 := Lib.hid (HZ3.out.below hb)
    obtain ⟨Am, cm, rfl⟩ := hl2.sl
    clear hb hl2 x0 x1 x2 x3
    have x0 := cellB KSB.out (i := 0) rfl
    have x1 := cellB KSB.out (i := 1) rfl
    have x2 := cellB KSB.out (i := 2) rfl
    have x3 := cellB KSB.out (i := 3) rfl
    go_wp2_with fail
    refine (spans_any (some ⟨g, 0, none⟩) 3 cap 2 _ _ _ _ _ _ _ _ _ zs3 ⟨#[88]⟩ [ex0, ex0, exG] _ (by exact HT.out.below HB.out) HZ3.out rfl (by decide) (by decide) (fun i e hi he => by
      have hi2 : i = 0 ∨ i = 1 := by simp at hi; omega
      rcases hi2 with rfl | rfl
      · obtain rfl := Option.some.inj he
        exact ok_ex0
      · obtain rfl := Option.some.inj he
        exact ok_ex0)).mono ?_
    intro e w11 hq; obtain ⟨rfl, hb⟩ := SpansR.no sp_x _ _ hq; clear hq
    have HB := Lib.hid (bel_trans HB.out hb)
    have K4 := Lib.hid (block_below K4.out hb)
    have K5 := Lib.hid (block_below K5.out hb)
    have K8 := Lib.hid (block_below K8.out hb)
    have K10 := Lib.hid (block_below K10.out hb)
    have K12 := Lib.hid (block_below K12.out hb)
    clear hb x0 x1 x2 x3
    have a0 := cellB K4.out (i := 0) rfl
    have a1 := cellB K4.out (i := 1) rfl
    have a2 := cellB K4.out (i := 2) rfl
    have b0 := cellB K5.out (i := 0) rfl
    have b1 := cellB K5.out (i := 1) rfl
    have b2 := cellB K5.out (i := 2) rfl
    have c0 := cellB K8.out (i := 0) rfl
    have c1 := cellB K8.out (i := 1) rfl
    have c2 := cellB K8.out (i := 2) rfl
    have d0 := cellB K10.out (i := 0) rfl
    have d1 := cellB K10.out (i := 1) rfl
    have d2 := cellB K10.out (i := 2) rfl
    have f0 := cellB K12.out (i := 0) rfl
    have f1 := cellB K12.out (i := 1) rfl
    have f2 := cellB K12.out (i := 2) rfl
    go_wp2_with fail
    go_ret
    exact ⟨rfl, HB.out⟩
end Go.Proofs.YtdppmeeobpbfnaaDoor
