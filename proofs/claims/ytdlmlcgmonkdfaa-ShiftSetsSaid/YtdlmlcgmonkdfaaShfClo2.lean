/-
  The contracts of package shift's closures: which rules are shifted; eras.
-/
import Derived.Test.YtdlmlcgmonkdfaaShfClo
namespace Go.Proofs.Ytdlmlcgmonkdfaa
open Go.RowKit Sh
set_option linter.unusedVariables false
set_option linter.unusedSimpArgs false

namespace Sh
/-- an era -/
structure Er where
  (off kind save : Int) (set fm : ByteArray) (is : Bool) (yr mo k w d sec base : Int)
def Er.arr (r : Er) : Array Value := #[.int .i64 r.off, .int .i64 r.kind, .int .i64 r.save, .string r.set, .string r.fm, .bool r.is, .int .i64 r.yr, .int .i64 r.mo, .int .i64 r.k, .int .i64 r.w, .int .i64 r.d, .int .i64 r.sec, .int .i64 r.base]
/-- an era with a set, shifted -/
def Er.sh (r : Er) (s : ByteArray) (x : Int) : Er :=
  if r.kind = 2 ∧ r.set = s then (if r.is then { r with off := wrap64 (r.off - x), sec := less r.sec r.base x } else { r with off := wrap64 (r.off - x) }) else r
/-- a rule of a set, shifted -/
def Ru.of (r : Ru) (s : ByteArray) (x : Int) : Ru := if r.na = s then r.sh x else r
theorem str_dec (a b : ByteArray) : (a.toList == b.toList) = decide (a = b) := by
  rw [ByteArray.toList_eq, ByteArray.toList_eq, Bool.eq_iff_iff, decide_eq_true_iff, beq_iff_eq]
  obtain ⟨⟨x⟩⟩ := a
  obtain ⟨⟨y⟩⟩ := b
  simp
theorem cell_one (V : World) (x : Value) (t : TypeId) : (V.alloc (.cells #[x] t)).cell? ⟨V.heap.size, 0, none⟩ = some x := by
  have h := heap_alloc_new V (.cells #[x] t)
  unfold World.cell?
  rw [h]
  simp
theorem row11x {V : World} {b c : Nat} {t : TypeId} {a0 a1 a2 a3 a4 a5 a6 a7 a8 a9 a10 x : Value} (h : V.heap[b]? = some (.cells #[a0, a1, a2, a3, a4, a5, a6, a7, a8, a9, a10] t)) (hx : V.cell? ⟨c, 0, none⟩ = some x) : V.cell? ⟨b, 0, none⟩ = some a0 ∧ V.cell? ⟨b, 1, none⟩ = some a1 ∧ V.cell? ⟨b, 2, none⟩ = some a2 ∧ V.cell? ⟨b, 3, none⟩ = some a3 ∧ V.cell? ⟨b, 4, none⟩ = some a4 ∧ V.cell? ⟨b, 5, none⟩ = some a5 ∧ V.cell? ⟨b, 6, none⟩ = some a6 ∧ V.cell? ⟨b, 7, none⟩ = some a7 ∧ V.cell? ⟨b, 8, none⟩ = some a8 ∧ V.cell? ⟨b, 9, none⟩ = some a9 ∧ V.cell? ⟨b, 10, none⟩ = some a10 ∧ V.cell? ⟨c, 0, none⟩ = some x := by
  obtain ⟨c0, c1, c2, c3, c4, c5, c6, c7, c8, c9, c10⟩ := row11 h
  exact ⟨c0, c1, c2, c3, c4, c5, c6, c7, c8, c9, c10, hx⟩
theorem there11 {V : World} {b : Nat} {t : TypeId} {a0 a1 a2 a3 a4 a5 a6 a7 a8 a9 a10 : Value} (h : V.heap[b]? = some (.cells #[a0, a1, a2, a3, a4, a5, a6, a7, a8, a9, a10] t)) : V.there b 0 11 := by
  intro j hj
  unfold World.cell? World.frozen?
  rw [h]
  have hc : j = 0 ∨ j = 1 ∨ j = 2 ∨ j = 3 ∨ j = 4 ∨ j = 5 ∨ j = 6 ∨ j = 7 ∨ j = 8 ∨ j = 9 ∨ j = 10 := by omega
  rcases hc with rfl | rfl | rfl | rfl | rfl | rfl | rfl | rfl | rfl | rfl | rfl <;> simp
theorem block_setCells {V : World} {b c o : Nat} {ob : Obj} {l : _root_.List Value} (h : V.heap[b]? = some ob) (hne : b ≠ c) : (V.setCells c o l).heap[b]? = some ob := by
  rw [World.heap_setCells_other V c o l (Array.getElem?_eq_some_iff.1 h).1 hne]; exact h
theorem cell_setCells {V : World} {b c i o : Nat} {v : Value} {l : _root_.List Value} (h : V.cell? ⟨b, i, none⟩ = some v) (hne : b ≠ c) : (V.setCells c o l).cell? ⟨b, i, none⟩ = some v := by
  rw [World.cell?_setCells_out c l o V ⟨b, i, none⟩ (fun h2 _ => absurd h2 hne)]; exact h
end Sh

set_option maxRecDepth 100000 in
set_option maxHeartbeats 1000000 in
theorem of_any (r : Ru) (s : ByteArray) (bs : Nat) (W : World) (hs : W.cell? ⟨bs, 0, none⟩ = some (.string s)) :
    Calls Try.prog 23 #[.agg r.arr, .pointer (some ⟨bs, 0, none⟩)] W fun e w' => e = .returned (.bool (decide (r.na = s))) ∧ Below W.heap.size W w' := by
  obtain ⟨na, fr, ut, mo, k, w, d, sec, base, save, le⟩ := r
  have hsa : ∀ o, (W.alloc o).cell? ⟨bs, 0, none⟩ = some (.string s) := fun o => cell_below (bel_alloc W o) hs
  unfold Ru.arr
  dsimp only
  go_enter Try.func23, Try.ntmps23
  go_wp2_with fail
  go_ret
  exact ⟨by rw [← str_dec]; rfl, bel_alloc _ _⟩

set_option maxRecDepth 100000 in
theorem rule_any (x : Int) (W : World) :
    Calls Try.prog 27 #[.int .i64 x] W fun e w' => e = .returned (.func (.func 38) #[] #[.pointer (some ⟨W.heap.size, 0, none⟩)]) ∧ w' = W.alloc (.cells #[.int .i64 x] 2) := by
  have hmf : ∀ (fn : Fn) (first cap : Array Value) (w : World), (Instr.makeFunc fn first cap).run Try.prog w = .ok (.func fn first cap) w := fun _ _ _ _ => rfl
  go_enter Try.func27, Try.ntmps27
  go_wp2_with fail
  go_ret
  exact ⟨rfl, rfl⟩

set_option maxRecDepth 100000 in
set_option maxHeartbeats 2000000 in
theorem set2_any (r : Ru) (s : ByteArray) (x : Int) (bf bs bx : Nat) (W : World) (hf : W.cell? ⟨bf, 0, none⟩ = some (.func (.func 23) #[] #[.pointer (some ⟨bs, 0, none⟩)]))
    (hs : W.cell? ⟨bs, 0, none⟩ = some (.string s)) (hx : W.cell? ⟨bx, 0, none⟩ = some (.int .i64 x)) :
    Calls Try.prog 26 #[.agg r.arr, .pointer (some ⟨bf, 0, none⟩), .pointer (some ⟨bx, 0, none⟩)] W fun e w' => e = .returned (.agg (r.of s x).arr) ∧ Below W.heap.size W w' := by
  have HF := Lib.hid hf
  have HS := Lib.hid hs
  have HX := Lib.hid hx
  have HR := Lib.hid (rfl : r.arr = r.arr)
  have HO : Hid (∀ b : Bool, decide (r.na = s) = b → r.of s x = if b then r.sh x else r) := fun b hb => by unfold Ru.of; rw [← hb]; simp
  obtain ⟨b, hb⟩ : ∃ b, decide (r.na = s) = b := ⟨_, rfl⟩
  have HBV := Lib.hid hb
  clear hf hs hx hb
  have hfa : ∀ o o', ((W.alloc o).alloc o').cell? ⟨bf, 0, none⟩ = some (.func (.func 23) #[] #[.pointer (some ⟨bs, 0, none⟩)]) := fun o o' => cell_below (bel_trans (bel_alloc W o) (bel_alloc _ o')) HF.out
  have HSa : Hid (∀ o o', ((W.alloc o).alloc o').cell? ⟨bs, 0, none⟩ = some (.string s)) := fun o o' => cell_below (bel_trans (bel_alloc W o) (bel_alloc _ o')) HS.out
  unfold Ru.arr
  go_enter Try.func26, Try.ntmps26
  have hk := Lib.hid (show ((W.alloc (.cells #[.string r.na, .int .i64 r.fr, .int .i64 r.ut, .int .i64 r.mo, .int .i64 r.k, .int .i64 r.w, .int .i64 r.d, .int .i64 r.sec, .int .i64 r.base, .int .i64 r.save, .string r.le] 44)).alloc (.cells #[.string ⟨#[]⟩, .int .i64 0, .int .i64 0, .int .i64 0, .int .i64 0, .int .i64 0, .int .i64 0, .int .i64 0, .int .i64 0, .int .i64 0, .string ⟨#[]⟩] 44)).heap[W.heap.size]? = some (.cells #[.string r.na, .int .i64 r.fr, .int .i64 r.ut, .int .i64 r.mo, .int .i64 r.k, .int .i64 r.w, .int .i64 r.d, .int .i64 r.sec, .int .i64 r.base, .int .i64 r.save, .string r.le] 44) from block_below (heap_alloc_new W _) (bel_alloc _ _))
  have hz := Lib.hid (show ((W.alloc (.cells #[.string r.na, .int .i64 r.fr, .int .i64 r.ut, .int .i64 r.mo, .int .i64 r.k, .int .i64 r.w, .int .i64 r.d, .int .i64 r.sec, .int .i64 r.base, .int .i64 r.save, .string r.le] 44)).alloc (.cells #[.string ⟨#[]⟩, .int .i64 0, .int .i64 0, .int .i64 0, .int .i64 0, .int .i64 0, .int .i64 0, .int .i64 0, .int .i64 0, .int .i64 0, .string ⟨#[]⟩] 44)).heap[W.heap.size + 1]? = some (.cells #[.string ⟨#[]⟩, .int .i64 0, .int .i64 0, .int .i64 0, .int .i64 0, .int .i64 0, .int .i64 0, .int .i64 0, .int .i64 0, .int .i64 0, .string ⟨#[]⟩] 44) from heap_alloc2_new W _ _)
  have hB := Lib.hid (show Below W.heap.size W ((W.alloc (.cells #[.string r.na, .int .i64 r.fr, .int .i64 r.ut, .int .i64 r.mo, .int .i64 r.k, .int .i64 r.w, .int .i64 r.d, .int .i64 r.sec, .int .i64 r.base, .int .i64 r.save, .string r.le] 44)).alloc (.cells #[.string ⟨#[]⟩, .int .i64 0, .int .i64 0, .int .i64 0, .int .i64 0, .int .i64 0, .int .i64 0, .int .i64 0, .int .i64 0, .int .i64 0, .string ⟨#[]⟩] 44)) from bel_trans (bel_alloc _ _) (bel_alloc _ _))
  have hxx := Lib.hid (show ((W.alloc (.cells #[.string r.na, .int .i64 r.fr, .int .i64 r.ut, .int .i64 r.mo, .int .i64 r.k, .int .i64 r.w, .int .i64 r.d, .int .i64 r.sec, .int .i64 r.base, .int .i64 r.save, .string r.le] 44)).alloc (.cells #[.string ⟨#[]⟩, .int .i64 0, .int .i64 0, .int .i64 0, .int .i64 0, .int .i64 0, .int .i64 0, .int .i64 0, .int .i64 0, .int .i64 0, .string ⟨#[]⟩] 44)).cell? ⟨bx, 0, none⟩ = some (.int .i64 x) from cell_below (bel_trans (bel_alloc _ _) (bel_alloc _ _)) HX.out)
  have hbx : bx ≠ W.heap.size + 1 := by have := lt_of_cell HX.out; simp at this; omega
  go_wp2_with fail
  refine (of_any r s bs _ (HSa.out _ _)).mono ?_
  rintro e w3 ⟨rfl, hb3⟩
  rw [HBV.out]
  have hk3 := Lib.hid (block_below hk.out hb3)
  have hz3 := Lib.hid (block_below hz.out hb3)
  have hB3 := Lib.hid (bel_trans hB.out hb3)
  have hx3 := Lib.hid (cell_below hb3 hxx.out)
  clear hb3 hfa
  have hmf : ∀ (fn : Fn) (first cap : Array Value) (w : World), (Instr.makeFunc fn first cap).run Try.prog w = .ok (.func fn first cap) w := fun _ _ _ _ => rfl
  cases b
  · obtain ⟨c0, c1, c2, c3, c4, c5, c6, c7, c8, c9, c10⟩ := row11 hk3.out
    obtain ⟨y0, y1, y2, y3, y4, y5, y6, y7, y8, y9, y10⟩ := row11 hz3.out
    obtain ⟨f0, f1, f2, f3, f4, f5, f6, f7, f8, f9, f10⟩ := frz11 hz3.out
    go_wp2_with fail
    refine bodyPost_ret (results_cell_row rfl _ _ _ _ _ _ _ rfl (set11 hz3.out) Try.underlying44 rfl (by kernel_rfl)) rfl ?_
    exact ⟨by rw [HO.out _ HBV.out]; rfl, bel_setCells (o := 0) (l := [.string r.na, .int .i64 r.fr, .int .i64 r.ut, .int .i64 r.mo, .int .i64 r.k, .int .i64 r.w, .int .i64 r.d, .int .i64 r.sec, .int .i64 r.base, .int .i64 r.save, .string r.le]) hB3.out (Nat.le_succ _)⟩
  · go_wp2_with fail
    refine wp_region_noPanic ?_
    refine wp_region_held_drew (S := fun w' => w'.cell? ⟨W.heap.size, 0, none⟩ = some (.string r.na) ∧ w'.cell? ⟨W.heap.size, 1, none⟩ = some (.int .i64 r.fr) ∧ w'.cell? ⟨W.heap.size, 2, none⟩ = some (.int .i64 r.ut) ∧ w'.cell? ⟨W.heap.size, 3, none⟩ = some (.int .i64 r.mo) ∧ w'.cell? ⟨W.heap.size, 4, none⟩ = some (.int .i64 r.k) ∧ w'.cell? ⟨W.heap.size, 5, none⟩ = some (.int .i64 r.w) ∧ w'.cell? ⟨W.heap.size, 6, none⟩ = some (.int .i64 r.d) ∧ w'.cell? ⟨W.heap.size, 7, none⟩ = some (.int .i64 r.sec) ∧ w'.cell? ⟨W.heap.size, 8, none⟩ = some (.int .i64 r.base) ∧ w'.cell? ⟨W.heap.size, 9, none⟩ = some (.int .i64 r.save) ∧ w'.cell? ⟨W.heap.size, 10, none⟩ = some (.string r.le) ∧ w'.cell? ⟨bx, 0, none⟩ = some (.int .i64 x)) (by kernel_rfl) (by exact row11x hk3.out hx3.out) (fun hHeld => ?_)
    refine wpAnyH_take (i := 0) (v := ?_) rfl (by kernel_rfl) (by kernel_rfl) (by kernel_rfl) (fun _ _ _ h => h) (Or.inl ⟨by rfl, ?_⟩) (by assumption) ?_
    rotate_left 1
    · (intro w hSw; (try dsimp only at hSw); first | (go_simp; done) | (go_simp; with_reducible rfl))
    try simp only [Act.put, List.getElem_toArray, List.getElem_cons_succ, List.getElem_cons_zero, List.setIfInBounds_toArray, List.set_cons_zero, List.set_cons_succ]
    refine wpAnyH_take (i := 2) (v := ?_) rfl (by kernel_rfl) (by kernel_rfl) (by kernel_rfl) (fun _ _ _ h => h) (Or.inl ⟨by rfl, ?_⟩) (by assumption) ?_
    rotate_left 1
    · (intro w hSw; (try dsimp only at hSw); first | (go_simp; done) | (go_simp; with_reducible rfl))
    try simp only [Act.put, List.getElem_toArray, List.getElem_cons_succ, List.getElem_cons_zero, List.setIfInBounds_toArray, List.set_cons_zero, List.set_cons_succ]
    refine wpAnyH_ready (rs := [1]) (by kernel_rfl) (by simp) ?_
    refine AllReadyH.cons rfl (fun K hK => ?_) AllReadyH.nil
    go_simp
    refine (rule_any x _).mono ?_
    rintro e w4 ⟨rfl, rfl⟩
    have hk4 := Lib.hid (block_below (A := w3.drew) hk3.out (bel_alloc w3.drew (.cells #[.int .i64 x] 2)))
    have hz4 := Lib.hid (block_below (A := w3.drew) hz3.out (bel_alloc w3.drew (.cells #[.int .i64 x] 2)))
    have hx4 := Lib.hid (cell_below (bel_alloc w3.drew (.cells #[.int .i64 x] 2)) hx3.out)
    have hB4 := Lib.hid (bel_trans (Below.drew hB3.out) (bel_alloc w3.drew (.cells #[.int .i64 x] 2)))
    have hr4 : (w3.drew.alloc (.cells #[.int .i64 x] 2)).cell? ⟨w3.heap.size, 0, none⟩ = some (.int .i64 x) := cell_one w3.drew _ _
    go_wp2_with fail
    refine hK.out _ _ (by exact row11x hk4.out hx4.out) (fun hHeld => ?_)
    clear hK K
    try simp only [Act.put, List.getElem_toArray, List.getElem_cons_succ, List.getElem_cons_zero, List.setIfInBounds_toArray, List.set_cons_zero, List.set_cons_succ]
    refine wpAnyH_ready (rs := [3]) (by kernel_rfl) (by simp) ?_
    refine AllReadyH.cons rfl (fun K hK => ?_) AllReadyH.nil
    go_simp
    refine (rule1_any r x _ _ hr4).mono ?_
    rintro e w5 ⟨rfl, hb5⟩
    have hk5 := Lib.hid (block_below hk4.out hb5)
    have hz5 := Lib.hid (block_below hz4.out hb5)
    have hx5 := Lib.hid (cell_below hb5 hx4.out)
    have hB5 := Lib.hid (bel_trans hB4.out hb5)
    clear hb5
    go_wp2_with fail
    refine hK.out _ _ (by exact row11x hk5.out hx5.out) (fun hHeld => ?_)
    clear hK K
    try simp only [Act.put, List.getElem_toArray, List.getElem_cons_succ, List.getElem_cons_zero, List.setIfInBounds_toArray, List.set_cons_zero, List.set_cons_succ]
    refine wpAnyH_ready (rs := [4]) (by kernel_rfl) (by simp) ?_
    refine AllReadyH.cons rfl (fun K hK => ?_) AllReadyH.nil
    rw [if_pos (by rfl)]
    refine wp_store_mid _ _ _ rfl (W.heap.size + 1) 0 (r.sh x).arr rfl rfl (there11 hz5.out) (by kernel_rfl) (by simp [Value.oneCell', Ru.arr]) ?_
    refine hK.out _ _ (by exact row11x (block_setCells (o := 0) (l := [.string r.na, .int .i64 r.fr, .int .i64 r.ut, .int .i64 r.mo, .int .i64 r.k, .int .i64 r.w, .int .i64 r.d, .int .i64 (less r.sec r.base x), .int .i64 r.base, .int .i64 (wrap64 (r.save + x)), .string r.le]) hk5.out (by omega)) (cell_setCells (o := 0) (l := [.string r.na, .int .i64 r.fr, .int .i64 r.ut, .int .i64 r.mo, .int .i64 r.k, .int .i64 r.w, .int .i64 r.d, .int .i64 (less r.sec r.base x), .int .i64 r.base, .int .i64 (wrap64 (r.save + x)), .string r.le]) hx5.out hbx)) (fun hHeld => ?_)
    clear hK K
    try simp only [Act.put, List.getElem_toArray, List.getElem_cons_succ, List.getElem_cons_zero, List.setIfInBounds_toArray, List.set_cons_zero, List.set_cons_succ]
    refine wpAnyH_done (by kernel_rfl) ?_ _
    refine NoPanic.normal ?_
    go_wp2_with fail
    refine bodyPost_ret (results_cell_row rfl _ _ _ _ _ _ _ rfl (set11 hz5.out) Try.underlying44 rfl (by kernel_rfl)) rfl ?_
    exact ⟨by rw [HO.out _ HBV.out]; rfl, bel_setCells (o := 0) (l := [.string r.na, .int .i64 r.fr, .int .i64 r.ut, .int .i64 r.mo, .int .i64 r.k, .int .i64 r.w, .int .i64 r.d, .int .i64 (less r.sec r.base x), .int .i64 r.base, .int .i64 (wrap64 (r.save + x)), .string r.le]) hB5.out (Nat.le_succ _)⟩
end Go.Proofs.Ytdlmlcgmonkdfaa
