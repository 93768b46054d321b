/-
  The walk of the law DayformRefuses.
-/
import Derived.Test.YtieoogllghmeeaaDoorDayLaw
import Derived.Deep.RegionHeld3
import Derived.Deep.DeepCutAuto
import Derived.Deep.MidRow
import Derived.Deep.Upon
namespace Go.Proofs.YtieoogllghmeeaaDoor
open Go.RowKit Cv
set_option linter.unusedVariables false
set_option linter.unusedSimpArgs false

namespace Cv
/-- two forms of the call's own lie in two blocks -/
def Two2 (W : World) (B C : Nat) (fk fw fd gk gw gd : Int) (w : World) : Prop :=
  Tabs w ∧ Below W.heap.size W w ∧ W.heap.size ≤ B ∧ W.heap.size ≤ C ∧ B ≠ C ∧ w.heap[B]? = some (.cells #[.int .i64 fk, .int .i64 fw, .int .i64 fd] 23) ∧ w.heap[C]? = some (.cells #[.int .i64 gk, .int .i64 gw, .int .i64 gd] 23)
/-- the cells of a draft -/
def DC (b : Nat) (k w d : Int) (W : World) : Prop := W.cell? ⟨b, 0, none⟩ = some (.int .u8 k) ∧ W.cell? ⟨b, 1, none⟩ = some (.int .u8 w) ∧ W.cell? ⟨b, 2, none⟩ = some (.int .u8 d)
theorem dc_of {b : Nat} {k w d : Int} {t : TypeId} {W : World} (h : W.heap[b]? = some (.cells #[.int .u8 k, .int .u8 w, .int .u8 d] t)) : DC b k w d W := by
  unfold DC World.cell?
  rw [h]
  simp
theorem dc_below {b : Nat} {k w d : Int} {A B : World} (h : DC b k w d A) (hb : Below A.heap.size A B) : DC b k w d B := by
  have key : ∀ a v, A.cell? a = some v → B.cell? a = some v := fun a v h => by rw [hb.cell (lt_of_cell h)]; exact h
  exact ⟨key _ _ h.1, key _ _ h.2.1, key _ _ h.2.2⟩
theorem dc_alloc {b : Nat} {k w d : Int} {A : World} {o : Obj} (h : DC b k w d A) : DC b k w d (A.alloc o) := by
  have key : ∀ a v, A.cell? a = some v → (A.alloc o).cell? a = some v := fun a v h => by rw [(bel_alloc A o).cell (lt_of_cell h)]; exact h
  exact ⟨key _ _ h.1, key _ _ h.2.1, key _ _ h.2.2⟩
theorem size_alloc (V : World) (o : Obj) : (V.alloc o).heap.size = V.heap.size + 1 := by show (V.heap.push o).size = _; simp
theorem ne_of_cell {b : Nat} {V : World} {v : Value} (h : V.cell? ⟨b, 0, none⟩ = some v) : (b = V.heap.size) = False := by have := lt_of_cell h; simp at this ⊢; omega
/-- a form that lies in a block of its own -/
def BK (V : World) (b : Nat) (x y z : Int) : Prop := V.heap[b]? = some (.cells #[.int .i64 x, .int .i64 y, .int .i64 z] 23)
theorem bk_new (V : World) (b : Nat) (h : b = V.heap.size) : BK (V.alloc (.cells #[.int .i64 0, .int .i64 0, .int .i64 0] 23)) b 0 0 0 := by
  subst h; exact heap_alloc_new _ _
theorem size_drew (V : World) : V.drew.heap.size = V.heap.size := rfl
theorem dc_lt {b : Nat} {k w d : Int} {V : World} (h : V.cell? ⟨b, 0, none⟩ = some (.int .u8 k) ∧ V.cell? ⟨b, 1, none⟩ = some (.int .u8 w) ∧ V.cell? ⟨b, 2, none⟩ = some (.int .u8 d)) : b < V.heap.size := lt_of_cell h.1
theorem bk_lt {V : World} {b : Nat} {x y z : Int} (h : BK V b x y z) : b < V.heap.size := (Array.getElem?_eq_some_iff.1 h).1
theorem bk_below {A B : World} {b : Nat} {x y z : Int} (h : BK A b x y z) (hb : Below A.heap.size A B) : BK B b x y z := by
  unfold BK; rw [hb.block b (bk_lt h)]; exact h
theorem bk_alloc {A : World} {b : Nat} {x y z : Int} {o : Obj} (h : BK A b x y z) : BK (A.alloc o) b x y z := bk_below h (bel_alloc A o)
theorem bk_other {V : World} {b c : Nat} {x y z : Int} {o : Nat} {l : List Value} (h : BK V b x y z) (hne : b ≠ c) : BK (V.setCells c o l) b x y z := by
  unfold BK; rw [World.heap_setCells_other V c o l (bk_lt h) hne]; exact h
theorem bk_set {V : World} {b : Nat} {x y z : Int} (p q r : Int) (h : BK V b x y z) : BK (V.setCells b 0 [.int .i64 p, .int .i64 q, .int .i64 r]) b p q r := by
  have hb : b < V.heap.size := bk_lt h
  unfold BK at *
  simp [World.setCells, World.setCell, Array.getElem?_modify, h]
theorem bk_set1 {V : World} {b : Nat} {x y z : Int} (p : Int) (h : BK V b x y z) : BK (V.setCells b 0 [.int .i64 p]) b p y z := by
  have hb : b < V.heap.size := bk_lt h
  unfold BK at *
  simp [World.setCells, World.setCell, Array.getElem?_modify, h]
theorem fc_bk {V : World} {b : Nat} {x y z : Int} (h : BK V b x y z) : FC b x y z V := by
  unfold BK at h
  unfold FC World.cell?
  rw [h]
  simp
theorem ar_new (V : World) (a b : Value) (t : TypeId) : (V.alloc (.cells #[a, b] t)).cell? ⟨V.heap.size, 0, none⟩ = some a ∧ (V.alloc (.cells #[a, b] t)).cell? ⟨V.heap.size, 1, none⟩ = some b := by
  have hn := heap_alloc_new V (.cells #[a, b] t)
  unfold World.cell?
  rw [hn]
  simp
theorem ar_below {A B : World} {b : Nat} {x y : Value} (h : A.cell? ⟨b, 0, none⟩ = some x ∧ A.cell? ⟨b, 1, none⟩ = some y) (hb : Below A.heap.size A B) : B.cell? ⟨b, 0, none⟩ = some x ∧ B.cell? ⟨b, 1, none⟩ = some y :=
  ⟨by rw [hb.cell (lt_of_cell h.1)]; exact h.1, by rw [hb.cell (lt_of_cell h.2)]; exact h.2⟩
theorem bk_cells {V : World} {b : Nat} {x y z : Int} (h : BK V b x y z) : V.cell? ⟨b, 0, none⟩ = some (.int .i64 x) ∧ V.cell? ⟨b, 1, none⟩ = some (.int .i64 y) ∧ V.cell? ⟨b, 2, none⟩ = some (.int .i64 z) ∧ V.frozen? ⟨b, 0, none⟩ = false ∧ V.frozen? ⟨b, 1, none⟩ = false ∧ V.frozen? ⟨b, 2, none⟩ = false := by
  unfold BK at h
  unfold World.cell? World.frozen?
  rw [h]
  simp
theorem there_of {V : World} {b : Nat} {x y z : Int} (h : BK V b x y z) : V.there b 0 3 := by
  unfold BK at h
  intro j hj
  unfold World.cell? World.frozen?
  rw [h]
  match j, hj with
  | 0, _ => simp
  | 1, _ => simp
  | 2, _ => simp
theorem bel_setCells {A V : World} {B b o : Nat} {l : List Value} (h : Below B A V) (hb : B ≤ b) : Below B A (V.setCells b o l) := by
  induction l generalizing V o with
  | nil => exact h
  | cons v r ih => exact ih (h.setCell (p := ⟨b, o, none⟩) hb v)
theorem dc_setCells {b c : Nat} {k w d : Int} {A : World} {o : Nat} {l : List Value} (h : DC b k w d A) (hc : b < c) : DC b k w d (A.setCells c o l) := by
  have key : ∀ i v, A.cell? ⟨b, i, none⟩ = some v → (A.setCells c o l).cell? ⟨b, i, none⟩ = some v := fun i v h => by
    rw [World.cell?_setCells_out c l o A ⟨b, i, none⟩ (fun h2 _ => by simp at h2; omega)]; exact h
  exact ⟨key _ _ h.1, key _ _ h.2.1, key _ _ h.2.2⟩
end Cv

set_option maxRecDepth 100000 in
set_option maxHeartbeats 4000000 in
theorem refuses_core (W : World) (hT : Tabs W) (k w n : Int) (wk : (Lit.int .u8 k).wf = true) (ww : (Lit.int .u8 w).wf = true) (wn : (Lit.int .u8 n).wf = true) (q : Int) (wq : (Lit.int .u8 q).wf = true) (f : Int) (wf : (Lit.int .u32 f).wf = true) :
    Calls Tryd.prog 8 #[.agg #[.int .u8 k, .int .u8 w, .int .u8 n], .int .u8 q, .int .u32 f] W fun e w' => e = .returned (.bool true) ∧ Below W.heap.size W w' := by
  have HT := Lib.hid hT
  obtain ⟨hq1, hq2⟩ := byte_of wq
  obtain ⟨hf1, hf2⟩ := u32_of wf
  clear hT wq wf
  have hqq : 0 ≤ q % 8 ∧ q % 8 < 8 := by omega
  obtain ⟨hqq1, hqq2⟩ := hqq
  go_enter Tryd.func8, Tryd.ntmps8
  have hnd : (W.alloc (.cells #[.int .u8 k, .int .u8 w, .int .u8 n] 32)).heap[W.heap.size]? = some (.cells #[.int .u8 k, .int .u8 w, .int .u8 n] 32) := heap_alloc_new _ _
  have HD := Lib.hid hnd
  clear hnd
  go_upto_region 2 with fail
  go_cut [8, 9] (fun s t w' => ∃ (B C : Nat) (fk fw fd gk gw gd : Int), s = .pointer (some ⟨B, 0, none⟩) ∧ t = .pointer (some ⟨C, 0, none⟩) ∧ Hid (Two2 W B C fk fw fd gk gw gd w') ∧ Hid (good fk fw fd) ∧ Hid (good gk gw gd))
  case first =>
    refine wp_region_held_drew (S := (fun w' => w'.cell? ⟨W.heap.size, 0, none⟩ = some (.int .u8 k) ∧ w'.cell? ⟨W.heap.size, 1, none⟩ = some (.int .u8 w) ∧ w'.cell? ⟨W.heap.size, 2, none⟩ = some (.int .u8 n))) (by kernel_rfl) (by exact dc_of HD.out) (fun hHeld => ?_)
    have hB := Lib.hid (Below.drew (bel_alloc W (.cells #[.int .u8 k, .int .u8 w, .int .u8 n] 32)))
    have hsz := Lib.hid (show W.heap.size ≤ W.heap.size from Nat.le_refl _)
    refine wpAnyH_take (i := 0) (v := ?_) rfl (by kernel_rfl) (by kernel_rfl) (by kernel_rfl) (fun _ _ _ h => h) (Or.inl ⟨by rfl, ?_⟩) (by assumption) ?_
    rotate_left 1
    · (intro w hSw; (try dsimp only at hSw); first | (go_simp; done) | (go_simp; with_reducible rfl))
    try simp only [Act.put, List.getElem_toArray, List.getElem_cons_succ, List.getElem_cons_zero, List.setIfInBounds_toArray, List.set_cons_zero, List.set_cons_succ]
    refine wpAnyH_take (i := 2) (v := ?_) rfl (by kernel_rfl) (by kernel_rfl) (by kernel_rfl) (fun _ _ _ h => h) (Or.inl ⟨by rfl, ?_⟩) (by assumption) ?_
    rotate_left 1
    · (intro w hSw; (try dsimp only at hSw); first | (go_simp; done) | (go_simp; with_reducible rfl))
    try simp only [Act.put, List.getElem_toArray, List.getElem_cons_succ, List.getElem_cons_zero, List.setIfInBounds_toArray, List.set_cons_zero, List.set_cons_succ]
    refine wpAnyH_ready (rs := [1, 4, 5]) (by kernel_rfl) (by simp) ?_
    refine (AllReadyH.cons rfl (fun K hK => ?_) (AllReadyH.cons rfl (fun K hK => ?_) (AllReadyH.cons rfl (fun K hK => ?_) AllReadyH.nil)))
    · go_simp
      refine (made_any k w n _ wk ww wn).mono ?_
      rintro e w1 ⟨fk, fw, fd, hg, rfl, hb1⟩
      go_wp2_with fail
      refine hK.out _ _ ?_ (fun hHeld => ?_)
      · exact dc_below (by assumption) hb1
      clear hK K
      try simp only [Act.put, List.getElem_toArray, List.getElem_cons_succ, List.getElem_cons_zero, List.setIfInBounds_toArray, List.set_cons_zero, List.set_cons_succ]
      have hB := Lib.hid (bel_trans hB.out hb1)
      have hsz := Lib.hid (show W.heap.size < w1.heap.size from dc_lt hHeld)
      clear hb1
      refine wpAnyH_ready (rs := [3, 4, 5]) (by kernel_rfl) (by simp) ?_
      refine (AllReadyH.cons rfl (fun K hK => ?_) (AllReadyH.cons rfl (fun K hK => ?_) (AllReadyH.cons rfl (fun K hK => ?_) AllReadyH.nil)))
      · go_simp
        refine (made_any k w n _ wk ww wn).mono ?_
        rintro e w2 ⟨gk, gw, gd, hh, rfl, hb2⟩
        go_wp2_with fail
        refine hK.out _ _ ?_ (fun hHeld => ?_)
        · exact dc_below (by assumption) hb2
        clear hK K
        try simp only [Act.put, List.getElem_toArray, List.getElem_cons_succ, List.getElem_cons_zero, List.setIfInBounds_toArray, List.set_cons_zero, List.set_cons_succ]
        have hB := Lib.hid (bel_trans hB.out hb2)
        have hsz := Lib.hid (show W.heap.size < w2.heap.size from dc_lt hHeld)
        clear hb2
        refine wpAnyH_ready (rs := [4, 5]) (by kernel_rfl) (by simp) ?_
        refine (AllReadyH.cons rfl (fun K hK => ?_) (AllReadyH.cons rfl (fun K hK => ?_) AllReadyH.nil))
        · go_simp
          refine hK.out _ _ ?_ (fun hHeld => ?_)
          · exact dc_alloc (by assumption)
          clear hK K
          try simp only [Act.put, List.getElem_toArray, List.getElem_cons_succ, List.getElem_cons_zero, List.setIfInBounds_toArray, List.set_cons_zero, List.set_cons_succ]
          have hA := Lib.hid (bk_new w2 w2.heap.size (by simp [size_alloc, size_drew]))
          have hB := Lib.hid (bel_trans hB.out (bel_alloc w2 (.cells #[.int .i64 0, .int .i64 0, .int .i64 0] 23)))
          have hlt := Lib.hid (bk_lt hA.out)
          have hbl : Hid (W.heap.size < w2.heap.size) := Lib.hid (by have := hsz.out; omega)
          refine wpAnyH_ready (rs := [5]) (by kernel_rfl) (by simp) ?_
          refine (AllReadyH.cons rfl (fun K hK => ?_) AllReadyH.nil)
          · go_simp
            refine hK.out _ _ ?_ (fun hHeld => ?_)
            · exact dc_alloc (by assumption)
            clear hK K
            try simp only [Act.put, List.getElem_toArray, List.getElem_cons_succ, List.getElem_cons_zero, List.setIfInBounds_toArray, List.set_cons_zero, List.set_cons_succ]
            have hC := Lib.hid (bk_new (w2.alloc (.cells #[.int .i64 0, .int .i64 0, .int .i64 0] 23)) (w2.heap.size + 1) (by simp [size_alloc, size_drew]))
            have hA := Lib.hid (bk_alloc (o := .cells #[.int .i64 0, .int .i64 0, .int .i64 0] 23) hA.out)
            have hB := Lib.hid (bel_trans hB.out (bel_alloc (w2.alloc (.cells #[.int .i64 0, .int .i64 0, .int .i64 0] 23)) (.cells #[.int .i64 0, .int .i64 0, .int .i64 0] 23)))
            have hne : Hid (w2.heap.size ≠ (w2.heap.size + 1)) := Lib.hid (Nat.ne_of_lt (by first | omega | exact hlt.out | (have := hlt.out; omega)))
            have hcl : Hid (W.heap.size < (w2.heap.size + 1)) := Lib.hid (by have := hsz.out; omega)
            refine wpAnyH_ready (rs := [6]) (by kernel_rfl) (by simp) ?_
            refine (AllReadyH.cons rfl (fun K hK => ?_) AllReadyH.nil)
            · rw [if_pos (by rfl)]
              refine wp_store_mid _ _ _ rfl w2.heap.size 0 #[.int .i64 fk, .int .i64 fw, .int .i64 fd] rfl rfl (there_of hA.out) (by kernel_rfl) (by simp [Value.oneCell']) ?_
              refine hK.out _ _ ?_ (fun hHeld => ?_)
              · exact dc_setCells (by assumption) hbl.out
              clear hK K
              try simp only [Act.put, List.getElem_toArray, List.getElem_cons_succ, List.getElem_cons_zero, List.setIfInBounds_toArray, List.set_cons_zero, List.set_cons_succ]
              have hC := Lib.hid (bk_other (o := 0) (l := [.int .i64 fk, .int .i64 fw, .int .i64 fd]) hC.out hne.out.symm)
              have hA := Lib.hid (bk_set fk fw fd hA.out)
              have hB := Lib.hid (bel_setCells (o := 0) (l := [.int .i64 fk, .int .i64 fw, .int .i64 fd]) hB.out (Nat.le_of_lt hbl.out))
              refine wpAnyH_ready (rs := [7]) (by kernel_rfl) (by simp) ?_
              refine (AllReadyH.cons rfl (fun K hK => ?_) AllReadyH.nil)
              · rw [if_pos (by rfl)]
                refine wp_store_mid _ _ _ rfl (w2.heap.size + 1) 0 #[.int .i64 gk, .int .i64 gw, .int .i64 gd] rfl rfl (there_of hC.out) (by kernel_rfl) (by simp [Value.oneCell']) ?_
                refine hK.out _ _ ?_ (fun hHeld => ?_)
                · exact dc_setCells (by assumption) hcl.out
                clear hK K
                try simp only [Act.put, List.getElem_toArray, List.getElem_cons_succ, List.getElem_cons_zero, List.setIfInBounds_toArray, List.set_cons_zero, List.set_cons_succ]
                have hA := Lib.hid (bk_other (o := 0) (l := [.int .i64 gk, .int .i64 gw, .int .i64 gd]) hA.out hne.out)
                have hC := Lib.hid (bk_set gk gw gd hC.out)
                have hB := Lib.hid (bel_setCells (o := 0) (l := [.int .i64 gk, .int .i64 gw, .int .i64 gd]) hB.out (Nat.le_of_lt hcl.out))
                refine wpAnyH_done (by kernel_rfl) ?_ _
                go_wp2_with fail
                go_meet
                case rel => exact ⟨w2.heap.size, (w2.heap.size + 1), fk, fw, fd, gk, gw, gd, rfl, rfl, Lib.hid ⟨Tabs.below (by exact HT.out) hB.out, hB.out, Nat.le_of_lt hbl.out, Nat.le_of_lt hcl.out, hne.out, hA.out, hC.out⟩, hg, hh⟩
        · go_simp
          refine hK.out _ _ ?_ (fun hHeld => ?_)
          · exact dc_alloc (by assumption)
          clear hK K
          try simp only [Act.put, List.getElem_toArray, List.getElem_cons_succ, List.getElem_cons_zero, List.setIfInBounds_toArray, List.set_cons_zero, List.set_cons_succ]
          have hC := Lib.hid (bk_new w2 w2.heap.size (by simp [size_alloc, size_drew]))
          have hB := Lib.hid (bel_trans hB.out (bel_alloc w2 (.cells #[.int .i64 0, .int .i64 0, .int .i64 0] 23)))
          have hlt := Lib.hid (bk_lt hC.out)
          have hcl : Hid (W.heap.size < w2.heap.size) := Lib.hid (by have := hsz.out; omega)
          refine wpAnyH_ready (rs := [4]) (by kernel_rfl) (by simp) ?_
          refine (AllReadyH.cons rfl (fun K hK => ?_) AllReadyH.nil)
          · go_simp
            refine hK.out _ _ ?_ (fun hHeld => ?_)
            · exact dc_alloc (by assumption)
            clear hK K
            try simp only [Act.put, List.getElem_toArray, List.getElem_cons_succ, List.getElem_cons_zero, List.setIfInBounds_toArray, List.set_cons_zero, List.set_cons_succ]
            have hA := Lib.hid (bk_new (w2.alloc (.cells #[.int .i64 0, .int .i64 0, .int .i64 0] 23)) (w2.heap.size + 1) (by simp [size_alloc, size_drew]))
            have hC := Lib.hid (bk_alloc (o := .cells #[.int .i64 0, .int .i64 0, .int .i64 0] 23) hC.out)
            have hB := Lib.hid (bel_trans hB.out (bel_alloc (w2.alloc (.cells #[.int .i64 0, .int .i64 0, .int .i64 0] 23)) (.cells #[.int .i64 0, .int .i64 0, .int .i64 0] 23)))
            have hne : Hid ((w2.heap.size + 1) ≠ w2.heap.size) := Lib.hid (Nat.ne_of_gt (by first | omega | exact hlt.out | (have := hlt.out; omega)))
            have hbl : Hid (W.heap.size < (w2.heap.size + 1)) := Lib.hid (by have := hsz.out; omega)
            refine wpAnyH_ready (rs := [6]) (by kernel_rfl) (by simp) ?_
            refine (AllReadyH.cons rfl (fun K hK => ?_) AllReadyH.nil)
            · rw [if_pos (by rfl)]
              refine wp_store_mid _ _ _ rfl (w2.heap.size + 1) 0 #[.int .i64 fk, .int .i64 fw, .int .i64 fd] rfl rfl (there_of hA.out) (by kernel_rfl) (by simp [Value.oneCell']) ?_
              refine hK.out _ _ ?_ (fun hHeld => ?_)
              · exact dc_setCells (by assumption) hbl.out
              clear hK K
              try simp only [Act.put, List.getElem_toArray, List.getElem_cons_succ, List.getElem_cons_zero, List.setIfInBounds_toArray, List.set_cons_zero, List.set_cons_succ]
              have hC := Lib.hid (bk_other (o := 0) (l := [.int .i64 fk, .int .i64 fw, .int .i64 fd]) hC.out hne.out.symm)
              have hA := Lib.hid (bk_set fk fw fd hA.out)
              have hB := Lib.hid (bel_setCells (o := 0) (l := [.int .i64 fk, .int .i64 fw, .int .i64 fd]) hB.out (Nat.le_of_lt hbl.out))
              refine wpAnyH_ready (rs := [7]) (by kernel_rfl) (by simp) ?_
              refine (AllReadyH.cons rfl (fun K hK => ?_) AllReadyH.nil)
              · rw [if_pos (by rfl)]
                refine wp_store_mid _ _ _ rfl w2.heap.size 0 #[.int .i64 gk, .int .i64 gw, .int .i64 gd] rfl rfl (there_of hC.out) (by kernel_rfl) (by simp [Value.oneCell']) ?_
                refine hK.out _ _ ?_ (fun hHeld => ?_)
                · exact dc_setCells (by assumption) hcl.out
                clear hK K
                try simp only [Act.put, List.getElem_toArray, List.getElem_cons_succ, List.getElem_cons_zero, List.setIfInBounds_toArray, List.set_cons_zero, List.set_cons_succ]
                have hA := Lib.hid (bk_other (o := 0) (l := [.int .i64 gk, .int .i64 gw, .int .i64 gd]) hA.out hne.out)
                have hC := Lib.hid (bk_set gk gw gd hC.out)
                have hB := Lib.hid (bel_setCells (o := 0) (l := [.int .i64 gk, .int .i64 gw, .int .i64 gd]) hB.out (Nat.le_of_lt hcl.out))
                refine wpAnyH_done (by kernel_rfl) ?_ _
                go_wp2_with fail
                go_meet
                case rel => exact ⟨(w2.heap.size + 1), w2.heap.size, fk, fw, fd, gk, gw, gd, rfl, rfl, Lib.hid ⟨Tabs.below (by exact HT.out) hB.out, hB.out, Nat.le_of_lt hbl.out, Nat.le_of_lt hcl.out, hne.out, hA.out, hC.out⟩, hg, hh⟩
      · go_simp
        refine hK.out _ _ ?_ (fun hHeld => ?_)
        · exact dc_alloc (by assumption)
        clear hK K
        try simp only [Act.put, List.getElem_toArray, List.getElem_cons_succ, List.getElem_cons_zero, List.setIfInBounds_toArray, List.set_cons_zero, List.set_cons_succ]
        have hA := Lib.hid (bk_new w1 w1.heap.size (by simp [size_alloc, size_drew]))
        have hB := Lib.hid (bel_trans hB.out (bel_alloc w1 (.cells #[.int .i64 0, .int .i64 0, .int .i64 0] 23)))
        have hlt := Lib.hid (bk_lt hA.out)
        have hbl : Hid (W.heap.size < w1.heap.size) := Lib.hid (by have := hsz.out; omega)
        refine wpAnyH_ready (rs := [3, 5]) (by kernel_rfl) (by simp) ?_
        refine (AllReadyH.cons rfl (fun K hK => ?_) (AllReadyH.cons rfl (fun K hK => ?_) AllReadyH.nil))
        · go_simp
          refine (made_any k w n _ wk ww wn).mono ?_
          rintro e w2 ⟨gk, gw, gd, hh, rfl, hb2⟩
          go_wp2_with fail
          refine hK.out _ _ ?_ (fun hHeld => ?_)
          · exact dc_below (by assumption) hb2
          clear hK K
          try simp only [Act.put, List.getElem_toArray, List.getElem_cons_succ, List.getElem_cons_zero, List.setIfInBounds_toArray, List.set_cons_zero, List.set_cons_succ]
          have hB := Lib.hid (bel_trans hB.out hb2)
          have hA := Lib.hid (bk_below hA.out hb2)
          have hlt := Lib.hid (Nat.lt_of_lt_of_le hlt.out hb2.size)
          have hsz := Lib.hid (show W.heap.size < w2.heap.size from dc_lt hHeld)
          clear hb2
          refine wpAnyH_ready (rs := [5]) (by kernel_rfl) (by simp) ?_
          refine (AllReadyH.cons rfl (fun K hK => ?_) AllReadyH.nil)
          · go_simp
            refine hK.out _ _ ?_ (fun hHeld => ?_)
            · exact dc_alloc (by assumption)
            clear hK K
            try simp only [Act.put, List.getElem_toArray, List.getElem_cons_succ, List.getElem_cons_zero, List.setIfInBounds_toArray, List.set_cons_zero, List.set_cons_succ]
            have hC := Lib.hid (bk_new w2 w2.heap.size (by simp [size_alloc, size_drew]))
            have hA := Lib.hid (bk_alloc (o := .cells #[.int .i64 0, .int .i64 0, .int .i64 0] 23) hA.out)
            have hB := Lib.hid (bel_trans hB.out (bel_alloc w2 (.cells #[.int .i64 0, .int .i64 0, .int .i64 0] 23)))
            have hne : Hid (w1.heap.size ≠ w2.heap.size) := Lib.hid (Nat.ne_of_lt (by first | omega | exact hlt.out | (have := hlt.out; omega)))
            have hcl : Hid (W.heap.size < w2.heap.size) := Lib.hid (by have := hsz.out; omega)
            refine wpAnyH_ready (rs := [6]) (by kernel_rfl) (by simp) ?_
            refine (AllReadyH.cons rfl (fun K hK => ?_) AllReadyH.nil)
            · rw [if_pos (by rfl)]
              refine wp_store_mid _ _ _ rfl w1.heap.size 0 #[.int .i64 fk, .int .i64 fw, .int .i64 fd] rfl rfl (there_of hA.out) (by kernel_rfl) (by simp [Value.oneCell']) ?_
              refine hK.out _ _ ?_ (fun hHeld => ?_)
              · exact dc_setCells (by assumption) hbl.out
              clear hK K
              try simp only [Act.put, List.getElem_toArray, List.getElem_cons_succ, List.getElem_cons_zero, List.setIfInBounds_toArray, List.set_cons_zero, List.set_cons_succ]
              have hC := Lib.hid (bk_other (o := 0) (l := [.int .i64 fk, .int .i64 fw, .int .i64 fd]) hC.out hne.out.symm)
              have hA := Lib.hid (bk_set fk fw fd hA.out)
              have hB := Lib.hid (bel_setCells (o := 0) (l := [.int .i64 fk, .int .i64 fw, .int .i64 fd]) hB.out (Nat.le_of_lt hbl.out))
              refine wpAnyH_ready (rs := [7]) (by kernel_rfl) (by simp) ?_
              refine (AllReadyH.cons rfl (fun K hK => ?_) AllReadyH.nil)
              · rw [if_pos (by rfl)]
                refine wp_store_mid _ _ _ rfl w2.heap.size 0 #[.int .i64 gk, .int .i64 gw, .int .i64 gd] rfl rfl (there_of hC.out) (by kernel_rfl) (by simp [Value.oneCell']) ?_
                refine hK.out _ _ ?_ (fun hHeld => ?_)
                · exact dc_setCells (by assumption) hcl.out
                clear hK K
                try simp only [Act.put, List.getElem_toArray, List.getElem_cons_succ, List.getElem_cons_zero, List.setIfInBounds_toArray, List.set_cons_zero, List.set_cons_succ]
                have hA := Lib.hid (bk_other (o := 0) (l := [.int .i64 gk, .int .i64 gw, .int .i64 gd]) hA.out hne.out)
                have hC := Lib.hid (bk_set gk gw gd hC.out)
                have hB := Lib.hid (bel_setCells (o := 0) (l := [.int .i64 gk, .int .i64 gw, .int .i64 gd]) hB.out (Nat.le_of_lt hcl.out))
                refine wpAnyH_done (by kernel_rfl) ?_ _
                go_wp2_with fail
                go_meet
                case rel => exact ⟨w1.heap.size, w2.heap.size, fk, fw, fd, gk, gw, gd, rfl, rfl, Lib.hid ⟨Tabs.below (by exact HT.out) hB.out, hB.out, Nat.le_of_lt hbl.out, Nat.le_of_lt hcl.out, hne.out, hA.out, hC.out⟩, hg, hh⟩
        · go_simp
          refine hK.out _ _ ?_ (fun hHeld => ?_)
          · exact dc_alloc (by assumption)
          clear hK K
          try simp only [Act.put, List.getElem_toArray, List.getElem_cons_succ, List.getElem_cons_zero, List.setIfInBounds_toArray, List.set_cons_zero, List.set_cons_succ]
          have hC := Lib.hid (bk_new (w1.alloc (.cells #[.int .i64 0, .int .i64 0, .int .i64 0] 23)) (w1.heap.size + 1) (by simp [size_alloc, size_drew]))
          have hA := Lib.hid (bk_alloc (o := .cells #[.int .i64 0, .int .i64 0, .int .i64 0] 23) hA.out)
          have hB := Lib.hid (bel_trans hB.out (bel_alloc (w1.alloc (.cells #[.int .i64 0, .int .i64 0, .int .i64 0] 23)) (.cells #[.int .i64 0, .int .i64 0, .int .i64 0] 23)))
          have hne : Hid (w1.heap.size ≠ (w1.heap.size + 1)) := Lib.hid (Nat.ne_of_lt (by first | omega | exact hlt.out | (have := hlt.out; omega)))
          have hcl : Hid (W.heap.size < (w1.heap.size + 1)) := Lib.hid (by have := hsz.out; omega)
          refine wpAnyH_ready (rs := [3]) (by kernel_rfl) (by simp) ?_
          refine (AllReadyH.cons rfl (fun K hK => ?_) AllReadyH.nil)
          · go_simp
            refine (made_any k w n _ wk ww wn).mono ?_
            rintro e w2 ⟨gk, gw, gd, hh, rfl, hb2⟩
            go_wp2_with fail
            refine hK.out _ _ ?_ (fun hHeld => ?_)
            · exact dc_below (by assumption) hb2
            clear hK K
            try simp only [Act.put, List.getElem_toArray, List.getElem_cons_succ, List.getElem_cons_zero, List.setIfInBounds_toArray, List.set_cons_zero, List.set_cons_succ]
            have hB := Lib.hid (bel_trans hB.out hb2)
            have hA := Lib.hid (bk_below hA.out hb2)
            have hC := Lib.hid (bk_below hC.out hb2)
            have hsz := Lib.hid (show W.heap.size < w2.heap.size from dc_lt hHeld)
            clear hb2
            refine wpAnyH_ready (rs := [6]) (by kernel_rfl) (by simp) ?_
            refine (AllReadyH.cons rfl (fun K hK => ?_) AllReadyH.nil)
            · rw [if_pos (by rfl)]
              refine wp_store_mid _ _ _ rfl w1.heap.size 0 #[.int .i64 fk, .int .i64 fw, .int .i64 fd] rfl rfl (there_of hA.out) (by kernel_rfl) (by simp [Value.oneCell']) ?_
              refine hK.out _ _ ?_ (fun hHeld => ?_)
              · exact dc_setCells (by assumption) hbl.out
              clear hK K
              try simp only [Act.put, List.getElem_toArray, List.getElem_cons_succ, List.getElem_cons_zero, List.setIfInBounds_toArray, List.set_cons_zero, List.set_cons_succ]
              have hC := Lib.hid (bk_other (o := 0) (l := [.int .i64 fk, .int .i64 fw, .int .i64 fd]) hC.out hne.out.symm)
              have hA := Lib.hid (bk_set fk fw fd hA.out)
              have hB := Lib.hid (bel_setCells (o := 0) (l := [.int .i64 fk, .int .i64 fw, .int .i64 fd]) hB.out (Nat.le_of_lt hbl.out))
              refine wpAnyH_ready (rs := [7]) (by kernel_rfl) (by simp) ?_
              refine (AllReadyH.cons rfl (fun K hK => ?_) AllReadyH.nil)
              · rw [if_pos (by rfl)]
                refine wp_store_mid _ _ _ rfl (w1.heap.size + 1) 0 #[.int .i64 gk, .int .i64 gw, .int .i64 gd] rfl rfl (there_of hC.out) (by kernel_rfl) (by simp [Value.oneCell']) ?_
                refine hK.out _ _ ?_ (fun hHeld => ?_)
                · exact dc_setCells (by assumption) hcl.out
                clear hK K
                try simp only [Act.put, List.getElem_toArray, List.getElem_cons_succ, List.getElem_cons_zero, List.setIfInBounds_toArray, List.set_cons_zero, List.set_cons_succ]
                have hA := Lib.hid (bk_other (o := 0) (l := [.int .i64 gk, .int .i64 gw, .int .i64 gd]) hA.out hne.out)
                have hC := Lib.hid (bk_set gk gw gd hC.out)
                have hB := Lib.hid (bel_setCells (o := 0) (l := [.int .i64 gk, .int .i64 gw, .int .i64 gd]) hB.out (Nat.le_of_lt hcl.out))
                refine wpAnyH_done (by kernel_rfl) ?_ _
                go_wp2_with fail
                go_meet
                case rel => exact ⟨w1.heap.size, (w1.heap.size + 1), fk, fw, fd, gk, gw, gd, rfl, rfl, Lib.hid ⟨Tabs.below (by exact HT.out) hB.out, hB.out, Nat.le_of_lt hbl.out, Nat.le_of_lt hcl.out, hne.out, hA.out, hC.out⟩, hg, hh⟩
      · go_simp
        refine hK.out _ _ ?_ (fun hHeld => ?_)
        · exact dc_alloc (by assumption)
        clear hK K
        try simp only [Act.put, List.getElem_toArray, List.getElem_cons_succ, List.getElem_cons_zero, List.setIfInBounds_toArray, List.set_cons_zero, List.set_cons_succ]
        have hC := Lib.hid (bk_new w1 w1.heap.size (by simp [size_alloc, size_drew]))
        have hB := Lib.hid (bel_trans hB.out (bel_alloc w1 (.cells #[.int .i64 0, .int .i64 0, .int .i64 0] 23)))
        have hlt := Lib.hid (bk_lt hC.out)
        have hcl : Hid (W.heap.size < w1.heap.size) := Lib.hid (by have := hsz.out; omega)
        refine wpAnyH_ready (rs := [3, 4]) (by kernel_rfl) (by simp) ?_
        refine (AllReadyH.cons rfl (fun K hK => ?_) (AllReadyH.cons rfl (fun K hK => ?_) AllReadyH.nil))
        · go_simp
          refine (made_any k w n _ wk ww wn).mono ?_
          rintro e w2 ⟨gk, gw, gd, hh, rfl, hb2⟩
          go_wp2_with fail
          refine hK.out _ _ ?_ (fun hHeld => ?_)
          · exact dc_below (by assumption) hb2
          clear hK K
          try simp only [Act.put, List.getElem_toArray, List.getElem_cons_succ, List.getElem_cons_zero, List.setIfInBounds_toArray, List.set_cons_zero, List.set_cons_succ]
          have hB := Lib.hid (bel_trans hB.out hb2)
          have hC := Lib.hid (bk_below hC.out hb2)
          have hlt := Lib.hid (Nat.lt_of_lt_of_le hlt.out hb2.size)
          have hsz := Lib.hid (show W.heap.size < w2.heap.size from dc_lt hHeld)
          clear hb2
          refine wpAnyH_ready (rs := [4]) (by kernel_rfl) (by simp) ?_
          refine (AllReadyH.cons rfl (fun K hK => ?_) AllReadyH.nil)
          · go_simp
            refine hK.out _ _ ?_ (fun hHeld => ?_)
            · exact dc_alloc (by assumption)
            clear hK K
            try simp only [Act.put, List.getElem_toArray, List.getElem_cons_succ, List.getElem_cons_zero, List.setIfInBounds_toArray, List.set_cons_zero, List.set_cons_succ]
            have hA := Lib.hid (bk_new w2 w2.heap.size (by simp [size_alloc, size_drew]))
            have hC := Lib.hid (bk_alloc (o := .cells #[.int .i64 0, .int .i64 0, .int .i64 0] 23) hC.out)
            have hB := Lib.hid (bel_trans hB.out (bel_alloc w2 (.cells #[.int .i64 0, .int .i64 0, .int .i64 0] 23)))
            have hne : Hid (w2.heap.size ≠ w1.heap.size) := Lib.hid (Nat.ne_of_gt (by first | omega | exact hlt.out | (have := hlt.out; omega)))
            have hbl : Hid (W.heap.size < w2.heap.size) := Lib.hid (by have := hsz.out; omega)
            refine wpAnyH_ready (rs := [6]) (by kernel_rfl) (by simp) ?_
            refine (AllReadyH.cons rfl (fun K hK => ?_) AllReadyH.nil)
            · rw [if_pos (by rfl)]
              refine wp_store_mid _ _ _ rfl w2.heap.size 0 #[.int .i64 fk, .int .i64 fw, .int .i64 fd] rfl rfl (there_of hA.out) (by kernel_rfl) (by simp [Value.oneCell']) ?_
              refine hK.out _ _ ?_ (fun hHeld => ?_)
              · exact dc_setCells (by assumption) hbl.out
              clear hK K
              try simp only [Act.put, List.getElem_toArray, List.getElem_cons_succ, List.getElem_cons_zero, List.setIfInBounds_toArray, List.set_cons_zero, List.set_cons_succ]
              have hC := Lib.hid (bk_other (o := 0) (l := [.int .i64 fk, .int .i64 fw, .int .i64 fd]) hC.out hne.out.symm)
              have hA := Lib.hid (bk_set fk fw fd hA.out)
              have hB := Lib.hid (bel_setCells (o := 0) (l := [.int .i64 fk, .int .i64 fw, .int .i64 fd]) hB.out (Nat.le_of_lt hbl.out))
              refine wpAnyH_ready (rs := [7]) (by kernel_rfl) (by simp) ?_
              refine (AllReadyH.cons rfl (fun K hK => ?_) AllReadyH.nil)
              · rw [if_pos (by rfl)]
                refine wp_store_mid _ _ _ rfl w1.heap.size 0 #[.int .i64 gk, .int .i64 gw, .int .i64 gd] rfl rfl (there_of hC.out) (by kernel_rfl) (by simp [Value.oneCell']) ?_
                refine hK.out _ _ ?_ (fun hHeld => ?_)
                · exact dc_setCells (by assumption) hcl.out
                clear hK K
                try simp only [Act.put, List.getElem_toArray, List.getElem_cons_succ, List.getElem_cons_zero, List.setIfInBounds_toArray, List.set_cons_zero, List.set_cons_succ]
                have hA := Lib.hid (bk_other (o := 0) (l := [.int .i64 gk, .int .i64 gw, .int .i64 gd]) hA.out hne.out)
                have hC := Lib.hid (bk_set gk gw gd hC.out)
                have hB := Lib.hid (bel_setCells (o := 0) (l := [.int .i64 gk, .int .i64 gw, .int .i64 gd]) hB.out (Nat.le_of_lt hcl.out))
                refine wpAnyH_done (by kernel_rfl) ?_ _
                go_wp2_with fail
                go_meet
                case rel => exact ⟨w2.heap.size, w1.heap.size, fk, fw, fd, gk, gw, gd, rfl, rfl, Lib.hid ⟨Tabs.below (by exact HT.out) hB.out, hB.out, Nat.le_of_lt hbl.out, Nat.le_of_lt hcl.out, hne.out, hA.out, hC.out⟩, hg, hh⟩
        · go_simp
          refine hK.out _ _ ?_ (fun hHeld => ?_)
          · exact dc_alloc (by assumption)
          clear hK K
          try simp only [Act.put, List.getElem_toArray, List.getElem_cons_succ, List.getElem_cons_zero, List.setIfInBounds_toArray, List.set_cons_zero, List.set_cons_succ]
          have hA := Lib.hid (bk_new (w1.alloc (.cells #[.int .i64 0, .int .i64 0, .int .i64 0] 23)) (w1.heap.size + 1) (by simp [size_alloc, size_drew]))
          have hC := Lib.hid (bk_alloc (o := .cells #[.int .i64 0, .int .i64 0, .int .i64 0] 23) hC.out)
          have hB := Lib.hid (bel_trans hB.out (bel_alloc (w1.alloc (.cells #[.int .i64 0, .int .i64 0, .int .i64 0] 23)) (.cells #[.int .i64 0, .int .i64 0, .int .i64 0] 23)))
          have hne : Hid ((w1.heap.size + 1) ≠ w1.heap.size) := Lib.hid (Nat.ne_of_gt (by first | omega | exact hlt.out | (have := hlt.out; omega)))
          have hbl : Hid (W.heap.size < (w1.heap.size + 1)) := Lib.hid (by have := hsz.out; omega)
          refine wpAnyH_ready (rs := [3]) (by kernel_rfl) (by simp) ?_
          refine (AllReadyH.cons rfl (fun K hK => ?_) AllReadyH.nil)
          · go_simp
            refine (made_any k w n _ wk ww wn).mono ?_
            rintro e w2 ⟨gk, gw, gd, hh, rfl, hb2⟩
            go_wp2_with fail
            refine hK.out _ _ ?_ (fun hHeld => ?_)
            · exact dc_below (by assumption) hb2
            clear hK K
            try simp only [Act.put, List.getElem_toArray, List.getElem_cons_succ, List.getElem_cons_zero, List.setIfInBounds_toArray, List.set_cons_zero, List.set_cons_succ]
            have hB := Lib.hid (bel_trans hB.out hb2)
            have hA := Lib.hid (bk_below hA.out hb2)
            have hC := Lib.hid (bk_below hC.out hb2)
            have hsz := Lib.hid (show W.heap.size < w2.heap.size from dc_lt hHeld)
            clear hb2
            refine wpAnyH_ready (rs := [6]) (by kernel_rfl) (by simp) ?_
            refine (AllReadyH.cons rfl (fun K hK => ?_) AllReadyH.nil)
            · rw [if_pos (by rfl)]
              refine wp_store_mid _ _ _ rfl (w1.heap.size + 1) 0 #[.int .i64 fk, .int .i64 fw, .int .i64 fd] rfl rfl (there_of hA.out) (by kernel_rfl) (by simp [Value.oneCell']) ?_
              refine hK.out _ _ ?_ (fun hHeld => ?_)
              · exact dc_setCells (by assumption) hbl.out
              clear hK K
              try simp only [Act.put, List.getElem_toArray, List.getElem_cons_succ, List.getElem_cons_zero, List.setIfInBounds_toArray, List.set_cons_zero, List.set_cons_succ]
              have hC := Lib.hid (bk_other (o := 0) (l := [.int .i64 fk, .int .i64 fw, .int .i64 fd]) hC.out hne.out.symm)
              have hA := Lib.hid (bk_set fk fw fd hA.out)
              have hB := Lib.hid (bel_setCells (o := 0) (l := [.int .i64 fk, .int .i64 fw, .int .i64 fd]) hB.out (Nat.le_of_lt hbl.out))
              refine wpAnyH_ready (rs := [7]) (by kernel_rfl) (by simp) ?_
              refine (AllReadyH.cons rfl (fun K hK => ?_) AllReadyH.nil)
              · rw [if_pos (by rfl)]
                refine wp_store_mid _ _ _ rfl w1.heap.size 0 #[.int .i64 gk, .int .i64 gw, .int .i64 gd] rfl rfl (there_of hC.out) (by kernel_rfl) (by simp [Value.oneCell']) ?_
                refine hK.out _ _ ?_ (fun hHeld => ?_)
                · exact dc_setCells (by assumption) hcl.out
                clear hK K
                try simp only [Act.put, List.getElem_toArray, List.getElem_cons_succ, List.getElem_cons_zero, List.setIfInBounds_toArray, List.set_cons_zero, List.set_cons_succ]
                have hA := Lib.hid (bk_other (o := 0) (l := [.int .i64 gk, .int .i64 gw, .int .i64 gd]) hA.out hne.out)
                have hC := Lib.hid (bk_set gk gw gd hC.out)
                have hB := Lib.hid (bel_setCells (o := 0) (l := [.int .i64 gk, .int .i64 gw, .int .i64 gd]) hB.out (Nat.le_of_lt hcl.out))
                refine wpAnyH_done (by kernel_rfl) ?_ _
                go_wp2_with fail
                go_meet
                case rel => exact ⟨(w1.heap.size + 1), w1.heap.size, fk, fw, fd, gk, gw, gd, rfl, rfl, Lib.hid ⟨Tabs.below (by exact HT.out) hB.out, hB.out, Nat.le_of_lt hbl.out, Nat.le_of_lt hcl.out, hne.out, hA.out, hC.out⟩, hg, hh⟩
    · go_simp
      refine hK.out _ _ ?_ (fun hHeld => ?_)
      · exact dc_alloc (by assumption)
      clear hK K
      try simp only [Act.put, List.getElem_toArray, List.getElem_cons_succ, List.getElem_cons_zero, List.setIfInBounds_toArray, List.set_cons_zero, List.set_cons_succ]
      have hA := Lib.hid (bk_new (W.alloc (.cells #[.int .u8 k, .int .u8 w, .int .u8 n] 32)).drew (W.heap.size + 1) (by simp [size_alloc, size_drew]))
      have hB := Lib.hid (bel_trans hB.out (bel_alloc (W.alloc (.cells #[.int .u8 k, .int .u8 w, .int .u8 n] 32)).drew (.cells #[.int .i64 0, .int .i64 0, .int .i64 0] 23)))
      have hlt := Lib.hid (bk_lt hA.out)
      have hbl : Hid (W.heap.size < (W.heap.size + 1)) := Lib.hid (by have := hsz.out; omega)
      refine wpAnyH_ready (rs := [1, 5]) (by kernel_rfl) (by simp) ?_
      refine (AllReadyH.cons rfl (fun K hK => ?_) (AllReadyH.cons rfl (fun K hK => ?_) AllReadyH.nil))
      · go_simp
        refine (made_any k w n _ wk ww wn).mono ?_
        rintro e w1 ⟨fk, fw, fd, hg, rfl, hb1⟩
        go_wp2_with fail
        refine hK.out _ _ ?_ (fun hHeld => ?_)
        · exact dc_below (by assumption) hb1
        clear hK K
        try simp only [Act.put, List.getElem_toArray, List.getElem_cons_succ, List.getElem_cons_zero, List.setIfInBounds_toArray, List.set_cons_zero, List.set_cons_succ]
        have hB := Lib.hid (bel_trans hB.out hb1)
        have hA := Lib.hid (bk_below hA.out hb1)
        have hlt := Lib.hid (Nat.lt_of_lt_of_le hlt.out hb1.size)
        have hsz := Lib.hid (show W.heap.size < w1.heap.size from dc_lt hHeld)
        clear hb1
        refine wpAnyH_ready (rs := [3, 5]) (by kernel_rfl) (by simp) ?_
        refine (AllReadyH.cons rfl (fun K hK => ?_) (AllReadyH.cons rfl (fun K hK => ?_) AllReadyH.nil))
        · go_simp
          refine (made_any k w n _ wk ww wn).mono ?_
          rintro e w2 ⟨gk, gw, gd, hh, rfl, hb2⟩
          go_wp2_with fail
          refine hK.out _ _ ?_ (fun hHeld => ?_)
          · exact dc_below (by assumption) hb2
          clear hK K
          try simp only [Act.put, List.getElem_toArray, List.getElem_cons_succ, List.getElem_cons_zero, List.setIfInBounds_toArray, List.set_cons_zero, List.set_cons_succ]
          have hB := Lib.hid (bel_trans hB.out hb2)
          have hA := Lib.hid (bk_below hA.out hb2)
          have hlt := Lib.hid (Nat.lt_of_lt_of_le hlt.out hb2.size)
          have hsz := Lib.hid (show W.heap.size < w2.heap.size from dc_lt hHeld)
          clear hb2
          refine wpAnyH_ready (rs := [5]) (by kernel_rfl) (by simp) ?_
          refine (AllReadyH.cons rfl (fun K hK => ?_) AllReadyH.nil)
          · go_simp
            refine hK.out _ _ ?_ (fun hHeld => ?_)
            · exact dc_alloc (by assumption)
            clear hK K
            try simp only [Act.put, List.getElem_toArray, List.getElem_cons_succ, List.getElem_cons_zero, List.setIfInBounds_toArray, List.set_cons_zero, List.set_cons_succ]
            have hC := Lib.hid (bk_new w2 w2.heap.size (by simp [size_alloc, size_drew]))
            have hA := Lib.hid (bk_alloc (o := .cells #[.int .i64 0, .int .i64 0, .int .i64 0] 23) hA.out)
            have hB := Lib.hid (bel_trans hB.out (bel_alloc w2 (.cells #[.int .i64 0, .int .i64 0, .int .i64 0] 23)))
            have hne : Hid ((W.heap.size + 1) ≠ w2.heap.size) := Lib.hid (Nat.ne_of_lt (by first | omega | exact hlt.out | (have := hlt.out; omega)))
            have hcl : Hid (W.heap.size < w2.heap.size) := Lib.hid (by have := hsz.out; omega)
            refine wpAnyH_ready (rs := [6]) (by kernel_rfl) (by simp) ?_
            refine (AllReadyH.cons rfl (fun K hK => ?_) AllReadyH.nil)
            · rw [if_pos (by rfl)]
              refine wp_store_mid _ _ _ rfl (W.heap.size + 1) 0 #[.int .i64 fk, .int .i64 fw, .int .i64 fd] rfl rfl (there_of hA.out) (by kernel_rfl) (by simp [Value.oneCell']) ?_
              refine hK.out _ _ ?_ (fun hHeld => ?_)
              · exact dc_setCells (by assumption) hbl.out
              clear hK K
              try simp only [Act.put, List.getElem_toArray, List.getElem_cons_succ, List.getElem_cons_zero, List.setIfInBounds_toArray, List.set_cons_zero, List.set_cons_succ]
              have hC := Lib.hid (bk_other (o := 0) (l := [.int .i64 fk, .int .i64 fw, .int .i64 fd]) hC.out hne.out.symm)
              have hA := Lib.hid (bk_set fk fw fd hA.out)
              have hB := Lib.hid (bel_setCells (o := 0) (l := [.int .i64 fk, .int .i64 fw, .int .i64 fd]) hB.out (Nat.le_of_lt hbl.out))
              refine wpAnyH_ready (rs := [7]) (by kernel_rfl) (by simp) ?_
              refine (AllReadyH.cons rfl (fun K hK => ?_) AllReadyH.nil)
              · rw [if_pos (by rfl)]
                refine wp_store_mid _ _ _ rfl w2.heap.size 0 #[.int .i64 gk, .int .i64 gw, .int .i64 gd] rfl rfl (there_of hC.out) (by kernel_rfl) (by simp [Value.oneCell']) ?_
                refine hK.out _ _ ?_ (fun hHeld => ?_)
                · exact dc_setCells (by assumption) hcl.out
                clear hK K
                try simp only [Act.put, List.getElem_toArray, List.getElem_cons_succ, List.getElem_cons_zero, List.setIfInBounds_toArray, List.set_cons_zero, List.set_cons_succ]
                have hA := Lib.hid (bk_other (o := 0) (l := [.int .i64 gk, .int .i64 gw, .int .i64 gd]) hA.out hne.out)
                have hC := Lib.hid (bk_set gk gw gd hC.out)
                have hB := Lib.hid (bel_setCells (o := 0) (l := [.int .i64 gk, .int .i64 gw, .int .i64 gd]) hB.out (Nat.le_of_lt hcl.out))
                refine wpAnyH_done (by kernel_rfl) ?_ _
                go_wp2_with fail
                go_meet
                case rel => exact ⟨(W.heap.size + 1), w2.heap.size, fk, fw, fd, gk, gw, gd, rfl, rfl, Lib.hid ⟨Tabs.below (by exact HT.out) hB.out, hB.out, Nat.le_of_lt hbl.out, Nat.le_of_lt hcl.out, hne.out, hA.out, hC.out⟩, hg, hh⟩
        · go_simp
          refine hK.out _ _ ?_ (fun hHeld => ?_)
          · exact dc_alloc (by assumption)
          clear hK K
          try simp only [Act.put, List.getElem_toArray, List.getElem_cons_succ, List.getElem_cons_zero, List.setIfInBounds_toArray, List.set_cons_zero, List.set_cons_succ]
          have hC := Lib.hid (bk_new w1 w1.heap.size (by simp [size_alloc, size_drew]))
          have hA := Lib.hid (bk_alloc (o := .cells #[.int .i64 0, .int .i64 0, .int .i64 0] 23) hA.out)
          have hB := Lib.hid (bel_trans hB.out (bel_alloc w1 (.cells #[.int .i64 0, .int .i64 0, .int .i64 0] 23)))
          have hne : Hid ((W.heap.size + 1) ≠ w1.heap.size) := Lib.hid (Nat.ne_of_lt (by first | omega | exact hlt.out | (have := hlt.out; omega)))
          have hcl : Hid (W.heap.size < w1.heap.size) := Lib.hid (by have := hsz.out; omega)
          refine wpAnyH_ready (rs := [3]) (by kernel_rfl) (by simp) ?_
          refine (AllReadyH.cons rfl (fun K hK => ?_) AllReadyH.nil)
          · go_simp
            refine (made_any k w n _ wk ww wn).mono ?_
            rintro e w2 ⟨gk, gw, gd, hh, rfl, hb2⟩
            go_wp2_with fail
            refine hK.out _ _ ?_ (fun hHeld => ?_)
            · exact dc_below (by assumption) hb2
            clear hK K
            try simp only [Act.put, List.getElem_toArray, List.getElem_cons_succ, List.getElem_cons_zero, List.setIfInBounds_toArray, List.set_cons_zero, List.set_cons_succ]
            have hB := Lib.hid (bel_trans hB.out hb2)
            have hA := Lib.hid (bk_below hA.out hb2)
            have hC := Lib.hid (bk_below hC.out hb2)
            have hsz := Lib.hid (show W.heap.size < w2.heap.size from dc_lt hHeld)
            clear hb2
            refine wpAnyH_ready (rs := [6]) (by kernel_rfl) (by simp) ?_
            refine (AllReadyH.cons rfl (fun K hK => ?_) AllReadyH.nil)
            · rw [if_pos (by rfl)]
              refine wp_store_mid _ _ _ rfl (W.heap.size + 1) 0 #[.int .i64 fk, .int .i64 fw, .int .i64 fd] rfl rfl (there_of hA.out) (by kernel_rfl) (by simp [Value.oneCell']) ?_
              refine hK.out _ _ ?_ (fun hHeld => ?_)
              · exact dc_setCells (by assumption) hbl.out
              clear hK K
              try simp only [Act.put, List.getElem_toArray, List.getElem_cons_succ, List.getElem_cons_zero, List.setIfInBounds_toArray, List.set_cons_zero, List.set_cons_succ]
              have hC := Lib.hid (bk_other (o := 0) (l := [.int .i64 fk, .int .i64 fw, .int .i64 fd]) hC.out hne.out.symm)
              have hA := Lib.hid (bk_set fk fw fd hA.out)
              have hB := Lib.hid (bel_setCells (o := 0) (l := [.int .i64 fk, .int .i64 fw, .int .i64 fd]) hB.out (Nat.le_of_lt hbl.out))
              refine wpAnyH_ready (rs := [7]) (by kernel_rfl) (by simp) ?_
              refine (AllReadyH.cons rfl (fun K hK => ?_) AllReadyH.nil)
              · rw [if_pos (by rfl)]
                refine wp_store_mid _ _ _ rfl w1.heap.size 0 #[.int .i64 gk, .int .i64 gw, .int .i64 gd] rfl rfl (there_of hC.out) (by kernel_rfl) (by simp [Value.oneCell']) ?_
                refine hK.out _ _ ?_ (fun hHeld => ?_)
                · exact dc_setCells (by assumption) hcl.out
                clear hK K
                try simp only [Act.put, List.getElem_toArray, List.getElem_cons_succ, List.getElem_cons_zero, List.setIfInBounds_toArray, List.set_cons_zero, List.set_cons_succ]
                have hA := Lib.hid (bk_other (o := 0) (l := [.int .i64 gk, .int .i64 gw, .int .i64 gd]) hA.out hne.out)
                have hC := Lib.hid (bk_set gk gw gd hC.out)
                have hB := Lib.hid (bel_setCells (o := 0) (l := [.int .i64 gk, .int .i64 gw, .int .i64 gd]) hB.out (Nat.le_of_lt hcl.out))
                refine wpAnyH_done (by kernel_rfl) ?_ _
                go_wp2_with fail
                go_meet
                case rel => exact ⟨(W.heap.size + 1), w1.heap.size, fk, fw, fd, gk, gw, gd, rfl, rfl, Lib.hid ⟨Tabs.below (by exact HT.out) hB.out, hB.out, Nat.le_of_lt hbl.out, Nat.le_of_lt hcl.out, hne.out, hA.out, hC.out⟩, hg, hh⟩
      · go_simp
        refine hK.out _ _ ?_ (fun hHeld => ?_)
        · exact dc_alloc (by assumption)
        clear hK K
        try simp only [Act.put, List.getElem_toArray, List.getElem_cons_succ, List.getElem_cons_zero, List.setIfInBounds_toArray, List.set_cons_zero, List.set_cons_succ]
        have hC := Lib.hid (bk_new ((W.alloc (.cells #[.int .u8 k, .int .u8 w, .int .u8 n] 32)).drew.alloc (.cells #[.int .i64 0, .int .i64 0, .int .i64 0] 23)) (W.heap.size + 2) (by simp [size_alloc, size_drew]))
        have hA := Lib.hid (bk_alloc (o := .cells #[.int .i64 0, .int .i64 0, .int .i64 0] 23) hA.out)
        have hB := Lib.hid (bel_trans hB.out (bel_alloc ((W.alloc (.cells #[.int .u8 k, .int .u8 w, .int .u8 n] 32)).drew.alloc (.cells #[.int .i64 0, .int .i64 0, .int .i64 0] 23)) (.cells #[.int .i64 0, .int .i64 0, .int .i64 0] 23)))
        have hne : Hid ((W.heap.size + 1) ≠ (W.heap.size + 2)) := Lib.hid (Nat.ne_of_lt (by first | omega | exact hlt.out | (have := hlt.out; omega)))
        have hcl : Hid (W.heap.size < (W.heap.size + 2)) := Lib.hid (by have := hsz.out; omega)
        refine wpAnyH_ready (rs := [1]) (by kernel_rfl) (by simp) ?_
        refine (AllReadyH.cons rfl (fun K hK => ?_) AllReadyH.nil)
        · go_simp
          refine (made_any k w n _ wk ww wn).mono ?_
          rintro e w1 ⟨fk, fw, fd, hg, rfl, hb1⟩
          go_wp2_with fail
          refine hK.out _ _ ?_ (fun hHeld => ?_)
          · exact dc_below (by assumption) hb1
          clear hK K
          try simp only [Act.put, List.getElem_toArray, List.getElem_cons_succ, List.getElem_cons_zero, List.setIfInBounds_toArray, List.set_cons_zero, List.set_cons_succ]
          have hB := Lib.hid (bel_trans hB.out hb1)
          have hA := Lib.hid (bk_below hA.out hb1)
          have hC := Lib.hid (bk_below hC.out hb1)
          have hsz := Lib.hid (show W.heap.size < w1.heap.size from dc_lt hHeld)
          clear hb1
          refine wpAnyH_ready (rs := [3]) (by kernel_rfl) (by simp) ?_
          refine (AllReadyH.cons rfl (fun K hK => ?_) AllReadyH.nil)
          · go_simp
            refine (made_any k w n _ wk ww wn).mono ?_
            rintro e w2 ⟨gk, gw, gd, hh, rfl, hb2⟩
            go_wp2_with fail
            refine hK.out _ _ ?_ (fun hHeld => ?_)
            · exact dc_below (by assumption) hb2
            clear hK K
            try simp only [Act.put, List.getElem_toArray, List.getElem_cons_succ, List.getElem_cons_zero, List.setIfInBounds_toArray, List.set_cons_zero, List.set_cons_succ]
            have hB := Lib.hid (bel_trans hB.out hb2)
            have hA := Lib.hid (bk_below hA.out hb2)
            have hC := Lib.hid (bk_below hC.out hb2)
            have hsz := Lib.hid (show W.heap.size < w2.heap.size from dc_lt hHeld)
            clear hb2
            refine wpAnyH_ready (rs := [6]) (by kernel_rfl) (by simp) ?_
            refine (AllReadyH.cons rfl (fun K hK => ?_) AllReadyH.nil)
            · rw [if_pos (by rfl)]
              refine wp_store_mid _ _ _ rfl (W.heap.size + 1) 0 #[.int .i64 fk, .int .i64 fw, .int .i64 fd] rfl rfl (there_of hA.out) (by kernel_rfl) (by simp [Value.oneCell']) ?_
              refine hK.out _ _ ?_ (fun hHeld => ?_)
              · exact dc_setCells (by assumption) hbl.out
              clear hK K
              try simp only [Act.put, List.getElem_toArray, List.getElem_cons_succ, List.getElem_cons_zero, List.setIfInBounds_toArray, List.set_cons_zero, List.set_cons_succ]
              have hC := Lib.hid (bk_other (o := 0) (l := [.int .i64 fk, .int .i64 fw, .int .i64 fd]) hC.out hne.out.symm)
              have hA := Lib.hid (bk_set fk fw fd hA.out)
              have hB := Lib.hid (bel_setCells (o := 0) (l := [.int .i64 fk, .int .i64 fw, .int .i64 fd]) hB.out (Nat.le_of_lt hbl.out))
              refine wpAnyH_ready (rs := [7]) (by kernel_rfl) (by simp) ?_
              refine (AllReadyH.cons rfl (fun K hK => ?_) AllReadyH.nil)
              · rw [if_pos (by rfl)]
                refine wp_store_mid _ _ _ rfl (W.heap.size + 2) 0 #[.int .i64 gk, .int .i64 gw, .int .i64 gd] rfl rfl (there_of hC.out) (by kernel_rfl) (by simp [Value.oneCell']) ?_
                refine hK.out _ _ ?_ (fun hHeld => ?_)
                · exact dc_setCells (by assumption) hcl.out
                clear hK K
                try simp only [Act.put, List.getElem_toArray, List.getElem_cons_succ, List.getElem_cons_zero, List.setIfInBounds_toArray, List.set_cons_zero, List.set_cons_succ]
                have hA := Lib.hid (bk_other (o := 0) (l := [.int .i64 gk, .int .i64 gw, .int .i64 gd]) hA.out hne.out)
                have hC := Lib.hid (bk_set gk gw gd hC.out)
                have hB := Lib.hid (bel_setCells (o := 0) (l := [.int .i64 gk, .int .i64 gw, .int .i64 gd]) hB.out (Nat.le_of_lt hcl.out))
                refine wpAnyH_done (by kernel_rfl) ?_ _
                go_wp2_with fail
                go_meet
                case rel => exact ⟨(W.heap.size + 1), (W.heap.size + 2), fk, fw, fd, gk, gw, gd, rfl, rfl, Lib.hid ⟨Tabs.below (by exact HT.out) hB.out, hB.out, Nat.le_of_lt hbl.out, Nat.le_of_lt hcl.out, hne.out, hA.out, hC.out⟩, hg, hh⟩
    · go_simp
      refine hK.out _ _ ?_ (fun hHeld => ?_)
      · exact dc_alloc (by assumption)
      clear hK K
      try simp only [Act.put, List.getElem_toArray, List.getElem_cons_succ, List.getElem_cons_zero, List.setIfInBounds_toArray, List.set_cons_zero, List.set_cons_succ]
      have hC := Lib.hid (bk_new (W.alloc (.cells #[.int .u8 k, .int .u8 w, .int .u8 n] 32)).drew (W.heap.size + 1) (by simp [size_alloc, size_drew]))
      have hB := Lib.hid (bel_trans hB.out (bel_alloc (W.alloc (.cells #[.int .u8 k, .int .u8 w, .int .u8 n] 32)).drew (.cells #[.int .i64 0, .int .i64 0, .int .i64 0] 23)))
      have hlt := Lib.hid (bk_lt hC.out)
      have hcl : Hid (W.heap.size < (W.heap.size + 1)) := Lib.hid (by have := hsz.out; omega)
      refine wpAnyH_ready (rs := [1, 4]) (by kernel_rfl) (by simp) ?_
      refine (AllReadyH.cons rfl (fun K hK => ?_) (AllReadyH.cons rfl (fun K hK => ?_) AllReadyH.nil))
      · go_simp
        refine (made_any k w n _ wk ww wn).mono ?_
        rintro e w1 ⟨fk, fw, fd, hg, rfl, hb1⟩
        go_wp2_with fail
        refine hK.out _ _ ?_ (fun hHeld => ?_)
        · exact dc_below (by assumption) hb1
        clear hK K
        try simp only [Act.put, List.getElem_toArray, List.getElem_cons_succ, List.getElem_cons_zero, List.setIfInBounds_toArray, List.set_cons_zero, List.set_cons_succ]
        have hB := Lib.hid (bel_trans hB.out hb1)
        have hC := Lib.hid (bk_below hC.out hb1)
        have hlt := Lib.hid (Nat.lt_of_lt_of_le hlt.out hb1.size)
        have hsz := Lib.hid (show W.heap.size < w1.heap.size from dc_lt hHeld)
        clear hb1
        refine wpAnyH_ready (rs := [3, 4]) (by kernel_rfl) (by simp) ?_
        refine (AllReadyH.cons rfl (fun K hK => ?_) (AllReadyH.cons rfl (fun K hK => ?_) AllReadyH.nil))
        · go_simp
          refine (made_any k w n _ wk ww wn).mono ?_
          rintro e w2 ⟨gk, gw, gd, hh, rfl, hb2⟩
          go_wp2_with fail
          refine hK.out _ _ ?_ (fun hHeld => ?_)
          · exact dc_below (by assumption) hb2
          clear hK K
          try simp only [Act.put, List.getElem_toArray, List.getElem_cons_succ, List.getElem_cons_zero, List.setIfInBounds_toArray, List.set_cons_zero, List.set_cons_succ]
          have hB := Lib.hid (bel_trans hB.out hb2)
          have hC := Lib.hid (bk_below hC.out hb2)
          have hlt := Lib.hid (Nat.lt_of_lt_of_le hlt.out hb2.size)
          have hsz := Lib.hid (show W.heap.size < w2.heap.size from dc_lt hHeld)
          clear hb2
          refine wpAnyH_ready (rs := [4]) (by kernel_rfl) (by simp) ?_
          refine (AllReadyH.cons rfl (fun K hK => ?_) AllReadyH.nil)
          · go_simp
            refine hK.out _ _ ?_ (fun hHeld => ?_)
            · exact dc_alloc (by assumption)
            clear hK K
            try simp only [Act.put, List.getElem_toArray, List.getElem_cons_succ, List.getElem_cons_zero, List.setIfInBounds_toArray, List.set_cons_zero, List.set_cons_succ]
            have hA := Lib.hid (bk_new w2 w2.heap.size (by simp [size_alloc, size_drew]))
            have hC := Lib.hid (bk_alloc (o := .cells #[.int .i64 0, .int .i64 0, .int .i64 0] 23) hC.out)
            have hB := Lib.hid (bel_trans hB.out (bel_alloc w2 (.cells #[.int .i64 0, .int .i64 0, .int .i64 0] 23)))
            have hne : Hid (w2.heap.size ≠ (W.heap.size + 1)) := Lib.hid (Nat.ne_of_gt (by first | omega | exact hlt.out | (have := hlt.out; omega)))
            have hbl : Hid (W.heap.size < w2.heap.size) := Lib.hid (by have := hsz.out; omega)
            refine wpAnyH_ready (rs := [6]) (by kernel_rfl) (by simp) ?_
            refine (AllReadyH.cons rfl (fun K hK => ?_) AllReadyH.nil)
            · rw [if_pos (by rfl)]
              refine wp_store_mid _ _ _ rfl w2.heap.size 0 #[.int .i64 fk, .int .i64 fw, .int .i64 fd] rfl rfl (there_of hA.out) (by kernel_rfl) (by simp [Value.oneCell']) ?_
              refine hK.out _ _ ?_ (fun hHeld => ?_)
              · exact dc_setCells (by assumption) hbl.out
              clear hK K
              try simp only [Act.put, List.getElem_toArray, List.getElem_cons_succ, List.getElem_cons_zero, List.setIfInBounds_toArray, List.set_cons_zero, List.set_cons_succ]
              have hC := Lib.hid (bk_other (o := 0) (l := [.int .i64 fk, .int .i64 fw, .int .i64 fd]) hC.out hne.out.symm)
              have hA := Lib.hid (bk_set fk fw fd hA.out)
              have hB := Lib.hid (bel_setCells (o := 0) (l := [.int .i64 fk, .int .i64 fw, .int .i64 fd]) hB.out (Nat.le_of_lt hbl.out))
              refine wpAnyH_ready (rs := [7]) (by kernel_rfl) (by simp) ?_
              refine (AllReadyH.cons rfl (fun K hK => ?_) AllReadyH.nil)
              · rw [if_pos (by rfl)]
                refine wp_store_mid _ _ _ rfl (W.heap.size + 1) 0 #[.int .i64 gk, .int .i64 gw, .int .i64 gd] rfl rfl (there_of hC.out) (by kernel_rfl) (by simp [Value.oneCell']) ?_
                refine hK.out _ _ ?_ (fun hHeld => ?_)
                · exact dc_setCells (by assumption) hcl.out
                clear hK K
                try simp only [Act.put, List.getElem_toArray, List.getElem_cons_succ, List.getElem_cons_zero, List.setIfInBounds_toArray, List.set_cons_zero, List.set_cons_succ]
                have hA := Lib.hid (bk_other (o := 0) (l := [.int .i64 gk, .int .i64 gw, .int .i64 gd]) hA.out hne.out)
                have hC := Lib.hid (bk_set gk gw gd hC.out)
                have hB := Lib.hid (bel_setCells (o := 0) (l := [.int .i64 gk, .int .i64 gw, .int .i64 gd]) hB.out (Nat.le_of_lt hcl.out))
                refine wpAnyH_done (by kernel_rfl) ?_ _
                go_wp2_with fail
                go_meet
                case rel => exact ⟨w2.heap.size, (W.heap.size + 1), fk, fw, fd, gk, gw, gd, rfl, rfl, Lib.hid ⟨Tabs.below (by exact HT.out) hB.out, hB.out, Nat.le_of_lt hbl.out, Nat.le_of_lt hcl.out, hne.out, hA.out, hC.out⟩, hg, hh⟩
        · go_simp
          refine hK.out _ _ ?_ (fun hHeld => ?_)
          · exact dc_alloc (by assumption)
          clear hK K
          try simp only [Act.put, List.getElem_toArray, List.getElem_cons_succ, List.getElem_cons_zero, List.setIfInBounds_toArray, List.set_cons_zero, List.set_cons_succ]
          have hA := Lib.hid (bk_new w1 w1.heap.size (by simp [size_alloc, size_drew]))
          have hC := Lib.hid (bk_alloc (o := .cells #[.int .i64 0, .int .i64 0, .int .i64 0] 23) hC.out)
          have hB := Lib.hid (bel_trans hB.out (bel_alloc w1 (.cells #[.int .i64 0, .int .i64 0, .int .i64 0] 23)))
          have hne : Hid (w1.heap.size ≠ (W.heap.size + 1)) := Lib.hid (Nat.ne_of_gt (by first | omega | exact hlt.out | (have := hlt.out; omega)))
          have hbl : Hid (W.heap.size < w1.heap.size) := Lib.hid (by have := hsz.out; omega)
          refine wpAnyH_ready (rs := [3]) (by kernel_rfl) (by simp) ?_
          refine (AllReadyH.cons rfl (fun K hK => ?_) AllReadyH.nil)
          · go_simp
            refine (made_any k w n _ wk ww wn).mono ?_
            rintro e w2 ⟨gk, gw, gd, hh, rfl, hb2⟩
            go_wp2_with fail
            refine hK.out _ _ ?_ (fun hHeld => ?_)
            · exact dc_below (by assumption) hb2
            clear hK K
            try simp only [Act.put, List.getElem_toArray, List.getElem_cons_succ, List.getElem_cons_zero, List.setIfInBounds_toArray, List.set_cons_zero, List.set_cons_succ]
            have hB := Lib.hid (bel_trans hB.out hb2)
            have hA := Lib.hid (bk_below hA.out hb2)
            have hC := Lib.hid (bk_below hC.out hb2)
            have hsz := Lib.hid (show W.heap.size < w2.heap.size from dc_lt hHeld)
            clear hb2
            refine wpAnyH_ready (rs := [6]) (by kernel_rfl) (by simp) ?_
            refine (AllReadyH.cons rfl (fun K hK => ?_) AllReadyH.nil)
            · rw [if_pos (by rfl)]
              refine wp_store_mid _ _ _ rfl w1.heap.size 0 #[.int .i64 fk, .int .i64 fw, .int .i64 fd] rfl rfl (there_of hA.out) (by kernel_rfl) (by simp [Value.oneCell']) ?_
              refine hK.out _ _ ?_ (fun hHeld => ?_)
              · exact dc_setCells (by assumption) hbl.out
              clear hK K
              try simp only [Act.put, List.getElem_toArray, List.getElem_cons_succ, List.getElem_cons_zero, List.setIfInBounds_toArray, List.set_cons_zero, List.set_cons_succ]
              have hC := Lib.hid (bk_other (o := 0) (l := [.int .i64 fk, .int .i64 fw, .int .i64 fd]) hC.out hne.out.symm)
              have hA := Lib.hid (bk_set fk fw fd hA.out)
              have hB := Lib.hid (bel_setCells (o := 0) (l := [.int .i64 fk, .int .i64 fw, .int .i64 fd]) hB.out (Nat.le_of_lt hbl.out))
              refine wpAnyH_ready (rs := [7]) (by kernel_rfl) (by simp) ?_
              refine (AllReadyH.cons rfl (fun K hK => ?_) AllReadyH.nil)
              · rw [if_pos (by rfl)]
                refine wp_store_mid _ _ _ rfl (W.heap.size + 1) 0 #[.int .i64 gk, .int .i64 gw, .int .i64 gd] rfl rfl (there_of hC.out) (by kernel_rfl) (by simp [Value.oneCell']) ?_
                refine hK.out _ _ ?_ (fun hHeld => ?_)
                · exact dc_setCells (by assumption) hcl.out
                clear hK K
                try simp only [Act.put, List.getElem_toArray, List.getElem_cons_succ, List.getElem_cons_zero, List.setIfInBounds_toArray, List.set_cons_zero, List.set_cons_succ]
                have hA := Lib.hid (bk_other (o := 0) (l := [.int .i64 gk, .int .i64 gw, .int .i64 gd]) hA.out hne.out)
                have hC := Lib.hid (bk_set gk gw gd hC.out)
                have hB := Lib.hid (bel_setCells (o := 0) (l := [.int .i64 gk, .int .i64 gw, .int .i64 gd]) hB.out (Nat.le_of_lt hcl.out))
                refine wpAnyH_done (by kernel_rfl) ?_ _
                go_wp2_with fail
                go_meet
                case rel => exact ⟨w1.heap.size, (W.heap.size + 1), fk, fw, fd, gk, gw, gd, rfl, rfl, Lib.hid ⟨Tabs.below (by exact HT.out) hB.out, hB.out, Nat.le_of_lt hbl.out, Nat.le_of_lt hcl.out, hne.out, hA.out, hC.out⟩, hg, hh⟩
      · go_simp
        refine hK.out _ _ ?_ (fun hHeld => ?_)
        · exact dc_alloc (by assumption)
        clear hK K
        try simp only [Act.put, List.getElem_toArray, List.getElem_cons_succ, List.getElem_cons_zero, List.setIfInBounds_toArray, List.set_cons_zero, List.set_cons_succ]
        have hA := Lib.hid (bk_new ((W.alloc (.cells #[.int .u8 k, .int .u8 w, .int .u8 n] 32)).drew.alloc (.cells #[.int .i64 0, .int .i64 0, .int .i64 0] 23)) (W.heap.size + 2) (by simp [size_alloc, size_drew]))
        have hC := Lib.hid (bk_alloc (o := .cells #[.int .i64 0, .int .i64 0, .int .i64 0] 23) hC.out)
        have hB := Lib.hid (bel_trans hB.out (bel_alloc ((W.alloc (.cells #[.int .u8 k, .int .u8 w, .int .u8 n] 32)).drew.alloc (.cells #[.int .i64 0, .int .i64 0, .int .i64 0] 23)) (.cells #[.int .i64 0, .int .i64 0, .int .i64 0] 23)))
        have hne : Hid ((W.heap.size + 2) ≠ (W.heap.size + 1)) := Lib.hid (Nat.ne_of_gt (by first | omega | exact hlt.out | (have := hlt.out; omega)))
        have hbl : Hid (W.heap.size < (W.heap.size + 2)) := Lib.hid (by have := hsz.out; omega)
        refine wpAnyH_ready (rs := [1]) (by kernel_rfl) (by simp) ?_
        refine (AllReadyH.cons rfl (fun K hK => ?_) AllReadyH.nil)
        · go_simp
          refine (made_any k w n _ wk ww wn).mono ?_
          rintro e w1 ⟨fk, fw, fd, hg, rfl, hb1⟩
          go_wp2_with fail
          refine hK.out _ _ ?_ (fun hHeld => ?_)
          · exact dc_below (by assumption) hb1
          clear hK K
          try simp only [Act.put, List.getElem_toArray, List.getElem_cons_succ, List.getElem_cons_zero, List.setIfInBounds_toArray, List.set_cons_zero, List.set_cons_succ]
          have hB := Lib.hid (bel_trans hB.out hb1)
          have hA := Lib.hid (bk_below hA.out hb1)
          have hC := Lib.hid (bk_below hC.out hb1)
          have hsz := Lib.hid (show W.heap.size < w1.heap.size from dc_lt hHeld)
          clear hb1
          refine wpAnyH_ready (rs := [3]) (by kernel_rfl) (by simp) ?_
          refine (AllReadyH.cons rfl (fun K hK => ?_) AllReadyH.nil)
          · go_simp
            refine (made_any k w n _ wk ww wn).mono ?_
            rintro e w2 ⟨gk, gw, gd, hh, rfl, hb2⟩
            go_wp2_with fail
            refine hK.out _ _ ?_ (fun hHeld => ?_)
            · exact dc_below (by assumption) hb2
            clear hK K
            try simp only [Act.put, List.getElem_toArray, List.getElem_cons_succ, List.getElem_cons_zero, List.setIfInBounds_toArray, List.set_cons_zero, List.set_cons_succ]
            have hB := Lib.hid (bel_trans hB.out hb2)
            have hA := Lib.hid (bk_below hA.out hb2)
            have hC := Lib.hid (bk_below hC.out hb2)
            have hsz := Lib.hid (show W.heap.size < w2.heap.size from dc_lt hHeld)
            clear hb2
            refine wpAnyH_ready (rs := [6]) (by kernel_rfl) (by simp) ?_
            refine (AllReadyH.cons rfl (fun K hK => ?_) AllReadyH.nil)
            · rw [if_pos (by rfl)]
              refine wp_store_mid _ _ _ rfl (W.heap.size + 2) 0 #[.int .i64 fk, .int .i64 fw, .int .i64 fd] rfl rfl (there_of hA.out) (by kernel_rfl) (by simp [Value.oneCell']) ?_
              refine hK.out _ _ ?_ (fun hHeld => ?_)
              · exact dc_setCells (by assumption) hbl.out
              clear hK K
              try simp only [Act.put, List.getElem_toArray, List.getElem_cons_succ, List.getElem_cons_zero, List.setIfInBounds_toArray, List.set_cons_zero, List.set_cons_succ]
              have hC := Lib.hid (bk_other (o := 0) (l := [.int .i64 fk, .int .i64 fw, .int .i64 fd]) hC.out hne.out.symm)
              have hA := Lib.hid (bk_set fk fw fd hA.out)
              have hB := Lib.hid (bel_setCells (o := 0) (l := [.int .i64 fk, .int .i64 fw, .int .i64 fd]) hB.out (Nat.le_of_lt hbl.out))
              refine wpAnyH_ready (rs := [7]) (by kernel_rfl) (by simp) ?_
              refine (AllReadyH.cons rfl (fun K hK => ?_) AllReadyH.nil)
              · rw [if_pos (by rfl)]
                refine wp_store_mid _ _ _ rfl (W.heap.size + 1) 0 #[.int .i64 gk, .int .i64 gw, .int .i64 gd] rfl rfl (there_of hC.out) (by kernel_rfl) (by simp [Value.oneCell']) ?_
                refine hK.out _ _ ?_ (fun hHeld => ?_)
                · exact dc_setCells (by assumption) hcl.out
                clear hK K
                try simp only [Act.put, List.getElem_toArray, List.getElem_cons_succ, List.getElem_cons_zero, List.setIfInBounds_toArray, List.set_cons_zero, List.set_cons_succ]
                have hA := Lib.hid (bk_other (o := 0) (l := [.int .i64 gk, .int .i64 gw, .int .i64 gd]) hA.out hne.out)
                have hC := Lib.hid (bk_set gk gw gd hC.out)
                have hB := Lib.hid (bel_setCells (o := 0) (l := [.int .i64 gk, .int .i64 gw, .int .i64 gd]) hB.out (Nat.le_of_lt hcl.out))
                refine wpAnyH_done (by kernel_rfl) ?_ _
                go_wp2_with fail
                go_meet
                case rel => exact ⟨(W.heap.size + 2), (W.heap.size + 1), fk, fw, fd, gk, gw, gd, rfl, rfl, Lib.hid ⟨Tabs.below (by exact HT.out) hB.out, hB.out, Nat.le_of_lt hbl.out, Nat.le_of_lt hcl.out, hne.out, hA.out, hC.out⟩, hg, hh⟩
  case rest =>
    obtain ⟨B, C, fk, fw, fd, gk, gw, gd, rfl, rfl, H2, hg, hh⟩ := hcut
    go_upto_region 3 with fail
    go_cut [19] (fun s w' => s = .int .u8 (q % 8) ∧ w' = wc)
    case first =>
      go_wp2_with fail
      go_meet
      case rel => exact ⟨rfl, rfl⟩
    case rest =>
      obtain ⟨rfl, rfl⟩ := hcut
      go_step
      obtain ⟨hT2, hB2, hBl, hCl, hne, hA, hC⟩ := H2.out
      have HA := Lib.hid hA
      have HC := Lib.hid hC
      have HT2 := Lib.hid hT2
      have HB2 := Lib.hid hB2
      have HNE := Lib.hid hne
      have HCl := Lib.hid hCl
      clear hT2 hB2 hBl hCl hne hA hC H2
      go_cut [19] (fun _ w' => ∃ bk bw bd : Int, Hid (BK w' C bk bw bd) ∧ Hid (BK w' B fk fw fd) ∧ Hid (Tabs w') ∧ Hid (Below W.heap.size W w') ∧ Hid (¬ good bk bw bd))
      case first =>
        obtain ⟨c0, c1, c2, z0, z1, z2⟩ := bk_cells HC.out
        have hqc : q % 8 = 0 ∨ q % 8 = 1 ∨ q % 8 = 2 ∨ q % 8 = 3 ∨ q % 8 = 4 ∨ q % 8 = 5 ∨ q % 8 = 6 ∨ q % 8 = 7 := by omega
        rcases hqc with h | h | h | h | h | h | h | h <;> rw [h] <;> clear h hqq1 hqq2
        · go_wp2_with fail
          go_meet
          case rel => exact ⟨_, _, _, Lib.hid (bk_set1 (5 + f) HC.out), Lib.hid (bk_other (o := 0) (l := [.int .i64 (5 + f)]) HA.out HNE.out), Lib.hid (Tabs.below (by exact HT.out) (bel_setCells (o := 0) (l := [.int .i64 (5 + f)]) HB2.out HCl.out)), Lib.hid (bel_setCells (o := 0) (l := [.int .i64 (5 + f)]) HB2.out HCl.out), Lib.hid (by unfold good; omega)⟩
        · go_wp2_with fail
          go_meet
          case rel => exact ⟨_, _, _, Lib.hid (bk_set1 (-f) HC.out), Lib.hid (bk_other (o := 0) (l := [.int .i64 (-f)]) HA.out HNE.out), Lib.hid (Tabs.below (by exact HT.out) (bel_setCells (o := 0) (l := [.int .i64 (-f)]) HB2.out HCl.out)), Lib.hid (bel_setCells (o := 0) (l := [.int .i64 (-f)]) HB2.out HCl.out), Lib.hid (by unfold good; omega)⟩
        · go_wp2_with fail
          refine (fixed_any (-f) _).mono ?_
          rintro e wd ⟨rfl, hwd⟩
          have HCd : Hid (BK wd C gk gw gd) := by rw [hwd]; exact bk_alloc HC.out
          have HAd : Hid (BK wd B fk fw fd) := by rw [hwd]; exact bk_alloc HA.out
          have HBd : Hid (Below W.heap.size W wd) := by rw [hwd]; exact bel_trans HB2.out (bel_alloc _ _)
          clear hwd c0 c1 c2 z0 z1 z2
          obtain ⟨c0, c1, c2, z0, z1, z2⟩ := bk_cells HCd.out
          go_wp2_with fail
          go_meet
          case rel => exact ⟨_, _, _, Lib.hid (bk_set (1) (0) (-f) HCd.out), Lib.hid (bk_other (o := 0) (l := [.int .i64 (1), .int .i64 (0), .int .i64 (-f)]) HAd.out HNE.out), Lib.hid (Tabs.below (by exact HT.out) (bel_setCells (o := 0) (l := [.int .i64 (1), .int .i64 (0), .int .i64 (-f)]) HBd.out HCl.out)), Lib.hid (bel_setCells (o := 0) (l := [.int .i64 (1), .int .i64 (0), .int .i64 (-f)]) HBd.out HCl.out), Lib.hid (by unfold good; omega)⟩
        · go_wp2_with fail
          refine (from_any (f % 7) (32 + f) _).mono ?_
          rintro e wd ⟨rfl, hwd⟩
          have HCd : Hid (BK wd C gk gw gd) := by rw [hwd]; exact bk_alloc HC.out
          have HAd : Hid (BK wd B fk fw fd) := by rw [hwd]; exact bk_alloc HA.out
          have HBd : Hid (Below W.heap.size W wd) := by rw [hwd]; exact bel_trans HB2.out (bel_alloc _ _)
          clear hwd c0 c1 c2 z0 z1 z2
          obtain ⟨c0, c1, c2, z0, z1, z2⟩ := bk_cells HCd.out
          go_wp2_with fail
          go_meet
          case rel => exact ⟨_, _, _, Lib.hid (bk_set (3) (f % 7) (32 + f) HCd.out), Lib.hid (bk_other (o := 0) (l := [.int .i64 (3), .int .i64 (f % 7), .int .i64 (32 + f)]) HAd.out HNE.out), Lib.hid (Tabs.below (by exact HT.out) (bel_setCells (o := 0) (l := [.int .i64 (3), .int .i64 (f % 7), .int .i64 (32 + f)]) HBd.out HCl.out)), Lib.hid (bel_setCells (o := 0) (l := [.int .i64 (3), .int .i64 (f % 7), .int .i64 (32 + f)]) HBd.out HCl.out), Lib.hid (by unfold good; omega)⟩
        · go_wp2_with fail
          refine (last_any (7 + f) _).mono ?_
          rintro e wd ⟨rfl, hwd⟩
          have HCd : Hid (BK wd C gk gw gd) := by rw [hwd]; exact bk_alloc HC.out
          have HAd : Hid (BK wd B fk fw fd) := by rw [hwd]; exact bk_alloc HA.out
          have HBd : Hid (Below W.heap.size W wd) := by rw [hwd]; exact bel_trans HB2.out (bel_alloc _ _)
          clear hwd c0 c1 c2 z0 z1 z2
          obtain ⟨c0, c1, c2, z0, z1, z2⟩ := bk_cells HCd.out
          go_wp2_with fail
          go_meet
          case rel => exact ⟨_, _, _, Lib.hid (bk_set (2) (7 + f) (0) HCd.out), Lib.hid (bk_other (o := 0) (l := [.int .i64 (2), .int .i64 (7 + f), .int .i64 (0)]) HAd.out HNE.out), Lib.hid (Tabs.below (by exact HT.out) (bel_setCells (o := 0) (l := [.int .i64 (2), .int .i64 (7 + f), .int .i64 (0)]) HBd.out HCl.out)), Lib.hid (bel_setCells (o := 0) (l := [.int .i64 (2), .int .i64 (7 + f), .int .i64 (0)]) HBd.out HCl.out), Lib.hid (by unfold good; omega)⟩
        · go_wp2_with fail
          refine (to_any (-1 - f) 1 _).mono ?_
          rintro e wd ⟨rfl, hwd⟩
          have HCd : Hid (BK wd C gk gw gd) := by rw [hwd]; exact bk_alloc HC.out
          have HAd : Hid (BK wd B fk fw fd) := by rw [hwd]; exact bk_alloc HA.out
          have HBd : Hid (Below W.heap.size W wd) := by rw [hwd]; exact bel_trans HB2.out (bel_alloc _ _)
          clear hwd c0 c1 c2 z0 z1 z2
          obtain ⟨c0, c1, c2, z0, z1, z2⟩ := bk_cells HCd.out
          go_wp2_with fail
          go_meet
          case rel => exact ⟨_, _, _, Lib.hid (bk_set (4) (-1 - f) (1) HCd.out), Lib.hid (bk_other (o := 0) (l := [.int .i64 (4), .int .i64 (-1 - f), .int .i64 (1)]) HAd.out HNE.out), Lib.hid (Tabs.below (by exact HT.out) (bel_setCells (o := 0) (l := [.int .i64 (4), .int .i64 (-1 - f), .int .i64 (1)]) HBd.out HCl.out)), Lib.hid (bel_setCells (o := 0) (l := [.int .i64 (4), .int .i64 (-1 - f), .int .i64 (1)]) HBd.out HCl.out), Lib.hid (by unfold good; omega)⟩
        · go_wp2_with fail
          go_meet
          case rel => exact ⟨_, _, _, Lib.hid (bk_set (1) (1 + f) (1) HC.out), Lib.hid (bk_other (o := 0) (l := [.int .i64 (1), .int .i64 (1 + f), .int .i64 (1)]) HA.out HNE.out), Lib.hid (Tabs.below (by exact HT.out) (bel_setCells (o := 0) (l := [.int .i64 (1), .int .i64 (1 + f), .int .i64 (1)]) HB2.out HCl.out)), Lib.hid (bel_setCells (o := 0) (l := [.int .i64 (1), .int .i64 (1 + f), .int .i64 (1)]) HB2.out HCl.out), Lib.hid (by unfold good; omega)⟩
        · go_wp2_with fail
          go_meet
          case rel => exact ⟨_, _, _, Lib.hid (bk_set (2) (0) (1 + f) HC.out), Lib.hid (bk_other (o := 0) (l := [.int .i64 (2), .int .i64 (0), .int .i64 (1 + f)]) HA.out HNE.out), Lib.hid (Tabs.below (by exact HT.out) (bel_setCells (o := 0) (l := [.int .i64 (2), .int .i64 (0), .int .i64 (1 + f)]) HB2.out HCl.out)), Lib.hid (bel_setCells (o := 0) (l := [.int .i64 (2), .int .i64 (0), .int .i64 (1 + f)]) HB2.out HCl.out), Lib.hid (by unfold good; omega)⟩
      case rest =>
        clear HA HC HT2 HB2
        obtain ⟨bk, bw, bd, HC0, HA0, HT0, HW0, hng⟩ := hcut
        have HF1 : Hid (decide (Fails 2000 1 bk bw bd 2) = true) := by
          show _ = _
          rw [decide_eq_true_iff]; unfold Fails; rw [on_form ⟨by unfold inr; omega, (ok_first _ _).2 (by omega)⟩ hng.out]; exact ⟨rfl, rfl⟩
        have HA1 : Hid (decide (alw 2001 2000 1 bk bw bd) = false) := by
          show _ = _
          rw [decide_eq_false_iff_not]; exact fun h => hng.out h.1.2.2
        have HOR : Hid (∀ y m a b c : Int, ¬ (inr y ∧ 1 ≤ m ∧ m ≤ 12) → decide (Fails y m a b c 3) = true) := fun y m a b c h => by
          rw [decide_eq_true_iff]; unfold Fails; rw [on_bad (by rw [ok_first]; exact h)]; exact ⟨rfl, rfl⟩
        have HAN : Hid (∀ m a b c : Int, ¬ (1 ≤ m ∧ m ≤ 12) → decide (alw 2001 2000 m a b c) = false) := fun m a b c h => by
          rw [decide_eq_false_iff_not]; exact fun k => h ⟨k.1.1, k.1.2.1⟩
        have HI1 : Hid (¬ (inr (2000000001 + f) ∧ 1 ≤ (1 : Int) ∧ (1 : Int) ≤ 12)) := Lib.hid (by unfold inr; omega)
        have HI2 : Hid (¬ (inr (-2000000001 - f) ∧ 1 ≤ (12 : Int) ∧ (12 : Int) ≤ 12)) := Lib.hid (by unfold inr; omega)
        obtain ⟨f0, f1, f2⟩ := fc_bk HC0.out
        go_wp2_with fail
        refine (check_any bk bw bd _ (by exact HT0.out.2)).mono ?_
        intro e w3 hq; obtain ⟨rfl, hb3⟩ := CheckR.to_no hng.out _ _ hq; clear hq
        have HT3 : Hid (Tabs w3) := HT0.out.below hb3
        have HW3 : Hid (Below W.heap.size W w3) := bel_trans HW0.out hb3
        have HC3 : Hid (BK w3 C bk bw bd) := bk_below HC0.out hb3
        have HA3 : Hid (BK w3 B fk fw fd) := bk_below HA0.out hb3
        clear f0 f1 f2 hb3
        obtain ⟨f0, f1, f2⟩ := fc_bk HC3.out
        go_wp2_with fail
        refine (fails_any 2000 1 bk bw bd 2 _ (by exact HT3.out) (by decide) (by decide)).mono ?_
        intro e w4 hq; obtain ⟨rfl, hb4⟩ := YesB.to_b HF1.out _ _ hq; clear hq
        have HT4 : Hid (Tabs w4) := HT3.out.below hb4
        have HW4 : Hid (Below W.heap.size W w4) := bel_trans HW3.out hb4
        have HC4 : Hid (BK w4 C bk bw bd) := bk_below HC3.out hb4
        have HA4 : Hid (BK w4 B fk fw fd) := bk_below HA3.out hb4
        clear f0 f1 f2 hb4
        obtain ⟨f0, f1, f2⟩ := fc_bk HC4.out
        go_wp2_with fail
        refine (always_any 2001 2000 1 bk bw bd _ (by exact HT4.out) (by decide) (by decide)).mono ?_
        intro e w5 hq; obtain ⟨rfl, hb5⟩ := YesB.to_b HA1.out _ _ hq; clear hq
        have HT5 : Hid (Tabs w5) := HT4.out.below hb5
        have HW5 : Hid (Below W.heap.size W w5) := bel_trans HW4.out hb5
        have HC5 : Hid (BK w5 C bk bw bd) := bk_below HC4.out hb5
        have HA5 : Hid (BK w5 B fk fw fd) := bk_below HA4.out hb5
        clear f0 f1 f2 hb5
        go_wp2_with fail
        go_loopw [78] (fun i wr => ∃ (j : Int) (wq : World), 0 ≤ j ∧ j ≤ 2 ∧ i = .int .i64 j ∧ wr = wq ∧ Hid (Tabs wq) ∧ Hid (Below W.heap.size W wq) ∧ Hid (BK wq C bk bw bd) ∧ Hid (BK wq B fk fw fd) ∧ Hid (wq.cell? ⟨w5.heap.size, 0, none⟩ = some (.int .i64 (-f)) ∧ wq.cell? ⟨w5.heap.size, 1, none⟩ = some (.int .i64 (13 + f)))) (fun i _ => (2 - intOf i).toNat)
        case atStart => exact ⟨0, _, by omega, by omega, rfl, rfl, Lib.hid (HT5.out.alloc _), Lib.hid (bel_trans HW5.out (bel_alloc _ _)), Lib.hid (bk_alloc HC5.out), Lib.hid (bk_alloc HA5.out), Lib.hid (ar_new _ _ _ _)⟩
        case round =>
          obtain ⟨j, wq, hj1, hj2, rfl, rfl, HTq, HWq, HCq, HAq, HEq⟩ := hrel
          have hjc : j = 0 ∨ j = 1 ∨ j = 2 := by omega
          clear hj1 hj2
          rcases hjc with rfl | rfl | rfl
          · obtain ⟨e0, e1⟩ := HEq.out
            obtain ⟨f0, f1, f2⟩ := fc_bk HCq.out
            go_wp2_with fail
            refine (fails_any 2000 (-f) bk bw bd 3 _ (by exact HTq.out) (by decide) (by decide)).mono ?_
            intro e w6 hq; obtain ⟨rfl, hb6⟩ := YesB.to_b (HOR.out 2000 (-f) bk bw bd (by omega)) _ _ hq; clear hq
            have HT6 : Hid (Tabs w6) := HTq.out.below hb6
            have HW6 : Hid (Below W.heap.size W w6) := bel_trans HWq.out hb6
            have HC6 : Hid (BK w6 C bk bw bd) := bk_below HCq.out hb6
            have HA6 : Hid (BK w6 B fk fw fd) := bk_below HAq.out hb6
            have HE6 : Hid (w6.cell? ⟨w5.heap.size, 0, none⟩ = some (.int .i64 (-f)) ∧ w6.cell? ⟨w5.heap.size, 1, none⟩ = some (.int .i64 (13 + f))) := ar_below HEq.out hb6
            clear f0 f1 f2 hb6 e0 e1
            obtain ⟨f0, f1, f2⟩ := fc_bk HA6.out
            go_wp2_with fail
            refine (fails_any 2000 (-f) fk fw fd 3 _ (by exact HT6.out) (by decide) (by decide)).mono ?_
            intro e w7 hq; obtain ⟨rfl, hb7⟩ := YesB.to_b (HOR.out 2000 (-f) fk fw fd (by omega)) _ _ hq; clear hq
            have HT7 : Hid (Tabs w7) := HT6.out.below hb7
            have HW7 : Hid (Below W.heap.size W w7) := bel_trans HW6.out hb7
            have HC7 : Hid (BK w7 C bk bw bd) := bk_below HC6.out hb7
            have HA7 : Hid (BK w7 B fk fw fd) := bk_below HA6.out hb7
            have HE7 : Hid (w7.cell? ⟨w5.heap.size, 0, none⟩ = some (.int .i64 (-f)) ∧ w7.cell? ⟨w5.heap.size, 1, none⟩ = some (.int .i64 (13 + f))) := ar_below HE6.out hb7
            clear f0 f1 f2 hb7
            obtain ⟨f0, f1, f2⟩ := fc_bk HA7.out
            go_wp2_with fail
            refine (always_any 2001 2000 (-f) fk fw fd _ (by exact HT7.out) (by decide) (by decide)).mono ?_
            intro e w8 hq; obtain ⟨rfl, hb8⟩ := YesB.to_b (HAN.out (-f) fk fw fd (by omega)) _ _ hq; clear hq
            have HT8 : Hid (Tabs w8) := HT7.out.below hb8
            have HW8 : Hid (Below W.heap.size W w8) := bel_trans HW7.out hb8
            have HC8 : Hid (BK w8 C bk bw bd) := bk_below HC7.out hb8
            have HA8 : Hid (BK w8 B fk fw fd) := bk_below HA7.out hb8
            have HE8 : Hid (w8.cell? ⟨w5.heap.size, 0, none⟩ = some (.int .i64 (-f)) ∧ w8.cell? ⟨w5.heap.size, 1, none⟩ = some (.int .i64 (13 + f))) := ar_below HE7.out hb8
            clear f0 f1 f2 hb8
            go_wp2_with fail
            go_round
            case rel => exact ⟨1, _, by omega, by omega, rfl, rfl, HT8, HW8, HC8, HA8, HE8⟩
            case measure => simp [intOf]
          · obtain ⟨e0, e1⟩ := HEq.out
            obtain ⟨f0, f1, f2⟩ := fc_bk HCq.out
            go_wp2_with fail
            refine (fails_any 2000 (13 + f) bk bw bd 3 _ (by exact HTq.out) (by decide) (by decide)).mono ?_
            intro e w6 hq; obtain ⟨rfl, hb6⟩ := YesB.to_b (HOR.out 2000 (13 + f) bk bw bd (by omega)) _ _ hq; clear hq
            have HT6 : Hid (Tabs w6) := HTq.out.below hb6
            have HW6 : Hid (Below W.heap.size W w6) := bel_trans HWq.out hb6
            have HC6 : Hid (BK w6 C bk bw bd) := bk_below HCq.out hb6
            have HA6 : Hid (BK w6 B fk fw fd) := bk_below HAq.out hb6
            have HE6 : Hid (w6.cell? ⟨w5.heap.size, 0, none⟩ = some (.int .i64 (-f)) ∧ w6.cell? ⟨w5.heap.size, 1, none⟩ = some (.int .i64 (13 + f))) := ar_below HEq.out hb6
            clear f0 f1 f2 hb6 e0 e1
            obtain ⟨f0, f1, f2⟩ := fc_bk HA6.out
            go_wp2_with fail
            refine (fails_any 2000 (13 + f) fk fw fd 3 _ (by exact HT6.out) (by decide) (by decide)).mono ?_
            intro e w7 hq; obtain ⟨rfl, hb7⟩ := YesB.to_b (HOR.out 2000 (13 + f) fk fw fd (by omega)) _ _ hq; clear hq
            have HT7 : Hid (Tabs w7) := HT6.out.below hb7
            have HW7 : Hid (Below W.heap.size W w7) := bel_trans HW6.out hb7
            have HC7 : Hid (BK w7 C bk bw bd) := bk_below HC6.out hb7
            have HA7 : Hid (BK w7 B fk fw fd) := bk_below HA6.out hb7
            have HE7 : Hid (w7.cell? ⟨w5.heap.size, 0, none⟩ = some (.int .i64 (-f)) ∧ w7.cell? ⟨w5.heap.size, 1, none⟩ = some (.int .i64 (13 + f))) := ar_below HE6.out hb7
            clear f0 f1 f2 hb7
            obtain ⟨f0, f1, f2⟩ := fc_bk HA7.out
            go_wp2_with fail
            refine (always_any 2001 2000 (13 + f) fk fw fd _ (by exact HT7.out) (by decide) (by decide)).mono ?_
            intro e w8 hq; obtain ⟨rfl, hb8⟩ := YesB.to_b (HAN.out (13 + f) fk fw fd (by omega)) _ _ hq; clear hq
            have HT8 : Hid (Tabs w8) := HT7.out.below hb8
            have HW8 : Hid (Below W.heap.size W w8) := bel_trans HW7.out hb8
            have HC8 : Hid (BK w8 C bk bw bd) := bk_below HC7.out hb8
            have HA8 : Hid (BK w8 B fk fw fd) := bk_below HA7.out hb8
            have HE8 : Hid (w8.cell? ⟨w5.heap.size, 0, none⟩ = some (.int .i64 (-f)) ∧ w8.cell? ⟨w5.heap.size, 1, none⟩ = some (.int .i64 (13 + f))) := ar_below HE7.out hb8
            clear f0 f1 f2 hb8
            go_wp2_with fail
            go_round
            case rel => exact ⟨2, _, by omega, by omega, rfl, rfl, HT8, HW8, HC8, HA8, HE8⟩
            case measure => simp [intOf]
          · obtain ⟨f0, f1, f2⟩ := fc_bk HCq.out
            go_wp2_with fail
            refine (fails_any (2000000001 + f) 1 bk bw bd 3 _ (by exact HTq.out) (by omega) (by omega)).mono ?_
            intro e w6 hq; obtain ⟨rfl, hb6⟩ := YesB.to_b (HOR.out (2000000001 + f) 1 bk bw bd HI1.out) _ _ hq; clear hq
            have HT6 : Hid (Tabs w6) := HTq.out.below hb6
            have HW6 : Hid (Below W.heap.size W w6) := bel_trans HWq.out hb6
            have HC6 : Hid (BK w6 C bk bw bd) := bk_below HCq.out hb6
            have HA6 : Hid (BK w6 B fk fw fd) := bk_below HAq.out hb6
            clear f0 f1 f2 hb6
            obtain ⟨f0, f1, f2⟩ := fc_bk HA6.out
            go_wp2_with fail
            refine (fails_any (-2000000001 - f) 12 fk fw fd 3 _ (by exact HT6.out) (by omega) (by omega)).mono ?_
            intro e w7 hq; obtain ⟨rfl, hb7⟩ := YesB.to_b (HOR.out (-2000000001 - f) 12 fk fw fd HI2.out) _ _ hq; clear hq
            have HT7 : Hid (Tabs w7) := HT6.out.below hb7
            have HW7 : Hid (Below W.heap.size W w7) := bel_trans HW6.out hb7
            have HC7 : Hid (BK w7 C bk bw bd) := bk_below HC6.out hb7
            have HA7 : Hid (BK w7 B fk fw fd) := bk_below HA6.out hb7
            clear f0 f1 f2 hb7
            go_wp2_with fail
            refine (works_any _ (by exact HT7.out)).mono ?_
            intro e w8 hq; obtain ⟨rfl, hb8⟩ := (fun _ _ h => h) _ _ hq; clear hq
            go_wp2_with fail
            go_ret
            exact ⟨rfl, bel_trans HW7.out hb8⟩

theorem dayformRefuses.dayformRefuses_walk (W : World) (hL : laidMetH Tryd.prog Rows.dayformRefusesRow.laid W) (v : Value) {H : Type} {enc : TypeId × Value → H} {base : Nat} {d : DataW H} {p : List MemPlace} (hv : Value.okWide Tryd.prog W .any base 32 v)
    (h : DataW.Trod enc Tryd.prog W 0 (fun _ => true) true 32 v d p) (q : Int) (wq : (Lit.int .u8 q).wf = true) (f : Int) (wf : (Lit.int .u32 f).wf = true) :
    Calls Tryd.prog 8 #[v, .int .u8 q, .int .u32 f] W fun e w' => e = .returned (.bool true) ∧ Below W.heap.size W w' := by
  obtain ⟨k, w, n, rfl, wk, ww, wn⟩ := draft_of hv h
  exact refuses_core W (tabs_of hL) k w n wk ww wn q wq f wf
end Go.Proofs.YtieoogllghmeeaaDoor
