/-
  The reference's explicit (chapter 18): the events of 701 years, a row a year.
-/
import Derived.Test.YtghmdaahmijdiaaDoorApRef
import Derived.Test.YtghmdaahmijdiaaDoorEvRefOn
import Derived.Deep.OwnRows
import Derived.Deep.MidRow
namespace Go.Proofs.YtghmdaahmijdiaaDoor
open Go.RowKit Cv
set_option linter.unusedVariables false
set_option linter.unusedSimpArgs false

namespace Cv
theorem own_same {w w' : World} {base size n : Nat} {e : TypeId} {v : Value} {xs : _root_.List Value} (h : w.ownsRow base e size v n xs) (hs : ∀ g, base ≤ g → g < w.heap.size → w'.heap[g]? = w.heap[g]?) : w'.ownsRow base e size v n xs := by
  obtain ⟨hl, h0 | ⟨g, cap, cur, h1, h2, h3, h4⟩⟩ := h
  · exact ⟨hl, .inl h0⟩
  · exact ⟨hl, .inr ⟨g, cap, cur, h1, h2, (hs g h2 (Array.getElem?_eq_some_iff.1 h3).1).trans h3, h4⟩⟩
theorem own_base {w : World} {base b size n : Nat} {e : TypeId} {v : Value} {xs : _root_.List Value} (h : w.ownsRow base e size v n xs) (hb : b ≤ base) : w.ownsRow b e size v n xs := by
  obtain ⟨hl, h0 | ⟨g, cap, cur, h1, h2, h3⟩⟩ := h
  · exact ⟨hl, .inl h0⟩
  · exact ⟨hl, .inr ⟨g, cap, cur, h1, Nat.le_trans hb h2, h3⟩⟩
theorem row_below {w w' : World} {b n : Nat} {t : TypeId} {f : Nat → Value} (h : w.rowIs b t n f) (hb : Below w.heap.size w w') : w'.rowIs b t n f := h.of_block (hb.block b h.lt)
/-- the blocks from one on, up to a fence, are as they were -/
def SameB (lo hi : Nat) (w w' : World) : Prop := ∀ g, lo ≤ g → g < hi → w'.heap[g]? = w.heap[g]?
theorem SameB.below {lo hi : Nat} {w a b : World} (h : SameB lo hi w a) (hs : hi ≤ a.heap.size) (hb : Below a.heap.size a b) : SameB lo hi w b := fun g h1 h2 => (hb.block g (by omega)).trans (h g h1 h2)
/-- what explicit returns: a row of 701 rows -/
def ExpR (rs : _root_.List Ru) (W : World) (e : Ending) (w' : World) : Prop :=
  ∃ V : Nat → Value, e = .returned (.slice (some ⟨W.heap.size, 0, none⟩) 701 701) ∧ Hid (w'.rowIs W.heap.size 42 701 V) ∧ Hid (∀ i : Nat, i < 701 → RdEv (V i) (yearEvs rs (1850 + ((i : Nat) : Int)) rs.length) w') ∧ Below W.heap.size W w'
theorem own3_ne {w : World} {base b n : Nat} {t : TypeId} {v : Value} {xs : _root_.List Value} (h : w.ownsRow base t 3 v n xs) (hb : b < base ∨ w.heap.size ≤ b) : some b ≠ v.ownBlock := fun e => by
  have := h.lt b e.symm
  omega
theorem cells3e {w : World} {b : Nat} {t : TypeId} {v0 v1 v2 : Value} (h : w.heap[b]? = some (.cells #[v0, v1, v2] t)) : w.cell? ⟨b, 0, none⟩ = some v0 ∧ w.cell? ⟨b, 1, none⟩ = some v1 ∧ w.cell? ⟨b, 2, none⟩ = some v2 :=
  ⟨cellB h (i := 0) rfl, cellB h (i := 1) rfl, cellB h (i := 2) rfl⟩
theorem new_ate {w : World} {n : Nat} (o : Obj) (e : n = w.heap.size) : (w.alloc o).heap[n]? = some o := by rw [e]; exact heap_alloc_new w o
end Cv

theorem infoEvs : (Tryd.prog.info? 42).map (fun i => (i.zero, i.size, i.bytes)) = some (some (.slice none 0 0), 1, 24) := by kernel_rfl

set_option maxRecDepth 100000 in
set_option maxHeartbeats 16000000 in
theorem explicit_any (a : Value) (rs : _root_.List Ru) (W : World) (h : Rul a rs W) : Calls Tryd.prog 23 #[a] W (ExpR rs W) := by
  obtain ⟨A, cap, rfl⟩ := h.sl
  have H := Lib.hid h
  have hn := h.len
  clear h
  obtain ⟨n, hN⟩ : ∃ n, n = rs.length := ⟨_, rfl⟩
  rw [← hN] at hn H ⊢
  have HN := Lib.hid hN
  clear hN
  obtain ⟨i0, hi, hz0, hzs, hzb⟩ := info_parts infoEv
  obtain ⟨C, hC⟩ : ∃ C, C = madeCells #[.slice none 0 0] 701 := ⟨_, rfl⟩
  have hmk : ∀ w : World, (Instr.makeSlice 57 (.int .i64 701) (.int .i64 701)).run Tryd.prog w = .ok (.slice (some ⟨w.heap.size, 0, none⟩) 701 701) (w.alloc (.cells C 42)) := fun w => by rw [hC]; exact run_make_row' (P := Tryd.prog) 57 42 (.slice none 0 0) 24 Tryd.underlying57 infoEvs rfl .i64 .i64 701 (by decide) (by decide) w
  have HRW := Lib.hid (show (W.alloc (.cells C 42)).rowIs W.heap.size 42 701 (fun _ => .slice none 0 0) by rw [hC]; exact World.rowIs_made W _ _ _)
  clear hC
  go_enter Tryd.func23, Tryd.ntmps23
  go_wp2_with fail
  clear hmk
  go_loopw [4] (fun y wr => ∃ (k : Nat) (wq : World) (V : Nat → Value), k ≤ 701 ∧ y = .int .i64 (k : Int) ∧ wr = wq ∧ Hid (Below W.heap.size W wq) ∧ Hid (wq.rowIs W.heap.size 42 701 V) ∧ Hid (∀ i : Nat, i < k → wq.ownsRow (W.heap.size + 1) 25 3 (V i) (yearEvs rs (1850 + ((i : Nat) : Int)) n).length (flatEv (yearEvs rs (1850 + ((i : Nat) : Int)) n))) ∧ Hid (∀ i : Nat, k ≤ i → V i = .slice none 0 0)) (fun y _ => 701 - (intOf y).toNat)
  case atStart => exact ⟨0, _, _, by omega, rfl, rfl, Lib.hid (bel_alloc _ _), HRW, Lib.hid (fun i hi => by omega), Lib.hid (fun i hi => rfl)⟩
  case round =>
    clear HRW
    obtain ⟨k, wq, V, hk, rfl, rfl, HB, HR, HV, HZ⟩ := hrel
    by_cases hkm : k < 701
    · obtain ⟨ws, hws⟩ : ∃ ws : World, ws = wr := ⟨_, rfl⟩
      have HWS := Lib.hid hws
      have HR0 := Lib.hid (show wr.rowIs W.heap.size 42 701 (fun i => if i = k then (.slice none 0 0 : Value) else V i) from HR.out.congr (fun i hi => by by_cases e : i = k <;> simp [e, HZ.out k (Nat.le_refl _)]))
      have HF0 := Lib.hid (Nat.succ_le_of_lt HR.out.lt)
      have hk1 : (k : Int) < 701 := by omega
      go_wp2_with fail
      go_loopw [5] (fun i wx => ∃ (j : Nat) (wz : World) (v : Value), j ≤ n ∧ i = .int .i64 (j : Int) ∧ wx = wz ∧ Hid (Below W.heap.size W wz) ∧ Hid (wz.rowIs W.heap.size 42 701 (fun i => if i = k then v else V i)) ∧ Hid (wz.ownsRow ws.heap.size 25 3 v (yearEvs rs (1850 + ((k : Nat) : Int)) j).length (flatEv (yearEvs rs (1850 + ((k : Nat) : Int)) j))) ∧ Hid (ws.heap.size ≤ wz.heap.size) ∧ Hid (SameB (W.heap.size + 1) ws.heap.size ws wz)) (fun i _ => n - (intOf i).toNat)
      case atStart => exact ⟨0, _, .slice none 0 0, by omega, rfl, rfl, HB, HR0, Lib.hid (by simp only [yearEvs, _root_.List.range_zero, _root_.List.filterMap_nil]; exact World.ownsRow_nil _ _ _ _), Lib.hid (by rw [HWS.out]; exact Nat.le_refl _), Lib.hid (by rw [HWS.out]; exact fun g _ _ => rfl)⟩
      case round =>
        clear HR0
        obtain ⟨j, wz, v, hj, rfl, rfl, HBz, HRz, HOz, HFz, HSz⟩ := hrel
        by_cases hjn : j < n
        · go_wp2_with fail
          refine (refEvOn_any _ rs (j : Int) (1850 + (k : Int)) _ (by exact H.out.below HBz.out) (by omega) (by omega)).mono ?_
          intro e w2 hq
          have HLE := Lib.hid (show (yearEvs rs (1850 + ((k : Nat) : Int)) j).length ≤ 1000 by have := yearEvs_len rs (1850 + ((k : Nat) : Int)) j; omega)
          cases ho : evOn rs (j : Int) (1850 + (k : Int)) with
          | none =>
            rw [ho] at hq
            obtain ⟨rfl, hb2⟩ := EvR.to (o := none) (v := .tuple #[.agg #[.int .i64 0, .int .i64 0, .int .i64 0], .bool false]) rfl _ _ hq; clear hq
            have HY := Lib.hid (yearEvs_no ho)
            have hb3 := bel_trans hb2 (bel_alloc w2 (.cells #[.int .i64 0, .int .i64 0, .int .i64 0] 25))
            have HB2 := Lib.hid (bel_trans HBz.out hb3)
            have HR2 := Lib.hid (row_below HRz.out hb3)
            have HO2 := Lib.hid (own_below HOz.out hb3)
            have HF2 := Lib.hid (Nat.le_trans HFz.out hb3.size)
            have HS2 := Lib.hid (SameB.below HSz.out HFz.out hb3)
            clear hb2 hb3 ho
            go_wp2_with fail
            go_round
            case rel => first | exact ⟨j + 1, _, v, by omega, by go_num, rfl, HB2, HR2, Lib.hid (by rw [HY.out]; exact HO2.out), HF2, HS2⟩ | ((repeat apply Exists.intro); refine ⟨?_, rfl⟩; exact ⟨j + 1, _, v, by omega, by go_num, rfl, HB2, HR2, Lib.hid (by rw [HY.out]; exact HO2.out), HF2, HS2⟩)
            case measure => simp [intOf]; omega
          | some ev =>
            obtain ⟨_, hru, hye⟩ := evOn_is ho
            obtain ⟨ey, er, nm⟩ := ev
            dsimp only at hru hye
            subst hru hye
            rw [ho] at hq
            obtain ⟨rfl, hb2⟩ := EvR.to (o := some (⟨1850 + (k : Int), (j : Int), nm⟩ : Ev)) (v := .tuple #[.agg #[.int .i64 (1850 + (k : Int)), .int .i64 (j : Int), .int .i64 nm], .bool true]) rfl _ _ hq; clear hq
            have HY := Lib.hid (yearEvs_yes ho)
            have hb3 := bel_trans hb2 (bel_alloc w2 (.cells #[.int .i64 (1850 + (k : Int)), .int .i64 (j : Int), .int .i64 nm] 25))
            have HB2 := Lib.hid (show Below W.heap.size W (w2.alloc (.cells #[.int .i64 (1850 + (k : Int)), .int .i64 (j : Int), .int .i64 nm] 25)).drew from Below.drew (bel_trans HBz.out hb3))
            have HR2 := Lib.hid (show (w2.alloc (.cells #[.int .i64 (1850 + (k : Int)), .int .i64 (j : Int), .int .i64 nm] 25)).drew.rowIs W.heap.size 42 701 (fun i => if i = k then v else V i) from (row_below HRz.out hb3).drew)
            have HO2 := Lib.hid (show (w2.alloc (.cells #[.int .i64 (1850 + (k : Int)), .int .i64 (j : Int), .int .i64 nm] 25)).drew.ownsRow ws.heap.size 25 3 v (yearEvs rs (1850 + ((k : Nat) : Int)) j).length (flatEv (yearEvs rs (1850 + ((k : Nat) : Int)) j)) from own_below HOz.out (Below.drew hb3))
            have HF2 := Lib.hid (show ws.heap.size ≤ (w2.alloc (.cells #[.int .i64 (1850 + (k : Int)), .int .i64 (j : Int), .int .i64 nm] 25)).drew.heap.size from Nat.le_trans HFz.out hb3.size)
            have HS2 := Lib.hid (show SameB (W.heap.size + 1) ws.heap.size ws (w2.alloc (.cells #[.int .i64 (1850 + (k : Int)), .int .i64 (j : Int), .int .i64 nm] 25)).drew from SameB.below HSz.out HFz.out (Below.drew hb3))
            have HE2 := Lib.hid (show (w2.alloc (.cells #[.int .i64 (1850 + (k : Int)), .int .i64 (j : Int), .int .i64 nm] 25)).drew.heap[w2.heap.size]? = some (.cells #[.int .i64 (1850 + (k : Int)), .int .i64 (j : Int), .int .i64 nm] 25) from heap_alloc_new w2 (.cells #[.int .i64 (1850 + (k : Int)), .int .i64 (j : Int), .int .i64 nm] 25))
            have HNE := Lib.hid (own3_ne (own_below HOz.out hb2) (b := w2.heap.size) (.inr (Nat.le_refl _)))
            have HLT := Lib.hid (row_below HRz.out hb2).lt
            have HRW2 := Lib.hid (row_below HRz.out hb2)
            clear hb2 hb3 ho
            have hk0 : (0 : Int) ≤ (k : Int) := by omega
            go_wp2_with fail
            refine wp_region_held_drew (S := (fun w' => w'.cell? ⟨w2.heap.size, 0, none⟩ = some (.int .i64 (1850 + (k : Int))) ∧ w'.cell? ⟨w2.heap.size, 1, none⟩ = some (.int .i64 (j : Int)) ∧ w'.cell? ⟨w2.heap.size, 2, none⟩ = some (.int .i64 nm))) (by kernel_rfl) (by exact cells3e HE2.out) (fun hHeld => ?_)
            refine wpAnyH_take (i := 0) (v := ?_) rfl (by kernel_rfl) (by kernel_rfl) (by kernel_rfl) (fun _ _ _ h => h) (Or.inl ⟨by rfl, ?_⟩) (by assumption) ?_
            rotate_left 1
            · (intro w hSw; (try dsimp only at hSw); first | (go_simp; done) | (go_simp; with_reducible rfl))
            try simp only [Act.put, List.getElem_toArray, List.getElem_cons_succ, List.getElem_cons_zero, List.setIfInBounds_toArray, List.set_cons_zero, List.set_cons_succ]
            refine wpAnyH_take (i := 1) (v := ?_) rfl (by kernel_rfl) (by kernel_rfl) (by kernel_rfl) (fun _ _ _ h => h) (Or.inl ⟨by rfl, ?_⟩) (by assumption) ?_
            rotate_left 1
            · (intro w hSw; (try dsimp only at hSw); first | (go_simp; done) | (go_simp; with_reducible rfl))
            try simp only [Act.put, List.getElem_toArray, List.getElem_cons_succ, List.getElem_cons_zero, List.setIfInBounds_toArray, List.set_cons_zero, List.set_cons_succ]
            refine wpAnyH_take (i := 2) (v := ?_) rfl (by kernel_rfl) (by kernel_rfl) (by kernel_rfl) (fun _ _ _ h => h) (Or.inl ⟨by rfl, ?_⟩) (by assumption) ?_
            rotate_left 1
            · (intro w hSw; (try dsimp only at hSw); first | (go_simp; done) | (go_simp; with_reducible rfl))
            try simp only [Act.put, List.getElem_toArray, List.getElem_cons_succ, List.getElem_cons_zero, List.setIfInBounds_toArray, List.set_cons_zero, List.set_cons_succ]
            refine wpAnyH_take (i := 3) (v := ?_) rfl (by kernel_rfl) (by kernel_rfl) (by kernel_rfl) (fun _ _ _ h => h) (Or.inl ⟨by rfl, ?_⟩) (by assumption) ?_
            rotate_left 1
            · (intro w hSw; (try dsimp only at hSw); first | (go_simp; done) | (go_simp; with_reducible rfl))
            try simp only [Act.put, List.getElem_toArray, List.getElem_cons_succ, List.getElem_cons_zero, List.setIfInBounds_toArray, List.set_cons_zero, List.set_cons_succ]
            refine wpAnyH_take (i := 4) (v := ?_) rfl (by kernel_rfl) (by kernel_rfl) (by kernel_rfl) (fun _ _ _ h => h) (Or.inl ⟨by rfl, ?_⟩) (by assumption) ?_
            rotate_left 1
            · (intro w hSw; (try dsimp only at hSw); first | (go_simp; done) | (go_simp; with_reducible rfl))
            try simp only [Act.put, List.getElem_toArray, List.getElem_cons_succ, List.getElem_cons_zero, List.setIfInBounds_toArray, List.set_cons_zero, List.set_cons_succ]
            refine wpAnyH_take (i := 6) (v := ?_) rfl (by kernel_rfl) (by kernel_rfl) (by kernel_rfl) (fun _ _ _ h => h) (Or.inl ⟨by rfl, ?_⟩) (by assumption) ?_
            rotate_left 1
            · (intro w hSw; (try dsimp only at hSw); first | (go_simp; done) | (go_simp; with_reducible rfl))
            try simp only [Act.put, List.getElem_toArray, List.getElem_cons_succ, List.getElem_cons_zero, List.setIfInBounds_toArray, List.set_cons_zero, List.set_cons_succ]
            refine wpAnyH_ready (rs := [5, 7]) (by kernel_rfl) (by simp) ?_
            refine AllReadyH.cons rfl (fun K hK => ?_) (AllReadyH.cons rfl (fun K hK => ?_) AllReadyH.nil)
            · skip
              have cBk := (HR2.out).cell (i := k) hkm
              simp only [if_pos] at cBk
              have cB0 := (HRW2.out).cell (i := k) hkm
              simp only [if_pos] at cB0
              have hlt1 := HLT.out
              have hlt2 : W.heap.size < w2.heap.size + 1 := by omega
              have hne1 : W.heap.size ≠ w2.heap.size := by omega
              go_simp
              refine hK.out _ _ ?_ (fun hHeld => ?_)
              · exact cells3e HE2.out
              clear hK K cBk cB0 hlt1 hlt2 hne1
              try simp only [Act.put, List.getElem_toArray, List.getElem_cons_succ, List.getElem_cons_zero, List.setIfInBounds_toArray, List.set_cons_zero, List.set_cons_succ]
              refine wpAnyH_ready (rs := [7]) (by kernel_rfl) (by simp) ?_
              refine AllReadyH.cons rfl (fun K hK => ?_) AllReadyH.nil
              go_simp
              refine hK.out _ _ ?_ (fun hHeld => ?_)
              · exact cells3e (block_below HE2.out (bel_alloc _ _))
              clear hK K
              try simp only [Act.put, List.getElem_toArray, List.getElem_cons_succ, List.getElem_cons_zero, List.setIfInBounds_toArray, List.set_cons_zero, List.set_cons_succ]
              obtain ⟨bq, hbq⟩ : ∃ bq, bq = w2.heap.size + 1 := ⟨_, rfl⟩
              have HQ3 := Lib.hid (show ((w2.alloc (.cells #[.int .i64 (1850 + (k : Int)), .int .i64 (j : Int), .int .i64 nm] 25)).drew.alloc (.cells #[.int .i64 (1850 + (k : Int)), .int .i64 (j : Int), .int .i64 nm] 25)).heap[bq]? = some (.cells #[.int .i64 (1850 + (k : Int)), .int .i64 (j : Int), .int .i64 nm] 25) from new_ate (w := (w2.alloc (.cells #[.int .i64 (1850 + (k : Int)), .int .i64 (j : Int), .int .i64 nm] 25)).drew) (.cells #[.int .i64 (1850 + (k : Int)), .int .i64 (j : Int), .int .i64 nm] 25) (hbq.trans (by simp)))
              have HB2 := Lib.hid (bel_trans HB2.out (bel_alloc (w2.alloc (.cells #[.int .i64 (1850 + (k : Int)), .int .i64 (j : Int), .int .i64 nm] 25)).drew (.cells #[.int .i64 (1850 + (k : Int)), .int .i64 (j : Int), .int .i64 nm] 25)))
              have HR2 := Lib.hid (row_below HR2.out (bel_alloc (w2.alloc (.cells #[.int .i64 (1850 + (k : Int)), .int .i64 (j : Int), .int .i64 nm] 25)).drew (.cells #[.int .i64 (1850 + (k : Int)), .int .i64 (j : Int), .int .i64 nm] 25)))
              have HO2 := Lib.hid (own_below HO2.out (bel_alloc (w2.alloc (.cells #[.int .i64 (1850 + (k : Int)), .int .i64 (j : Int), .int .i64 nm] 25)).drew (.cells #[.int .i64 (1850 + (k : Int)), .int .i64 (j : Int), .int .i64 nm] 25)))
              have HS2 := Lib.hid (SameB.below HS2.out HF2.out (bel_alloc (w2.alloc (.cells #[.int .i64 (1850 + (k : Int)), .int .i64 (j : Int), .int .i64 nm] 25)).drew (.cells #[.int .i64 (1850 + (k : Int)), .int .i64 (j : Int), .int .i64 nm] 25)))
              have HF2 := Lib.hid (Nat.le_trans HF2.out (bel_alloc (w2.alloc (.cells #[.int .i64 (1850 + (k : Int)), .int .i64 (j : Int), .int .i64 nm] 25)).drew (.cells #[.int .i64 (1850 + (k : Int)), .int .i64 (j : Int), .int .i64 nm] 25)).size)
              have HE2 := Lib.hid (block_below HE2.out (bel_alloc (w2.alloc (.cells #[.int .i64 (1850 + (k : Int)), .int .i64 (j : Int), .int .i64 nm] 25)).drew (.cells #[.int .i64 (1850 + (k : Int)), .int .i64 (j : Int), .int .i64 nm] 25)))
              rw [← hbq]
              clear hbq
              refine wpAnyH_ready (rs := [8]) (by kernel_rfl) (by simp) ?_
              refine AllReadyH.cons rfl (fun K hK => ?_) AllReadyH.nil
              rw [if_pos (by rfl)]
              refine wp_append_own (w := ((w2.alloc (.cells #[.int .i64 (1850 + (k : Int)), .int .i64 (j : Int), .int .i64 nm] 25)).drew.alloc (.cells #[.int .i64 (1850 + (k : Int)), .int .i64 (j : Int), .int .i64 nm] 25))) (.tmp 35) (.tmp 37) 42 rfl ws.heap.size 25 i0 (.agg #[.int .i64 0, .int .i64 0, .int .i64 0]) 3 24 Tryd.underlying42 hi hz0 hzs hzb rfl (by decide) v _ _ (by rfl) HO2.out ⟨bq, 0, none⟩ 1 1 [.int .i64 (1850 + (k : Int)), .int .i64 (j : Int), .int .i64 nm] (by rfl) (by rfl) (World.news_of_block HQ3.out) (by intro u hu; simp at hu; rcases hu with rfl | rfl | rfl <;> rfl) (by unfold maxLen; have := HLE.out; omega) (by have := HLE.out; omega) HF2.out ?_
              intro v1 w3 hown3 hgrow3 hnil3
              obtain ⟨mm, hmm⟩ : ∃ mm, mm = (yearEvs rs (1850 + ((k : Nat) : Int)) j).length + 1 := ⟨_, rfl⟩
              rw [← hmm] at hown3
              obtain ⟨g, cp, rfl⟩ : ∃ g cp, v1 = .slice (some ⟨g, 0, none⟩) mm cp := by
                rcases hown3.2 with ⟨_, h0⟩ | ⟨g, c, cur, h1, _⟩
                · omega
                · exact ⟨g, c, h1⟩
              rw [hmm] at hown3
              have HMM := Lib.hid hmm
              clear hmm
              have HB3 := Lib.hid (Below.grown HB2.out hgrow3 HB2.out.size (fun q hq => Nat.le_trans (Nat.le_trans (Nat.le_succ _) (by rw [HWS.out]; exact HF0.out)) (HO2.out.lt q hq).1))
              have HR3 := Lib.hid (HR2.out.of_block (hgrow3.block W.heap.size HR2.out.lt (own3_ne HO2.out (.inl (by rw [HWS.out]; exact HF0.out)))))
              have HS3 := Lib.hid (show SameB (W.heap.size + 1) ws.heap.size ws w3 from fun g h1 h2 => (hgrow3.block g (Nat.lt_of_lt_of_le h2 HF2.out) (own3_ne HO2.out (.inl h2))).trans (HS2.out g h1 h2))
              have HE3 := Lib.hid (show w3.heap[w2.heap.size]? = some (.cells #[.int .i64 (1850 + (k : Int)), .int .i64 (j : Int), .int .i64 nm] 25) by rw [hgrow3.block w2.heap.size (Array.getElem?_eq_some_iff.1 HE2.out).1 HNE.out]; exact HE2.out)
              have HF3 := Lib.hid (Nat.le_trans HF2.out hgrow3.size)
              have HO3 := Lib.hid (show w3.ownsRow ws.heap.size 25 3 (.slice (some ⟨g, 0, none⟩) mm cp) (yearEvs rs (1850 + ((k : Nat) : Int)) (j + 1)).length (flatEv (yearEvs rs (1850 + ((k : Nat) : Int)) (j + 1))) by rw [HMM.out, HY.out, flatEv_snoc, _root_.List.length_append]; exact hown3)
              clear hown3 hgrow3 hnil3
              refine hK.out _ _ ?_ (fun hHeld => ?_)
              · exact cells3e HE3.out
              clear hK K
              try simp only [Act.put, List.getElem_toArray, List.getElem_cons_succ, List.getElem_cons_zero, List.setIfInBounds_toArray, List.set_cons_zero, List.set_cons_succ]
              refine wpAnyH_take (i := 9) (v := ?_) rfl (by kernel_rfl) (by kernel_rfl) (by kernel_rfl) (fun _ _ _ h => h) (Or.inl ⟨by rfl, ?_⟩) (by assumption) ?_
              rotate_left 1
              · (intro w hSw; (try dsimp only at hSw); first | (go_simp; done) | (go_simp; with_reducible rfl))
              try simp only [Act.put, List.getElem_toArray, List.getElem_cons_succ, List.getElem_cons_zero, List.setIfInBounds_toArray, List.set_cons_zero, List.set_cons_succ]
              refine wpAnyH_ready (rs := [10]) (by kernel_rfl) (by simp) ?_
              refine AllReadyH.cons rfl (fun K hK => ?_) AllReadyH.nil
              have cBk := HR3.out.cell (i := k) hkm
              have fBk := HR3.out.frozen k
              simp only [if_pos] at cBk
              go_simp
              refine hK.out _ _ ?_ (fun hHeld => ?_)
              · exact cells3e (by rw [Go.Deep.blk_setCell_other _ _ _ _ (Nat.ne_of_gt HLT.out)]; exact HE3.out)
              clear hK K cBk fBk
              try simp only [Act.put, List.getElem_toArray, List.getElem_cons_succ, List.getElem_cons_zero, List.setIfInBounds_toArray, List.set_cons_zero, List.set_cons_succ]
              refine wpAnyH_done (by kernel_rfl) ?_ _
              go_wp2_with fail
              have HR4 := Lib.hid ((HR3.out.set k (.slice (some ⟨g, 0, none⟩) mm cp)).congr (g := fun i => if i = k then (.slice (some ⟨g, 0, none⟩) mm cp) else V i) (fun i hi => by by_cases e : i = k <;> simp [e]))
              have HB4 := Lib.hid (HB3.out.setCell (p := ⟨W.heap.size, k, none⟩) (Nat.le_refl _) (.slice (some ⟨g, 0, none⟩) mm cp))
              have HO4 := Lib.hid (own_same HO3.out (w' := w3.setCell ⟨W.heap.size, k, none⟩ (.slice (some ⟨g, 0, none⟩) mm cp)) (fun g h1 h2 => Go.Deep.blk_setCell_other _ _ _ _ (Nat.ne_of_gt (Nat.lt_of_lt_of_le (by rw [HWS.out]; exact HF0.out) h1))))
              have HS4 := Lib.hid (show SameB (W.heap.size + 1) ws.heap.size ws (w3.setCell ⟨W.heap.size, k, none⟩ (.slice (some ⟨g, 0, none⟩) mm cp)) from fun g h1 h2 => (Go.Deep.blk_setCell_other _ _ _ _ (Nat.ne_of_gt h1)).trans (HS3.out g h1 h2))
              refine ⟨?_, by simp [intOf]; omega⟩
              first | exact ⟨j + 1, _, (.slice (some ⟨g, 0, none⟩) mm cp), by omega, by go_num, rfl, HB4, HR4, HO4, Lib.hid (by rw [World.size_setCell]; exact HF3.out), HS4⟩ | ((repeat apply Exists.intro); refine ⟨?_, rfl⟩; exact ⟨j + 1, _, (.slice (some ⟨g, 0, none⟩) mm cp), by omega, by go_num, rfl, HB4, HR4, HO4, Lib.hid (by rw [World.size_setCell]; exact HF3.out), HS4⟩)
            · skip
              go_simp
              refine hK.out _ _ ?_ (fun hHeld => ?_)
              · exact cells3e (block_below HE2.out (bel_alloc _ _))
              clear hK K
              try simp only [Act.put, List.getElem_toArray, List.getElem_cons_succ, List.getElem_cons_zero, List.setIfInBounds_toArray, List.set_cons_zero, List.set_cons_succ]
              obtain ⟨bq, hbq⟩ : ∃ bq, bq = w2.heap.size + 1 := ⟨_, rfl⟩
              have HQ3 := Lib.hid (show ((w2.alloc (.cells #[.int .i64 (1850 + (k : Int)), .int .i64 (j : Int), .int .i64 nm] 25)).drew.alloc (.cells #[.int .i64 (1850 + (k : Int)), .int .i64 (j : Int), .int .i64 nm] 25)).heap[bq]? = some (.cells #[.int .i64 (1850 + (k : Int)), .int .i64 (j : Int), .int .i64 nm] 25) from new_ate (w := (w2.alloc (.cells #[.int .i64 (1850 + (k : Int)), .int .i64 (j : Int), .int .i64 nm] 25)).drew) (.cells #[.int .i64 (1850 + (k : Int)), .int .i64 (j : Int), .int .i64 nm] 25) (hbq.trans (by simp)))
              have HB2 := Lib.hid (bel_trans HB2.out (bel_alloc (w2.alloc (.cells #[.int .i64 (1850 + (k : Int)), .int .i64 (j : Int), .int .i64 nm] 25)).drew (.cells #[.int .i64 (1850 + (k : Int)), .int .i64 (j : Int), .int .i64 nm] 25)))
              have HR2 := Lib.hid (row_below HR2.out (bel_alloc (w2.alloc (.cells #[.int .i64 (1850 + (k : Int)), .int .i64 (j : Int), .int .i64 nm] 25)).drew (.cells #[.int .i64 (1850 + (k : Int)), .int .i64 (j : Int), .int .i64 nm] 25)))
              have HO2 := Lib.hid (own_below HO2.out (bel_alloc (w2.alloc (.cells #[.int .i64 (1850 + (k : Int)), .int .i64 (j : Int), .int .i64 nm] 25)).drew (.cells #[.int .i64 (1850 + (k : Int)), .int .i64 (j : Int), .int .i64 nm] 25)))
              have HS2 := Lib.hid (SameB.below HS2.out HF2.out (bel_alloc (w2.alloc (.cells #[.int .i64 (1850 + (k : Int)), .int .i64 (j : Int), .int .i64 nm] 25)).drew (.cells #[.int .i64 (1850 + (k : Int)), .int .i64 (j : Int), .int .i64 nm] 25)))
              have HF2 := Lib.hid (Nat.le_trans HF2.out (bel_alloc (w2.alloc (.cells #[.int .i64 (1850 + (k : Int)), .int .i64 (j : Int), .int .i64 nm] 25)).drew (.cells #[.int .i64 (1850 + (k : Int)), .int .i64 (j : Int), .int .i64 nm] 25)).size)
              have HE2 := Lib.hid (block_below HE2.out (bel_alloc (w2.alloc (.cells #[.int .i64 (1850 + (k : Int)), .int .i64 (j : Int), .int .i64 nm] 25)).drew (.cells #[.int .i64 (1850 + (k : Int)), .int .i64 (j : Int), .int .i64 nm] 25)))
              rw [← hbq]
              clear hbq
              refine wpAnyH_ready (rs := [5]) (by kernel_rfl) (by simp) ?_
              refine AllReadyH.cons rfl (fun K hK => ?_) AllReadyH.nil
              have cBk := (HR2.out).cell (i := k) hkm
              simp only [if_pos] at cBk
              have cB0 := (HRW2.out).cell (i := k) hkm
              simp only [if_pos] at cB0
              have hlt1 := HLT.out
              have hlt2 : W.heap.size < w2.heap.size + 1 := by omega
              have hne1 : W.heap.size ≠ w2.heap.size := by omega
              go_simp
              refine hK.out _ _ ?_ (fun hHeld => ?_)
              · exact cells3e HE2.out
              clear hK K cBk cB0 hlt1 hlt2 hne1
              try simp only [Act.put, List.getElem_toArray, List.getElem_cons_succ, List.getElem_cons_zero, List.setIfInBounds_toArray, List.set_cons_zero, List.set_cons_succ]
              refine wpAnyH_ready (rs := [8]) (by kernel_rfl) (by simp) ?_
              refine AllReadyH.cons rfl (fun K hK => ?_) AllReadyH.nil
              rw [if_pos (by rfl)]
              refine wp_append_own (w := ((w2.alloc (.cells #[.int .i64 (1850 + (k : Int)), .int .i64 (j : Int), .int .i64 nm] 25)).drew.alloc (.cells #[.int .i64 (1850 + (k : Int)), .int .i64 (j : Int), .int .i64 nm] 25))) (.tmp 35) (.tmp 37) 42 rfl ws.heap.size 25 i0 (.agg #[.int .i64 0, .int .i64 0, .int .i64 0]) 3 24 Tryd.underlying42 hi hz0 hzs hzb rfl (by decide) v _ _ (by rfl) HO2.out ⟨bq, 0, none⟩ 1 1 [.int .i64 (1850 + (k : Int)), .int .i64 (j : Int), .int .i64 nm] (by rfl) (by rfl) (World.news_of_block HQ3.out) (by intro u hu; simp at hu; rcases hu with rfl | rfl | rfl <;> rfl) (by unfold maxLen; have := HLE.out; omega) (by have := HLE.out; omega) HF2.out ?_
              intro v1 w3 hown3 hgrow3 hnil3
              obtain ⟨mm, hmm⟩ : ∃ mm, mm = (yearEvs rs (1850 + ((k : Nat) : Int)) j).length + 1 := ⟨_, rfl⟩
              rw [← hmm] at hown3
              obtain ⟨g, cp, rfl⟩ : ∃ g cp, v1 = .slice (some ⟨g, 0, none⟩) mm cp := by
                rcases hown3.2 with ⟨_, h0⟩ | ⟨g, c, cur, h1, _⟩
                · omega
                · exact ⟨g, c, h1⟩
              rw [hmm] at hown3
              have HMM := Lib.hid hmm
              clear hmm
              have HB3 := Lib.hid (Below.grown HB2.out hgrow3 HB2.out.size (fun q hq => Nat.le_trans (Nat.le_trans (Nat.le_succ _) (by rw [HWS.out]; exact HF0.out)) (HO2.out.lt q hq).1))
              have HR3 := Lib.hid (HR2.out.of_block (hgrow3.block W.heap.size HR2.out.lt (own3_ne HO2.out (.inl (by rw [HWS.out]; exact HF0.out)))))
              have HS3 := Lib.hid (show SameB (W.heap.size + 1) ws.heap.size ws w3 from fun g h1 h2 => (hgrow3.block g (Nat.lt_of_lt_of_le h2 HF2.out) (own3_ne HO2.out (.inl h2))).trans (HS2.out g h1 h2))
              have HE3 := Lib.hid (show w3.heap[w2.heap.size]? = some (.cells #[.int .i64 (1850 + (k : Int)), .int .i64 (j : Int), .int .i64 nm] 25) by rw [hgrow3.block w2.heap.size (Array.getElem?_eq_some_iff.1 HE2.out).1 HNE.out]; exact HE2.out)
              have HF3 := Lib.hid (Nat.le_trans HF2.out hgrow3.size)
              have HO3 := Lib.hid (show w3.ownsRow ws.heap.size 25 3 (.slice (some ⟨g, 0, none⟩) mm cp) (yearEvs rs (1850 + ((k : Nat) : Int)) (j + 1)).length (flatEv (yearEvs rs (1850 + ((k : Nat) : Int)) (j + 1))) by rw [HMM.out, HY.out, flatEv_snoc, _root_.List.length_append]; exact hown3)
              clear hown3 hgrow3 hnil3
              refine hK.out _ _ ?_ (fun hHeld => ?_)
              · exact cells3e HE3.out
              clear hK K
              try simp only [Act.put, List.getElem_toArray, List.getElem_cons_succ, List.getElem_cons_zero, List.setIfInBounds_toArray, List.set_cons_zero, List.set_cons_succ]
              refine wpAnyH_take (i := 9) (v := ?_) rfl (by kernel_rfl) (by kernel_rfl) (by kernel_rfl) (fun _ _ _ h => h) (Or.inl ⟨by rfl, ?_⟩) (by assumption) ?_
              rotate_left 1
              · (intro w hSw; (try dsimp only at hSw); first | (go_simp; done) | (go_simp; with_reducible rfl))
              try simp only [Act.put, List.getElem_toArray, List.getElem_cons_succ, List.getElem_cons_zero, List.setIfInBounds_toArray, List.set_cons_zero, List.set_cons_succ]
              refine wpAnyH_ready (rs := [10]) (by kernel_rfl) (by simp) ?_
              refine AllReadyH.cons rfl (fun K hK => ?_) AllReadyH.nil
              have cBk := HR3.out.cell (i := k) hkm
              have fBk := HR3.out.frozen k
              simp only [if_pos] at cBk
              go_simp
              refine hK.out _ _ ?_ (fun hHeld => ?_)
              · exact cells3e (by rw [Go.Deep.blk_setCell_other _ _ _ _ (Nat.ne_of_gt HLT.out)]; exact HE3.out)
              clear hK K cBk fBk
              try simp only [Act.put, List.getElem_toArray, List.getElem_cons_succ, List.getElem_cons_zero, List.setIfInBounds_toArray, List.set_cons_zero, List.set_cons_succ]
              refine wpAnyH_done (by kernel_rfl) ?_ _
              go_wp2_with fail
              have HR4 := Lib.hid ((HR3.out.set k (.slice (some ⟨g, 0, none⟩) mm cp)).congr (g := fun i => if i = k then (.slice (some ⟨g, 0, none⟩) mm cp) else V i) (fun i hi => by by_cases e : i = k <;> simp [e]))
              have HB4 := Lib.hid (HB3.out.setCell (p := ⟨W.heap.size, k, none⟩) (Nat.le_refl _) (.slice (some ⟨g, 0, none⟩) mm cp))
              have HO4 := Lib.hid (own_same HO3.out (w' := w3.setCell ⟨W.heap.size, k, none⟩ (.slice (some ⟨g, 0, none⟩) mm cp)) (fun g h1 h2 => Go.Deep.blk_setCell_other _ _ _ _ (Nat.ne_of_gt (Nat.lt_of_lt_of_le (by rw [HWS.out]; exact HF0.out) h1))))
              have HS4 := Lib.hid (show SameB (W.heap.size + 1) ws.heap.size ws (w3.setCell ⟨W.heap.size, k, none⟩ (.slice (some ⟨g, 0, none⟩) mm cp)) from fun g h1 h2 => (Go.Deep.blk_setCell_other _ _ _ _ (Nat.ne_of_gt h1)).trans (HS3.out g h1 h2))
              refine ⟨?_, by simp [intOf]; omega⟩
              first | exact ⟨j + 1, _, (.slice (some ⟨g, 0, none⟩) mm cp), by omega, by go_num, rfl, HB4, HR4, HO4, Lib.hid (by rw [World.size_setCell]; exact HF3.out), HS4⟩ | ((repeat apply Exists.intro); refine ⟨?_, rfl⟩; exact ⟨j + 1, _, (.slice (some ⟨g, 0, none⟩) mm cp), by omega, by go_num, rfl, HB4, HR4, HO4, Lib.hid (by rw [World.size_setCell]; exact HF3.out), HS4⟩)
        · obtain rfl : n = j := by omega
          have HB2 := HBz
          have HV2 := Lib.hid (show ∀ i : Nat, i < k + 1 → wr.ownsRow (W.heap.size + 1) 25 3 (if i = k then v else V i) (yearEvs rs (1850 + ((i : Nat) : Int)) n).length (flatEv (yearEvs rs (1850 + ((i : Nat) : Int)) n)) from fun i hi => by
            by_cases e : i = k
            · subst e; rw [if_pos rfl]; exact own_base HOz.out (by rw [HWS.out]; exact HF0.out)
            · rw [if_neg e]
              exact own_same (HWS.out ▸ HV.out i (by omega)) (fun g h1 h2 => HSz.out g h1 h2))
          have HZ2 := Lib.hid (show ∀ i : Nat, k + 1 ≤ i → (if i = k then v else V i) = .slice none 0 0 from fun i hi => by rw [if_neg (by omega)]; exact HZ.out i (by omega))
          go_wp2_with fail
          refine ⟨?_, by simp [intOf]; omega⟩
          first | exact ⟨k + 1, _, _, by omega, by go_num, rfl, HBz, HRz, HV2, HZ2⟩ | ((repeat apply Exists.intro); refine ⟨?_, rfl⟩; exact ⟨k + 1, _, _, by omega, by go_num, rfl, HBz, HRz, HV2, HZ2⟩)
    · obtain rfl : k = 701 := by omega
      go_wp2_with fail
      go_ret
      exact ⟨V, rfl, HR, Lib.hid (fun i hi => by rw [← HN.out]; exact RdEv.own (HV.out i hi)), HB.out⟩
end Go.Proofs.YtghmdaahmijdiaaDoor
