/-
  The walk of the law ShiftSets.
-/
import Derived.Test.YtdlmlcgmonkdfaaShfRefS
namespace Go.Proofs.Ytdlmlcgmonkdfaa
open Go.RowKit Sh
set_option linter.unusedVariables false
set_option linter.unusedSimpArgs false


theorem setB_any (v1 v2 v3 v4 : Value) (s : Sou) (n : ByteArray) (x : Int) (W : World) (h : RdS v1 v2 v3 v4 s W) :
    Calls Try.prog 12 #[.agg #[v1, v2, v3, v4], .string n, .int .i64 x] W fun e w' => ∃ u1 u2 u3 u4, e = .returned (.tuple #[.agg #[u1, u2, u3, u4], .int .i64 (setE n s)]) ∧ Hid (RdS u1 u2 u3 u4 (setR n x s) w') ∧ Below W.heap.size W w' := by
  unfold setE setR
  cases hN : hasN n s.rs
  · exact (setN_any v1 v2 v3 v4 s n x W h hN).mono fun e w' ⟨he, hb⟩ => ⟨_, _, _, _, he, Lib.hid (rd_noS _), hb⟩
  · exact (setY_any v1 v2 v3 v4 s n x W h hN).mono fun e w' ⟨u1, u2, u3, u4, he, ho, hb⟩ => ⟨u1, u2, u3, u4, he, Lib.hid ho.out.rd, hb⟩
theorem refSetB_any (v1 v2 v3 v4 : Value) (s : Sou) (n : ByteArray) (x : Int) (W : World) (h : RdS v1 v2 v3 v4 s W) :
    Calls Try.prog 13 #[.agg #[v1, v2, v3, v4], .string n, .int .i64 x] W fun e w' => ∃ u1 u2 u3 u4, e = .returned (.tuple #[.agg #[u1, u2, u3, u4], .int .i64 (setE n s)]) ∧ Hid (RdS u1 u2 u3 u4 (setR n x s) w') ∧ Below W.heap.size W w' :=
  refSet_any v1 v2 v3 v4 s n x W h
theorem rulesB_any (v : Value) (rs : _root_.List Ru) (x : Int) (W : World) (h : Rd 11 v rs.length (flatR rs) W) :
    Calls Try.prog 18 #[v, .int .i64 x] W fun e w' => ∃ v', e = .returned v' ∧ Hid (Rd 11 v' (rs.map fun r => r.sh x).length (flatR (rs.map fun r => r.sh x)) w') ∧ Below W.heap.size W w' :=
  (rules_any v rs x W h).mono fun e w' ⟨v', he, ho, hb⟩ => ⟨v', he, Lib.hid (by rw [_root_.List.length_map]; exact ho.out.rd), hb⟩
theorem refRulesB_any (v : Value) (rs : _root_.List Ru) (x : Int) (W : World) (h : Rd 11 v rs.length (flatR rs) W) :
    Calls Try.prog 19 #[v, .int .i64 x] W fun e w' => ∃ v', e = .returned v' ∧ Hid (Rd 11 v' (rs.map fun r => r.sh x).length (flatR (rs.map fun r => r.sh x)) w') ∧ Below W.heap.size W w' :=
  (refRules_any v rs x W h).mono fun e w' ⟨v', he, ho, hb⟩ => ⟨v', he, Lib.hid ho.out.rd, hb⟩
theorem erasB_any (v1 v2 v3 v4 : Value) (s : Sou) (n : ByteArray) (x : Int) (W : World) (h : RdS v1 v2 v3 v4 s W) :
    Calls Try.prog 15 #[.agg #[v1, v2, v3, v4], .string n, .int .i64 x] W fun e w' => ∃ u1 u2 u3 u4, e = .returned (.agg #[u1, u2, u3, u4]) ∧ Hid (RdS u1 u2 u3 u4 (s.shE n x) w') ∧ Below W.heap.size W w' :=
  (erasS_any v1 v2 v3 v4 s n x W h).mono fun e w' ⟨u1, u2, u3, u4, he, ho, hb⟩ => ⟨u1, u2, u3, u4, he, Lib.hid ho.out.rd, hb⟩
theorem refErasB_any (v1 v2 v3 v4 : Value) (s : Sou) (n : ByteArray) (x : Int) (W : World) (h : RdS v1 v2 v3 v4 s W) :
    Calls Try.prog 16 #[.agg #[v1, v2, v3, v4], .string n, .int .i64 x] W fun e w' => ∃ u1 u2 u3 u4, e = .returned (.agg #[u1, u2, u3, u4]) ∧ Hid (RdS u1 u2 u3 u4 (s.shE n x) w') ∧ Below W.heap.size W w' :=
  (refEras_any v1 v2 v3 v4 s n x W h).mono fun e w' ⟨u1, u2, u3, u4, he, ho, hb⟩ => ⟨u1, u2, u3, u4, he, Lib.hid ho.out.rd, hb⟩


set_option maxRecDepth 100000 in
set_option maxHeartbeats 8000000 in
theorem shiftSets_core (A1 A2 A3 A4 : Option Addr) (n1 n2 n3 n4 c1 c2 c3 c4 : Nat) (ms : _root_.List Nat) (W : World) (hbd : n1 ≤ maxLen ∧ n2 ≤ maxLen ∧ n3 ≤ maxLen ∧ n4 ≤ maxLen) (hml : ms.length = n2) (hbm : ∀ k ∈ ms, k ≤ maxLen) (hraw : RawZ A2 ms W) (hs : n1 ≤ 40 → n2 ≤ 10 → n3 ≤ 40 → n4 ≤ 40 → (∀ k ∈ ms, k ≤ 20) → ∃ s : Sou, s.rs.length = n1 ∧ s.zs.length = n2 ∧ s.ls.length = n3 ∧ s.ns.length = n4 ∧ s.fits ∧ RdS (.slice A1 n1 c1) (.slice A2 n2 c2) (.slice A3 n3 c3) (.slice A4 n4 c4) s W) (n : ByteArray) (x : Int) : Calls Try.prog 3 #[.agg #[.slice A1 n1 c1, .slice A2 n2 c2, .slice A3 n3 c3, .slice A4 n4 c4], .string n, .int .i64 x] W fun e w' => e = .returned (.bool true) ∧ Below W.heap.size W w' := by
  go_enter Try.func3, Try.ntmps3
  have K0 := Lib.hid (heap_alloc_new W (.cells #[.slice A1 n1 c1, .slice A2 n2 c2, .slice A3 n3 c3, .slice A4 n4 c4] 27))
  have HB := Lib.hid (bel_alloc W (.cells #[.slice A1 n1 c1, .slice A2 n2 c2, .slice A3 n3 c3, .slice A4 n4 c4] 27))
  go_wp2_with fail
  refine (few_any A1 A2 A3 A4 n1 n2 n3 n4 c1 c2 c3 c4 ms _ hbd hml hbm (hraw.below HB.out)).mono ?_
  rintro e w0 ⟨b, rfl, HF, hb⟩
  cases b
  · go_wp2_with fail
    refine (works28_any _).mono ?_
    rintro e w9 ⟨rfl, hb9⟩
    go_wp2_with fail
    go_ret
    exact ⟨rfl, bel_trans (bel_trans HB.out hb) hb9⟩
  obtain ⟨l1, l2, l3, l4, l5⟩ := HF.out rfl
  obtain ⟨s, e1, e2, e3, e4, hfit, hS⟩ := hs l1 l2 l3 l4 l5
  clear hs HF
  subst e1 e2 e3 e4
  have HS := Lib.hid (hS.below (bel_trans HB.out hb))
  have HFIT := Lib.hid hfit
  replace HB := Lib.hid (bel_trans HB.out hb)
  replace K0 := Lib.hid (block_below K0.out hb)
  clear hS hfit hb hraw hml hbm hbd l5
  obtain ⟨K0x0, K0x1, K0x2, K0x3⟩ := row4 K0.out
  go_wp2_with fail
  refine (copy_any _ _ _ _ s _ HS.out).mono ?_
  rintro e w1 ⟨u1, u2, u3, u4, rfl, HU0, hb⟩
  have HU := Lib.hid HU0.out.rd
  clear HU0
  obtain ⟨a11, d11, a12, d12, a13, d13, a14, d14, rfl, rfl, rfl, rfl⟩ := HU.out.sl
  clear K0x0 K0x1 K0x2 K0x3
  replace hb := bel_trans hb (bel_alloc w1 (.cells #[.slice a11 s.rs.length d11, .slice a12 s.zs.length d12, .slice a13 s.ls.length d13, .slice a14 s.ns.length d14] 27))
  have K1 := Lib.hid (heap_alloc_new w1 (.cells #[.slice a11 s.rs.length d11, .slice a12 s.zs.length d12, .slice a13 s.ls.length d13, .slice a14 s.ns.length d14] 27))
  have O1 := Lib.hid (HU.out.below (bel_alloc w1 (.cells #[.slice a11 s.rs.length d11, .slice a12 s.zs.length d12, .slice a13 s.ls.length d13, .slice a14 s.ns.length d14] 27)))
  clear HU
  replace HB := Lib.hid (bel_trans HB.out hb)
  replace K0 := Lib.hid (block_below K0.out hb)
  replace HS := Lib.hid (HS.out.below hb)
  clear hb
  obtain ⟨K0x0, K0x1, K0x2, K0x3⟩ := row4 K0.out
  obtain ⟨K1x0, K1x1, K1x2, K1x3⟩ := row4 K1.out
  go_wp2_with fail
  refine (setB_any _ _ _ _ s n x _ HS.out).mono ?_
  rintro e w2 ⟨u1, u2, u3, u4, rfl, HU, hb⟩
  obtain ⟨a21, d21, a22, d22, a23, d23, a24, d24, rfl, rfl, rfl, rfl⟩ := HU.out.sl
  clear K0x0 K0x1 K0x2 K0x3 K1x0 K1x1 K1x2 K1x3
  replace hb := bel_trans hb (bel_alloc w2 (.cells #[.slice a21 (setR n x s).rs.length d21, .slice a22 (setR n x s).zs.length d22, .slice a23 (setR n x s).ls.length d23, .slice a24 (setR n x s).ns.length d24] 27))
  have K2 := Lib.hid (heap_alloc_new w2 (.cells #[.slice a21 (setR n x s).rs.length d21, .slice a22 (setR n x s).zs.length d22, .slice a23 (setR n x s).ls.length d23, .slice a24 (setR n x s).ns.length d24] 27))
  have O2 := Lib.hid (HU.out.below (bel_alloc w2 (.cells #[.slice a21 (setR n x s).rs.length d21, .slice a22 (setR n x s).zs.length d22, .slice a23 (setR n x s).ls.length d23, .slice a24 (setR n x s).ns.length d24] 27)))
  clear HU
  replace HB := Lib.hid (bel_trans HB.out hb)
  replace K0 := Lib.hid (block_below K0.out hb)
  replace K1 := Lib.hid (block_below K1.out hb)
  replace HS := Lib.hid (HS.out.below hb)
  replace O1 := Lib.hid (O1.out.below hb)
  clear hb
  obtain ⟨K0x0, K0x1, K0x2, K0x3⟩ := row4 K0.out
  obtain ⟨K1x0, K1x1, K1x2, K1x3⟩ := row4 K1.out
  obtain ⟨K2x0, K2x1, K2x2, K2x3⟩ := row4 K2.out
  go_wp2_with fail
  refine (refSetB_any _ _ _ _ s n x _ HS.out).mono ?_
  rintro e w3 ⟨u1, u2, u3, u4, rfl, HU, hb⟩
  obtain ⟨a31, d31, a32, d32, a33, d33, a34, d34, rfl, rfl, rfl, rfl⟩ := HU.out.sl
  clear K0x0 K0x1 K0x2 K0x3 K1x0 K1x1 K1x2 K1x3 K2x0 K2x1 K2x2 K2x3
  replace hb := bel_trans hb (bel_alloc w3 (.cells #[.slice a31 (setR n x s).rs.length d31, .slice a32 (setR n x s).zs.length d32, .slice a33 (setR n x s).ls.length d33, .slice a34 (setR n x s).ns.length d34] 27))
  have K3 := Lib.hid (heap_alloc_new w3 (.cells #[.slice a31 (setR n x s).rs.length d31, .slice a32 (setR n x s).zs.length d32, .slice a33 (setR n x s).ls.length d33, .slice a34 (setR n x s).ns.length d34] 27))
  have O3 := Lib.hid (HU.out.below (bel_alloc w3 (.cells #[.slice a31 (setR n x s).rs.length d31, .slice a32 (setR n x s).zs.length d32, .slice a33 (setR n x s).ls.length d33, .slice a34 (setR n x s).ns.length d34] 27)))
  clear HU
  replace HB := Lib.hid (bel_trans HB.out hb)
  replace K0 := Lib.hid (block_below K0.out hb)
  replace K1 := Lib.hid (block_below K1.out hb)
  replace K2 := Lib.hid (block_below K2.out hb)
  replace HS := Lib.hid (HS.out.below hb)
  replace O1 := Lib.hid (O1.out.below hb)
  replace O2 := Lib.hid (O2.out.below hb)
  clear hb
  generalize setE n s = q at *
  have hbd : Below (w3.alloc (.cells #[.slice a31 (setR n x s).rs.length d31, .slice a32 (setR n x s).zs.length d32, .slice a33 (setR n x s).ls.length d33, .slice a34 (setR n x s).ns.length d34] 27)).heap.size (w3.alloc (.cells #[.slice a31 (setR n x s).rs.length d31, .slice a32 (setR n x s).zs.length d32, .slice a33 (setR n x s).ls.length d33, .slice a34 (setR n x s).ns.length d34] 27)) (w3.alloc (.cells #[.slice a31 (setR n x s).rs.length d31, .slice a32 (setR n x s).zs.length d32, .slice a33 (setR n x s).ls.length d33, .slice a34 (setR n x s).ns.length d34] 27)).drew := Below.drew (Below.refl _ _)
  have HB := Lib.hid (bel_trans HB.out hbd)
  have HS := Lib.hid (HS.out.below hbd)
  have O1 := Lib.hid (O1.out.below hbd)
  have O2 := Lib.hid (O2.out.below hbd)
  have O3 := Lib.hid (O3.out.below hbd)
  have K0 := Lib.hid (block_below K0.out hbd)
  have K1 := Lib.hid (block_below K1.out hbd)
  have K2 := Lib.hid (block_below K2.out hbd)
  have K3 := Lib.hid (block_below K3.out hbd)
  clear hbd
  go_wp2_with fail
  try simp only [List.append_eq, List.cons_append, List.nil_append]
  refine wp_region_noPanic ?_
  refine wp_region_held_drew (S := (fun w' => w'.cell? ⟨W.heap.size, 0, none⟩ = some (.slice A1 s.rs.length c1) ∧ w'.cell? ⟨W.heap.size, 1, none⟩ = some (.slice A2 s.zs.length c2) ∧ w'.cell? ⟨W.heap.size, 2, none⟩ = some (.slice A3 s.ls.length c3) ∧ w'.cell? ⟨W.heap.size, 3, none⟩ = some (.slice A4 s.ns.length c4) ∧ w'.cell? ⟨w1.heap.size, 0, none⟩ = some (.slice a11 s.rs.length d11) ∧ w'.cell? ⟨w1.heap.size, 1, none⟩ = some (.slice a12 s.zs.length d12) ∧ w'.cell? ⟨w1.heap.size, 2, none⟩ = some (.slice a13 s.ls.length d13) ∧ w'.cell? ⟨w1.heap.size, 3, none⟩ = some (.slice a14 s.ns.length d14) ∧ w'.cell? ⟨w2.heap.size, 0, none⟩ = some (.slice a21 (setR n x s).rs.length d21) ∧ w'.cell? ⟨w2.heap.size, 1, none⟩ = some (.slice a22 (setR n x s).zs.length d22) ∧ w'.cell? ⟨w2.heap.size, 2, none⟩ = some (.slice a23 (setR n x s).ls.length d23) ∧ w'.cell? ⟨w2.heap.size, 3, none⟩ = some (.slice a24 (setR n x s).ns.length d24) ∧ w'.cell? ⟨w3.heap.size, 0, none⟩ = some (.slice a31 (setR n x s).rs.length d31) ∧ w'.cell? ⟨w3.heap.size, 1, none⟩ = some (.slice a32 (setR n x s).zs.length d32) ∧ w'.cell? ⟨w3.heap.size, 2, none⟩ = some (.slice a33 (setR n x s).ls.length d33) ∧ w'.cell? ⟨w3.heap.size, 3, none⟩ = some (.slice a34 (setR n x s).ns.length d34))) (by kernel_rfl) (by exact ⟨cellB (block_below K0.out (Below.refl _ _)) (i := 0) rfl, cellB (block_below K0.out (Below.refl _ _)) (i := 1) rfl, cellB (block_below K0.out (Below.refl _ _)) (i := 2) rfl, cellB (block_below K0.out (Below.refl _ _)) (i := 3) rfl, cellB (block_below K1.out (Below.refl _ _)) (i := 0) rfl, cellB (block_below K1.out (Below.refl _ _)) (i := 1) rfl, cellB (block_below K1.out (Below.refl _ _)) (i := 2) rfl, cellB (block_below K1.out (Below.refl _ _)) (i := 3) rfl, cellB (block_below K2.out (Below.refl _ _)) (i := 0) rfl, cellB (block_below K2.out (Below.refl _ _)) (i := 1) rfl, cellB (block_below K2.out (Below.refl _ _)) (i := 2) rfl, cellB (block_below K2.out (Below.refl _ _)) (i := 3) rfl, cellB (block_below K3.out (Below.refl _ _)) (i := 0) rfl, cellB (block_below K3.out (Below.refl _ _)) (i := 1) rfl, cellB (block_below K3.out (Below.refl _ _)) (i := 2) rfl, cellB (block_below K3.out (Below.refl _ _)) (i := 3) rfl⟩) (fun hHeld => ?_)
  refine wpAnyH_take (i := 0) (v := ?_) rfl (by kernel_rfl) (by kernel_rfl) (by kernel_rfl) (fun _ _ _ h => h) (Or.inl ⟨by rfl, ?_⟩) (by assumption) ?_
  rotate_left 1
  · (intro w hSw; (try dsimp only at hSw); first | (go_simp; done) | (go_simp; with_reducible rfl))
  try simp only [Act.put, List.getElem_toArray, List.getElem_cons_succ, List.getElem_cons_zero, List.setIfInBounds_toArray, List.set_cons_zero, List.set_cons_succ]
  refine wpAnyH_take (i := 1) (v := ?_) rfl (by kernel_rfl) (by kernel_rfl) (by kernel_rfl) (fun _ _ _ h => h) (Or.inl ⟨by rfl, ?_⟩) (by assumption) ?_
  rotate_left 1
  · (intro w hSw; (try dsimp only at hSw); first | (go_simp; done) | (go_simp; with_reducible rfl))
  try simp only [Act.put, List.getElem_toArray, List.getElem_cons_succ, List.getElem_cons_zero, List.setIfInBounds_toArray, List.set_cons_zero, List.set_cons_succ]
  refine wpAnyH_take (i := 2) (v := ?_) rfl (by kernel_rfl) (by kernel_rfl) (by kernel_rfl) (fun _ _ _ h => h) (Or.inl ⟨by rfl, ?_⟩) (by assumption) ?_
  rotate_left 1
  · (intro w hSw; (try dsimp only at hSw); first | (go_simp; done) | (go_simp; with_reducible rfl))
  try simp only [Act.put, List.getElem_toArray, List.getElem_cons_succ, List.getElem_cons_zero, List.setIfInBounds_toArray, List.set_cons_zero, List.set_cons_succ]
  refine wpAnyH_take (i := 3) (v := ?_) rfl (by kernel_rfl) (by kernel_rfl) (by kernel_rfl) (fun _ _ _ h => h) (Or.inl ⟨by rfl, ?_⟩) (by assumption) ?_
  rotate_left 1
  · (intro w hSw; (try dsimp only at hSw); first | (go_simp; done) | (go_simp; with_reducible rfl))
  try simp only [Act.put, List.getElem_toArray, List.getElem_cons_succ, List.getElem_cons_zero, List.setIfInBounds_toArray, List.set_cons_zero, List.set_cons_succ]
  refine wpAnyH_take (i := 4) (v := ?_) rfl (by kernel_rfl) (by kernel_rfl) (by kernel_rfl) (fun _ _ _ h => h) (Or.inl ⟨by rfl, ?_⟩) (by assumption) ?_
  rotate_left 1
  · (intro w hSw; (try dsimp only at hSw); first | (go_simp; done) | (go_simp; with_reducible rfl))
  try simp only [Act.put, List.getElem_toArray, List.getElem_cons_succ, List.getElem_cons_zero, List.setIfInBounds_toArray, List.set_cons_zero, List.set_cons_succ]
  refine wpAnyH_take (i := 5) (v := ?_) rfl (by kernel_rfl) (by kernel_rfl) (by kernel_rfl) (fun _ _ _ h => h) (Or.inl ⟨by rfl, ?_⟩) (by assumption) ?_
  rotate_left 1
  · (intro w hSw; (try dsimp only at hSw); first | (go_simp; done) | (go_simp; with_reducible rfl))
  try simp only [Act.put, List.getElem_toArray, List.getElem_cons_succ, List.getElem_cons_zero, List.setIfInBounds_toArray, List.set_cons_zero, List.set_cons_succ]
  refine wpAnyH_ready (rs := [6]) (by kernel_rfl) (by simp) ?_
  refine AllReadyH.cons rfl (fun K hK => ?_) AllReadyH.nil
  go_simp
  refine (same_any _ _ _ _ _ _ _ _ (setR n x s) _ O2.out O3.out).mono ?_
  rintro e w4 ⟨rfl, hb4⟩
  go_wp2_with fail
  refine hK.out _ _ ?_ (fun hHeld => ?_)
  · exact ⟨cellB (block_below K0.out hb4) (i := 0) rfl, cellB (block_below K0.out hb4) (i := 1) rfl, cellB (block_below K0.out hb4) (i := 2) rfl, cellB (block_below K0.out hb4) (i := 3) rfl, cellB (block_below K1.out hb4) (i := 0) rfl, cellB (block_below K1.out hb4) (i := 1) rfl, cellB (block_below K1.out hb4) (i := 2) rfl, cellB (block_below K1.out hb4) (i := 3) rfl, cellB (block_below K2.out hb4) (i := 0) rfl, cellB (block_below K2.out hb4) (i := 1) rfl, cellB (block_below K2.out hb4) (i := 2) rfl, cellB (block_below K2.out hb4) (i := 3) rfl, cellB (block_below K3.out hb4) (i := 0) rfl, cellB (block_below K3.out hb4) (i := 1) rfl, cellB (block_below K3.out hb4) (i := 2) rfl, cellB (block_below K3.out hb4) (i := 3) rfl⟩
  clear hK K
  try simp only [Act.put, List.getElem_toArray, List.getElem_cons_succ, List.getElem_cons_zero, List.setIfInBounds_toArray, List.set_cons_zero, List.set_cons_succ]
  have HB := Lib.hid (bel_trans HB.out hb4)
  have HS := Lib.hid (HS.out.below hb4)
  have O1 := Lib.hid (O1.out.below hb4)
  have O2 := Lib.hid (O2.out.below hb4)
  have O3 := Lib.hid (O3.out.below hb4)
  have K0 := Lib.hid (block_below K0.out hb4)
  have K1 := Lib.hid (block_below K1.out hb4)
  have K2 := Lib.hid (block_below K2.out hb4)
  have K3 := Lib.hid (block_below K3.out hb4)
  refine wpAnyH_take (i := 7) (v := ?_) rfl (by kernel_rfl) (by kernel_rfl) (by kernel_rfl) (fun _ _ _ h => h) (Or.inl ⟨by rfl, ?_⟩) (by assumption) ?_
  rotate_left 1
  · (intro w hSw; (try dsimp only at hSw); first | (go_simp; done) | (go_simp; with_reducible rfl))
  try simp only [Act.put, List.getElem_toArray, List.getElem_cons_succ, List.getElem_cons_zero, List.setIfInBounds_toArray, List.set_cons_zero, List.set_cons_succ]
  refine wpAnyH_take (i := 8) (v := ?_) rfl (by kernel_rfl) (by kernel_rfl) (by kernel_rfl) (fun _ _ _ h => h) (Or.inl ⟨by rfl, ?_⟩) (by assumption) ?_
  rotate_left 1
  · (intro w hSw; (try dsimp only at hSw); first | (go_simp; done) | (go_simp; with_reducible rfl))
  try simp only [Act.put, List.getElem_toArray, List.getElem_cons_succ, List.getElem_cons_zero, List.setIfInBounds_toArray, List.set_cons_zero, List.set_cons_succ]
  refine wpAnyH_take (i := 9) (v := ?_) rfl (by kernel_rfl) (by kernel_rfl) (by kernel_rfl) (fun _ _ _ h => h) (Or.inl ⟨by rfl, ?_⟩) (by assumption) ?_
  rotate_left 1
  · (intro w hSw; (try dsimp only at hSw); first | (go_simp; done) | (go_simp; with_reducible rfl))
  try simp only [Act.put, List.getElem_toArray, List.getElem_cons_succ, List.getElem_cons_zero, List.setIfInBounds_toArray, List.set_cons_zero, List.set_cons_succ]
  refine wpAnyH_take (i := 10) (v := ?_) rfl (by kernel_rfl) (by kernel_rfl) (by kernel_rfl) (fun _ _ _ h => h) (Or.inl ⟨by rfl, ?_⟩) (by assumption) ?_
  rotate_left 1
  · (intro w hSw; (try dsimp only at hSw); first | (go_simp; done) | (go_simp; with_reducible rfl))
  try simp only [Act.put, List.getElem_toArray, List.getElem_cons_succ, List.getElem_cons_zero, List.setIfInBounds_toArray, List.set_cons_zero, List.set_cons_succ]
  refine wpAnyH_take (i := 11) (v := ?_) rfl (by kernel_rfl) (by kernel_rfl) (by kernel_rfl) (fun _ _ _ h => h) (Or.inl ⟨by rfl, ?_⟩) (by assumption) ?_
  rotate_left 1
  · (intro w hSw; (try dsimp only at hSw); first | (go_simp; done) | (go_simp; with_reducible rfl))
  try simp only [Act.put, List.getElem_toArray, List.getElem_cons_succ, List.getElem_cons_zero, List.setIfInBounds_toArray, List.set_cons_zero, List.set_cons_succ]
  refine wpAnyH_take (i := 12) (v := ?_) rfl (by kernel_rfl) (by kernel_rfl) (by kernel_rfl) (fun _ _ _ h => h) (Or.inl ⟨by rfl, ?_⟩) (by assumption) ?_
  rotate_left 1
  · (intro w hSw; (try dsimp only at hSw); first | (go_simp; done) | (go_simp; with_reducible rfl))
  try simp only [Act.put, List.getElem_toArray, List.getElem_cons_succ, List.getElem_cons_zero, List.setIfInBounds_toArray, List.set_cons_zero, List.set_cons_succ]
  refine wpAnyH_take (i := 14) (v := ?_) rfl (by kernel_rfl) (by kernel_rfl) (by kernel_rfl) (fun _ _ _ h => h) (Or.inl ⟨by rfl, ?_⟩) (by assumption) ?_
  rotate_left 1
  · (intro w hSw; (try dsimp only at hSw); first | (go_simp; done) | (go_simp; with_reducible rfl))
  try simp only [Act.put, List.getElem_toArray, List.getElem_cons_succ, List.getElem_cons_zero, List.setIfInBounds_toArray, List.set_cons_zero, List.set_cons_succ]
  refine wpAnyH_take (i := 15) (v := ?_) rfl (by kernel_rfl) (by kernel_rfl) (by kernel_rfl) (fun _ _ _ h => h) (Or.inl ⟨by rfl, ?_⟩) (by assumption) ?_
  rotate_left 1
  · (intro w hSw; (try dsimp only at hSw); first | (go_simp; done) | (go_simp; with_reducible rfl))
  try simp only [Act.put, List.getElem_toArray, List.getElem_cons_succ, List.getElem_cons_zero, List.setIfInBounds_toArray, List.set_cons_zero, List.set_cons_succ]
  refine wpAnyH_take (i := 16) (v := ?_) rfl (by kernel_rfl) (by kernel_rfl) (by kernel_rfl) (fun _ _ _ h => h) (Or.inl ⟨by rfl, ?_⟩) (by assumption) ?_
  rotate_left 1
  · (intro w hSw; (try dsimp only at hSw); first | (go_simp; done) | (go_simp; with_reducible rfl))
  try simp only [Act.put, List.getElem_toArray, List.getElem_cons_succ, List.getElem_cons_zero, List.setIfInBounds_toArray, List.set_cons_zero, List.set_cons_succ]
  refine wpAnyH_ready (rs := [13]) (by kernel_rfl) (by simp) ?_
  refine AllReadyH.cons rfl (fun K hK => ?_) AllReadyH.nil
  go_simp
  refine (erasB_any _ _ _ _ s n x _ HS.out).mono ?_
  rintro e w5 ⟨p1, p2, p3, p4, rfl, HP, hb5⟩
  go_wp2_with fail
  refine hK.out _ _ ?_ (fun hHeld => ?_)
  · exact ⟨cellB (block_below K0.out hb5) (i := 0) rfl, cellB (block_below K0.out hb5) (i := 1) rfl, cellB (block_below K0.out hb5) (i := 2) rfl, cellB (block_below K0.out hb5) (i := 3) rfl, cellB (block_below K1.out hb5) (i := 0) rfl, cellB (block_below K1.out hb5) (i := 1) rfl, cellB (block_below K1.out hb5) (i := 2) rfl, cellB (block_below K1.out hb5) (i := 3) rfl, cellB (block_below K2.out hb5) (i := 0) rfl, cellB (block_below K2.out hb5) (i := 1) rfl, cellB (block_below K2.out hb5) (i := 2) rfl, cellB (block_below K2.out hb5) (i := 3) rfl, cellB (block_below K3.out hb5) (i := 0) rfl, cellB (block_below K3.out hb5) (i := 1) rfl, cellB (block_below K3.out hb5) (i := 2) rfl, cellB (block_below K3.out hb5) (i := 3) rfl⟩
  clear hK K
  try simp only [Act.put, List.getElem_toArray, List.getElem_cons_succ, List.getElem_cons_zero, List.setIfInBounds_toArray, List.set_cons_zero, List.set_cons_succ]
  have HB := Lib.hid (bel_trans HB.out hb5)
  have HS := Lib.hid (HS.out.below hb5)
  have O1 := Lib.hid (O1.out.below hb5)
  have O2 := Lib.hid (O2.out.below hb5)
  have O3 := Lib.hid (O3.out.below hb5)
  have K0 := Lib.hid (block_below K0.out hb5)
  have K1 := Lib.hid (block_below K1.out hb5)
  have K2 := Lib.hid (block_below K2.out hb5)
  have K3 := Lib.hid (block_below K3.out hb5)
  refine wpAnyH_ready (rs := [17]) (by kernel_rfl) (by simp) ?_
  refine AllReadyH.cons rfl (fun K hK => ?_) AllReadyH.nil
  go_simp
  refine (refErasB_any _ _ _ _ s n x _ HS.out).mono ?_
  rintro e w6 ⟨q1, q2, q3, q4, rfl, HQ, hb6⟩
  go_wp2_with fail
  refine hK.out _ _ ?_ (fun hHeld => ?_)
  · exact ⟨cellB (block_below K0.out hb6) (i := 0) rfl, cellB (block_below K0.out hb6) (i := 1) rfl, cellB (block_below K0.out hb6) (i := 2) rfl, cellB (block_below K0.out hb6) (i := 3) rfl, cellB (block_below K1.out hb6) (i := 0) rfl, cellB (block_below K1.out hb6) (i := 1) rfl, cellB (block_below K1.out hb6) (i := 2) rfl, cellB (block_below K1.out hb6) (i := 3) rfl, cellB (block_below K2.out hb6) (i := 0) rfl, cellB (block_below K2.out hb6) (i := 1) rfl, cellB (block_below K2.out hb6) (i := 2) rfl, cellB (block_below K2.out hb6) (i := 3) rfl, cellB (block_below K3.out hb6) (i := 0) rfl, cellB (block_below K3.out hb6) (i := 1) rfl, cellB (block_below K3.out hb6) (i := 2) rfl, cellB (block_below K3.out hb6) (i := 3) rfl⟩
  clear hK K
  try simp only [Act.put, List.getElem_toArray, List.getElem_cons_succ, List.getElem_cons_zero, List.setIfInBounds_toArray, List.set_cons_zero, List.set_cons_succ]
  have HB := Lib.hid (bel_trans HB.out hb6)
  have HS := Lib.hid (HS.out.below hb6)
  have O1 := Lib.hid (O1.out.below hb6)
  have O2 := Lib.hid (O2.out.below hb6)
  have O3 := Lib.hid (O3.out.below hb6)
  have HP := Lib.hid (HP.out.below hb6)
  have K0 := Lib.hid (block_below K0.out hb6)
  have K1 := Lib.hid (block_below K1.out hb6)
  have K2 := Lib.hid (block_below K2.out hb6)
  have K3 := Lib.hid (block_below K3.out hb6)
  refine wpAnyH_ready (rs := [18]) (by kernel_rfl) (by simp) ?_
  refine AllReadyH.cons rfl (fun K hK => ?_) AllReadyH.nil
  go_simp
  refine (same_any _ _ _ _ _ _ _ _ (s.shE n x) _ HP.out HQ.out).mono ?_
  rintro e w7 ⟨rfl, hb7⟩
  go_wp2_with fail
  refine hK.out _ _ ?_ (fun hHeld => ?_)
  · exact ⟨cellB (block_below K0.out hb7) (i := 0) rfl, cellB (block_below K0.out hb7) (i := 1) rfl, cellB (block_below K0.out hb7) (i := 2) rfl, cellB (block_below K0.out hb7) (i := 3) rfl, cellB (block_below K1.out hb7) (i := 0) rfl, cellB (block_below K1.out hb7) (i := 1) rfl, cellB (block_below K1.out hb7) (i := 2) rfl, cellB (block_below K1.out hb7) (i := 3) rfl, cellB (block_below K2.out hb7) (i := 0) rfl, cellB (block_below K2.out hb7) (i := 1) rfl, cellB (block_below K2.out hb7) (i := 2) rfl, cellB (block_below K2.out hb7) (i := 3) rfl, cellB (block_below K3.out hb7) (i := 0) rfl, cellB (block_below K3.out hb7) (i := 1) rfl, cellB (block_below K3.out hb7) (i := 2) rfl, cellB (block_below K3.out hb7) (i := 3) rfl⟩
  clear hK K
  try simp only [Act.put, List.getElem_toArray, List.getElem_cons_succ, List.getElem_cons_zero, List.setIfInBounds_toArray, List.set_cons_zero, List.set_cons_succ]
  have HB := Lib.hid (bel_trans HB.out hb7)
  have HS := Lib.hid (HS.out.below hb7)
  have O1 := Lib.hid (O1.out.below hb7)
  have O2 := Lib.hid (O2.out.below hb7)
  have O3 := Lib.hid (O3.out.below hb7)
  have HP := Lib.hid (HP.out.below hb7)
  have HQ := Lib.hid (HQ.out.below hb7)
  have K0 := Lib.hid (block_below K0.out hb7)
  have K1 := Lib.hid (block_below K1.out hb7)
  have K2 := Lib.hid (block_below K2.out hb7)
  have K3 := Lib.hid (block_below K3.out hb7)
  refine wpAnyH_take (i := 19) (v := ?_) rfl (by kernel_rfl) (by kernel_rfl) (by kernel_rfl) (fun _ _ _ h => h) (Or.inl ⟨by rfl, ?_⟩) (by assumption) ?_
  rotate_left 1
  · (intro w hSw; (try dsimp only at hSw); first | (go_simp; done) | (go_simp; with_reducible rfl))
  try simp only [Act.put, List.getElem_toArray, List.getElem_cons_succ, List.getElem_cons_zero, List.setIfInBounds_toArray, List.set_cons_zero, List.set_cons_succ]
  refine wpAnyH_take (i := 20) (v := ?_) rfl (by kernel_rfl) (by kernel_rfl) (by kernel_rfl) (fun _ _ _ h => h) (Or.inl ⟨by rfl, ?_⟩) (by assumption) ?_
  rotate_left 1
  · (intro w hSw; (try dsimp only at hSw); first | (go_simp; done) | (go_simp; with_reducible rfl))
  try simp only [Act.put, List.getElem_toArray, List.getElem_cons_succ, List.getElem_cons_zero, List.setIfInBounds_toArray, List.set_cons_zero, List.set_cons_succ]
  refine wpAnyH_done (by kernel_rfl) ?_ _
  refine NoPanic.normal ?_
  clear hHeld HP HQ K2 K3 O2 O3
  go_wp2_with fail
  have hbd : Below w7.heap.size w7 w7.drew := Below.drew (Below.refl _ _)
  have HB := Lib.hid (bel_trans HB.out hbd)
  have HS := Lib.hid (HS.out.below hbd)
  have O1 := Lib.hid (O1.out.below hbd)
  have K0 := Lib.hid (block_below K0.out hbd)
  have K1 := Lib.hid (block_below K1.out hbd)
  clear hbd
  refine wp_region_noPanic ?_
  refine wp_region_held_drew (S := (fun w' => w'.cell? ⟨W.heap.size, 0, none⟩ = some (.slice A1 s.rs.length c1) ∧ w'.cell? ⟨W.heap.size, 1, none⟩ = some (.slice A2 s.zs.length c2) ∧ w'.cell? ⟨W.heap.size, 2, none⟩ = some (.slice A3 s.ls.length c3) ∧ w'.cell? ⟨W.heap.size, 3, none⟩ = some (.slice A4 s.ns.length c4) ∧ w'.cell? ⟨w1.heap.size, 0, none⟩ = some (.slice a11 s.rs.length d11) ∧ w'.cell? ⟨w1.heap.size, 1, none⟩ = some (.slice a12 s.zs.length d12) ∧ w'.cell? ⟨w1.heap.size, 2, none⟩ = some (.slice a13 s.ls.length d13) ∧ w'.cell? ⟨w1.heap.size, 3, none⟩ = some (.slice a14 s.ns.length d14))) (by kernel_rfl) (by exact ⟨cellB (block_below K0.out (Below.refl _ _)) (i := 0) rfl, cellB (block_below K0.out (Below.refl _ _)) (i := 1) rfl, cellB (block_below K0.out (Below.refl _ _)) (i := 2) rfl, cellB (block_below K0.out (Below.refl _ _)) (i := 3) rfl, cellB (block_below K1.out (Below.refl _ _)) (i := 0) rfl, cellB (block_below K1.out (Below.refl _ _)) (i := 1) rfl, cellB (block_below K1.out (Below.refl _ _)) (i := 2) rfl, cellB (block_below K1.out (Below.refl _ _)) (i := 3) rfl⟩) (fun hHeld => ?_)
  refine wpAnyH_take (i := 0) (v := ?_) rfl (by kernel_rfl) (by kernel_rfl) (by kernel_rfl) (fun _ _ _ h => h) (Or.inl ⟨by rfl, ?_⟩) (by assumption) ?_
  rotate_left 1
  · (intro w hSw; (try dsimp only at hSw); first | (go_simp; done) | (go_simp; with_reducible rfl))
  try simp only [Act.put, List.getElem_toArray, List.getElem_cons_succ, List.getElem_cons_zero, List.setIfInBounds_toArray, List.set_cons_zero, List.set_cons_succ]
  refine wpAnyH_take (i := 1) (v := ?_) rfl (by kernel_rfl) (by kernel_rfl) (by kernel_rfl) (fun _ _ _ h => h) (Or.inl ⟨by rfl, ?_⟩) (by assumption) ?_
  rotate_left 1
  · (intro w hSw; (try dsimp only at hSw); first | (go_simp; done) | (go_simp; with_reducible rfl))
  try simp only [Act.put, List.getElem_toArray, List.getElem_cons_succ, List.getElem_cons_zero, List.setIfInBounds_toArray, List.set_cons_zero, List.set_cons_succ]
  refine wpAnyH_take (i := 2) (v := ?_) rfl (by kernel_rfl) (by kernel_rfl) (by kernel_rfl) (fun _ _ _ h => h) (Or.inl ⟨by rfl, ?_⟩) (by assumption) ?_
  rotate_left 1
  · (intro w hSw; (try dsimp only at hSw); first | (go_simp; done) | (go_simp; with_reducible rfl))
  try simp only [Act.put, List.getElem_toArray, List.getElem_cons_succ, List.getElem_cons_zero, List.setIfInBounds_toArray, List.set_cons_zero, List.set_cons_succ]
  refine wpAnyH_take (i := 4) (v := ?_) rfl (by kernel_rfl) (by kernel_rfl) (by kernel_rfl) (fun _ _ _ h => h) (Or.inl ⟨by rfl, ?_⟩) (by assumption) ?_
  rotate_left 1
  · (intro w hSw; (try dsimp only at hSw); first | (go_simp; done) | (go_simp; with_reducible rfl))
  try simp only [Act.put, List.getElem_toArray, List.getElem_cons_succ, List.getElem_cons_zero, List.setIfInBounds_toArray, List.set_cons_zero, List.set_cons_succ]
  refine wpAnyH_take (i := 5) (v := ?_) rfl (by kernel_rfl) (by kernel_rfl) (by kernel_rfl) (fun _ _ _ h => h) (Or.inl ⟨by rfl, ?_⟩) (by assumption) ?_
  rotate_left 1
  · (intro w hSw; (try dsimp only at hSw); first | (go_simp; done) | (go_simp; with_reducible rfl))
  try simp only [Act.put, List.getElem_toArray, List.getElem_cons_succ, List.getElem_cons_zero, List.setIfInBounds_toArray, List.set_cons_zero, List.set_cons_succ]
  refine wpAnyH_take (i := 6) (v := ?_) rfl (by kernel_rfl) (by kernel_rfl) (by kernel_rfl) (fun _ _ _ h => h) (Or.inl ⟨by rfl, ?_⟩) (by assumption) ?_
  rotate_left 1
  · (intro w hSw; (try dsimp only at hSw); first | (go_simp; done) | (go_simp; with_reducible rfl))
  try simp only [Act.put, List.getElem_toArray, List.getElem_cons_succ, List.getElem_cons_zero, List.setIfInBounds_toArray, List.set_cons_zero, List.set_cons_succ]
  refine wpAnyH_ready (rs := [3]) (by kernel_rfl) (by simp) ?_
  refine AllReadyH.cons rfl (fun K hK => ?_) AllReadyH.nil
  go_simp
  refine (rulesB_any _ s.rs x _ HS.out.1).mono ?_
  rintro e w8 ⟨r1, rfl, HR1, hb8⟩
  go_wp2_with fail
  refine hK.out _ _ ?_ (fun hHeld => ?_)
  · exact ⟨cellB (block_below K0.out hb8) (i := 0) rfl, cellB (block_below K0.out hb8) (i := 1) rfl, cellB (block_below K0.out hb8) (i := 2) rfl, cellB (block_below K0.out hb8) (i := 3) rfl, cellB (block_below K1.out hb8) (i := 0) rfl, cellB (block_below K1.out hb8) (i := 1) rfl, cellB (block_below K1.out hb8) (i := 2) rfl, cellB (block_below K1.out hb8) (i := 3) rfl⟩
  clear hK K
  try simp only [Act.put, List.getElem_toArray, List.getElem_cons_succ, List.getElem_cons_zero, List.setIfInBounds_toArray, List.set_cons_zero, List.set_cons_succ]
  have HB := Lib.hid (bel_trans HB.out hb8)
  have HS := Lib.hid (HS.out.below hb8)
  have O1 := Lib.hid (O1.out.below hb8)
  have K0 := Lib.hid (block_below K0.out hb8)
  have K1 := Lib.hid (block_below K1.out hb8)
  refine wpAnyH_ready (rs := [7]) (by kernel_rfl) (by simp) ?_
  refine AllReadyH.cons rfl (fun K hK => ?_) AllReadyH.nil
  go_simp
  refine (refRulesB_any _ s.rs x _ HS.out.1).mono ?_
  rintro e w9 ⟨r2, rfl, HR2, hb9⟩
  go_wp2_with fail
  refine hK.out _ _ ?_ (fun hHeld => ?_)
  · exact ⟨cellB (block_below K0.out hb9) (i := 0) rfl, cellB (block_below K0.out hb9) (i := 1) rfl, cellB (block_below K0.out hb9) (i := 2) rfl, cellB (block_below K0.out hb9) (i := 3) rfl, cellB (block_below K1.out hb9) (i := 0) rfl, cellB (block_below K1.out hb9) (i := 1) rfl, cellB (block_below K1.out hb9) (i := 2) rfl, cellB (block_below K1.out hb9) (i := 3) rfl⟩
  clear hK K
  try simp only [Act.put, List.getElem_toArray, List.getElem_cons_succ, List.getElem_cons_zero, List.setIfInBounds_toArray, List.set_cons_zero, List.set_cons_succ]
  have HB := Lib.hid (bel_trans HB.out hb9)
  have HS := Lib.hid (HS.out.below hb9)
  have O1 := Lib.hid (O1.out.below hb9)
  have HR1 := Lib.hid (HR1.out.below hb9)
  have K0 := Lib.hid (block_below K0.out hb9)
  have K1 := Lib.hid (block_below K1.out hb9)
  refine wpAnyH_ready (rs := [8]) (by kernel_rfl) (by simp) ?_
  refine AllReadyH.cons rfl (fun K hK => ?_) AllReadyH.nil
  go_simp
  refine (sameR_any r1 r2 (s.rs.map fun r => r.sh x) _ HR1.out HR2.out).mono ?_
  rintro e w10 ⟨rfl, hb10⟩
  go_wp2_with fail
  refine hK.out _ _ ?_ (fun hHeld => ?_)
  · exact ⟨cellB (block_below K0.out hb10) (i := 0) rfl, cellB (block_below K0.out hb10) (i := 1) rfl, cellB (block_below K0.out hb10) (i := 2) rfl, cellB (block_below K0.out hb10) (i := 3) rfl, cellB (block_below K1.out hb10) (i := 0) rfl, cellB (block_below K1.out hb10) (i := 1) rfl, cellB (block_below K1.out hb10) (i := 2) rfl, cellB (block_below K1.out hb10) (i := 3) rfl⟩
  clear hK K
  try simp only [Act.put, List.getElem_toArray, List.getElem_cons_succ, List.getElem_cons_zero, List.setIfInBounds_toArray, List.set_cons_zero, List.set_cons_succ]
  have HB := Lib.hid (bel_trans HB.out hb10)
  have HS := Lib.hid (HS.out.below hb10)
  have O1 := Lib.hid (O1.out.below hb10)
  have HR1 := Lib.hid (HR1.out.below hb10)
  have HR2 := Lib.hid (HR2.out.below hb10)
  have K0 := Lib.hid (block_below K0.out hb10)
  have K1 := Lib.hid (block_below K1.out hb10)
  refine wpAnyH_take (i := 9) (v := ?_) rfl (by kernel_rfl) (by kernel_rfl) (by kernel_rfl) (fun _ _ _ h => h) (Or.inl ⟨by rfl, ?_⟩) (by assumption) ?_
  rotate_left 1
  · (intro w hSw; (try dsimp only at hSw); first | (go_simp; done) | (go_simp; with_reducible rfl))
  try simp only [Act.put, List.getElem_toArray, List.getElem_cons_succ, List.getElem_cons_zero, List.setIfInBounds_toArray, List.set_cons_zero, List.set_cons_succ]
  refine wpAnyH_take (i := 10) (v := ?_) rfl (by kernel_rfl) (by kernel_rfl) (by kernel_rfl) (fun _ _ _ h => h) (Or.inl ⟨by rfl, ?_⟩) (by assumption) ?_
  rotate_left 1
  · (intro w hSw; (try dsimp only at hSw); first | (go_simp; done) | (go_simp; with_reducible rfl))
  try simp only [Act.put, List.getElem_toArray, List.getElem_cons_succ, List.getElem_cons_zero, List.setIfInBounds_toArray, List.set_cons_zero, List.set_cons_succ]
  refine wpAnyH_take (i := 11) (v := ?_) rfl (by kernel_rfl) (by kernel_rfl) (by kernel_rfl) (fun _ _ _ h => h) (Or.inl ⟨by rfl, ?_⟩) (by assumption) ?_
  rotate_left 1
  · (intro w hSw; (try dsimp only at hSw); first | (go_simp; done) | (go_simp; with_reducible rfl))
  try simp only [Act.put, List.getElem_toArray, List.getElem_cons_succ, List.getElem_cons_zero, List.setIfInBounds_toArray, List.set_cons_zero, List.set_cons_succ]
  refine wpAnyH_ready (rs := [12]) (by kernel_rfl) (by simp) ?_
  refine AllReadyH.cons rfl (fun K hK => ?_) AllReadyH.nil
  go_simp
  refine (same_any _ _ _ _ _ _ _ _ s _ HS.out O1.out).mono ?_
  rintro e w11 ⟨rfl, hb11⟩
  go_wp2_with fail
  refine hK.out _ _ ?_ (fun hHeld => ?_)
  · exact ⟨cellB (block_below K0.out hb11) (i := 0) rfl, cellB (block_below K0.out hb11) (i := 1) rfl, cellB (block_below K0.out hb11) (i := 2) rfl, cellB (block_below K0.out hb11) (i := 3) rfl, cellB (block_below K1.out hb11) (i := 0) rfl, cellB (block_below K1.out hb11) (i := 1) rfl, cellB (block_below K1.out hb11) (i := 2) rfl, cellB (block_below K1.out hb11) (i := 3) rfl⟩
  clear hK K
  try simp only [Act.put, List.getElem_toArray, List.getElem_cons_succ, List.getElem_cons_zero, List.setIfInBounds_toArray, List.set_cons_zero, List.set_cons_succ]
  have HB := Lib.hid (bel_trans HB.out hb11)
  have HS := Lib.hid (HS.out.below hb11)
  have O1 := Lib.hid (O1.out.below hb11)
  have HR1 := Lib.hid (HR1.out.below hb11)
  have HR2 := Lib.hid (HR2.out.below hb11)
  have K0 := Lib.hid (block_below K0.out hb11)
  have K1 := Lib.hid (block_below K1.out hb11)
  refine wpAnyH_take (i := 13) (v := ?_) rfl (by kernel_rfl) (by kernel_rfl) (by kernel_rfl) (fun _ _ _ h => h) (Or.inl ⟨by rfl, ?_⟩) (by assumption) ?_
  rotate_left 1
  · (intro w hSw; (try dsimp only at hSw); first | (go_simp; done) | (go_simp; with_reducible rfl))
  try simp only [Act.put, List.getElem_toArray, List.getElem_cons_succ, List.getElem_cons_zero, List.setIfInBounds_toArray, List.set_cons_zero, List.set_cons_succ]
  refine wpAnyH_take (i := 14) (v := ?_) rfl (by kernel_rfl) (by kernel_rfl) (by kernel_rfl) (fun _ _ _ h => h) (Or.inl ⟨by rfl, ?_⟩) (by assumption) ?_
  rotate_left 1
  · (intro w hSw; (try dsimp only at hSw); first | (go_simp; done) | (go_simp; with_reducible rfl))
  try simp only [Act.put, List.getElem_toArray, List.getElem_cons_succ, List.getElem_cons_zero, List.setIfInBounds_toArray, List.set_cons_zero, List.set_cons_succ]
  refine wpAnyH_ready (rs := [15]) (by kernel_rfl) (by simp) ?_
  refine AllReadyH.cons rfl (fun K hK => ?_) AllReadyH.nil
  go_simp
  refine (works28_any _).mono ?_
  rintro e w12 ⟨rfl, hb12⟩
  go_wp2_with fail
  refine hK.out _ _ ?_ (fun hHeld => ?_)
  · exact ⟨cellB (block_below K0.out hb12) (i := 0) rfl, cellB (block_below K0.out hb12) (i := 1) rfl, cellB (block_below K0.out hb12) (i := 2) rfl, cellB (block_below K0.out hb12) (i := 3) rfl, cellB (block_below K1.out hb12) (i := 0) rfl, cellB (block_below K1.out hb12) (i := 1) rfl, cellB (block_below K1.out hb12) (i := 2) rfl, cellB (block_below K1.out hb12) (i := 3) rfl⟩
  clear hK K
  try simp only [Act.put, List.getElem_toArray, List.getElem_cons_succ, List.getElem_cons_zero, List.setIfInBounds_toArray, List.set_cons_zero, List.set_cons_succ]
  have HB := Lib.hid (bel_trans HB.out hb12)
  have HS := Lib.hid (HS.out.below hb12)
  have O1 := Lib.hid (O1.out.below hb12)
  have HR1 := Lib.hid (HR1.out.below hb12)
  have HR2 := Lib.hid (HR2.out.below hb12)
  have K0 := Lib.hid (block_below K0.out hb12)
  have K1 := Lib.hid (block_below K1.out hb12)
  refine wpAnyH_take (i := 16) (v := ?_) rfl (by kernel_rfl) (by kernel_rfl) (by kernel_rfl) (fun _ _ _ h => h) (Or.inl ⟨by rfl, ?_⟩) (by assumption) ?_
  rotate_left 1
  · (intro w hSw; (try dsimp only at hSw); first | (go_simp; done) | (go_simp; with_reducible rfl))
  try simp only [Act.put, List.getElem_toArray, List.getElem_cons_succ, List.getElem_cons_zero, List.setIfInBounds_toArray, List.set_cons_zero, List.set_cons_succ]
  refine wpAnyH_take (i := 17) (v := ?_) rfl (by kernel_rfl) (by kernel_rfl) (by kernel_rfl) (fun _ _ _ h => h) (Or.inl ⟨by rfl, ?_⟩) (by assumption) ?_
  rotate_left 1
  · (intro w hSw; (try dsimp only at hSw); first | (go_simp; done) | (go_simp; with_reducible rfl))
  try simp only [Act.put, List.getElem_toArray, List.getElem_cons_succ, List.getElem_cons_zero, List.setIfInBounds_toArray, List.set_cons_zero, List.set_cons_succ]
  refine wpAnyH_done (by kernel_rfl) ?_ _
  refine NoPanic.normal ?_
  go_wp2_with fail
  go_ret
  exact ⟨rfl, HB.out⟩

theorem shiftSets_walk (W : World) (v : Value) {H : Type} {enc : TypeId × Value → H} {base : Nat} {d : DataW H} {p : List MemPlace} (hv : Value.okWide Try.prog W .any base 27 v)
    (h : DataW.Trod enc Try.prog W 0 (fun _ => true) true 27 v d p) (n : ByteArray) (wn : n.size ≤ maxLen) (x : Int) (wx : (Lit.int .i64 x).wf = true) :
    Calls Try.prog 3 #[v, .string n, .int .i64 x] W fun e w' => e = .returned (.bool true) ∧ Below W.heap.size W w' := by
  obtain ⟨A1, A2, A3, A4, n1, n2, n3, n4, c1, c2, c3, c4, ms, rfl, hbd, hml, hbm, hraw, hs⟩ := source_of hv h
  exact shiftSets_core A1 A2 A3 A4 n1 n2 n3 n4 c1 c2 c3 c4 ms W hbd hml hbm hraw hs n x
end Go.Proofs.Ytdlmlcgmonkdfaa
