/-
  The contract of the reference's In (analemmaref17).
-/
import Derived.Test.YtpimibchameakaaDoorEvInsM
import Derived.Test.YtpimibchameakaaDoorEvRefOn
import Derived.Deep.RegionHeld3
import Derived.Deep.MidRow
namespace Go.Proofs.YtpimibchameakaaDoor
open Go.RowKit Cv
set_option linter.unusedVariables false
set_option linter.unusedSimpArgs false

namespace Cv
theorem nil_or_snoc (p : _root_.List Ev) : p = [] ∨ ∃ p' y, p = p' ++ [y] := by
  rcases _root_.List.eq_nil_or_concat p with h | ⟨p', y, h⟩
  · exact .inl h
  · exact .inr ⟨p', y, by rw [h, _root_.List.concat_eq_append]⟩
theorem all_cons {x y : Ev} {q : _root_.List Ev} (h : Ev.lt x y) (hq : ∀ e ∈ q, Ev.lt x e) : ∀ e ∈ y :: q, Ev.lt x e := fun e he => by
  rcases _root_.List.mem_cons.1 he with h1 | h1
  · rw [h1]; exact h
  · exact hq e h1
theorem cells6 {A B : World} {p0 p1 p2 p3 p4 p5 : Addr} {v0 v1 v2 v3 v4 v5 : Value} (hb : Below A.heap.size A B) (h : A.cell? p0 = some v0 ∧ A.cell? p1 = some v1 ∧ A.cell? p2 = some v2 ∧ A.cell? p3 = some v3 ∧ A.cell? p4 = some v4 ∧ A.cell? p5 = some v5) : B.cell? p0 = some v0 ∧ B.cell? p1 = some v1 ∧ B.cell? p2 = some v2 ∧ B.cell? p3 = some v3 ∧ B.cell? p4 = some v4 ∧ B.cell? p5 = some v5 :=
  ⟨cell_below hb h.1, cell_below hb h.2.1, cell_below hb h.2.2.1, cell_below hb h.2.2.2.1, cell_below hb h.2.2.2.2.1, cell_below hb h.2.2.2.2.2⟩
theorem there_ev {w : World} {base g n cap i : Nat} {e : TypeId} {xs : _root_.List Value} (h : w.ownsRow base e 3 (.slice (some ⟨g, 0, none⟩) n cap) n xs) (hi : i < n) : w.there g (i * 3) 3 := fun j hj => by
  obtain ⟨⟨u, hu⟩, hf, _⟩ := own_cell h (j := i * 3 + j) (by omega)
  exact ⟨by rw [hu]; rfl, hf⟩
theorem setCells3 (w : World) (g o : Nat) (a b c : Value) : w.setCells g o [a, b, c] = ((w.setCell ⟨g, o, none⟩ a).setCell ⟨g, o + 1, none⟩ b).setCell ⟨g, o + 2, none⟩ c := rfl
theorem own_set3 {w : World} {base g n cap size o : Nat} {e : TypeId} {a b c : Value} {xs : _root_.List Value} (h : w.ownsRow base e size (.slice (some ⟨g, 0, none⟩) n cap) n xs) : (w.setCells g o [a, b, c]).ownsRow base e size (.slice (some ⟨g, 0, none⟩) n cap) n (((xs.set o a).set (o + 1) b).set (o + 2) c) := by
  rw [setCells3]; exact own_set (own_set (own_set h))
theorem bel_set3 {A w : World} {B g o : Nat} {a b c : Value} (h : Below B A w) (hb : B ≤ g) : Below B A (w.setCells g o [a, b, c]) := by
  rw [setCells3]; exact ((h.setCell (p := ⟨g, o, none⟩) hb _).setCell (p := ⟨g, o + 1, none⟩) hb _).setCell (p := ⟨g, o + 2, none⟩) hb _
theorem block_set3 {w : World} {g o c : Nat} {x y z : Value} {ob : Obj} (h : w.heap[c]? = some ob) (hne : c ≠ g) : (w.setCells g o [x, y, z]).heap[c]? = some ob := by
  rw [World.heap_setCells_other w g o _ (Array.getElem?_eq_some_iff.1 h).1 hne]; exact h
end Cv

set_option maxRecDepth 100000 in
set_option maxHeartbeats 16000000 in
theorem refEvIn_any (v : Value) (rs : _root_.List Ru) (a b : Int) (W : World) (h : Rul v rs W) (ha1 : -9223372036854775808 ≤ a) (ha2 : a ≤ 9223372036854775807) (hb1 : -9223372036854775808 ≤ b) (hb2 : b ≤ 9223372036854775807) :
    Calls Tryd.prog 21 #[v, .int .i64 a, .int .i64 b] W (InR rs a b W) := by
  obtain ⟨A, cap, rfl⟩ := h.sl
  have H := Lib.hid h
  have hn := h.len
  clear h
  obtain ⟨n, hN⟩ : ∃ n, n = rs.length := ⟨_, rfl⟩
  rw [← hN] at hn H ⊢
  have HN := Lib.hid hN
  clear hN
  obtain ⟨i0, hi, hz0, hzs, hzb⟩ := info_parts infoEv
  by_cases hab : b < a
  · have HI := Lib.hid (inIs_none (rs := rs) hab)
    go_enter Tryd.func21, Tryd.ntmps21
    go_wp2_with fail
    go_loopw [8, 9] (fun v i wr => v = .slice none 0 0 ∧ i = .int .i64 0 ∧ wr = W) (fun _ _ _ => 0)
    case atStart => exact ⟨rfl, rfl, rfl⟩
    case round =>
      obtain ⟨rfl, rfl, rfl⟩ := hrel
      go_wp2_with fail
      go_ret2
      exact ⟨Below.refl _ _, .inr ⟨.inl hab, _, [], HI, rfl, Lib.hid (World.ownsRow_nil _ _ _ _), by simp⟩⟩
  · by_cases hbig : 1000 < b - a
    · have hu : IntKind.u64.wrap (IntKind.u64.wrap b - IntKind.u64.wrap a) = b - a := by
        simp only [IntKind.wrap, IntKind.signed, IntKind.bits]
        simp
        omega
      have hlt : a < b := by omega
      go_enter Tryd.func21, Tryd.ntmps21
      go_wp2_with fail
      go_ret2
      exact ⟨Below.refl _ _, .inl ⟨by omega, hbig, rfl⟩⟩
    · obtain ⟨m, hm⟩ : ∃ m : Nat, (m : Int) = b - a + 1 := ⟨(b - a + 1).toNat, by omega⟩
      have hm2 : m ≤ 1001 := by omega
      have hle : a ≤ b := by omega
      have hsm : b - a ≤ 1000 := by omega
      have HM := Lib.hid hm
      clear hm hab hbig
      go_enter Tryd.func21, Tryd.ntmps21
      go_upto_region 1 with fail
      go_cut [25] (fun s w' => s = .bool false ∧ w' = W)
      case first =>
        rcases (show a < b ∨ b ≤ a by omega) with hlt | hlt
        · have hu : IntKind.u64.wrap (IntKind.u64.wrap b - IntKind.u64.wrap a) = b - a := by
            simp only [IntKind.wrap, IntKind.signed, IntKind.bits]
            simp
            omega
          have hfd : decide (1000 < b - a) = false := by simp; omega
          go_wp2_with fail
          go_meet
          case rel => exact ⟨by simp [hfd], rfl⟩
        · go_wp2_with fail
          go_meet
          case rel => exact ⟨rfl, rfl⟩
      case rest =>
        obtain ⟨rfl, hw⟩ := hcut
        have hw := hw.symm
        subst hw
        go_wp2_with fail
        go_loopw [8, 9] (fun v i wr => ∃ (k : Nat) (wq : World) (L : _root_.List Ev), k ≤ m ∧ i = .int .i64 (k : Int) ∧ wr = wq ∧ Hid (Below W.heap.size W wq) ∧ Hid (wq.ownsRow W.heap.size 34 3 v (L).length (flatEv (L))) ∧ Hid (L.Perm (colEvs rs a k)) ∧ Hid (Sorted' L)) (fun _ i _ => m - (intOf i).toNat)
        case atStart => exact ⟨0, _, [], by omega, rfl, rfl, Lib.hid (Below.refl _ _), Lib.hid (World.ownsRow_nil _ _ _ _), Lib.hid (_root_.List.Perm.refl _), Lib.hid _root_.List.Pairwise.nil⟩
        case round =>
          obtain ⟨k, wq, L, hk, rfl, rfl, HB, HO, HP, HS⟩ := hrel
          by_cases hkm : k < m
          · have hkb : (k : Int) ≤ b - a := by have := HM.out; omega
            go_wp2_with fail
            go_loopw [8, 10] (fun v i wx => ∃ (j : Nat) (wz : World) (L : _root_.List Ev), j ≤ n ∧ i = .int .i64 (j : Int) ∧ wx = wz ∧ Hid (Below W.heap.size W wz) ∧ Hid (wz.ownsRow W.heap.size 34 3 v (L).length (flatEv (L))) ∧ Hid (L.Perm (colEvs rs a k ++ yearEvs rs (a + (k : Int)) j)) ∧ Hid (Sorted' L)) (fun _ i _ => n - (intOf i).toNat)
            case atStart => exact ⟨0, _, L, by omega, rfl, rfl, HB, HO, Lib.hid (by have h := HP.out; simp only [yearEvs, _root_.List.range_zero, _root_.List.filterMap_nil, _root_.List.append_nil]; exact h), HS⟩
            case round =>
              clear HB HO HP HS
              obtain ⟨j, wz, L2, hj, rfl, rfl, HBz, HOz, HPz, HSz⟩ := hrel
              by_cases hjn : j < n
              · have HLY := Lib.hid (by have h1 := HPz.out.length_eq; have h2 := colEvs_len rs a k; have h3 := yearEvs_len rs (a + (k : Int)) j; rw [← HN.out] at h2; have h4 := Nat.mul_le_mul (show k ≤ 1001 by omega) hn; rw [_root_.List.length_append] at h1; omega : L2.length ≤ 1002000)
                go_wp2_with fail
                refine (refEvOn_any (.slice A n cap) rs (j : Int) (a + (k : Int)) _ (by exact H.out.below HBz.out) (by omega) (by omega)).mono ?_
                intro e w2 hq
                cases ho : evOn rs (j : Int) (a + (k : Int)) with
                | none =>
                  rw [ho] at hq
                  obtain ⟨rfl, hb2⟩ := EvR.to (o := none) (v := .tuple #[.agg #[.int .i64 0, .int .i64 0, .int .i64 0], .bool false]) rfl _ _ hq; clear hq
                  have HY := Lib.hid (yearEvs_no ho)
                  have HB2 := Lib.hid (bel_trans HBz.out hb2)
                  have HO2 := Lib.hid (own_below HOz.out hb2)
                  clear hb2 ho
                  go_wp2_with fail
                  go_round
                  case rel => exact ⟨j + 1, _, L2, by omega, by go_num, rfl, Lib.hid (bel_trans HB2.out (bel_alloc _ _)), Lib.hid (own_below HO2.out (bel_alloc _ _)), Lib.hid (by rw [HY.out]; exact HPz.out), HSz⟩
                  case measure => simp [intOf]; omega
                | some ev =>
                  obtain ⟨_, hru, hye⟩ := evOn_is ho
                  obtain ⟨ey, er, nm⟩ := ev
                  dsimp only at hru hye
                  subst hru hye
                  rw [ho] at hq
                  obtain ⟨rfl, hb2⟩ := EvR.to (o := some (⟨a + (k : Int), (j : Int), nm⟩ : Ev)) (v := .tuple #[.agg #[.int .i64 (a + (k : Int)), .int .i64 (j : Int), .int .i64 nm], .bool true]) rfl _ _ hq; clear hq
                  have HY := Lib.hid (yearEvs_yes ho)
                  have HB2 := Lib.hid (bel_trans HBz.out hb2)
                  have HO2 := Lib.hid (own_below HOz.out hb2)
                  clear hb2 ho
                  go_wp2_with (at_builtin; refine wpList_append_own _ rfl (.tmp 55) (.tmp 57) 48 rfl W.heap.size 34 i0 (.agg #[.int .i64 0, .int .i64 0, .int .i64 0]) 3 24 Tryd.underlying48 hi hz0 hzs hzb rfl (by decide) _ _ _ rfl ((HO2.out.alloc _).alloc _) ⟨w2.heap.size + 1, 0, none⟩ 1 1 [.int .i64 (a + (k : Int)), .int .i64 (j : Int), .int .i64 nm] rfl rfl (World.news_of_block (heap_alloc2_new _ _ _)) (by intro u hu; simp at hu; rcases hu with rfl | rfl | rfl <;> rfl) (by unfold maxLen; have := HLY.out; omega) (by have := HLY.out; omega) (by have := HB2.out.size; simp; omega) ?_; intro v1 w3 hown3 hgrow3 hnil3)
                  have HB3 := Lib.hid (Below.grown (bel_trans HB2.out (bel_trans (bel_alloc _ _) (bel_alloc _ _))) hgrow3 (by have := HB2.out.size; simp; omega) (fun q hq => (HO2.out.lt q (by exact hq)).1))
                  obtain ⟨mm, hmm⟩ : ∃ mm, mm = L2.length + 1 := ⟨_, rfl⟩
                  rw [← hmm] at hown3
                  obtain ⟨g, cp, rfl⟩ : ∃ g cp, v1 = .slice (some ⟨g, 0, none⟩) mm cp := by
                    rcases hown3.2 with ⟨_, h0⟩ | ⟨g, c, cur, h1, _⟩
                    · omega
                    · exact ⟨g, c, h1⟩
                  have HO3 := Lib.hid (show w3.ownsRow W.heap.size 34 3 (.slice (some ⟨g, 0, none⟩) mm cp) mm (flatEv (L2 ++ [(⟨a + (k : Int), (j : Int), nm⟩ : Ev)])) by rw [flatEv_snoc]; exact hown3)
                  have hmb : mm ≤ 1002001 := by have := HLY.out; omega
                  have hm1 : 1 ≤ mm := by omega
                  have HMM := Lib.hid hmm
                  clear hown3 hgrow3 hnil3 HO2 HB2 HOz HBz hmm
                  go_simp
                  go_wp2_with fail
                  go_loopw [13] (fun s wx => ∃ (p q : _root_.List Ev) (wz : World), p ++ q = L2 ∧ s = .int .i64 ((p.length : Nat) : Int) ∧ wx = wz ∧ Hid (Below W.heap.size W wz) ∧ Hid (wz.ownsRow W.heap.size 34 3 (.slice (some ⟨g, 0, none⟩) mm cp) mm (flatEv (p ++ (⟨a + (k : Int), (j : Int), nm⟩ : Ev) :: q))) ∧ Hid (∀ e ∈ q, Ev.lt (⟨a + (k : Int), (j : Int), nm⟩ : Ev) e)) (fun s _ => (intOf s).toNat)
                  case atStart => exact ⟨L2, [], w3, by simp, by have := HMM.out; congr 1; omega, rfl, HB3, HO3, Lib.hid (fun e he => by cases he)⟩
                  case round =>
                    clear HB3 HO3
                    obtain ⟨p, q, wz, hpq, rfl, rfl, HBb, HOb, HQ⟩ := hrel
                    have HPQ := Lib.hid hpq
                    have HLM := Lib.hid (show (p ++ (⟨a + (k : Int), (j : Int), nm⟩ : Ev) :: q).length = mm by have := HMM.out; rw [← hpq] at this; simp at this ⊢; omega)
                    clear hpq
                    have HDONE := Lib.hid (fun (hp : p = [] ∨ ∃ p' y, p = p' ++ [y] ∧ ¬ Ev.lt (⟨a + (k : Int), (j : Int), nm⟩ : Ev) y) => ins_done (by rw [HPQ.out]; exact HSz.out) HQ.out hp)
                    have HPERM := Lib.hid (show (p ++ (⟨a + (k : Int), (j : Int), nm⟩ : Ev) :: q).Perm (colEvs rs a k ++ yearEvs rs (a + (k : Int)) (j + 1)) by rw [HY.out, ← _root_.List.append_assoc]; exact ins_perm (by rw [HPQ.out]; exact HPz.out))
                    rcases nil_or_snoc p with rfl | ⟨p', y, rfl⟩
                    · have HSO := Lib.hid (HDONE.out (.inl rfl))
                      clear HDONE
                      go_wp2_with fail
                      go_quiet (fail)
                      go_wp2_with fail
                      exact ⟨⟨j + 1, _, [] ++ (⟨a + (k : Int), (j : Int), nm⟩ : Ev) :: q, by omega, by go_num, rfl, Lib.hid (bel_drew HBb.out _), Lib.hid (by rw [HLM.out]; exact own_below HOb.out (bel_drew (Below.refl _ _) _)), HPERM, HSO⟩, by simp [intOf]; omega⟩
                    · obtain ⟨c, hc⟩ : ∃ c, c = p'.length + 1 := ⟨_, rfl⟩
                      have hlen : (p' ++ [y]).length = c := by rw [hc]; simp
                      obtain ⟨yy, yr, yn⟩ := y
                      have HOy := Lib.hid (show wr.ownsRow W.heap.size 34 3 (.slice (some ⟨g, 0, none⟩) mm cp) mm (flatEv (p' ++ ⟨yy, yr, yn⟩ :: (⟨a + (k : Int), (j : Int), nm⟩ : Ev) :: q)) by have h := HOb.out; rw [_root_.List.append_assoc] at h; exact h)
                      have hcm : c < mm := by have h := HLM.out; rw [hc]; simp at h; omega
                      obtain ⟨e0, e1, e2⟩ := own_ev HOy.out (ins_at0 p' q (⟨a + (k : Int), (j : Int), nm⟩ : Ev) ⟨yy, yr, yn⟩) (by omega)
                      obtain ⟨d0, d1, d2⟩ := own_ev (i := c) HOy.out (by rw [hc]; exact ins_at1 p' q (⟨a + (k : Int), (j : Int), nm⟩ : Ev) ⟨yy, yr, yn⟩) hcm
                      dsimp only at e0 e1 e2 d0 d1 d2
                      have HSD := Lib.hid (cells6 (Below.drew (Below.refl wr.heap.size wr)) ⟨e0, e1, e2, d0, d1, d2⟩)
                      clear e0 e1 e2 d0 d1 d2
                      rw [hlen]
                      obtain ⟨dd, hdd⟩ : ∃ dd, dd = p'.length := ⟨_, rfl⟩
                      rw [← hdd] at HSD hc
                      have HDD := Lib.hid hdd
                      have HCC := Lib.hid hc
                      have hq0 : (0 : Int) < (c : Int) := by omega
                      have hq4 : 0 < c := by omega
                      have hq5 : decide ((0 : Int) < (c : Int)) = true := by simp; omega
                      have hq6 : decide (0 < c) = true := by simp; omega
                      have hq1 : (c : Int) < (mm : Int) := by omega
                      have hq2 : (0 : Int) ≤ (dd : Int) := by omega
                      have hq3 : (dd : Int) < (mm : Int) := by omega
                      have hw1 : IntKind.i64.wrap ((c : Int) - 1) = (dd : Int) := by rw [show (c : Int) - 1 = (dd : Int) by omega]; exact IntWalk.i64_in _ (by omega)
                      clear hdd hlen
                      by_cases hl : Ev.lt (⟨a + (k : Int), (j : Int), nm⟩ : Ev) ⟨yy, yr, yn⟩
                      · clear HDONE HPERM
                        have HT := Lib.hid hl
                        clear hl hc
                        go_wp2_with fail
                        go_region_held3 (fun w' => w'.cell? ⟨g, dd * 3, none⟩ = some (.int .i64 yy) ∧ w'.cell? ⟨g, dd * 3 + 1, none⟩ = some (.int .i64 yr) ∧ w'.cell? ⟨g, dd * 3 + 2, none⟩ = some (.int .i64 yn) ∧ w'.cell? ⟨g, c * 3, none⟩ = some (.int .i64 (a + (k : Int))) ∧ w'.cell? ⟨g, c * 3 + 1, none⟩ = some (.int .i64 (j : Int)) ∧ w'.cell? ⟨g, c * 3 + 2, none⟩ = some (.int .i64 nm))
                          (first | exact HSD.out | exact cells6 hb7 HSD.out)
                          (first
                           | (go_at_call 46; refine (refLess_any (a + (k : Int)) (j : Int) nm yy yr yn true _ (Lib.hid (by simpa using HT.out))).mono ?_; rintro e w7 ⟨rfl, hb7⟩))
                        have HB7 := Lib.hid (bel_trans (Below.drew HBb.out) hb7)
                        have HO7 := Lib.hid (own_below HOy.out (bel_trans (Below.drew (Below.refl _ _)) hb7))
                        have HS7 := Lib.hid (cells6 hb7 HSD.out)
                        obtain ⟨e0, e1, e2, d0, d1, d2⟩ := HS7.out
                        have x0 := cell_below (bel_alloc w7 (.cells #[.int .i64 (a + (k : Int)), .int .i64 (j : Int), .int .i64 nm] 34)) e0
                        have x1 := cell_below (bel_alloc w7 (.cells #[.int .i64 (a + (k : Int)), .int .i64 (j : Int), .int .i64 nm] 34)) e1
                        have x2 := cell_below (bel_alloc w7 (.cells #[.int .i64 (a + (k : Int)), .int .i64 (j : Int), .int .i64 nm] 34)) e2
                        have hgl := own_cell HO7.out (j := c * 3) (by omega)
                        obtain ⟨_, _, hgb, hgl⟩ := hgl
                        have hne1 : g ≠ w7.heap.size := by omega
                        have hne2 : w7.heap.size ≠ g := by omega
                        have HCD := Lib.hid (show c = dd + 1 from HCC.out)
                        have HG := Lib.hid hgb
                        have HN2 := Lib.hid hne2
                        have HO8 := Lib.hid (own_below HO7.out (bel_alloc w7 (.cells #[.int .i64 (a + (k : Int)), .int .i64 (j : Int), .int .i64 nm] 34)))
                        have HE8 := Lib.hid (heap_alloc_new w7 (.cells #[.int .i64 (a + (k : Int)), .int .i64 (j : Int), .int .i64 nm] 34))
                        have HB8 := Lib.hid (bel_trans HB7.out (bel_alloc w7 (.cells #[.int .i64 (a + (k : Int)), .int .i64 (j : Int), .int .i64 nm] 34)))
                        clear hb7 HSD HS7 hgb hgl
                        go_wp2_with (first
                          | (refine wpList_store_mid rfl _ _ _ rfl g (c * 3) #[.int .i64 yy, .int .i64 yr, .int .i64 yn] rfl rfl (there_ev HO8.out (by omega)) (by kernel_rfl) (by simp [Value.oneCell']) ?_
                             have HO9 := Lib.hid (own_set3 (o := c * 3) (a := .int .i64 yy) (b := .int .i64 yr) (c := .int .i64 yn) HO8.out)
                             have HB9 := Lib.hid (bel_set3 (o := c * 3) (a := .int .i64 yy) (b := .int .i64 yr) (c := .int .i64 yn) HB8.out HG.out)
                             have HE9 := Lib.hid (block_set3 (o := c * 3) (x := .int .i64 yy) (y := .int .i64 yr) (z := .int .i64 yn) HE8.out HN2.out)
                             generalize hw9 : World.setCells _ _ _ _ = w9
                             have hw9 := hw9.symm
                             rw [← hw9] at HO9 HB9 HE9
                             clear hw9 HO8 HB8 HE8 d0 d1 d2 e0 e1 e2 x0 x1 x2
                             have k0 := cellB HE9.out (i := 0) rfl
                             have k1 := cellB HE9.out (i := 1) rfl
                             have k2 := cellB HE9.out (i := 2) rfl)
                          | (refine wpList_store_mid rfl _ _ _ rfl g (dd * 3) #[.int .i64 (a + (k : Int)), .int .i64 (j : Int), .int .i64 nm] rfl rfl (there_ev HO9.out (by omega)) (by kernel_rfl) (by simp [Value.oneCell']) ?_
                             have HOA := Lib.hid (own_set3 (o := dd * 3) (a := .int .i64 (a + (k : Int))) (b := .int .i64 (j : Int)) (c := .int .i64 nm) HO9.out)
                             have HBA := Lib.hid (bel_set3 (o := dd * 3) (a := .int .i64 (a + (k : Int))) (b := .int .i64 (j : Int)) (c := .int .i64 nm) HB9.out HG.out)
                             generalize hwA : World.setCells _ _ _ _ = wA
                             have hwA := hwA.symm
                             rw [← hwA] at HOA HBA
                             clear hwA HO9 HB9 HE9 k0 k1 k2))
                        go_round
                        case rel => exact ⟨p', (⟨yy, yr, yn⟩ : Ev) :: q, _, by rw [← HPQ.out]; simp, by rw [HDD.out], rfl, HBA, Lib.hid (by have h := ins_row p' q (⟨a + (k : Int), (j : Int), nm⟩ : Ev) (⟨yy, yr, yn⟩ : Ev); rw [← HDD.out, ← HCC.out] at h; rw [← h]; exact HOA.out), Lib.hid (all_cons HT.out HQ.out)⟩
                        case measure => simp [intOf]; have := HCD.out; omega
                      · have HSO := Lib.hid (HDONE.out (.inr ⟨p', _, rfl, hl⟩))
                        clear HDONE
                        have HT := Lib.hid hl
                        clear hl hc
                        go_wp2_with fail
                        go_region_held3 (fun w' => w'.cell? ⟨g, dd * 3, none⟩ = some (.int .i64 yy) ∧ w'.cell? ⟨g, dd * 3 + 1, none⟩ = some (.int .i64 yr) ∧ w'.cell? ⟨g, dd * 3 + 2, none⟩ = some (.int .i64 yn) ∧ w'.cell? ⟨g, c * 3, none⟩ = some (.int .i64 (a + (k : Int))) ∧ w'.cell? ⟨g, c * 3 + 1, none⟩ = some (.int .i64 (j : Int)) ∧ w'.cell? ⟨g, c * 3 + 2, none⟩ = some (.int .i64 nm))
                          (first | exact HSD.out | exact cells6 hb7 HSD.out)
                          (first
                           | (go_at_call 46; refine (refLess_any (a + (k : Int)) (j : Int) nm yy yr yn false _ (Lib.hid (by simpa using HT.out))).mono ?_; rintro e w7 ⟨rfl, hb7⟩))
                        go_wp2_with fail
                        have HB7 := Lib.hid (bel_trans (Below.drew HBb.out) hb7)
                        exact ⟨⟨j + 1, _, (p' ++ [⟨yy, yr, yn⟩]) ++ (⟨a + (k : Int), (j : Int), nm⟩ : Ev) :: q, by omega, by go_num, rfl, HB7, Lib.hid (by rw [HLM.out]; exact own_below HOb.out (bel_trans (Below.drew (Below.refl _ _)) hb7)), HPERM, HSO⟩, by simp [intOf]; omega⟩
              · obtain rfl : n = j := by omega
                go_wp2_with fail
                exact ⟨⟨k + 1, _, L2, by omega, by go_num, rfl, HBz, HOz, Lib.hid (by rw [colEvs_succ, ← HN.out]; exact HPz.out), HSz⟩, by simp [intOf]; omega⟩
          · obtain rfl : m = k := by omega
            have hkb : b - a < (m : Int) := by have := HM.out; omega
            have HR := Lib.hid (inIs_of (b := b) (by have := HM.out; omega) HP.out HS.out)
            have HLL := Lib.hid (by have h1 := HP.out.length_eq; have h2 := colEvs_len rs a m; rw [← HN.out] at h2; have h4 := Nat.mul_le_mul (show m ≤ 1001 by omega) hn; omega : L.length ≤ 1001000)
            go_wp2_with fail
            go_ret2
            exact ⟨HB.out, .inr ⟨.inr (by omega), _, L, HR, rfl, HO, HLL.out⟩⟩
end Go.Proofs.YtpimibchameakaaDoor

