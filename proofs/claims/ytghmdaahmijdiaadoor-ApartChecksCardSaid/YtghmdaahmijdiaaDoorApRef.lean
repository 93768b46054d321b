/-
  The reference of chapter 18: before, Far, close.
-/
import Derived.Test.YtghmdaahmijdiaaDoorAp
import Derived.Test.YtghmdaahmijdiaaDoorEvRef0
import Derived.Test.YtghmdaahmijdiaaDoorEvRefBA
import Derived.Deep.RegionHeld3
namespace Go.Proofs.YtghmdaahmijdiaaDoor
open Go.RowKit Cv
set_option linter.unusedVariables false
set_option linter.unusedSimpArgs false

namespace Cv
theorem cells6y {A B : World} {p0 p1 p2 p3 p4 p5 : Addr} {v0 v1 v2 v3 v4 v5 : Value} (hb : Below A.heap.size A B) (h : A.cell? p0 = some v0 ∧ A.cell? p1 = some v1 ∧ A.cell? p2 = some v2 ∧ A.cell? p3 = some v3 ∧ A.cell? p4 = some v4 ∧ A.cell? p5 = some v5) : B.cell? p0 = some v0 ∧ B.cell? p1 = some v1 ∧ B.cell? p2 = some v2 ∧ B.cell? p3 = some v3 ∧ B.cell? p4 = some v4 ∧ B.cell? p5 = some v5 :=
  ⟨cell_below hb h.1, cell_below hb h.2.1, cell_below hb h.2.2.1, cell_below hb h.2.2.2.1, cell_below hb h.2.2.2.2.1, cell_below hb h.2.2.2.2.2⟩
/-- not near, of the events of one year, of the first rules -/
def NotY (rs : _root_.List Ru) (N z k : Int) : Prop := ∀ e, IsEv rs e → e.year = z → e.rule < k → ¬ (e.nom < N + 259200 ∧ N - 259200 < e.nom)
theorem notY_zero (rs : _root_.List Ru) (N z : Int) : NotY rs N z 0 := fun e ⟨r, hr, _⟩ _ hk => by
  obtain ⟨j, hj, _⟩ := ruleAt_ex hr
  omega
theorem notY_no {rs : _root_.List Ru} {N z : Int} {k : Nat} (h : NotY rs N z k) (ho : evOn rs (k : Int) z = none) : NotY rs N z ((k + 1 : Nat) : Int) := fun e he hy hk => by
  rcases Int.lt_or_le e.rule k with h1 | h1
  · exact h e he hy h1
  · have h2 := is_evOn he
    rw [hy, show e.rule = (k : Int) by omega, ho] at h2
    cases h2
theorem notY_yes {rs : _root_.List Ru} {N z n : Int} {k : Nat} (h : NotY rs N z k) (ho : evOn rs (k : Int) z = some ⟨z, (k : Int), n⟩) (hn : ¬ (n < N + 259200 ∧ N - 259200 < n)) : NotY rs N z ((k + 1 : Nat) : Int) := fun e he hy hk => by
  rcases Int.lt_or_le e.rule k with h1 | h1
  · exact h e he hy h1
  · have h2 := is_evOn he
    rw [hy, show e.rule = (k : Int) by omega, ho] at h2
    cases h2
    exact hn
theorem notY_all {rs : _root_.List Ru} {N z : Int} (h : NotY rs N z rs.length) : ∀ e, IsEv rs e → e.year = z → ¬ (e.nom < N + 259200 ∧ N - 259200 < e.nom) := fun e he hy => by
  obtain ⟨r, hr, hh⟩ := he
  obtain ⟨j, hj, _, hl⟩ := ruleAt_ex hr
  exact h e ⟨r, hr, hh⟩ hy (by omega)
/-- one of a list comes before an event, and is not far from it -/
def CloseIn (L : _root_.List Ev) (e : Ev) : Prop := ∃ d ∈ L, d.lt e ∧ e.nom - d.nom < 259200
end Cv

set_option maxRecDepth 100000 in
set_option maxHeartbeats 1000000 in
theorem before18_any (y1 r1 n1 y2 r2 n2 : Int) (t : Bool) (W : World) (ht : Hid (t = true ↔ Ev.lt ⟨y1, r1, n1⟩ ⟨y2, r2, n2⟩)) : Calls Tryd.prog 25 #[.agg #[.int .i64 y1, .int .i64 r1, .int .i64 n1], .agg #[.int .i64 y2, .int .i64 r2, .int .i64 n2]] W fun e w' => e = .returned (.bool t) ∧ Below W.heap.size W w' := by
  by_cases hn : n1 = n2
  · subst hn
    by_cases hr : r1 = r2
    · subst hr
      have HT := Lib.hid (show decide (y1 < y2) = t by rw [Bool.eq_iff_iff, decide_eq_true_iff, ht.out]; unfold Ev.lt; dsimp only; omega)
      clear ht
      go_enter Tryd.func25, Tryd.ntmps25
      go_wp2_with fail
      go_ret
      exact ⟨ret_b HT.out, bel_trans (bel_alloc _ _) (bel_alloc _ _)⟩
    · have HT := Lib.hid (show decide (r1 < r2) = t by rw [Bool.eq_iff_iff, decide_eq_true_iff, ht.out]; unfold Ev.lt; dsimp only; omega)
      have hrb : (r1 == r2) = false := by simp [hr]
      clear ht
      go_enter Tryd.func25, Tryd.ntmps25
      go_wp2_with fail
      go_ret
      exact ⟨ret_b HT.out, bel_trans (bel_alloc _ _) (bel_alloc _ _)⟩
  · have HT := Lib.hid (show decide (n1 < n2) = t by rw [Bool.eq_iff_iff, decide_eq_true_iff, ht.out]; unfold Ev.lt; dsimp only; omega)
    have hnb : (n1 == n2) = false := by simp [hn]
    clear ht
    go_enter Tryd.func25, Tryd.ntmps25
    go_wp2_with fail
    go_ret
    exact ⟨ret_b HT.out, bel_trans (bel_alloc _ _) (bel_alloc _ _)⟩

set_option maxRecDepth 100000 in
set_option maxHeartbeats 8000000 in
theorem refFar_any (v : Value) (rs : _root_.List Ru) (N : Int) (W : World) (h : Rul v rs W) (hN1 : -9223372036854775808 ≤ N) (hN2 : N ≤ 9223372036854775807) :
    Calls Tryd.prog 14 #[v, .int .i64 N] W (FarR rs N W) := by
  rcases (show 1152921504606846976 < N ∨ N < -1152921504606846976 ∨ (-1152921504606846976 ≤ N ∧ N ≤ 1152921504606846976) by omega) with hN | hN | ⟨hM1, hM2⟩
  · have HF := Lib.hid (far_big (rs := rs) (N := N) (.inl hN))
    go_enter Tryd.func14, Tryd.ntmps14
    go_wp2_with fail
    go_ret
    exact ⟨true, Lib.hid ⟨fun _ => HF.out, fun _ => rfl⟩, rfl, Below.refl _ _⟩
  · have HF := Lib.hid (far_big (rs := rs) (N := N) (.inr hN))
    have hN3 : ¬ (1152921504606846976 < N) := by omega
    go_enter Tryd.func14, Tryd.ntmps14
    go_wp2_with fail
    go_ret
    exact ⟨true, Lib.hid ⟨fun _ => HF.out, fun _ => rfl⟩, rfl, Below.refl _ _⟩
  obtain ⟨yy, rr, hyd⟩ := yearD_ex (N / 86400)
  have HYO := Lib.hid (yearOf_d hyd)
  have HY := Lib.hid (fun V => refYearQ hN1 hN2 hyd V)
  obtain ⟨q, hq⟩ : ∃ q, clamp yy = q := ⟨_, rfl⟩
  have hqb : -2000000000 ≤ q ∧ q ≤ 2000000000 := by rw [← hq]; exact ⟨HYO.out.lo, HYO.out.hi⟩
  rw [hq] at HYO HY
  obtain ⟨hqb1, hqb2⟩ := hqb
  have HFN := Lib.hid (far_near (rs := rs) HYO.out hM1 hM2)
  clear hyd hq hN1 hN2
  obtain ⟨A, cap, rfl⟩ := h.sl
  have H := Lib.hid h
  have hn := h.len
  clear h
  obtain ⟨n, hN⟩ : ∃ n, n = rs.length := ⟨_, rfl⟩
  rw [← hN] at hn H ⊢
  have HN := Lib.hid hN
  clear hN
  go_enter Tryd.func14, Tryd.ntmps14
  go_wp2_with fail
  refine (HY.out _).mono ?_
  rintro e w' ⟨rfl, hw⟩
  have hw := hw.symm
  subst hw
  go_wp2_with fail
  go_loopw [6] (fun i wr => ∃ (t : Nat) (wq : World), t ≤ 3 ∧ i = .int .i64 (q - 1 + (t : Int)) ∧ wr = wq ∧ Hid (Below W.heap.size W wq) ∧ Hid (∀ e, IsEv rs e → q - 1 ≤ e.year → e.year < q - 1 + (t : Int) → ¬ (e.nom < N + 259200 ∧ N - 259200 < e.nom))) (fun i _ => (q + 2 - intOf i).toNat)
  case atStart => exact ⟨0, _, by omega, by congr 1; omega, rfl, Lib.hid (Below.refl _ _), Lib.hid (fun e _ h1 h2 => by omega)⟩
  case round =>
    obtain ⟨t, wq, ht, rfl, rfl, HB, HE⟩ := hrel
    obtain ⟨z, hz⟩ : ∃ z, z = q - 1 + (t : Int) := ⟨_, rfl⟩
    rw [← hz]
    rw [← hz] at HE
    by_cases ht3 : t < 3
    · have hz1 : z ≤ q + 1 := by omega
      have hz2 : -2000000001 ≤ z := by omega
      have HZ := Lib.hid hz
      clear hz
      go_wp2_with fail
      go_loopw [7] (fun i wx => ∃ (j : Nat) (wz : World), j ≤ n ∧ i = .int .i64 (j : Int) ∧ wx = wz ∧ Hid (Below W.heap.size W wz) ∧ Hid (NotY rs N z (j : Int))) (fun i _ => n - (intOf i).toNat)
      case atStart => exact ⟨0, _, by omega, rfl, rfl, HB, Lib.hid (notY_zero _ _ _)⟩
      case round =>
        obtain ⟨j, wz, hj, rfl, rfl, HBz, HK⟩ := hrel
        by_cases hjn : j < n
        · go_wp2_with fail
          refine (refEvOn_any _ rs (j : Int) z _ (by exact H.out.below HBz.out) (by omega) (by omega)).mono ?_
          intro e w2 hq
          cases ho : evOn rs (j : Int) z with
          | none =>
            rw [ho] at hq
            obtain ⟨rfl, hb2⟩ := EvR.to (o := none) (v := .tuple #[.agg #[.int .i64 0, .int .i64 0, .int .i64 0], .bool false]) rfl _ _ hq; clear hq
            have HK2 := Lib.hid (notY_no HK.out ho)
            have HB2 := Lib.hid (bel_trans (bel_trans HBz.out hb2) (bel_alloc w2 (.cells #[.int .i64 0, .int .i64 0, .int .i64 0] 25)))
            clear hb2 ho
            go_wp2_with fail
            go_round
            case rel => exact ⟨j + 1, _, by omega, by go_num, rfl, HB2, HK2⟩
            case measure => simp [intOf]; omega
          | some ev =>
            obtain ⟨hev, hru, hye⟩ := evOn_is ho
            obtain ⟨hn1, hn2⟩ := nom_fit hev
            obtain ⟨ey, er, nm⟩ := ev
            dsimp only at hru hye hn1 hn2
            subst hru hye
            rw [ho] at hq
            obtain ⟨rfl, hb2⟩ := EvR.to (o := some (⟨ey, (j : Int), nm⟩ : Ev)) (v := .tuple #[.agg #[.int .i64 ey, .int .i64 (j : Int), .int .i64 nm], .bool true]) rfl _ _ hq; clear hq
            have HO := Lib.hid ho
            have HEV := Lib.hid hev
            have HE2 := Lib.hid (heap_alloc_new w2 (.cells #[.int .i64 ey, .int .i64 (j : Int), .int .i64 nm] 25))
            have HB2 := Lib.hid (bel_trans (bel_trans HBz.out hb2) (bel_alloc w2 (.cells #[.int .i64 ey, .int .i64 (j : Int), .int .i64 nm] 25)))
            clear hb2 ho hev
            have c2 := cellB HE2.out (i := 2) rfl
            by_cases hlo : nm < N + 259200
            · by_cases hhi : N - 259200 < nm
              · go_wp2_with fail
                go_ret
                exact ⟨false, Lib.hid ⟨fun h => by simp at h, fun h => (HFN.out.1 h _ HEV.out (by have := HZ.out; dsimp only; omega) (by dsimp only; omega) ⟨hlo, hhi⟩).elim⟩, rfl, HB2.out⟩
              · have HK2 := Lib.hid (notY_yes HK.out HO.out (fun h => hhi h.2))
                go_wp2_with fail
                go_round
                case rel => exact ⟨j + 1, _, by omega, by go_num, rfl, HB2, HK2⟩
                case measure => simp [intOf]; omega
            · have HK2 := Lib.hid (notY_yes HK.out HO.out (fun h => hlo h.1))
              go_wp2_with fail
              go_round
              case rel => exact ⟨j + 1, _, by omega, by go_num, rfl, HB2, HK2⟩
              case measure => simp [intOf]; omega
        · obtain rfl : n = j := by omega
          rw [HN.out] at HK
          have HE2 := Lib.hid (show ∀ e, IsEv rs e → q - 1 ≤ e.year → e.year < q - 1 + ((t + 1 : Nat) : Int) → ¬ (e.nom < N + 259200 ∧ N - 259200 < e.nom) from fun e he h1 h2 => by
            rcases Int.lt_or_le e.year z with h3 | h3
            · exact HE.out e he h1 h3
            · exact notY_all HK.out e he (by have := HZ.out; omega))
          go_wp2_with fail
          exact ⟨⟨t + 1, _, by omega, by have := HZ.out; congr 1; omega, rfl, HBz, HE2⟩, by simp [intOf]; omega⟩
    · have hz1 : q + 1 < z := by omega
      have HF := Lib.hid (HFN.out.2 (fun e he h1 h2 => HE.out e he h1 (by omega)))
      clear hz
      go_wp2_with fail
      go_ret
      exact ⟨true, Lib.hid ⟨fun _ => HF.out, fun _ => rfl⟩, rfl, HB.out⟩


set_option maxRecDepth 100000 in
set_option maxHeartbeats 8000000 in
theorem refClose_any (y r n : Int) (u : Value) (L : _root_.List Ev) (b : Bool) (W : World) (hu : RdEv u L W) (hL : L.length ≤ 1000) (hn1 : -70000000000000000 ≤ n) (hn2 : n ≤ 70000000000000000) (hLn : ∀ d ∈ L, -70000000000000000 ≤ d.nom ∧ d.nom ≤ 70000000000000000) (hb : Hid (b = true ↔ CloseIn L ⟨y, r, n⟩)) :
    Calls Tryd.prog 24 #[.agg #[.int .i64 y, .int .i64 r, .int .i64 n], u] W fun e w' => e = .returned (.bool b) ∧ Below W.heap.size W w' := by
  obtain ⟨A, cap, rfl⟩ := hu.sl
  have HU := Lib.hid hu
  have HLN := Lib.hid hLn
  obtain ⟨m, hm⟩ : ∃ m, m = L.length := ⟨_, rfl⟩
  rw [← hm] at hL HU ⊢
  have HM := Lib.hid hm
  clear hu hLn hm
  go_enter Tryd.func24, Tryd.ntmps24
  go_wp2_with fail
  go_loopw [5] (fun s wr => ∃ (k : Nat) (wq : World), k ≤ m ∧ s = .int .i64 (k : Int) ∧ wr = wq ∧ Hid (Below W.heap.size W wq) ∧ Hid (wq.heap[W.heap.size]? = some (.cells #[.int .i64 y, .int .i64 r, .int .i64 n] 25)) ∧ Hid (∀ (i : Nat) (d : Ev), i < k → L[i]? = some d → ¬ (d.lt ⟨y, r, n⟩ ∧ n - d.nom < 259200))) (fun s _ => m - (intOf s).toNat)
  case atStart => exact ⟨0, _, by omega, rfl, rfl, Lib.hid (bel_alloc _ _), Lib.hid (heap_alloc_new _ _), Lib.hid (fun i d hi => by omega)⟩
  case round =>
    obtain ⟨k, wq, hk, rfl, rfl, HB, HE, HK⟩ := hrel
    by_cases hkm : k < m
    · obtain ⟨d, hd⟩ : ∃ d, L[k]? = some d := ⟨_, _root_.List.getElem?_eq_getElem (by rw [← HM.out]; exact hkm)⟩
      obtain ⟨h1, h2⟩ := HLN.out d (_root_.List.mem_of_getElem? hd)
      obtain ⟨g, off, rfl, a0, a1, a2⟩ := (HU.out.below HB.out).at_ hd
      have HD := Lib.hid hd
      obtain ⟨dy, dr, dn⟩ := d
      dsimp only at h1 h2 a0 a1 a2
      have HSD := Lib.hid (cells6y (Below.drew (Below.refl wr.heap.size wr)) ⟨a0, a1, a2, cellB HE.out (i := 0) rfl, cellB HE.out (i := 1) rfl, cellB HE.out (i := 2) rfl⟩)
      have hk0 : (0 : Int) ≤ (k : Int) := by omega
      have hk1 : (k : Int) < (m : Int) := by omega
      clear hd a0 a1 a2
      by_cases hl : Ev.lt ⟨dy, dr, dn⟩ ⟨y, r, n⟩
      · have HL := Lib.hid hl
        clear hl
        have hwr : IntKind.i64.wrap (n - dn) = n - dn := IntWalk.i64_in _ (by omega)
        by_cases hg : n - dn < 259200
        · have HR := Lib.hid (show CloseIn L ⟨y, r, n⟩ from ⟨_, _root_.List.mem_of_getElem? HD.out, HL.out, hg⟩)
          obtain rfl : b = true := hb.out.2 HR.out
          clear hb
          go_wp2_with fail
          first
            | (go_region_held3 (fun w' => w'.cell? ⟨g, off + k * 3, none⟩ = some (.int .i64 dy) ∧ w'.cell? ⟨g, off + k * 3 + 1, none⟩ = some (.int .i64 dr) ∧ w'.cell? ⟨g, off + k * 3 + 2, none⟩ = some (.int .i64 dn) ∧ w'.cell? ⟨W.heap.size, 0, none⟩ = some (.int .i64 y) ∧ w'.cell? ⟨W.heap.size, 1, none⟩ = some (.int .i64 r) ∧ w'.cell? ⟨W.heap.size, 2, none⟩ = some (.int .i64 n))
                (first | exact HSD.out | exact cells6y hb7 HSD.out)
                (first
                 | (go_at_call 25; refine (before18_any dy dr dn y r n true _ (Lib.hid (by simpa using HL.out))).mono ?_; rintro e w7 ⟨rfl, hb7⟩)))
            | fail
          go_wp2_with fail
          go_ret
          exact ⟨rfl, bel_trans (Below.drew HB.out) hb7⟩
        · have HK2 := Lib.hid (show ∀ (i : Nat) (d : Ev), i < k + 1 → L[i]? = some d → ¬ (d.lt ⟨y, r, n⟩ ∧ n - d.nom < 259200) from fun i d hi hd => by
            rcases Nat.lt_or_ge i k with h3 | h3
            · exact HK.out i d h3 hd
            · obtain rfl : i = k := by omega
              rw [HD.out] at hd
              cases hd
              exact fun h => hg h.2)
          have hgd : decide (n - dn < 259200) = false := by simp; omega
          go_wp2_with fail
          first
            | (go_region_held3 (fun w' => w'.cell? ⟨g, off + k * 3, none⟩ = some (.int .i64 dy) ∧ w'.cell? ⟨g, off + k * 3 + 1, none⟩ = some (.int .i64 dr) ∧ w'.cell? ⟨g, off + k * 3 + 2, none⟩ = some (.int .i64 dn) ∧ w'.cell? ⟨W.heap.size, 0, none⟩ = some (.int .i64 y) ∧ w'.cell? ⟨W.heap.size, 1, none⟩ = some (.int .i64 r) ∧ w'.cell? ⟨W.heap.size, 2, none⟩ = some (.int .i64 n))
                (first | exact HSD.out | exact cells6y hb7 HSD.out)
                (first
                 | (go_at_call 25; refine (before18_any dy dr dn y r n true _ (Lib.hid (by simpa using HL.out))).mono ?_; rintro e w7 ⟨rfl, hb7⟩)))
            | fail
          go_wp2_with fail
          exact ⟨⟨k + 1, _, by omega, by go_num, rfl, Lib.hid (bel_trans (Below.drew HB.out) hb7), Lib.hid (block_below (show wr.drew.heap[W.heap.size]? = _ from HE.out) hb7), HK2⟩, by simp [intOf]; omega⟩
      · have HL := Lib.hid hl
        have HK2 := Lib.hid (show ∀ (i : Nat) (d : Ev), i < k + 1 → L[i]? = some d → ¬ (d.lt ⟨y, r, n⟩ ∧ n - d.nom < 259200) from fun i d hi hd => by
          rcases Nat.lt_or_ge i k with h3 | h3
          · exact HK.out i d h3 hd
          · obtain rfl : i = k := by omega
            rw [HD.out] at hd
            cases hd
            exact fun h => hl h.1)
        clear hl
        go_wp2_with fail
        refine wp_region_held_drew (S := (fun w' => w'.cell? ⟨g, off + k * 3, none⟩ = some (.int .i64 dy) ∧ w'.cell? ⟨g, off + k * 3 + 1, none⟩ = some (.int .i64 dr) ∧ w'.cell? ⟨g, off + k * 3 + 2, none⟩ = some (.int .i64 dn) ∧ w'.cell? ⟨W.heap.size, 0, none⟩ = some (.int .i64 y) ∧ w'.cell? ⟨W.heap.size, 1, none⟩ = some (.int .i64 r) ∧ w'.cell? ⟨W.heap.size, 2, none⟩ = some (.int .i64 n))) (by kernel_rfl) (by exact HSD.out) (fun hHeld => ?_)
        refine wpAnyH_take (i := 0) (v := ?_) rfl (by kernel_rfl) (by kernel_rfl) (by kernel_rfl) (fun _ _ _ h => h) (Or.inl ⟨by rfl, ?_⟩) (by assumption) ?_
        rotate_left 1
        · (intro w hSw; (try dsimp only at hSw); first | (go_simp; done) | (go_simp; with_reducible rfl))
        try simp only [Act.put, List.getElem_toArray, List.getElem_cons_succ, List.getElem_cons_zero, List.setIfInBounds_toArray, List.set_cons_zero, List.set_cons_succ]
        refine wpAnyH_take (i := 1) (v := ?_) rfl (by kernel_rfl) (by kernel_rfl) (by kernel_rfl) (fun _ _ _ h => h) (Or.inl ⟨by rfl, ?_⟩) (by assumption) ?_
        rotate_left 1
        · (intro w hSw; (try dsimp only at hSw); first | (go_simp; done) | (go_simp; with_reducible rfl))
        try simp only [Act.put, List.getElem_toArray, List.getElem_cons_succ, List.getElem_cons_zero, List.setIfInBounds_toArray, List.set_cons_zero, List.set_cons_succ]
        refine wpAnyH_take (i := 2) (v := ?_) rfl (by kernel_rfl) (by kernel_rfl) (by kernel_rfl) (fun _ _ _ h => h) (Or.inl ⟨by rfl, ?_⟩) (by assumption) ?_
        rotate_left 1
        · (intro w hSw; (try dsimp only at hSw); first | (go_simp; done) | (go_simp; with_reducible rfl))
        try simp only [Act.put, List.getElem_toArray, List.getElem_cons_succ, List.getElem_cons_zero, List.setIfInBounds_toArray, List.set_cons_zero, List.set_cons_succ]
        refine wpAnyH_take (i := 3) (v := ?_) rfl (by kernel_rfl) (by kernel_rfl) (by kernel_rfl) (fun _ _ _ h => h) (Or.inl ⟨by rfl, ?_⟩) (by assumption) ?_
        rotate_left 1
        · (intro w hSw; (try dsimp only at hSw); first | (go_simp; done) | (go_simp; with_reducible rfl))
        try simp only [Act.put, List.getElem_toArray, List.getElem_cons_succ, List.getElem_cons_zero, List.setIfInBounds_toArray, List.set_cons_zero, List.set_cons_succ]
        refine wpAnyH_take (i := 4) (v := ?_) rfl (by kernel_rfl) (by kernel_rfl) (by kernel_rfl) (fun _ _ _ h => h) (Or.inl ⟨by rfl, ?_⟩) (by assumption) ?_
        rotate_left 1
        · (intro w hSw; (try dsimp only at hSw); first | (go_simp; done) | (go_simp; with_reducible rfl))
        try simp only [Act.put, List.getElem_toArray, List.getElem_cons_succ, List.getElem_cons_zero, List.setIfInBounds_toArray, List.set_cons_zero, List.set_cons_succ]
        refine wpAnyH_ready (rs := [5]) (by kernel_rfl) (by simp) ?_
        refine AllReadyH.cons rfl (fun K hK => ?_) AllReadyH.nil
        go_simp
        refine (before18_any dy dr dn y r n false _ (Lib.hid (by simpa using HL.out))).mono ?_
        rintro e w7 ⟨rfl, hb7⟩
        go_wp2_with fail
        refine hK.out _ _ ?_ (fun hHeld => ?_)
        · exact cells6y hb7 HSD.out
        clear hK K
        try simp only [Act.put, List.getElem_toArray, List.getElem_cons_succ, List.getElem_cons_zero, List.setIfInBounds_toArray, List.set_cons_zero, List.set_cons_succ]
        refine wpAnyH_take (i := 6) (v := ?_) rfl (by kernel_rfl) (by kernel_rfl) (by kernel_rfl) (fun _ _ _ h => h) (Or.inl ⟨by rfl, ?_⟩) (by assumption) ?_
        rotate_left 1
        · (intro w hSw; (try dsimp only at hSw); first | (go_simp; done) | (go_simp; with_reducible rfl))
        try simp only [Act.put, List.getElem_toArray, List.getElem_cons_succ, List.getElem_cons_zero, List.setIfInBounds_toArray, List.set_cons_zero, List.set_cons_succ]
        refine wpAnyH_take (i := 7) (v := undef) rfl (by kernel_rfl) (by kernel_rfl) (by kernel_rfl) (fun _ _ _ h => h) (Or.inr ⟨by rfl, rfl⟩) (by assumption) ?_
        try simp only [Act.put, List.getElem_toArray, List.getElem_cons_succ, List.getElem_cons_zero, List.setIfInBounds_toArray, List.set_cons_zero, List.set_cons_succ]
        refine wpAnyH_take (i := 8) (v := undef) rfl (by kernel_rfl) (by kernel_rfl) (by kernel_rfl) (fun _ _ _ h => h) (Or.inr ⟨by rfl, rfl⟩) (by assumption) ?_
        try simp only [Act.put, List.getElem_toArray, List.getElem_cons_succ, List.getElem_cons_zero, List.setIfInBounds_toArray, List.set_cons_zero, List.set_cons_succ]
        refine wpAnyH_take (i := 9) (v := undef) rfl (by kernel_rfl) (by kernel_rfl) (by kernel_rfl) (fun _ _ _ h => h) (Or.inr ⟨by rfl, rfl⟩) (by assumption) ?_
        try simp only [Act.put, List.getElem_toArray, List.getElem_cons_succ, List.getElem_cons_zero, List.setIfInBounds_toArray, List.set_cons_zero, List.set_cons_succ]
        refine wpAnyH_take (i := 10) (v := undef) rfl (by kernel_rfl) (by kernel_rfl) (by kernel_rfl) (fun _ _ _ h => h) (Or.inr ⟨by rfl, rfl⟩) (by assumption) ?_
        try simp only [Act.put, List.getElem_toArray, List.getElem_cons_succ, List.getElem_cons_zero, List.setIfInBounds_toArray, List.set_cons_zero, List.set_cons_succ]
        refine wpAnyH_take (i := 11) (v := undef) rfl (by kernel_rfl) (by kernel_rfl) (by kernel_rfl) (fun _ _ _ h => h) (Or.inr ⟨by rfl, rfl⟩) (by assumption) ?_
        try simp only [Act.put, List.getElem_toArray, List.getElem_cons_succ, List.getElem_cons_zero, List.setIfInBounds_toArray, List.set_cons_zero, List.set_cons_succ]
        refine wpAnyH_take (i := 12) (v := undef) rfl (by kernel_rfl) (by kernel_rfl) (by kernel_rfl) (fun _ _ _ h => h) (Or.inr ⟨by rfl, rfl⟩) (by assumption) ?_
        try simp only [Act.put, List.getElem_toArray, List.getElem_cons_succ, List.getElem_cons_zero, List.setIfInBounds_toArray, List.set_cons_zero, List.set_cons_succ]
        refine wpAnyH_take (i := 13) (v := undef) rfl (by kernel_rfl) (by kernel_rfl) (by kernel_rfl) (fun _ _ _ h => h) (Or.inr ⟨by rfl, rfl⟩) (by assumption) ?_
        try simp only [Act.put, List.getElem_toArray, List.getElem_cons_succ, List.getElem_cons_zero, List.setIfInBounds_toArray, List.set_cons_zero, List.set_cons_succ]
        refine wpAnyH_take (i := 14) (v := undef) rfl (by kernel_rfl) (by kernel_rfl) (by kernel_rfl) (fun _ _ _ h => h) (Or.inr ⟨by rfl, rfl⟩) (by assumption) ?_
        try simp only [Act.put, List.getElem_toArray, List.getElem_cons_succ, List.getElem_cons_zero, List.setIfInBounds_toArray, List.set_cons_zero, List.set_cons_succ]
        refine wpAnyH_take (i := 15) (v := undef) rfl (by kernel_rfl) (by kernel_rfl) (by kernel_rfl) (fun _ _ _ h => h) (Or.inr ⟨by rfl, rfl⟩) (by assumption) ?_
        try simp only [Act.put, List.getElem_toArray, List.getElem_cons_succ, List.getElem_cons_zero, List.setIfInBounds_toArray, List.set_cons_zero, List.set_cons_succ]
        refine wpAnyH_take (i := 16) (v := ?_) rfl (by kernel_rfl) (by kernel_rfl) (by kernel_rfl) (fun _ _ _ h => h) (Or.inl ⟨by rfl, ?_⟩) (by assumption) ?_
        rotate_left 1
        · (intro w hSw; (try dsimp only at hSw); first | (go_simp; done) | (go_simp; with_reducible rfl))
        try simp only [Act.put, List.getElem_toArray, List.getElem_cons_succ, List.getElem_cons_zero, List.setIfInBounds_toArray, List.set_cons_zero, List.set_cons_succ]
        refine wpAnyH_done (by kernel_rfl) ?_ _
        go_wp2_with fail
        exact ⟨⟨k + 1, _, by omega, by go_num, rfl, Lib.hid (bel_trans (Below.drew HB.out) hb7), Lib.hid (block_below (show wr.drew.heap[W.heap.size]? = _ from HE.out) hb7), HK2⟩, by simp [intOf]; omega⟩
    · obtain rfl : m = k := by omega
      have hno : ¬ CloseIn L ⟨y, r, n⟩ := by
        rintro ⟨d, hd, h1, h2⟩
        obtain ⟨i, hi⟩ := _root_.List.mem_iff_getElem?.1 hd
        exact HK.out i d (by rw [HM.out]; exact (_root_.List.getElem?_eq_some_iff.1 hi).1) hi ⟨h1, h2⟩
      obtain rfl : b = false := by
        cases b with
        | false => rfl
        | true => exact (hno (hb.out.1 rfl)).elim
      clear hno hb
      go_wp2_with fail
      go_ret
      exact ⟨rfl, HB.out⟩
end Go.Proofs.YtghmdaahmijdiaaDoor
