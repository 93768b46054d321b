/-
  The walk of the law EventsSteps.
-/
import Derived.Test.YtpimibchameakaaDoorEvWk
import Derived.Test.YtpimibchameakaaDoorEvCont
import Derived.Test.YtpimibchameakaaDoorStepsM
import Derived.Test.YtpimibchameakaaDoorEvRefW
import Derived.Deep.MidRow
import Derived.Deep.DeepCutAuto
import Derived.Deep.AppendLies
import Derived.Deep.CutBlock
import Derived.Deep.RegionHeld3
namespace Go.Proofs.YtpimibchameakaaDoor
open Go.RowKit Cv
set_option linter.unusedVariables false
set_option linter.unusedSimpArgs false

namespace Cv
theorem evV_exs (o : Option Ev) : ∃ (y r n : Int) (b : Bool), evV o = .tuple #[.agg #[.int .i64 y, .int .i64 r, .int .i64 n], .bool b] ∧ ((b = false ∧ o = none) ∨ (b = true ∧ o = some ⟨y, r, n⟩)) := by
  cases o with
  | none => exact ⟨0, 0, 0, false, rfl, .inl ⟨rfl, rfl⟩⟩
  | some e => exact ⟨e.year, e.rule, e.nom, true, rfl, .inr ⟨rfl, rfl⟩⟩
theorem cells3s {w : World} {b : Nat} {t : TypeId} {v0 v1 v2 : Value} (h : w.heap[b]? = some (.cells #[v0, v1, v2] t)) : w.cell? ⟨b, 0, none⟩ = some v0 ∧ w.cell? ⟨b, 1, none⟩ = some v1 ∧ w.cell? ⟨b, 2, none⟩ = some v2 :=
  ⟨cellB h (i := 0) rfl, cellB h (i := 1) rfl, cellB h (i := 2) rfl⟩
theorem bool_ofs (p : Prop) : ∃ b : Bool, b = true ↔ p := by
  by_cases h : p
  · exact ⟨true, fun _ => h, fun _ => rfl⟩
  · exact ⟨false, fun h => (by cases h), fun k => (h k).elim⟩
theorem nom_fits {rs : _root_.List Ru} {e : Ev} (h : IsEv rs e) : -70000000000000000 ≤ e.nom ∧ e.nom ≤ 70000000000000000 := by
  obtain ⟨r, hr, hh, hn⟩ := h
  have hb := baseL_bd rs
  have h1 := nom_bd hb.1 hb.2 hh
  have h2 := hh.year
  rw [← hn] at h1
  have h7 := fst_far (e.year + 1) 2000000001 (by omega)
  have h8 := fst_far (-2000000000) e.year h2.1
  have h9 : fst 2000000001 ≤ 800000000000 := by decide
  have h10 : -800000000000 ≤ fst (-2000000000) := by decide
  omega
/-- the events of thirteen years are at most 28; and their years -/
theorem steps_year {sv : Int} {rs : _root_.List Ru} {f S E : Int} {e : Ev} (h : MadeP sv rs) (hS : num (f - 1) 7 1 = S) (hE : num (f + 12) 6 1 = E) (he : IsEv rs e) (h1 : 86400 * S < e.nom) (h2 : e.nom < 86400 * E) : f - 1 ≤ e.year ∧ e.year ≤ f + 12 := by
  obtain ⟨r, hr, p1, p2, p3⟩ := ev_place h he
  unfold num at hS hE
  have hc1 : 181 ≤ cum (f - 1) 7 := by have := lp_bd (f - 1); simp [cum]; omega
  have hc2 : cum (f + 12) 6 ≤ 152 := by have := lp_bd (f + 12); simp [cum]; omega
  constructor
  · rcases Int.lt_or_le e.year (f - 1) with h5 | h5
    · exfalso
      have := fst_far e.year (f - 1) (by omega)
      omega
    · exact h5
  · rcases Int.lt_or_le (f + 12) e.year with h5 | h5
    · exfalso
      have := fst_far (f + 12) e.year (by omega)
      omega
    · exact h5
theorem steps_in {sv : Int} {rs : _root_.List Ru} {f S : Int} {e : Ev} (h : MadeP sv rs) (hS : num (f - 1) 7 1 = S) (he : IsEv rs e) (hf : f ≤ e.year) : 86400 * S < e.nom := by
  obtain ⟨r, hr, p1, p2, p3⟩ := ev_place h he
  unfold num at hS
  have hc1 : cum (f - 1) 7 ≤ 182 := by have := lp_bd (f - 1); simp [cum]; omega
  have := fst_far (f - 1) e.year (by omega)
  omega
theorem steps_SE {f S E : Int} (hS : num (f - 1) 7 1 = S) (hE : num (f + 12) 6 1 = E) : 86400 * S < 86400 * E := by
  unfold num at hS hE
  have h1 := cum_bd (f - 1) 7 (by omega) (by omega)
  have h2 := cum_bd (f + 12) 6 (by omega) (by omega)
  have := fst_far (f - 1) (f + 12) (by omega)
  have hc1 : cum (f - 1) 7 ≤ 182 := by have := lp_bd (f - 1); simp [cum]; omega
  omega
theorem steps_none {rs : _root_.List Ru} {lo last E : Int} {L : _root_.List Ev} (hw : Wk rs lo last L) (ho : AftIs rs last none) : ∀ e, IsEv rs e → lo < e.nom → e.nom < 86400 * E → e ∈ L :=
  fun e he h1 _ => (hw.2 e).2 ⟨he, h1, by have := ho e he; omega⟩
theorem steps_far {sv : Int} {rs : _root_.List Ru} {lo last E : Int} {L : _root_.List Ev} {x : Ev} (h : MadeP sv rs) (hw : Wk rs lo last L) (ho : AftIs rs last (some x)) (hx : 86400 * E ≤ x.nom) : ∀ e, IsEv rs e → lo < e.nom → e.nom < 86400 * E → e ∈ L := fun e he h1 h2 => by
  rcases Int.lt_or_le last e.nom with h3 | h3
  · exfalso
    have := ho.2.2 e he h3
    rw [made_lt h he ho.1] at this
    omega
  · exact (hw.2 e).2 ⟨he, h1, h3⟩
theorem RdEv.ce {g off n cap i : Nat} {l : _root_.List Ev} {w : World} {e : Ev} (h : RdEv (.slice (some ⟨g, off, none⟩) n cap) l w) (hr : l[i]? = some e) : w.cell? ⟨g, off + i * 3, none⟩ = some (.int .i64 e.year) ∧ w.cell? ⟨g, off + i * 3 + 1, none⟩ = some (.int .i64 e.rule) ∧ w.cell? ⟨g, off + i * 3 + 2, none⟩ = some (.int .i64 e.nom) := by
  obtain ⟨g', off', h1, h2⟩ := h.at_ hr
  injection h1 with h1
  injection h1 with h3 h4
  subst h3 h4
  exact h2
theorem in_lt {sv : Int} {rs : _root_.List Ru} {a b : Int} {L : _root_.List Ev} {i j : Nat} {x y : Ev} (h : MadeP sv rs) (hI : InIs rs a b L) (hx : L[i]? = some x) (hy : L[j]? = some y) (hl : i < j) : x.nom < y.nom := by
  have m1 := (hI.2 x).1 (_root_.List.mem_of_getElem? hx)
  have m2 := (hI.2 y).1 (_root_.List.mem_of_getElem? hy)
  obtain ⟨h1, rfl⟩ := _root_.List.getElem?_eq_some_iff.1 hx
  obtain ⟨h2, rfl⟩ := _root_.List.getElem?_eq_some_iff.1 hy
  exact (made_lt h m1.1 m2.1).1 (_root_.List.pairwise_iff_getElem.1 hI.1 i j h1 h2 hl)
end Cv

set_option maxRecDepth 100000 in
set_option maxHeartbeats 32000000 in
theorem evSteps_core (v : Value) (bs : _root_.List Int) (y : Int) (W : World) (hT : Tabs W) (h : Drf v bs W) (hy1 : 0 ≤ y) (hy2 : y ≤ 255) :
    Calls Tryd.prog 8 #[v, .int .u8 y] W fun e w' => e = .returned (.bool true) ∧ Below W.heap.size W w' := by
  have heq := eqEv
  have hne := neEv
  have HT := Lib.hid hT
  have HD := Lib.hid h
  clear hT h
  obtain ⟨p, hp⟩ : ∃ p, y.tmod 120 = p := ⟨_, rfl⟩
  have hpb : 0 ≤ p ∧ p ≤ 119 := by rw [← hp, Int.tmod_eq_emod_of_nonneg hy1]; omega
  obtain ⟨hp1, hp2⟩ := hpb
  go_enter Tryd.func8, Tryd.ntmps8
  go_wp2_with fail
  refine (made17s_any _ bs ⟨#[82]⟩ _ (by exact HD.out)).mono ?_
  rintro e w1 ⟨ov, rs, sv, rfl, h2, h5, hmp, _, hown, hb1⟩
  have HMP := Lib.hid hmp
  have HR := Lib.hid (rul_of_own hown (by omega) (fun r hr => (hmp.each r hr).ok.fits))
  have HB := Lib.hid hb1
  clear hmp hown hb1 h2 h5 HD
  obtain ⟨Al, cl, hol⟩ := HR.out.sl
  obtain ⟨nl, hnl⟩ : ∃ nl, nl = rs.length := ⟨_, rfl⟩
  rw [← hnl] at hol
  subst hol
  clear hnl
  obtain ⟨f, hf⟩ : ∃ f, f = 1890 + p := ⟨_, rfl⟩
  have hf1 : 1890 ≤ f := by omega
  have hf2 : f ≤ 2009 := by omega
  go_wp2_with fail
  refine (evIn_any _ rs (1890 + p) (1890 + p + 12) _ (by exact HT.out.below HB.out) (by exact HR.out) (by omega) (by omega) (by omega) (by omega)).mono ?_
  rintro e w2 ⟨hb, ⟨_, h2, _⟩ | ⟨_, V, L, hI, rfl, hO, hLL⟩⟩
  · exfalso; omega
  obtain ⟨Aa, ca, hVa⟩ := (RdEv.own hO.out).sl
  subst hVa
  obtain ⟨n, hn⟩ : ∃ n, n = L.length := ⟨_, rfl⟩
  have HA := Lib.hid (RdEv.own hO.out)
  rw [← hn] at HA hLL ⊢
  have HN := Lib.hid hn
  have HI := hI
  have HLL := Lib.hid hLL
  have HB := Lib.hid (bel_trans HB.out hb)
  have HR := Lib.hid (Rul.below HR.out hb)
  clear hb hO hn hI
  rw [← hf] at HI
  obtain ⟨S, hS⟩ : ∃ S, num (f - 1) 7 1 = S := ⟨_, rfl⟩
  obtain ⟨E, hE⟩ : ∃ E, num (f + 12) 6 1 = E := ⟨_, rfl⟩
  have hS1 : -100000 ≤ S ∧ S ≤ 100000 := by rw [← hS]; unfold num cum fst; have := lp_bd (f - 1); simp; omega
  have hE1 : -100000 ≤ E ∧ E ≤ 100000 := by rw [← hE]; unfold num cum fst; have := lp_bd (f + 12); simp; omega
  obtain ⟨hS2, hS3⟩ := hS1
  obtain ⟨hE2, hE3⟩ := hE1
  have HS := Lib.hid hS
  have HE := Lib.hid hE
  have HI1 := Lib.hid (show inr (1890 + p - 1) ∧ ok (1890 + p - 1) 7 1 by unfold inr; exact ⟨by omega, (ok_first _ 7).2 (by omega)⟩)
  have HI2 := Lib.hid (show inr (1890 + p + 12) ∧ ok (1890 + p + 12) 6 1 by unfold inr; exact ⟨by omega, (ok_first _ 6).2 (by omega)⟩)
  have HSn := Lib.hid (show num (1890 + p - 1) 7 1 = S by rw [← hf]; exact hS)
  have HEn := Lib.hid (show num (1890 + p + 12) 6 1 = E by rw [← hf]; exact hE)
  clear hS hE
  go_wp2_with fail
  refine (days_any (1890 + p - 1) 7 1 _ (by exact (HT.out.below HB.out).1) (by omega) (by omega) (by decide) (by decide)).mono ?_
  intro e w' hq; obtain ⟨rfl, nd, rfl⟩ := DaysR.to_yes (v := S) HI1.out HSn.out _ _ hq; clear hq
  go_wp2_with fail
  refine (days_any (1890 + p + 12) 6 1 _ (by exact ((HT.out.below HB.out).drewN _).1) (by omega) (by omega) (by decide) (by decide)).mono ?_
  intro e w' hq; obtain ⟨rfl, nd, rfl⟩ := DaysR.to_yes (v := E) HI2.out HEn.out _ _ hq; clear hq
  go_upto_block 0 with fail
  go_cut [] (fun w' => Hid (Below W.heap.size W w') ∧ Hid (Tabs w') ∧ Hid (Rul (.slice Al nl cl) rs w') ∧ Hid (RdEv (.slice Aa n ca) L w'))
  case first =>
    go_wp2_with fail
    go_loopw [67] (fun s wr => ∃ (k : Nat) (wq : World), k ≤ n ∧ s = .int .i64 (k : Int) ∧ wr = wq ∧ Hid (Below W.heap.size W wq) ∧ Hid (Tabs wq) ∧ Hid (Rul (.slice Al nl cl) rs wq) ∧ Hid (RdEv (.slice Aa n ca) L wq)) (fun s _ => n - (intOf s).toNat)
    case atStart => exact ⟨0, _, by omega, rfl, rfl, Lib.hid (bel_drew HB.out _), Lib.hid (HT.out.below (bel_drew HB.out _)), Lib.hid (HR.out.below (bel_drew (Below.refl _ _) _)), Lib.hid (HA.out.below (bel_drew (Below.refl _ _) _))⟩
    case round =>
      clear HB HT HR HA
      obtain ⟨k, wq, hk, rfl, rfl, HB, HT, HR, HA⟩ := hrel
      by_cases hlt : k < n
      · obtain ⟨e, he⟩ : ∃ e, L[k]? = some e := ⟨_, _root_.List.getElem?_eq_getElem (by rw [← HN.out]; exact hlt)⟩
        obtain ⟨g, off, rfl, a0, a1, a2⟩ := HA.out.at_ he
        obtain ⟨hev, hy1, hy2⟩ := (HI.out.2 e).1 (_root_.List.mem_of_getElem? he)
        rw [hf] at hy1 hy2
        have HEV := Lib.hid (is_evOn hev)
        have HPN := Lib.hid (show ∀ (d : Nat) (pe : Ev), d < k → L[d]? = some pe → pe.nom < e.nom from fun d pe hd hpe => in_lt HMP.out HI.out hpe he hd)
        obtain ⟨hn1, hn2⟩ := nom_fits hev
        obtain ⟨ey, er, en⟩ := e
        dsimp only at a0 a1 a2 hy1 hy2 hn1 hn2
        have hyw : IntKind.i64.wrap (1890 + p + 12) = 1890 + p + 12 := IntWalk.i64_in _ (by omega)
        have hg1 : decide (ey < 1890 + p) = false := by simp; omega
        have hg2 : ¬ ey < 1890 + p := by omega
        have hg3 : decide (1890 + p + 12 < ey) = false := by simp; omega
        have hg4 : ¬ 1890 + p + 12 < ey := by omega
        have hk0 : (0 : Int) ≤ (k : Int) := by omega
        have hk1 : (k : Int) < (n : Int) := by omega
        clear hev
        go_wp2_with fail
        refine (evOn_any _ rs er ey _ (by exact HT.out.below (bel_alloc _ _)) (by exact HR.out.below (bel_alloc _ _)) (by omega) (by omega)).mono ?_
        intro e w3 hq; obtain ⟨rfl, hb⟩ := EvR.to (v := .tuple #[.agg #[.int .i64 ey, .int .i64 er, .int .i64 en], .bool true]) (by rw [HEV.out]; rfl) _ _ hq; clear hq
        have HB2 := Lib.hid (bel_trans (bel_alloc wr (.cells #[.int .i64 ey, .int .i64 er, .int .i64 en] 34)) hb)
        have HB3 := Lib.hid (bel_trans HB2.out (bel_alloc w3 (.cells #[.int .i64 ey, .int .i64 er, .int .i64 en] 34)))
        have K1 := Lib.hid (block_below (block_below (heap_alloc_new wr (.cells #[.int .i64 ey, .int .i64 er, .int .i64 en] 34)) hb) (bel_alloc w3 (.cells #[.int .i64 ey, .int .i64 er, .int .i64 en] 34)))
        have K2 := Lib.hid (heap_alloc_new w3 (.cells #[.int .i64 ey, .int .i64 er, .int .i64 en] 34))
        clear a0 a1 a2 hb
        have b0 := cellB K1.out (i := 0) rfl
        have b1 := cellB K1.out (i := 1) rfl
        have b2 := cellB K1.out (i := 2) rfl
        have c0 := cellB K2.out (i := 0) rfl
        have c1 := cellB K2.out (i := 1) rfl
        have c2 := cellB K2.out (i := 2) rfl
        by_cases h0 : k = 0
        · subst h0
          clear he
          go_wp2_with fail
          refine wp_region_held_drew (S := (fun w' => w'.cell? ⟨wr.heap.size, 0, none⟩ = some (.int .i64 ey) ∧ w'.cell? ⟨wr.heap.size, 1, none⟩ = some (.int .i64 er) ∧ w'.cell? ⟨wr.heap.size, 2, none⟩ = some (.int .i64 en) ∧ w'.cell? ⟨w3.heap.size, 0, none⟩ = some (.int .i64 ey) ∧ w'.cell? ⟨w3.heap.size, 1, none⟩ = some (.int .i64 er) ∧ w'.cell? ⟨w3.heap.size, 2, none⟩ = some (.int .i64 en))) (by kernel_rfl) (by exact ⟨b0, b1, b2, c0, c1, c2⟩) (fun hHeld => ?_)
          refine wpAnyH_take (i := 0) (v := ?_) rfl (by kernel_rfl) (by kernel_rfl) (by kernel_rfl) (fun _ _ _ h => h) (Or.inl ⟨by rfl, ?_⟩) (by assumption) ?_
          rotate_left 1
          · (intro w hSw; (try dsimp only at hSw); first | (go_simp; done) | (go_simp; with_reducible rfl))
          try simp only [Act.put, List.getElem_toArray, List.getElem_cons_succ, List.getElem_cons_zero, List.setIfInBounds_toArray, List.set_cons_zero, List.set_cons_succ]
          refine wpAnyH_take (i := 1) (v := ?_) rfl (by kernel_rfl) (by kernel_rfl) (by kernel_rfl) (fun _ _ _ h => h) (Or.inl ⟨by rfl, ?_⟩) (by assumption) ?_
          rotate_left 1
          · (intro w hSw; (try dsimp only at hSw); first | (go_simp; done) | (go_simp; with_reducible rfl))
          try simp only [Act.put, List.getElem_toArray, List.getElem_cons_succ, List.getElem_cons_zero, List.setIfInBounds_toArray, List.set_cons_zero, List.set_cons_succ]
          refine wpAnyH_take (i := 2) (v := ?_) rfl (by kernel_rfl) (by kernel_rfl) (by kernel_rfl) (fun _ _ _ h => h) (Or.inl ⟨by rfl, ?_⟩) (by assumption) ?_
          rotate_left 1
          · (intro w hSw; (try dsimp only at hSw); first | (go_simp; done) | (go_simp; with_reducible rfl))
          try simp only [Act.put, List.getElem_toArray, List.getElem_cons_succ, List.getElem_cons_zero, List.setIfInBounds_toArray, List.set_cons_zero, List.set_cons_succ]
          refine wpAnyH_take (i := 3) (v := ?_) rfl (by kernel_rfl) (by kernel_rfl) (by kernel_rfl) (fun _ _ _ h => h) (Or.inl ⟨by rfl, ?_⟩) (by assumption) ?_
          rotate_left 1
          · (intro w hSw; (try dsimp only at hSw); first | (go_simp; done) | (go_simp; with_reducible rfl))
          try simp only [Act.put, List.getElem_toArray, List.getElem_cons_succ, List.getElem_cons_zero, List.setIfInBounds_toArray, List.set_cons_zero, List.set_cons_succ]
          refine wpAnyH_take (i := 4) (v := ?_) rfl (by kernel_rfl) (by kernel_rfl) (by kernel_rfl) (fun _ _ _ h => h) (Or.inl ⟨by rfl, ?_⟩) (by assumption) ?_
          rotate_left 1
          · (intro w hSw; (try dsimp only at hSw); first | (go_simp; done) | (go_simp; with_reducible rfl))
          try simp only [Act.put, List.getElem_toArray, List.getElem_cons_succ, List.getElem_cons_zero, List.setIfInBounds_toArray, List.set_cons_zero, List.set_cons_succ]
          refine wpAnyH_take (i := 5) (v := ?_) rfl (by kernel_rfl) (by kernel_rfl) (by kernel_rfl) (fun _ _ _ h => h) (Or.inl ⟨by rfl, ?_⟩) (by assumption) ?_
          rotate_left 1
          · (intro w hSw; (try dsimp only at hSw); first | (go_simp; done) | (go_simp; with_reducible rfl))
          try simp only [Act.put, List.getElem_toArray, List.getElem_cons_succ, List.getElem_cons_zero, List.setIfInBounds_toArray, List.set_cons_zero, List.set_cons_succ]
          refine wpAnyH_take (i := 6) (v := ?_) rfl (by kernel_rfl) (by kernel_rfl) (by kernel_rfl) (fun _ _ _ h => h) (Or.inl ⟨by rfl, ?_⟩) (by assumption) ?_
          rotate_left 1
          · (intro w hSw; (try dsimp only at hSw); first | (go_simp; done) | (go_simp; with_reducible rfl))
          try simp only [Act.put, List.getElem_toArray, List.getElem_cons_succ, List.getElem_cons_zero, List.setIfInBounds_toArray, List.set_cons_zero, List.set_cons_succ]
          refine wpAnyH_take (i := 7) (v := ?_) rfl (by kernel_rfl) (by kernel_rfl) (by kernel_rfl) (fun _ _ _ h => h) (Or.inl ⟨by rfl, ?_⟩) (by assumption) ?_
          rotate_left 1
          · (intro w hSw; (try dsimp only at hSw); first | (go_simp; done) | (go_simp; with_reducible rfl))
          try simp only [Act.put, List.getElem_toArray, List.getElem_cons_succ, List.getElem_cons_zero, List.setIfInBounds_toArray, List.set_cons_zero, List.set_cons_succ]
          refine wpAnyH_take (i := 8) (v := ?_) rfl (by kernel_rfl) (by kernel_rfl) (by kernel_rfl) (fun _ _ _ h => h) (Or.inl ⟨by rfl, ?_⟩) (by assumption) ?_
          rotate_left 1
          · (intro w hSw; (try dsimp only at hSw); first | (go_simp; done) | (go_simp; with_reducible rfl))
          try simp only [Act.put, List.getElem_toArray, List.getElem_cons_succ, List.getElem_cons_zero, List.setIfInBounds_toArray, List.set_cons_zero, List.set_cons_succ]
          refine wpAnyH_take (i := 9) (v := ?_) rfl (by kernel_rfl) (by kernel_rfl) (by kernel_rfl) (fun _ _ _ h => h) (Or.inl ⟨by rfl, ?_⟩) (by assumption) ?_
          rotate_left 1
          · (intro w hSw; (try dsimp only at hSw); first | (go_simp; done) | (go_simp; with_reducible rfl))
          try simp only [Act.put, List.getElem_toArray, List.getElem_cons_succ, List.getElem_cons_zero, List.setIfInBounds_toArray, List.set_cons_zero, List.set_cons_succ]
          refine wpAnyH_take (i := 10) (v := ?_) rfl (by kernel_rfl) (by kernel_rfl) (by kernel_rfl) (fun _ _ _ h => h) (Or.inl ⟨by rfl, ?_⟩) (by assumption) ?_
          rotate_left 1
          · (intro w hSw; (try dsimp only at hSw); first | (go_simp; done) | (go_simp; with_reducible rfl))
          try simp only [Act.put, List.getElem_toArray, List.getElem_cons_succ, List.getElem_cons_zero, List.setIfInBounds_toArray, List.set_cons_zero, List.set_cons_succ]
          refine wpAnyH_take (i := 11) (v := ?_) rfl (by kernel_rfl) (by kernel_rfl) (by kernel_rfl) (fun _ _ _ h => h) (Or.inl ⟨by rfl, ?_⟩) (by assumption) ?_
          rotate_left 1
          · (intro w hSw; (try dsimp only at hSw); first | (go_simp; done) | (go_simp; with_reducible rfl))
          try simp only [Act.put, List.getElem_toArray, List.getElem_cons_succ, List.getElem_cons_zero, List.setIfInBounds_toArray, List.set_cons_zero, List.set_cons_succ]
          refine wpAnyH_take (i := 12) (v := ?_) rfl (by kernel_rfl) (by kernel_rfl) (by kernel_rfl) (fun _ _ _ h => h) (Or.inl ⟨by rfl, ?_⟩) (by assumption) ?_
          rotate_left 1
          · (intro w hSw; (try dsimp only at hSw); first | (go_simp; done) | (go_simp; with_reducible rfl))
          try simp only [Act.put, List.getElem_toArray, List.getElem_cons_succ, List.getElem_cons_zero, List.setIfInBounds_toArray, List.set_cons_zero, List.set_cons_succ]
          refine wpAnyH_take (i := 13) (v := ?_) rfl (by kernel_rfl) (by kernel_rfl) (by kernel_rfl) (fun _ _ _ h => h) (Or.inl ⟨by rfl, ?_⟩) (by assumption) ?_
          rotate_left 1
          · (intro w hSw; (try dsimp only at hSw); first | (go_simp; done) | (go_simp; with_reducible rfl))
          try simp only [Act.put, List.getElem_toArray, List.getElem_cons_succ, List.getElem_cons_zero, List.setIfInBounds_toArray, List.set_cons_zero, List.set_cons_succ]
          refine wpAnyH_take (i := 14) (v := ?_) rfl (by kernel_rfl) (by kernel_rfl) (by kernel_rfl) (fun _ _ _ h => h) (Or.inl ⟨by rfl, ?_⟩) (by assumption) ?_
          rotate_left 1
          · (intro w hSw; (try dsimp only at hSw); first | (go_simp; done) | (go_simp; with_reducible rfl))
          try simp only [Act.put, List.getElem_toArray, List.getElem_cons_succ, List.getElem_cons_zero, List.setIfInBounds_toArray, List.set_cons_zero, List.set_cons_succ]
          refine wpAnyH_take (i := 15) (v := ?_) rfl (by kernel_rfl) (by kernel_rfl) (by kernel_rfl) (fun _ _ _ h => h) (Or.inl ⟨by rfl, ?_⟩) (by assumption) ?_
          rotate_left 1
          · (intro w hSw; (try dsimp only at hSw); first | (go_simp; done) | (go_simp; with_reducible rfl))
          try simp only [Act.put, List.getElem_toArray, List.getElem_cons_succ, List.getElem_cons_zero, List.setIfInBounds_toArray, List.set_cons_zero, List.set_cons_succ]
          refine wpAnyH_take (i := 16) (v := ?_) rfl (by kernel_rfl) (by kernel_rfl) (by kernel_rfl) (fun _ _ _ h => h) (Or.inl ⟨by rfl, ?_⟩) (by assumption) ?_
          rotate_left 1
          · (intro w hSw; (try dsimp only at hSw); first | (go_simp; done) | (go_simp; with_reducible rfl))
          try simp only [Act.put, List.getElem_toArray, List.getElem_cons_succ, List.getElem_cons_zero, List.setIfInBounds_toArray, List.set_cons_zero, List.set_cons_succ]
          refine wpAnyH_take (i := 17) (v := ?_) rfl (by kernel_rfl) (by kernel_rfl) (by kernel_rfl) (fun _ _ _ h => h) (Or.inl ⟨by rfl, ?_⟩) (by assumption) ?_
          rotate_left 1
          · (intro w hSw; (try dsimp only at hSw); first | (go_simp; done) | (go_simp; with_reducible rfl))
          try simp only [Act.put, List.getElem_toArray, List.getElem_cons_succ, List.getElem_cons_zero, List.setIfInBounds_toArray, List.set_cons_zero, List.set_cons_succ]
          refine wpAnyH_take (i := 18) (v := ?_) rfl (by kernel_rfl) (by kernel_rfl) (by kernel_rfl) (fun _ _ _ h => h) (Or.inl ⟨by rfl, ?_⟩) (by assumption) ?_
          rotate_left 1
          · (intro w hSw; (try dsimp only at hSw); first | (go_simp; done) | (go_simp; with_reducible rfl))
          try simp only [Act.put, List.getElem_toArray, List.getElem_cons_succ, List.getElem_cons_zero, List.setIfInBounds_toArray, List.set_cons_zero, List.set_cons_succ]
          refine wpAnyH_take (i := 19) (v := ?_) rfl (by kernel_rfl) (by kernel_rfl) (by kernel_rfl) (fun _ _ _ h => h) (Or.inl ⟨by rfl, ?_⟩) (by assumption) ?_
          rotate_left 1
          · (intro w hSw; (try dsimp only at hSw); first | (go_simp; done) | (go_simp; with_reducible rfl))
          try simp only [Act.put, List.getElem_toArray, List.getElem_cons_succ, List.getElem_cons_zero, List.setIfInBounds_toArray, List.set_cons_zero, List.set_cons_succ]
          refine wpAnyH_take (i := 20) (v := ?_) rfl (by kernel_rfl) (by kernel_rfl) (by kernel_rfl) (fun _ _ _ h => h) (Or.inl ⟨by rfl, ?_⟩) (by assumption) ?_
          rotate_left 1
          · (intro w hSw; (try dsimp only at hSw); first | (go_simp; done) | (go_simp; with_reducible rfl))
          try simp only [Act.put, List.getElem_toArray, List.getElem_cons_succ, List.getElem_cons_zero, List.setIfInBounds_toArray, List.set_cons_zero, List.set_cons_succ]
          refine wpAnyH_take (i := 21) (v := ?_) rfl (by kernel_rfl) (by kernel_rfl) (by kernel_rfl) (fun _ _ _ h => h) (Or.inl ⟨by rfl, ?_⟩) (by assumption) ?_
          rotate_left 1
          · (intro w hSw; (try dsimp only at hSw); first | (go_simp; done) | (go_simp; with_reducible rfl))
          try simp only [Act.put, List.getElem_toArray, List.getElem_cons_succ, List.getElem_cons_zero, List.setIfInBounds_toArray, List.set_cons_zero, List.set_cons_succ]
          refine wpAnyH_take (i := 22) (v := ?_) rfl (by kernel_rfl) (by kernel_rfl) (by kernel_rfl) (fun _ _ _ h => h) (Or.inl ⟨by rfl, ?_⟩) (by assumption) ?_
          rotate_left 1
          · (intro w hSw; (try dsimp only at hSw); first | (go_simp; done) | (go_simp; with_reducible rfl))
          try simp only [Act.put, List.getElem_toArray, List.getElem_cons_succ, List.getElem_cons_zero, List.setIfInBounds_toArray, List.set_cons_zero, List.set_cons_succ]
          refine wpAnyH_take (i := 23) (v := ?_) rfl (by kernel_rfl) (by kernel_rfl) (by kernel_rfl) (fun _ _ _ h => h) (Or.inl ⟨by rfl, ?_⟩) (by assumption) ?_
          rotate_left 1
          · (intro w hSw; (try dsimp only at hSw); first | (go_simp; done) | (go_simp; with_reducible rfl))
          try simp only [Act.put, List.getElem_toArray, List.getElem_cons_succ, List.getElem_cons_zero, List.setIfInBounds_toArray, List.set_cons_zero, List.set_cons_succ]
          refine wpAnyH_take (i := 24) (v := undef) rfl (by kernel_rfl) (by kernel_rfl) (by kernel_rfl) (fun _ _ _ h => h) (Or.inr ⟨by rfl, rfl⟩) (by assumption) ?_
          try simp only [Act.put, List.getElem_toArray, List.getElem_cons_succ, List.getElem_cons_zero, List.setIfInBounds_toArray, List.set_cons_zero, List.set_cons_succ]
          refine wpAnyH_take (i := 25) (v := undef) rfl (by kernel_rfl) (by kernel_rfl) (by kernel_rfl) (fun _ _ _ h => h) (Or.inr ⟨by rfl, rfl⟩) (by assumption) ?_
          try simp only [Act.put, List.getElem_toArray, List.getElem_cons_succ, List.getElem_cons_zero, List.setIfInBounds_toArray, List.set_cons_zero, List.set_cons_succ]
          refine wpAnyH_take (i := 26) (v := undef) rfl (by kernel_rfl) (by kernel_rfl) (by kernel_rfl) (fun _ _ _ h => h) (Or.inr ⟨by rfl, rfl⟩) (by assumption) ?_
          try simp only [Act.put, List.getElem_toArray, List.getElem_cons_succ, List.getElem_cons_zero, List.setIfInBounds_toArray, List.set_cons_zero, List.set_cons_succ]
          refine wpAnyH_take (i := 27) (v := undef) rfl (by kernel_rfl) (by kernel_rfl) (by kernel_rfl) (fun _ _ _ h => h) (Or.inr ⟨by rfl, rfl⟩) (by assumption) ?_
          try simp only [Act.put, List.getElem_toArray, List.getElem_cons_succ, List.getElem_cons_zero, List.setIfInBounds_toArray, List.set_cons_zero, List.set_cons_succ]
          refine wpAnyH_take (i := 28) (v := undef) rfl (by kernel_rfl) (by kernel_rfl) (by kernel_rfl) (fun _ _ _ h => h) (Or.inr ⟨by rfl, rfl⟩) (by assumption) ?_
          try simp only [Act.put, List.getElem_toArray, List.getElem_cons_succ, List.getElem_cons_zero, List.setIfInBounds_toArray, List.set_cons_zero, List.set_cons_succ]
          refine wpAnyH_take (i := 29) (v := undef) rfl (by kernel_rfl) (by kernel_rfl) (by kernel_rfl) (fun _ _ _ h => h) (Or.inr ⟨by rfl, rfl⟩) (by assumption) ?_
          try simp only [Act.put, List.getElem_toArray, List.getElem_cons_succ, List.getElem_cons_zero, List.setIfInBounds_toArray, List.set_cons_zero, List.set_cons_succ]
          refine wpAnyH_take (i := 30) (v := undef) rfl (by kernel_rfl) (by kernel_rfl) (by kernel_rfl) (fun _ _ _ h => h) (Or.inr ⟨by rfl, rfl⟩) (by assumption) ?_
          try simp only [Act.put, List.getElem_toArray, List.getElem_cons_succ, List.getElem_cons_zero, List.setIfInBounds_toArray, List.set_cons_zero, List.set_cons_succ]
          refine wpAnyH_take (i := 31) (v := undef) rfl (by kernel_rfl) (by kernel_rfl) (by kernel_rfl) (fun _ _ _ h => h) (Or.inr ⟨by rfl, rfl⟩) (by assumption) ?_
          try simp only [Act.put, List.getElem_toArray, List.getElem_cons_succ, List.getElem_cons_zero, List.setIfInBounds_toArray, List.set_cons_zero, List.set_cons_succ]
          refine wpAnyH_take (i := 32) (v := undef) rfl (by kernel_rfl) (by kernel_rfl) (by kernel_rfl) (fun _ _ _ h => h) (Or.inr ⟨by rfl, rfl⟩) (by assumption) ?_
          try simp only [Act.put, List.getElem_toArray, List.getElem_cons_succ, List.getElem_cons_zero, List.setIfInBounds_toArray, List.set_cons_zero, List.set_cons_succ]
          refine wpAnyH_take (i := 33) (v := ?_) rfl (by kernel_rfl) (by kernel_rfl) (by kernel_rfl) (fun _ _ _ h => h) (Or.inl ⟨by rfl, ?_⟩) (by assumption) ?_
          rotate_left 1
          · (intro w hSw; (try dsimp only at hSw); first | (go_simp; done) | (go_simp; with_reducible rfl))
          try simp only [Act.put, List.getElem_toArray, List.getElem_cons_succ, List.getElem_cons_zero, List.setIfInBounds_toArray, List.set_cons_zero, List.set_cons_succ]
          refine wpAnyH_take (i := 34) (v := ?_) rfl (by kernel_rfl) (by kernel_rfl) (by kernel_rfl) (fun _ _ _ h => h) (Or.inl ⟨by rfl, ?_⟩) (by assumption) ?_
          rotate_left 1
          · (intro w hSw; (try dsimp only at hSw); first | (go_simp; done) | (go_simp; with_reducible rfl))
          try simp only [Act.put, List.getElem_toArray, List.getElem_cons_succ, List.getElem_cons_zero, List.setIfInBounds_toArray, List.set_cons_zero, List.set_cons_succ]
          refine wpAnyH_done (by kernel_rfl) ?_ _
          clear b0 b1 b2 c0 c1 c2
          have HB4 := Lib.hid (Below.drew HB3.out)
          go_wp2_with fail
          go_round
          case rel => exact ⟨1, _, by omega, by go_num, rfl, Lib.hid (bel_trans HB.out HB4.out), Lib.hid (HT.out.below HB4.out), Lib.hid (HR.out.below HB4.out), Lib.hid (HA.out.below HB4.out)⟩
          case measure => simp [intOf] <;> omega
        · obtain ⟨d, hd⟩ : ∃ d, k = d + 1 := ⟨k - 1, by omega⟩
          obtain ⟨pe, hpe⟩ : ∃ pe, L[d]? = some pe := ⟨_, _root_.List.getElem?_eq_getElem (by rw [← HN.out]; omega)⟩
          have hpl := HPN.out d pe (by omega) hpe
          obtain ⟨g', off', hgg, _, _, a2⟩ := (HA.out.below HB3.out).at_ hpe
          injection hgg with hgg
          injection hgg with hg1 hg2 hg3
          subst hg1 hg2
          clear hg3 he
          obtain ⟨py, pr, pn⟩ := pe
          dsimp only at a2 hpl
          have hi1 : decide ((0 : Int) < (k : Int)) = true := by simp; omega
          have hi2 : IntKind.i64.wrap ((k : Int) - 1) = (d : Int) := by rw [IntWalk.i64_in _ (by omega)]; omega
          have hi3 : (0 : Int) ≤ (d : Int) := by omega
          have hi4 : (d : Int) < (n : Int) := by omega
          have hkp : 0 < k := by omega
          have hi5 : decide (en ≤ pn) = false := by simp; omega
          have hi6 : ¬ en ≤ pn := by omega
          clear hpe hd
          go_wp2_with fail
          refine wp_region_held_drew (S := (fun w' => w'.cell? ⟨wr.heap.size, 0, none⟩ = some (.int .i64 ey) ∧ w'.cell? ⟨wr.heap.size, 1, none⟩ = some (.int .i64 er) ∧ w'.cell? ⟨wr.heap.size, 2, none⟩ = some (.int .i64 en) ∧ w'.cell? ⟨w3.heap.size, 0, none⟩ = some (.int .i64 ey) ∧ w'.cell? ⟨w3.heap.size, 1, none⟩ = some (.int .i64 er) ∧ w'.cell? ⟨w3.heap.size, 2, none⟩ = some (.int .i64 en) ∧ w'.cell? ⟨g, off + d * 3 + 2, none⟩ = some (.int .i64 pn))) (by kernel_rfl) (by exact ⟨b0, b1, b2, c0, c1, c2, a2⟩) (fun hHeld => ?_)
          refine wpAnyH_take (i := 0) (v := ?_) rfl (by kernel_rfl) (by kernel_rfl) (by kernel_rfl) (fun _ _ _ h => h) (Or.inl ⟨by rfl, ?_⟩) (by assumption) ?_
          rotate_left 1
          · (intro w hSw; (try dsimp only at hSw); first | (go_simp; done) | (go_simp; with_reducible rfl))
          try simp only [Act.put, List.getElem_toArray, List.getElem_cons_succ, List.getElem_cons_zero, List.setIfInBounds_toArray, List.set_cons_zero, List.set_cons_succ]
          refine wpAnyH_take (i := 1) (v := ?_) rfl (by kernel_rfl) (by kernel_rfl) (by kernel_rfl) (fun _ _ _ h => h) (Or.inl ⟨by rfl, ?_⟩) (by assumption) ?_
          rotate_left 1
          · (intro w hSw; (try dsimp only at hSw); first | (go_simp; done) | (go_simp; with_reducible rfl))
          try simp only [Act.put, List.getElem_toArray, List.getElem_cons_succ, List.getElem_cons_zero, List.setIfInBounds_toArray, List.set_cons_zero, List.set_cons_succ]
          refine wpAnyH_take (i := 2) (v := ?_) rfl (by kernel_rfl) (by kernel_rfl) (by kernel_rfl) (fun _ _ _ h => h) (Or.inl ⟨by rfl, ?_⟩) (by assumption) ?_
          rotate_left 1
          · (intro w hSw; (try dsimp only at hSw); first | (go_simp; done) | (go_simp; with_reducible rfl))
          try simp only [Act.put, List.getElem_toArray, List.getElem_cons_succ, List.getElem_cons_zero, List.setIfInBounds_toArray, List.set_cons_zero, List.set_cons_succ]
          refine wpAnyH_take (i := 3) (v := ?_) rfl (by kernel_rfl) (by kernel_rfl) (by kernel_rfl) (fun _ _ _ h => h) (Or.inl ⟨by rfl, ?_⟩) (by assumption) ?_
          rotate_left 1
          · (intro w hSw; (try dsimp only at hSw); first | (go_simp; done) | (go_simp; with_reducible rfl))
          try simp only [Act.put, List.getElem_toArray, List.getElem_cons_succ, List.getElem_cons_zero, List.setIfInBounds_toArray, List.set_cons_zero, List.set_cons_succ]
          refine wpAnyH_take (i := 4) (v := ?_) rfl (by kernel_rfl) (by kernel_rfl) (by kernel_rfl) (fun _ _ _ h => h) (Or.inl ⟨by rfl, ?_⟩) (by assumption) ?_
          rotate_left 1
          · (intro w hSw; (try dsimp only at hSw); first | (go_simp; done) | (go_simp; with_reducible rfl))
          try simp only [Act.put, List.getElem_toArray, List.getElem_cons_succ, List.getElem_cons_zero, List.setIfInBounds_toArray, List.set_cons_zero, List.set_cons_succ]
          refine wpAnyH_take (i := 5) (v := ?_) rfl (by kernel_rfl) (by kernel_rfl) (by kernel_rfl) (fun _ _ _ h => h) (Or.inl ⟨by rfl, ?_⟩) (by assumption) ?_
          rotate_left 1
          · (intro w hSw; (try dsimp only at hSw); first | (go_simp; done) | (go_simp; with_reducible rfl))
          try simp only [Act.put, List.getElem_toArray, List.getElem_cons_succ, List.getElem_cons_zero, List.setIfInBounds_toArray, List.set_cons_zero, List.set_cons_succ]
          refine wpAnyH_take (i := 6) (v := ?_) rfl (by kernel_rfl) (by kernel_rfl) (by kernel_rfl) (fun _ _ _ h => h) (Or.inl ⟨by rfl, ?_⟩) (by assumption) ?_
          rotate_left 1
          · (intro w hSw; (try dsimp only at hSw); first | (go_simp; done) | (go_simp; with_reducible rfl))
          try simp only [Act.put, List.getElem_toArray, List.getElem_cons_succ, List.getElem_cons_zero, List.setIfInBounds_toArray, List.set_cons_zero, List.set_cons_succ]
          refine wpAnyH_take (i := 7) (v := ?_) rfl (by kernel_rfl) (by kernel_rfl) (by kernel_rfl) (fun _ _ _ h => h) (Or.inl ⟨by rfl, ?_⟩) (by assumption) ?_
          rotate_left 1
          · (intro w hSw; (try dsimp only at hSw); first | (go_simp; done) | (go_simp; with_reducible rfl))
          try simp only [Act.put, List.getElem_toArray, List.getElem_cons_succ, List.getElem_cons_zero, List.setIfInBounds_toArray, List.set_cons_zero, List.set_cons_succ]
          refine wpAnyH_take (i := 8) (v := ?_) rfl (by kernel_rfl) (by kernel_rfl) (by kernel_rfl) (fun _ _ _ h => h) (Or.inl ⟨by rfl, ?_⟩) (by assumption) ?_
          rotate_left 1
          · (intro w hSw; (try dsimp only at hSw); first | (go_simp; done) | (go_simp; with_reducible rfl))
          try simp only [Act.put, List.getElem_toArray, List.getElem_cons_succ, List.getElem_cons_zero, List.setIfInBounds_toArray, List.set_cons_zero, List.set_cons_succ]
          refine wpAnyH_take (i := 9) (v := ?_) rfl (by kernel_rfl) (by kernel_rfl) (by kernel_rfl) (fun _ _ _ h => h) (Or.inl ⟨by rfl, ?_⟩) (by assumption) ?_
          rotate_left 1
          · (intro w hSw; (try dsimp only at hSw); first | (go_simp; done) | (go_simp; with_reducible rfl))
          try simp only [Act.put, List.getElem_toArray, List.getElem_cons_succ, List.getElem_cons_zero, List.setIfInBounds_toArray, List.set_cons_zero, List.set_cons_succ]
          refine wpAnyH_take (i := 10) (v := ?_) rfl (by kernel_rfl) (by kernel_rfl) (by kernel_rfl) (fun _ _ _ h => h) (Or.inl ⟨by rfl, ?_⟩) (by assumption) ?_
          rotate_left 1
          · (intro w hSw; (try dsimp only at hSw); first | (go_simp; done) | (go_simp; with_reducible rfl))
          try simp only [Act.put, List.getElem_toArray, List.getElem_cons_succ, List.getElem_cons_zero, List.setIfInBounds_toArray, List.set_cons_zero, List.set_cons_succ]
          refine wpAnyH_take (i := 11) (v := ?_) rfl (by kernel_rfl) (by kernel_rfl) (by kernel_rfl) (fun _ _ _ h => h) (Or.inl ⟨by rfl, ?_⟩) (by assumption) ?_
          rotate_left 1
          · (intro w hSw; (try dsimp only at hSw); first | (go_simp; done) | (go_simp; with_reducible rfl))
          try simp only [Act.put, List.getElem_toArray, List.getElem_cons_succ, List.getElem_cons_zero, List.setIfInBounds_toArray, List.set_cons_zero, List.set_cons_succ]
          refine wpAnyH_take (i := 12) (v := ?_) rfl (by kernel_rfl) (by kernel_rfl) (by kernel_rfl) (fun _ _ _ h => h) (Or.inl ⟨by rfl, ?_⟩) (by assumption) ?_
          rotate_left 1
          · (intro w hSw; (try dsimp only at hSw); first | (go_simp; done) | (go_simp; with_reducible rfl))
          try simp only [Act.put, List.getElem_toArray, List.getElem_cons_succ, List.getElem_cons_zero, List.setIfInBounds_toArray, List.set_cons_zero, List.set_cons_succ]
          refine wpAnyH_take (i := 13) (v := ?_) rfl (by kernel_rfl) (by kernel_rfl) (by kernel_rfl) (fun _ _ _ h => h) (Or.inl ⟨by rfl, ?_⟩) (by assumption) ?_
          rotate_left 1
          · (intro w hSw; (try dsimp only at hSw); first | (go_simp; done) | (go_simp; with_reducible rfl))
          try simp only [Act.put, List.getElem_toArray, List.getElem_cons_succ, List.getElem_cons_zero, List.setIfInBounds_toArray, List.set_cons_zero, List.set_cons_succ]
          refine wpAnyH_take (i := 14) (v := ?_) rfl (by kernel_rfl) (by kernel_rfl) (by kernel_rfl) (fun _ _ _ h => h) (Or.inl ⟨by rfl, ?_⟩) (by assumption) ?_
          rotate_left 1
          · (intro w hSw; (try dsimp only at hSw); first | (go_simp; done) | (go_simp; with_reducible rfl))
          try simp only [Act.put, List.getElem_toArray, List.getElem_cons_succ, List.getElem_cons_zero, List.setIfInBounds_toArray, List.set_cons_zero, List.set_cons_succ]
          refine wpAnyH_take (i := 15) (v := ?_) rfl (by kernel_rfl) (by kernel_rfl) (by kernel_rfl) (fun _ _ _ h => h) (Or.inl ⟨by rfl, ?_⟩) (by assumption) ?_
          rotate_left 1
          · (intro w hSw; (try dsimp only at hSw); first | (go_simp; done) | (go_simp; with_reducible rfl))
          try simp only [Act.put, List.getElem_toArray, List.getElem_cons_succ, List.getElem_cons_zero, List.setIfInBounds_toArray, List.set_cons_zero, List.set_cons_succ]
          refine wpAnyH_take (i := 16) (v := ?_) rfl (by kernel_rfl) (by kernel_rfl) (by kernel_rfl) (fun _ _ _ h => h) (Or.inl ⟨by rfl, ?_⟩) (by assumption) ?_
          rotate_left 1
          · (intro w hSw; (try dsimp only at hSw); first | (go_simp; done) | (go_simp; with_reducible rfl))
          try simp only [Act.put, List.getElem_toArray, List.getElem_cons_succ, List.getElem_cons_zero, List.setIfInBounds_toArray, List.set_cons_zero, List.set_cons_succ]
          refine wpAnyH_take (i := 17) (v := ?_) rfl (by kernel_rfl) (by kernel_rfl) (by kernel_rfl) (fun _ _ _ h => h) (Or.inl ⟨by rfl, ?_⟩) (by assumption) ?_
          rotate_left 1
          · (intro w hSw; (try dsimp only at hSw); first | (go_simp; done) | (go_simp; with_reducible rfl))
          try simp only [Act.put, List.getElem_toArray, List.getElem_cons_succ, List.getElem_cons_zero, List.setIfInBounds_toArray, List.set_cons_zero, List.set_cons_succ]
          refine wpAnyH_take (i := 18) (v := ?_) rfl (by kernel_rfl) (by kernel_rfl) (by kernel_rfl) (fun _ _ _ h => h) (Or.inl ⟨by rfl, ?_⟩) (by assumption) ?_
          rotate_left 1
          · (intro w hSw; (try dsimp only at hSw); first | (go_simp; done) | (go_simp; with_reducible rfl))
          try simp only [Act.put, List.getElem_toArray, List.getElem_cons_succ, List.getElem_cons_zero, List.setIfInBounds_toArray, List.set_cons_zero, List.set_cons_succ]
          refine wpAnyH_take (i := 19) (v := ?_) rfl (by kernel_rfl) (by kernel_rfl) (by kernel_rfl) (fun _ _ _ h => h) (Or.inl ⟨by rfl, ?_⟩) (by assumption) ?_
          rotate_left 1
          · (intro w hSw; (try dsimp only at hSw); first | (go_simp; done) | (go_simp; with_reducible rfl))
          try simp only [Act.put, List.getElem_toArray, List.getElem_cons_succ, List.getElem_cons_zero, List.setIfInBounds_toArray, List.set_cons_zero, List.set_cons_succ]
          refine wpAnyH_take (i := 20) (v := ?_) rfl (by kernel_rfl) (by kernel_rfl) (by kernel_rfl) (fun _ _ _ h => h) (Or.inl ⟨by rfl, ?_⟩) (by assumption) ?_
          rotate_left 1
          · (intro w hSw; (try dsimp only at hSw); first | (go_simp; done) | (go_simp; with_reducible rfl))
          try simp only [Act.put, List.getElem_toArray, List.getElem_cons_succ, List.getElem_cons_zero, List.setIfInBounds_toArray, List.set_cons_zero, List.set_cons_succ]
          refine wpAnyH_take (i := 21) (v := ?_) rfl (by kernel_rfl) (by kernel_rfl) (by kernel_rfl) (fun _ _ _ h => h) (Or.inl ⟨by rfl, ?_⟩) (by assumption) ?_
          rotate_left 1
          · (intro w hSw; (try dsimp only at hSw); first | (go_simp; done) | (go_simp; with_reducible rfl))
          try simp only [Act.put, List.getElem_toArray, List.getElem_cons_succ, List.getElem_cons_zero, List.setIfInBounds_toArray, List.set_cons_zero, List.set_cons_succ]
          refine wpAnyH_take (i := 22) (v := ?_) rfl (by kernel_rfl) (by kernel_rfl) (by kernel_rfl) (fun _ _ _ h => h) (Or.inl ⟨by rfl, ?_⟩) (by assumption) ?_
          rotate_left 1
          · (intro w hSw; (try dsimp only at hSw); first | (go_simp; done) | (go_simp; with_reducible rfl))
          try simp only [Act.put, List.getElem_toArray, List.getElem_cons_succ, List.getElem_cons_zero, List.setIfInBounds_toArray, List.set_cons_zero, List.set_cons_succ]
          refine wpAnyH_take (i := 23) (v := ?_) rfl (by kernel_rfl) (by kernel_rfl) (by kernel_rfl) (fun _ _ _ h => h) (Or.inl ⟨by rfl, ?_⟩) (by assumption) ?_
          rotate_left 1
          · (intro w hSw; (try dsimp only at hSw); first | (go_simp; done) | (go_simp; with_reducible rfl))
          try simp only [Act.put, List.getElem_toArray, List.getElem_cons_succ, List.getElem_cons_zero, List.setIfInBounds_toArray, List.set_cons_zero, List.set_cons_succ]
          refine wpAnyH_take (i := 24) (v := ?_) rfl (by kernel_rfl) (by kernel_rfl) (by kernel_rfl) (fun _ _ _ h => h) (Or.inl ⟨by rfl, ?_⟩) (by assumption) ?_
          rotate_left 1
          · (intro w hSw; (try dsimp only at hSw); first | (go_simp; done) | (go_simp; with_reducible rfl))
          try simp only [Act.put, List.getElem_toArray, List.getElem_cons_succ, List.getElem_cons_zero, List.setIfInBounds_toArray, List.set_cons_zero, List.set_cons_succ]
          refine wpAnyH_take (i := 25) (v := ?_) rfl (by kernel_rfl) (by kernel_rfl) (by kernel_rfl) (fun _ _ _ h => h) (Or.inl ⟨by rfl, ?_⟩) (by assumption) ?_
          rotate_left 1
          · (intro w hSw; (try dsimp only at hSw); first | (go_simp; done) | (go_simp; with_reducible rfl))
          try simp only [Act.put, List.getElem_toArray, List.getElem_cons_succ, List.getElem_cons_zero, List.setIfInBounds_toArray, List.set_cons_zero, List.set_cons_succ]
          refine wpAnyH_take (i := 26) (v := ?_) rfl (by kernel_rfl) (by kernel_rfl) (by kernel_rfl) (fun _ _ _ h => h) (Or.inl ⟨by rfl, ?_⟩) (by assumption) ?_
          rotate_left 1
          · (intro w hSw; (try dsimp only at hSw); first | (go_simp; done) | (go_simp; with_reducible rfl))
          try simp only [Act.put, List.getElem_toArray, List.getElem_cons_succ, List.getElem_cons_zero, List.setIfInBounds_toArray, List.set_cons_zero, List.set_cons_succ]
          refine wpAnyH_take (i := 27) (v := ?_) rfl (by kernel_rfl) (by kernel_rfl) (by kernel_rfl) (fun _ _ _ h => h) (Or.inl ⟨by rfl, ?_⟩) (by assumption) ?_
          rotate_left 1
          · (intro w hSw; (try dsimp only at hSw); first | (go_simp; done) | (go_simp; with_reducible rfl))
          try simp only [Act.put, List.getElem_toArray, List.getElem_cons_succ, List.getElem_cons_zero, List.setIfInBounds_toArray, List.set_cons_zero, List.set_cons_succ]
          refine wpAnyH_take (i := 28) (v := ?_) rfl (by kernel_rfl) (by kernel_rfl) (by kernel_rfl) (fun _ _ _ h => h) (Or.inl ⟨by rfl, ?_⟩) (by assumption) ?_
          rotate_left 1
          · (intro w hSw; (try dsimp only at hSw); first | (go_simp; done) | (go_simp; with_reducible rfl))
          try simp only [Act.put, List.getElem_toArray, List.getElem_cons_succ, List.getElem_cons_zero, List.setIfInBounds_toArray, List.set_cons_zero, List.set_cons_succ]
          refine wpAnyH_take (i := 29) (v := ?_) rfl (by kernel_rfl) (by kernel_rfl) (by kernel_rfl) (fun _ _ _ h => h) (Or.inl ⟨by rfl, ?_⟩) (by assumption) ?_
          rotate_left 1
          · (intro w hSw; (try dsimp only at hSw); first | (go_simp; done) | (go_simp; with_reducible rfl))
          try simp only [Act.put, List.getElem_toArray, List.getElem_cons_succ, List.getElem_cons_zero, List.setIfInBounds_toArray, List.set_cons_zero, List.set_cons_succ]
          refine wpAnyH_take (i := 30) (v := ?_) rfl (by kernel_rfl) (by kernel_rfl) (by kernel_rfl) (fun _ _ _ h => h) (Or.inl ⟨by rfl, ?_⟩) (by assumption) ?_
          rotate_left 1
          · (intro w hSw; (try dsimp only at hSw); first | (go_simp; done) | (go_simp; with_reducible rfl))
          try simp only [Act.put, List.getElem_toArray, List.getElem_cons_succ, List.getElem_cons_zero, List.setIfInBounds_toArray, List.set_cons_zero, List.set_cons_succ]
          refine wpAnyH_take (i := 31) (v := ?_) rfl (by kernel_rfl) (by kernel_rfl) (by kernel_rfl) (fun _ _ _ h => h) (Or.inl ⟨by rfl, ?_⟩) (by assumption) ?_
          rotate_left 1
          · (intro w hSw; (try dsimp only at hSw); first | (go_simp; done) | (go_simp; with_reducible rfl))
          try simp only [Act.put, List.getElem_toArray, List.getElem_cons_succ, List.getElem_cons_zero, List.setIfInBounds_toArray, List.set_cons_zero, List.set_cons_succ]
          refine wpAnyH_take (i := 32) (v := ?_) rfl (by kernel_rfl) (by kernel_rfl) (by kernel_rfl) (fun _ _ _ h => h) (Or.inl ⟨by rfl, ?_⟩) (by assumption) ?_
          rotate_left 1
          · (intro w hSw; (try dsimp only at hSw); first | (go_simp; done) | (go_simp; with_reducible rfl))
          try simp only [Act.put, List.getElem_toArray, List.getElem_cons_succ, List.getElem_cons_zero, List.setIfInBounds_toArray, List.set_cons_zero, List.set_cons_succ]
          refine wpAnyH_take (i := 33) (v := ?_) rfl (by kernel_rfl) (by kernel_rfl) (by kernel_rfl) (fun _ _ _ h => h) (Or.inl ⟨by rfl, ?_⟩) (by assumption) ?_
          rotate_left 1
          · (intro w hSw; (try dsimp only at hSw); first | (go_simp; done) | (go_simp; with_reducible rfl))
          try simp only [Act.put, List.getElem_toArray, List.getElem_cons_succ, List.getElem_cons_zero, List.setIfInBounds_toArray, List.set_cons_zero, List.set_cons_succ]
          refine wpAnyH_take (i := 34) (v := ?_) rfl (by kernel_rfl) (by kernel_rfl) (by kernel_rfl) (fun _ _ _ h => h) (Or.inl ⟨by rfl, ?_⟩) (by assumption) ?_
          rotate_left 1
          · (intro w hSw; (try dsimp only at hSw); first | (go_simp; done) | (go_simp; with_reducible rfl))
          try simp only [Act.put, List.getElem_toArray, List.getElem_cons_succ, List.getElem_cons_zero, List.setIfInBounds_toArray, List.set_cons_zero, List.set_cons_succ]
          refine wpAnyH_done (by kernel_rfl) ?_ _
          clear a2 b0 b1 b2 c0 c1 c2 hi2
          have HB4 := Lib.hid (Below.drew HB3.out)
          go_wp2_with fail
          go_round
          case rel => exact ⟨k + 1, _, by omega, by go_num, rfl, Lib.hid (bel_trans HB.out HB4.out), Lib.hid (HT.out.below HB4.out), Lib.hid (HR.out.below HB4.out), Lib.hid (HA.out.below HB4.out)⟩
          case measure => simp [intOf] <;> omega
      · obtain rfl : k = n := by omega
        clear hf
        go_wp2_with fail
        go_meet
        case rel => exact ⟨HB, HT, HR, HA⟩
  case rest =>
    have HF := Lib.hid hf
    clear HB HT HR HA hf
    obtain ⟨HB, HT, HR, HA⟩ := hcut
    obtain ⟨i0, hi0, hz0, hzs, hzb⟩ := info_parts infoEv
    have hSE := Lib.hid (show 86400 * S < 86400 * E from steps_SE HS.out HE.out)
    have HLO : Hid (∀ e, IsEv rs e → 86400 * S < e.nom → e.nom < 86400 * E → f - 1 ≤ e.year ∧ e.year ≤ f + 12) := fun e he h1 h2 => steps_year HMP.out HS.out HE.out he h1 h2
    obtain ⟨w2, hw2⟩ : ∃ w2 : World, w2 = wc := ⟨_, rfl⟩
    rw [← hw2] at HB HT HR HA ⊢
    clear hw2
    go_upto_block 2 with fail
    go_cut [18, 19] (fun s V w' => ∃ (q : Nat) (LW : _root_.List Ev) (AV : Option Addr) (cV : Nat), q ≤ 28 ∧ s = .int .i64 (q : Int) ∧ V = .slice AV q cV ∧ Hid (q = LW.length) ∧ Hid (∀ e, IsEv rs e → 86400 * S < e.nom → e.nom < 86400 * E → e ∈ LW) ∧ Hid (∀ e ∈ LW, IsEv rs e ∧ 86400 * S < e.nom ∧ e.nom < 86400 * E) ∧ Hid (∃ last, Wk rs (86400 * S) last LW) ∧ Hid (RdEv (.slice AV q cV) LW w') ∧ Hid (Below w2.heap.size w2 w'))
    case first =>
      go_wp2_with fail
      go_loopw [17, 18, 19] (fun l s v wr => ∃ (q : Nat) (last : Int) (LW : _root_.List Ev) (wq : World), q ≤ 28 ∧ l = .int .i64 last ∧ S * 86400 ≤ last ∧ last ≤ 10000000000 ∧ s = .int .i64 (q : Int) ∧ wr = wq ∧ Hid (q = LW.length) ∧ Hid (wq.ownsRow w2.heap.size 34 3 v LW.length (flatEv LW)) ∧ Hid (Below w2.heap.size w2 wq) ∧ Hid (Wk rs (86400 * S) last LW) ∧ Hid (last < 86400 * E)) (fun _ s _ _ => 60 - (intOf s).toNat)
      case atStart => exact ⟨0, S * 86400, [], _, by omega, rfl, by omega, by omega, rfl, rfl, Lib.hid rfl, Lib.hid (World.ownsRow_nil _ _ _ _), Lib.hid (Below.refl _ _), Lib.hid (by rw [show S * 86400 = 86400 * S by omega]; exact wk_nil _ _), Lib.hid (by have := hSE.out; omega)⟩
      case round =>
        obtain ⟨q, last, LW, wq, hq28, rfl, hl1, hl2, rfl, rfl, HQ, HO, HBq, HW, HLE⟩ := hrel
        have hq60 : decide ((q : Int) < 60) = true := by simp; omega
        have hq61 : (q : Int) < 60 := by omega
        go_wp2_with fail
        refine (evAfter_any _ rs last _ (by exact HT.out.below HBq.out) (by exact HR.out.below HBq.out) (by omega) (by omega)).mono ?_
        intro e w3 hq; obtain ⟨o, ho, he, hb⟩ := hq
        have HB3 := Lib.hid (bel_trans HBq.out hb)
        have HO3 := Lib.hid (own_below HO.out hb)
        clear hb
        cases o with
        | none =>
          obtain rfl : e = .returned (.tuple #[.agg #[.int .i64 0, .int .i64 0, .int .i64 0], .bool false]) := he
          obtain ⟨AV, cV, rfl⟩ := (RdEv.own HO3.out).sl
          have HEX := Lib.hid (steps_none (E := E) HW.out ho.out)
          have HRD := Lib.hid (RdEv.own HO3.out)
          rw [← HQ.out] at HRD ⊢
          go_wp2_with fail
          go_meet
          case rel => exact ⟨q, LW, AV, cV, by omega, rfl, rfl, HQ, HEX, Lib.hid (fun e he => by have h1 := (HW.out.2 e).1 he; have h2 := HLE.out; exact ⟨h1.1, h1.2.1, by omega⟩), Lib.hid ⟨_, HW.out⟩, Lib.hid (HRD.out.below (bel_alloc _ _)), Lib.hid (bel_trans HB3.out (bel_alloc _ _))⟩
        | some x =>
          obtain ⟨xy, xr, xn⟩ := x
          obtain rfl : e = .returned (.tuple #[.agg #[.int .i64 xy, .int .i64 xr, .int .i64 xn], .bool true]) := he
          obtain ⟨hn1, hn2⟩ := nom_fits ho.out.1
          have hlx := ho.out.2.1
          dsimp only at hn1 hn2 hlx
          by_cases hx : E * 86400 ≤ xn
          · obtain ⟨AV, cV, rfl⟩ := (RdEv.own HO3.out).sl
            have HEX := Lib.hid (steps_far (E := E) HMP.out HW.out ho.out (by dsimp only; omega))
            have HRD := Lib.hid (RdEv.own HO3.out)
            rw [← HQ.out] at HRD ⊢
            go_wp2_with fail
            go_meet
            case rel => exact ⟨q, LW, AV, cV, by omega, rfl, rfl, HQ, HEX, Lib.hid (fun e he => by have h1 := (HW.out.2 e).1 he; have h2 := HLE.out; exact ⟨h1.1, h1.2.1, by omega⟩), Lib.hid ⟨_, HW.out⟩, Lib.hid (HRD.out.below (bel_alloc _ _)), Lib.hid (bel_trans HB3.out (bel_alloc _ _))⟩
          · have HW2 := Lib.hid (wk_step HMP.out HW.out (by omega) ho.out)
            have HL2 := Lib.hid (wk_len (a := f - 1) (b := f + 12) HMP.out HW2.out (fun e he h1 h2 => HLO.out e he h1 (by dsimp only at h2; omega)) (by omega))
            have hnb : some w3.heap.size ≠ u19.ownBlock := fun h => by have := HO3.out.lt _ h.symm; omega
            have K := Lib.hid (heap_alloc_new w3 (.cells #[.int .i64 xy, .int .i64 xr, .int .i64 xn] 34))
            have x0 := cellB K.out (i := 0) rfl
            have x1 := cellB K.out (i := 1) rfl
            have x2 := cellB K.out (i := 2) rfl
            have x0 := frzB K.out 0
            have x1 := frzB K.out 1
            have x2 := frzB K.out 2
            have hxd : decide (E * 86400 ≤ xn) = false := by simp; omega
            have hxe : decide (xn ≤ last) = false := by simp; omega
            have hq29 : q + 1 ≤ 28 := by
              have := HL2.out
              rw [_root_.List.length_append] at this
              have := HQ.out
              simp at *
              omega
            go_wp2_with fail
            go_region_held3 (fun w' => w'.cell? ⟨w3.heap.size, 0, none⟩ = some (.int .i64 xy) ∧ w'.cell? ⟨w3.heap.size, 1, none⟩ = some (.int .i64 xr) ∧ w'.cell? ⟨w3.heap.size, 2, none⟩ = some (.int .i64 xn))
              (first
                | go_keep
                | (go_split_ands
                   refine ⟨?_, ?_, ?_⟩
                   · (rw [hgrow.cell_far _ (by simp; omega) hnb]; assumption)
                   · (rw [hgrow.cell_far _ (by simp; omega) hnb]; assumption)
                   · (rw [hgrow.cell_far _ (by simp; omega) hnb]; assumption)))
              ((refine step_append_lies _ (by rfl) _ _ _ (by rfl) w2.heap.size 34 i0 _ 3 24 Tryd.underlying48 hi0 hz0 hzs hzb rfl (by omega) u19 LW.length (flatEv LW) (by rfl) (((HO3.out.alloc _).alloc _).drew)
                  ⟨w3.heap.size + 1, 0, none⟩ 1 1 [.int .i64 xy, .int .i64 xr, .int .i64 xn] (by rfl) (by rfl) (World.news_of_block (cs := #[.int .i64 xy, .int .i64 xr, .int .i64 xn]) (t := 34) (fr := (0, 0)) (heap_alloc2_new w3 _ _)) (by simp [Value.oneCell'])
                  (by omega) (by unfold maxLen; have := HQ.out; omega) (by have := HQ.out; omega) (by have := HB3.out.size; simp; omega) (w3.heap.size + 1 + 1) (by simp) ?_; intro gg cap w1 hown1 hgrow hat hlt))
            go_wp2_with fail
            go_round
            case rel => exact ⟨q + 1, xn, LW ++ [⟨xy, xr, xn⟩], _, by omega, rfl, by omega, by omega, by go_num, rfl, Lib.hid (by rw [_root_.List.length_append, ← HQ.out]; rfl), Lib.hid (by rw [flatEv_snoc, _root_.List.length_append]; exact hown1), Lib.hid (Below.grown (bel_trans HB3.out (bel_drew (bel_trans (bel_alloc _ _) (bel_alloc _ _)) 1)) hgrow (by have := HB3.out.size; simp; omega) (fun k hk => (HO3.out.lt k hk).1)), HW2, Lib.hid (by omega)⟩
            case measure => simp [intOf] <;> omega
    case rest =>
      obtain ⟨q, LW, AV, cV, hq28, rfl, rfl, HQ, HEX, HIS, HWK, HV, HB2⟩ := hcut
      obtain ⟨w3, hw3⟩ : ∃ w3 : World, w3 = wc := ⟨_, rfl⟩
      rw [← hw3] at HV HB2 ⊢
      clear hw3
      have HB := Lib.hid (bel_trans HB.out HB2.out)
      have HT := Lib.hid (HT.out.below HB2.out)
      have HR := Lib.hid (HR.out.below HB2.out)
      have HA := Lib.hid (HA.out.below HB2.out)
      clear HB2
      go_upto_block 4 with fail
      go_cut [] (fun w' => Hid (Below W.heap.size W w') ∧ Hid (Tabs w') ∧ Hid (Rul (.slice Al nl cl) rs w') ∧ Hid (RdEv (.slice Aa n ca) L w') ∧ Hid (RdEv (.slice AV q cV) LW w'))
      case first =>
        go_wp2_with fail
        go_loopw [22] (fun s wr => ∃ (z : Int) (wq : World), -1 ≤ z ∧ z < (q : Int) ∧ s = .int .i64 z ∧ wr = wq ∧ Hid (Below W.heap.size W wq) ∧ Hid (Tabs wq) ∧ Hid (Rul (.slice Al nl cl) rs wq) ∧ Hid (RdEv (.slice Aa n ca) L wq) ∧ Hid (RdEv (.slice AV q cV) LW wq)) (fun s _ => (intOf s + 1).toNat)
        case atStart => exact ⟨(q : Int) - 1, _, by omega, by omega, rfl, rfl, HB, HT, HR, HA, HV⟩
        case round =>
          clear HB HT HR HA HV
          obtain ⟨z, wq, hz1, hz2, rfl, rfl, HB, HT, HR, HA, HV⟩ := hrel
          by_cases hz : 0 ≤ z
          · obtain ⟨d, hd⟩ : ∃ d : Nat, (d : Int) = z := ⟨z.toNat, by omega⟩
            subst hd
            obtain ⟨x, hx⟩ : ∃ x, LW[d]? = some x := ⟨_, _root_.List.getElem?_eq_getElem (by rw [← HQ.out]; omega)⟩
            obtain ⟨g, off, rfl, a0, a1, a2⟩ := HV.out.at_ hx
            have hev := Lib.hid (HIS.out x (_root_.List.mem_of_getElem? hx)).1
            have hin := Lib.hid (HIS.out x (_root_.List.mem_of_getElem? hx)).2
            obtain ⟨hn1, hn2⟩ := nom_fits hev.out
            obtain ⟨xy, xr, xn⟩ := x
            have HX := Lib.hid hx
            dsimp only at a0 a1 a2 hn1 hn2
            clear hx
            go_wp2_with fail
            refine (evBefore_any _ rs (xn + 1) _ (by exact HT.out) (by exact HR.out) (by omega) (by omega)).mono ?_
            intro e w3 hq; obtain ⟨rfl, hb⟩ := LookR.bef (v := .tuple #[.agg #[.int .i64 xy, .int .i64 xr, .int .i64 xn], .bool true]) (bef_at HMP.out hev.out) rfl _ _ hq; clear hq
            have HB3 := Lib.hid (bel_trans hb (bel_alloc w3 (.cells #[.int .i64 xy, .int .i64 xr, .int .i64 xn] 34)))
            have K1 := Lib.hid (heap_alloc_new w3 (.cells #[.int .i64 xy, .int .i64 xr, .int .i64 xn] 34))
            clear a0 a1 a2 hb
            obtain ⟨a0, a1, a2⟩ := RdEv.ce (HV.out.below HB3.out) HX.out
            dsimp only at a0 a1 a2
            have b0 := cellB K1.out (i := 0) rfl
            have b1 := cellB K1.out (i := 1) rfl
            have b2 := cellB K1.out (i := 2) rfl
            go_wp2_with fail
            refine wp_region_held_drew (S := (fun w' => w'.cell? ⟨w3.heap.size, 0, none⟩ = some (.int .i64 xy) ∧ w'.cell? ⟨w3.heap.size, 1, none⟩ = some (.int .i64 xr) ∧ w'.cell? ⟨w3.heap.size, 2, none⟩ = some (.int .i64 xn) ∧ w'.cell? ⟨g, off + d * 3, none⟩ = some (.int .i64 xy) ∧ w'.cell? ⟨g, off + d * 3 + 1, none⟩ = some (.int .i64 xr) ∧ w'.cell? ⟨g, off + d * 3 + 2, none⟩ = some (.int .i64 xn))) (by kernel_rfl) (by exact ⟨b0, b1, b2, a0, a1, a2⟩) (fun hHeld => ?_)
            refine wpAnyH_take (i := 0) (v := ?_) rfl (by kernel_rfl) (by kernel_rfl) (by kernel_rfl) (fun _ _ _ h => h) (Or.inl ⟨by rfl, ?_⟩) (by assumption) ?_
            rotate_left 1
            · (intro w hSw; (try dsimp only at hSw); first | (go_simp; done) | (go_simp; with_reducible rfl))
            try simp only [Act.put, List.getElem_toArray, List.getElem_cons_succ, List.getElem_cons_zero, List.setIfInBounds_toArray, List.set_cons_zero, List.set_cons_succ]
            refine wpAnyH_take (i := 1) (v := ?_) rfl (by kernel_rfl) (by kernel_rfl) (by kernel_rfl) (fun _ _ _ h => h) (Or.inl ⟨by rfl, ?_⟩) (by assumption) ?_
            rotate_left 1
            · (intro w hSw; (try dsimp only at hSw); first | (go_simp; done) | (go_simp; with_reducible rfl))
            try simp only [Act.put, List.getElem_toArray, List.getElem_cons_succ, List.getElem_cons_zero, List.setIfInBounds_toArray, List.set_cons_zero, List.set_cons_succ]
            refine wpAnyH_take (i := 2) (v := ?_) rfl (by kernel_rfl) (by kernel_rfl) (by kernel_rfl) (fun _ _ _ h => h) (Or.inl ⟨by rfl, ?_⟩) (by assumption) ?_
            rotate_left 1
            · (intro w hSw; (try dsimp only at hSw); first | (go_simp; done) | (go_simp; with_reducible rfl))
            try simp only [Act.put, List.getElem_toArray, List.getElem_cons_succ, List.getElem_cons_zero, List.setIfInBounds_toArray, List.set_cons_zero, List.set_cons_succ]
            refine wpAnyH_take (i := 3) (v := ?_) rfl (by kernel_rfl) (by kernel_rfl) (by kernel_rfl) (fun _ _ _ h => h) (Or.inl ⟨by rfl, ?_⟩) (by assumption) ?_
            rotate_left 1
            · (intro w hSw; (try dsimp only at hSw); first | (go_simp; done) | (go_simp; with_reducible rfl))
            try simp only [Act.put, List.getElem_toArray, List.getElem_cons_succ, List.getElem_cons_zero, List.setIfInBounds_toArray, List.set_cons_zero, List.set_cons_succ]
            refine wpAnyH_take (i := 4) (v := ?_) rfl (by kernel_rfl) (by kernel_rfl) (by kernel_rfl) (fun _ _ _ h => h) (Or.inl ⟨by rfl, ?_⟩) (by assumption) ?_
            rotate_left 1
            · (intro w hSw; (try dsimp only at hSw); first | (go_simp; done) | (go_simp; with_reducible rfl))
            try simp only [Act.put, List.getElem_toArray, List.getElem_cons_succ, List.getElem_cons_zero, List.setIfInBounds_toArray, List.set_cons_zero, List.set_cons_succ]
            refine wpAnyH_take (i := 5) (v := ?_) rfl (by kernel_rfl) (by kernel_rfl) (by kernel_rfl) (fun _ _ _ h => h) (Or.inl ⟨by rfl, ?_⟩) (by assumption) ?_
            rotate_left 1
            · (intro w hSw; (try dsimp only at hSw); first | (go_simp; done) | (go_simp; with_reducible rfl))
            try simp only [Act.put, List.getElem_toArray, List.getElem_cons_succ, List.getElem_cons_zero, List.setIfInBounds_toArray, List.set_cons_zero, List.set_cons_succ]
            refine wpAnyH_take (i := 6) (v := ?_) rfl (by kernel_rfl) (by kernel_rfl) (by kernel_rfl) (fun _ _ _ h => h) (Or.inl ⟨by rfl, ?_⟩) (by assumption) ?_
            rotate_left 1
            · (intro w hSw; (try dsimp only at hSw); first | (go_simp; done) | (go_simp; with_reducible rfl))
            try simp only [Act.put, List.getElem_toArray, List.getElem_cons_succ, List.getElem_cons_zero, List.setIfInBounds_toArray, List.set_cons_zero, List.set_cons_succ]
            refine wpAnyH_take (i := 7) (v := ?_) rfl (by kernel_rfl) (by kernel_rfl) (by kernel_rfl) (fun _ _ _ h => h) (Or.inl ⟨by rfl, ?_⟩) (by assumption) ?_
            rotate_left 1
            · (intro w hSw; (try dsimp only at hSw); first | (go_simp; done) | (go_simp; with_reducible rfl))
            try simp only [Act.put, List.getElem_toArray, List.getElem_cons_succ, List.getElem_cons_zero, List.setIfInBounds_toArray, List.set_cons_zero, List.set_cons_succ]
            refine wpAnyH_take (i := 8) (v := ?_) rfl (by kernel_rfl) (by kernel_rfl) (by kernel_rfl) (fun _ _ _ h => h) (Or.inl ⟨by rfl, ?_⟩) (by assumption) ?_
            rotate_left 1
            · (intro w hSw; (try dsimp only at hSw); first | (go_simp; done) | (go_simp; with_reducible rfl))
            try simp only [Act.put, List.getElem_toArray, List.getElem_cons_succ, List.getElem_cons_zero, List.setIfInBounds_toArray, List.set_cons_zero, List.set_cons_succ]
            refine wpAnyH_take (i := 9) (v := ?_) rfl (by kernel_rfl) (by kernel_rfl) (by kernel_rfl) (fun _ _ _ h => h) (Or.inl ⟨by rfl, ?_⟩) (by assumption) ?_
            rotate_left 1
            · (intro w hSw; (try dsimp only at hSw); first | (go_simp; done) | (go_simp; with_reducible rfl))
            try simp only [Act.put, List.getElem_toArray, List.getElem_cons_succ, List.getElem_cons_zero, List.setIfInBounds_toArray, List.set_cons_zero, List.set_cons_succ]
            refine wpAnyH_done (by kernel_rfl) ?_ _
            clear a0 a1 a2 b0 b1 b2
            have HB4 := Lib.hid (Below.drew HB3.out)
            have K1 := Lib.hid (show (w3.alloc (.cells #[.int .i64 xy, .int .i64 xr, .int .i64 xn] 34)).drew.heap[w3.heap.size]? = some (.cells #[.int .i64 xy, .int .i64 xr, .int .i64 xn] 34) from K1.out)
            obtain ⟨a0, a1, a2⟩ := RdEv.ce (HV.out.below HB4.out) HX.out
            dsimp only at a0 a1 a2
            clear HB3
            by_cases hd0 : d = 0
            · subst hd0
              go_wp2_with fail
              refine (evBefore_any _ rs xn _ (by exact HT.out.below HB4.out) (by exact HR.out.below HB4.out) (by omega) (by omega)).mono ?_
              intro e w4 hq
              obtain ⟨o, _, he, hb4⟩ := hq
              obtain ⟨py, pr, pn, pb, hv, _⟩ := evV_exs o
              rw [hv] at he
              subst he
              have HB5 := Lib.hid (bel_trans HB4.out hb4)
              clear a0 a1 a2 hv
              have K2 := Lib.hid (block_below K1.out (bel_trans hb4 (bel_alloc w4 (.cells #[.int .i64 py, .int .i64 pr, .int .i64 pn] 34))))
              have b0 := cellB K2.out (i := 0) rfl
              have b1 := cellB K2.out (i := 1) rfl
              have b2 := cellB K2.out (i := 2) rfl
              go_wp2_with fail
              refine wp_region_held_drew (S := (fun w' => w'.cell? ⟨w3.heap.size, 0, none⟩ = some (.int .i64 xy) ∧ w'.cell? ⟨w3.heap.size, 1, none⟩ = some (.int .i64 xr) ∧ w'.cell? ⟨w3.heap.size, 2, none⟩ = some (.int .i64 xn))) (by kernel_rfl) (by exact ⟨b0, b1, b2⟩) (fun hHeld => ?_)
              refine wpAnyH_take (i := 0) (v := ?_) rfl (by kernel_rfl) (by kernel_rfl) (by kernel_rfl) (fun _ _ _ h => h) (Or.inl ⟨by rfl, ?_⟩) (by assumption) ?_
              rotate_left 1
              · (intro w hSw; (try dsimp only at hSw); first | (go_simp; done) | (go_simp; with_reducible rfl))
              try simp only [Act.put, List.getElem_toArray, List.getElem_cons_succ, List.getElem_cons_zero, List.setIfInBounds_toArray, List.set_cons_zero, List.set_cons_succ]
              refine wpAnyH_take (i := 1) (v := ?_) rfl (by kernel_rfl) (by kernel_rfl) (by kernel_rfl) (fun _ _ _ h => h) (Or.inl ⟨by rfl, ?_⟩) (by assumption) ?_
              rotate_left 1
              · (intro w hSw; (try dsimp only at hSw); first | (go_simp; done) | (go_simp; with_reducible rfl))
              try simp only [Act.put, List.getElem_toArray, List.getElem_cons_succ, List.getElem_cons_zero, List.setIfInBounds_toArray, List.set_cons_zero, List.set_cons_succ]
              refine wpAnyH_take (i := 2) (v := ?_) rfl (by kernel_rfl) (by kernel_rfl) (by kernel_rfl) (fun _ _ _ h => h) (Or.inl ⟨by rfl, ?_⟩) (by assumption) ?_
              rotate_left 1
              · (intro w hSw; (try dsimp only at hSw); first | (go_simp; done) | (go_simp; with_reducible rfl))
              try simp only [Act.put, List.getElem_toArray, List.getElem_cons_succ, List.getElem_cons_zero, List.setIfInBounds_toArray, List.set_cons_zero, List.set_cons_succ]
              refine wpAnyH_take (i := 3) (v := undef) rfl (by kernel_rfl) (by kernel_rfl) (by kernel_rfl) (fun _ _ _ h => h) (Or.inr ⟨by rfl, rfl⟩) (by assumption) ?_
              try simp only [Act.put, List.getElem_toArray, List.getElem_cons_succ, List.getElem_cons_zero, List.setIfInBounds_toArray, List.set_cons_zero, List.set_cons_succ]
              refine wpAnyH_take (i := 4) (v := undef) rfl (by kernel_rfl) (by kernel_rfl) (by kernel_rfl) (fun _ _ _ h => h) (Or.inr ⟨by rfl, rfl⟩) (by assumption) ?_
              try simp only [Act.put, List.getElem_toArray, List.getElem_cons_succ, List.getElem_cons_zero, List.setIfInBounds_toArray, List.set_cons_zero, List.set_cons_succ]
              refine wpAnyH_take (i := 5) (v := undef) rfl (by kernel_rfl) (by kernel_rfl) (by kernel_rfl) (fun _ _ _ h => h) (Or.inr ⟨by rfl, rfl⟩) (by assumption) ?_
              try simp only [Act.put, List.getElem_toArray, List.getElem_cons_succ, List.getElem_cons_zero, List.setIfInBounds_toArray, List.set_cons_zero, List.set_cons_succ]
              refine wpAnyH_take (i := 6) (v := undef) rfl (by kernel_rfl) (by kernel_rfl) (by kernel_rfl) (fun _ _ _ h => h) (Or.inr ⟨by rfl, rfl⟩) (by assumption) ?_
              try simp only [Act.put, List.getElem_toArray, List.getElem_cons_succ, List.getElem_cons_zero, List.setIfInBounds_toArray, List.set_cons_zero, List.set_cons_succ]
              refine wpAnyH_take (i := 7) (v := undef) rfl (by kernel_rfl) (by kernel_rfl) (by kernel_rfl) (fun _ _ _ h => h) (Or.inr ⟨by rfl, rfl⟩) (by assumption) ?_
              try simp only [Act.put, List.getElem_toArray, List.getElem_cons_succ, List.getElem_cons_zero, List.setIfInBounds_toArray, List.set_cons_zero, List.set_cons_succ]
              refine wpAnyH_take (i := 8) (v := undef) rfl (by kernel_rfl) (by kernel_rfl) (by kernel_rfl) (fun _ _ _ h => h) (Or.inr ⟨by rfl, rfl⟩) (by assumption) ?_
              try simp only [Act.put, List.getElem_toArray, List.getElem_cons_succ, List.getElem_cons_zero, List.setIfInBounds_toArray, List.set_cons_zero, List.set_cons_succ]
              refine wpAnyH_take (i := 9) (v := undef) rfl (by kernel_rfl) (by kernel_rfl) (by kernel_rfl) (fun _ _ _ h => h) (Or.inr ⟨by rfl, rfl⟩) (by assumption) ?_
              try simp only [Act.put, List.getElem_toArray, List.getElem_cons_succ, List.getElem_cons_zero, List.setIfInBounds_toArray, List.set_cons_zero, List.set_cons_succ]
              refine wpAnyH_take (i := 10) (v := undef) rfl (by kernel_rfl) (by kernel_rfl) (by kernel_rfl) (fun _ _ _ h => h) (Or.inr ⟨by rfl, rfl⟩) (by assumption) ?_
              try simp only [Act.put, List.getElem_toArray, List.getElem_cons_succ, List.getElem_cons_zero, List.setIfInBounds_toArray, List.set_cons_zero, List.set_cons_succ]
              refine wpAnyH_take (i := 11) (v := undef) rfl (by kernel_rfl) (by kernel_rfl) (by kernel_rfl) (fun _ _ _ h => h) (Or.inr ⟨by rfl, rfl⟩) (by assumption) ?_
              try simp only [Act.put, List.getElem_toArray, List.getElem_cons_succ, List.getElem_cons_zero, List.setIfInBounds_toArray, List.set_cons_zero, List.set_cons_succ]
              refine wpAnyH_take (i := 12) (v := undef) rfl (by kernel_rfl) (by kernel_rfl) (by kernel_rfl) (fun _ _ _ h => h) (Or.inr ⟨by rfl, rfl⟩) (by assumption) ?_
              try simp only [Act.put, List.getElem_toArray, List.getElem_cons_succ, List.getElem_cons_zero, List.setIfInBounds_toArray, List.set_cons_zero, List.set_cons_succ]
              refine wpAnyH_take (i := 13) (v := undef) rfl (by kernel_rfl) (by kernel_rfl) (by kernel_rfl) (fun _ _ _ h => h) (Or.inr ⟨by rfl, rfl⟩) (by assumption) ?_
              try simp only [Act.put, List.getElem_toArray, List.getElem_cons_succ, List.getElem_cons_zero, List.setIfInBounds_toArray, List.set_cons_zero, List.set_cons_succ]
              refine wpAnyH_take (i := 14) (v := ?_) rfl (by kernel_rfl) (by kernel_rfl) (by kernel_rfl) (fun _ _ _ h => h) (Or.inl ⟨by rfl, ?_⟩) (by assumption) ?_
              rotate_left 1
              · (intro w hSw; (try dsimp only at hSw); first | (go_simp; done) | (go_simp; with_reducible rfl))
              try simp only [Act.put, List.getElem_toArray, List.getElem_cons_succ, List.getElem_cons_zero, List.setIfInBounds_toArray, List.set_cons_zero, List.set_cons_succ]
              refine wpAnyH_done (by kernel_rfl) ?_ _
              clear b0 b1 b2
              have HBE := Lib.hid (Below.drew (bel_trans HB5.out (bel_alloc w4 (.cells #[.int .i64 py, .int .i64 pr, .int .i64 pn] 34))))
              have K1 := Lib.hid (block_below K1.out (Below.drew (bel_trans hb4 (bel_alloc w4 (.cells #[.int .i64 py, .int .i64 pr, .int .i64 pn] 34)))))
              clear hb4
              have y0 := cellB K1.out (i := 0) rfl
              have y1 := cellB K1.out (i := 1) rfl
              have y2 := cellB K1.out (i := 2) rfl
              by_cases hyr : 1890 + p ≤ xy
              · have hyd : decide (1890 + p ≤ xy) = true := by simp; omega
                have HXL := Lib.hid ((HI.out.2 _).2 ⟨hev.out, by have := HF.out; dsimp only; omega, by have := (HLO.out _ hev.out hin.out.1 hin.out.2).2; dsimp only at this ⊢; omega⟩)
                go_wp2_with fail
                refine (containsEv_any _ L ⟨xy, xr, xn⟩ _ (by exact HA.out.below HBE.out) (by have := HLL.out; have := HN.out; omega) HXL.out).mono ?_
                rintro e w5 ⟨rfl, hb⟩
                have HBF := Lib.hid (bel_trans HBE.out hb)
                clear hb y0 y1 y2
                go_wp2_with fail
                go_round
                case rel => exact ⟨-1, _, by omega, by omega, rfl, rfl, Lib.hid (bel_trans HB.out HBF.out), Lib.hid (HT.out.below HBF.out), Lib.hid (HR.out.below HBF.out), Lib.hid (HA.out.below HBF.out), Lib.hid (HV.out.below HBF.out)⟩
                case measure => simp [intOf] <;> omega
              · have hyd : decide (1890 + p ≤ xy) = false := by simp; omega
                go_wp2_with fail
                clear y0 y1 y2
                go_round
                case rel => exact ⟨-1, _, by omega, by omega, rfl, rfl, Lib.hid (bel_trans HB.out HBE.out), Lib.hid (HT.out.below HBE.out), Lib.hid (HR.out.below HBE.out), Lib.hid (HA.out.below HBE.out), Lib.hid (HV.out.below HBE.out)⟩
                case measure => simp [intOf] <;> omega
            · obtain ⟨c, hc⟩ : ∃ c, d = c + 1 := ⟨d - 1, by omega⟩
              obtain ⟨pe, hpe⟩ : ∃ pe, LW[c]? = some pe := ⟨_, _root_.List.getElem?_eq_getElem (by rw [← HQ.out]; omega)⟩
              have HPE := Lib.hid hpe
              have HPB := Lib.hid (show BefIs rs xn (some pe) from by
                obtain ⟨last, hwk⟩ := HWK.out
                have h2 := HX.out
                rw [hc] at h2
                exact bef_prev HMP.out hwk hpe h2)
              obtain ⟨py, pr, pn⟩ := pe
              have hi1 : decide ((0 : Int) < (d : Int)) = true := by simp; omega
              have hi2 : IntKind.i64.wrap ((d : Int) - 1) = (c : Int) := by rw [IntWalk.i64_in _ (by omega)]; omega
              have hi3 : (0 : Int) ≤ (c : Int) := by omega
              have hi4 : (c : Int) < (q : Int) := by omega
              have hdp : 0 < d := by omega
              have HI2 := Lib.hid hi2
              clear hpe hc hi2
              go_wp2_with fail
              refine (evBefore_any _ rs xn _ (by exact HT.out.below HB4.out) (by exact HR.out.below HB4.out) (by omega) (by omega)).mono ?_
              intro e w4 hq
              obtain ⟨rfl, hb4⟩ := LookR.bef (v := .tuple #[.agg #[.int .i64 py, .int .i64 pr, .int .i64 pn], .bool true]) HPB.out rfl _ _ hq
              have HB5 := Lib.hid (bel_trans HB4.out hb4)
              clear a0 a1 a2 hq
              obtain ⟨a0, a1, a2⟩ := RdEv.ce (HV.out.below (bel_trans HB5.out (bel_alloc w4 (.cells #[.int .i64 py, .int .i64 pr, .int .i64 pn] 34)))) HPE.out
              dsimp only at a0 a1 a2
              have K2 := Lib.hid (heap_alloc_new w4 (.cells #[.int .i64 py, .int .i64 pr, .int .i64 pn] 34))
              have b0 := cellB K2.out (i := 0) rfl
              have b1 := cellB K2.out (i := 1) rfl
              have b2 := cellB K2.out (i := 2) rfl
              have hi2 := HI2.out
              go_wp2_with fail
              refine wp_region_held_drew (S := (fun w' => w'.cell? ⟨w4.heap.size, 0, none⟩ = some (.int .i64 py) ∧ w'.cell? ⟨w4.heap.size, 1, none⟩ = some (.int .i64 pr) ∧ w'.cell? ⟨w4.heap.size, 2, none⟩ = some (.int .i64 pn) ∧ w'.cell? ⟨g, off + c * 3, none⟩ = some (.int .i64 py) ∧ w'.cell? ⟨g, off + c * 3 + 1, none⟩ = some (.int .i64 pr) ∧ w'.cell? ⟨g, off + c * 3 + 2, none⟩ = some (.int .i64 pn))) (by kernel_rfl) (by exact ⟨b0, b1, b2, a0, a1, a2⟩) (fun hHeld => ?_)
              refine wpAnyH_take (i := 0) (v := ?_) rfl (by kernel_rfl) (by kernel_rfl) (by kernel_rfl) (fun _ _ _ h => h) (Or.inl ⟨by rfl, ?_⟩) (by assumption) ?_
              rotate_left 1
              · (intro w hSw; (try dsimp only at hSw); first | (go_simp; done) | (go_simp; with_reducible rfl))
              try simp only [Act.put, List.getElem_toArray, List.getElem_cons_succ, List.getElem_cons_zero, List.setIfInBounds_toArray, List.set_cons_zero, List.set_cons_succ]
              refine wpAnyH_take (i := 1) (v := ?_) rfl (by kernel_rfl) (by kernel_rfl) (by kernel_rfl) (fun _ _ _ h => h) (Or.inl ⟨by rfl, ?_⟩) (by assumption) ?_
              rotate_left 1
              · (intro w hSw; (try dsimp only at hSw); first | (go_simp; done) | (go_simp; with_reducible rfl))
              try simp only [Act.put, List.getElem_toArray, List.getElem_cons_succ, List.getElem_cons_zero, List.setIfInBounds_toArray, List.set_cons_zero, List.set_cons_succ]
              refine wpAnyH_take (i := 2) (v := ?_) rfl (by kernel_rfl) (by kernel_rfl) (by kernel_rfl) (fun _ _ _ h => h) (Or.inl ⟨by rfl, ?_⟩) (by assumption) ?_
              rotate_left 1
              · (intro w hSw; (try dsimp only at hSw); first | (go_simp; done) | (go_simp; with_reducible rfl))
              try simp only [Act.put, List.getElem_toArray, List.getElem_cons_succ, List.getElem_cons_zero, List.setIfInBounds_toArray, List.set_cons_zero, List.set_cons_succ]
              refine wpAnyH_take (i := 3) (v := ?_) rfl (by kernel_rfl) (by kernel_rfl) (by kernel_rfl) (fun _ _ _ h => h) (Or.inl ⟨by rfl, ?_⟩) (by assumption) ?_
              rotate_left 1
              · (intro w hSw; (try dsimp only at hSw); first | (go_simp; done) | (go_simp; with_reducible rfl))
              try simp only [Act.put, List.getElem_toArray, List.getElem_cons_succ, List.getElem_cons_zero, List.setIfInBounds_toArray, List.set_cons_zero, List.set_cons_succ]
              refine wpAnyH_take (i := 4) (v := ?_) rfl (by kernel_rfl) (by kernel_rfl) (by kernel_rfl) (fun _ _ _ h => h) (Or.inl ⟨by rfl, ?_⟩) (by assumption) ?_
              rotate_left 1
              · (intro w hSw; (try dsimp only at hSw); first | (go_simp; done) | (go_simp; with_reducible rfl))
              try simp only [Act.put, List.getElem_toArray, List.getElem_cons_succ, List.getElem_cons_zero, List.setIfInBounds_toArray, List.set_cons_zero, List.set_cons_succ]
              refine wpAnyH_take (i := 5) (v := ?_) rfl (by kernel_rfl) (by kernel_rfl) (by kernel_rfl) (fun _ _ _ h => h) (Or.inl ⟨by rfl, ?_⟩) (by assumption) ?_
              rotate_left 1
              · (intro w hSw; (try dsimp only at hSw); first | (go_simp; done) | (go_simp; with_reducible rfl))
              try simp only [Act.put, List.getElem_toArray, List.getElem_cons_succ, List.getElem_cons_zero, List.setIfInBounds_toArray, List.set_cons_zero, List.set_cons_succ]
              refine wpAnyH_take (i := 6) (v := ?_) rfl (by kernel_rfl) (by kernel_rfl) (by kernel_rfl) (fun _ _ _ h => h) (Or.inl ⟨by rfl, ?_⟩) (by assumption) ?_
              rotate_left 1
              · (intro w hSw; (try dsimp only at hSw); first | (go_simp; done) | (go_simp; with_reducible rfl))
              try simp only [Act.put, List.getElem_toArray, List.getElem_cons_succ, List.getElem_cons_zero, List.setIfInBounds_toArray, List.set_cons_zero, List.set_cons_succ]
              refine wpAnyH_take (i := 7) (v := ?_) rfl (by kernel_rfl) (by kernel_rfl) (by kernel_rfl) (fun _ _ _ h => h) (Or.inl ⟨by rfl, ?_⟩) (by assumption) ?_
              rotate_left 1
              · (intro w hSw; (try dsimp only at hSw); first | (go_simp; done) | (go_simp; with_reducible rfl))
              try simp only [Act.put, List.getElem_toArray, List.getElem_cons_succ, List.getElem_cons_zero, List.setIfInBounds_toArray, List.set_cons_zero, List.set_cons_succ]
              refine wpAnyH_take (i := 8) (v := ?_) rfl (by kernel_rfl) (by kernel_rfl) (by kernel_rfl) (fun _ _ _ h => h) (Or.inl ⟨by rfl, ?_⟩) (by assumption) ?_
              rotate_left 1
              · (intro w hSw; (try dsimp only at hSw); first | (go_simp; done) | (go_simp; with_reducible rfl))
              try simp only [Act.put, List.getElem_toArray, List.getElem_cons_succ, List.getElem_cons_zero, List.setIfInBounds_toArray, List.set_cons_zero, List.set_cons_succ]
              refine wpAnyH_take (i := 9) (v := ?_) rfl (by kernel_rfl) (by kernel_rfl) (by kernel_rfl) (fun _ _ _ h => h) (Or.inl ⟨by rfl, ?_⟩) (by assumption) ?_
              rotate_left 1
              · (intro w hSw; (try dsimp only at hSw); first | (go_simp; done) | (go_simp; with_reducible rfl))
              try simp only [Act.put, List.getElem_toArray, List.getElem_cons_succ, List.getElem_cons_zero, List.setIfInBounds_toArray, List.set_cons_zero, List.set_cons_succ]
              refine wpAnyH_take (i := 10) (v := ?_) rfl (by kernel_rfl) (by kernel_rfl) (by kernel_rfl) (fun _ _ _ h => h) (Or.inl ⟨by rfl, ?_⟩) (by assumption) ?_
              rotate_left 1
              · (intro w hSw; (try dsimp only at hSw); first | (go_simp; done) | (go_simp; with_reducible rfl))
              try simp only [Act.put, List.getElem_toArray, List.getElem_cons_succ, List.getElem_cons_zero, List.setIfInBounds_toArray, List.set_cons_zero, List.set_cons_succ]
              refine wpAnyH_take (i := 11) (v := ?_) rfl (by kernel_rfl) (by kernel_rfl) (by kernel_rfl) (fun _ _ _ h => h) (Or.inl ⟨by rfl, ?_⟩) (by assumption) ?_
              rotate_left 1
              · (intro w hSw; (try dsimp only at hSw); first | (go_simp; done) | (go_simp; with_reducible rfl))
              try simp only [Act.put, List.getElem_toArray, List.getElem_cons_succ, List.getElem_cons_zero, List.setIfInBounds_toArray, List.set_cons_zero, List.set_cons_succ]
              refine wpAnyH_take (i := 12) (v := ?_) rfl (by kernel_rfl) (by kernel_rfl) (by kernel_rfl) (fun _ _ _ h => h) (Or.inl ⟨by rfl, ?_⟩) (by assumption) ?_
              rotate_left 1
              · (intro w hSw; (try dsimp only at hSw); first | (go_simp; done) | (go_simp; with_reducible rfl))
              try simp only [Act.put, List.getElem_toArray, List.getElem_cons_succ, List.getElem_cons_zero, List.setIfInBounds_toArray, List.set_cons_zero, List.set_cons_succ]
              refine wpAnyH_take (i := 13) (v := ?_) rfl (by kernel_rfl) (by kernel_rfl) (by kernel_rfl) (fun _ _ _ h => h) (Or.inl ⟨by rfl, ?_⟩) (by assumption) ?_
              rotate_left 1
              · (intro w hSw; (try dsimp only at hSw); first | (go_simp; done) | (go_simp; with_reducible rfl))
              try simp only [Act.put, List.getElem_toArray, List.getElem_cons_succ, List.getElem_cons_zero, List.setIfInBounds_toArray, List.set_cons_zero, List.set_cons_succ]
              refine wpAnyH_take (i := 14) (v := ?_) rfl (by kernel_rfl) (by kernel_rfl) (by kernel_rfl) (fun _ _ _ h => h) (Or.inl ⟨by rfl, ?_⟩) (by assumption) ?_
              rotate_left 1
              · (intro w hSw; (try dsimp only at hSw); first | (go_simp; done) | (go_simp; with_reducible rfl))
              try simp only [Act.put, List.getElem_toArray, List.getElem_cons_succ, List.getElem_cons_zero, List.setIfInBounds_toArray, List.set_cons_zero, List.set_cons_succ]
              refine wpAnyH_done (by kernel_rfl) ?_ _
              clear a0 a1 a2 b0 b1 b2 hi2
              have HBE := Lib.hid (Below.drew (bel_trans HB5.out (bel_alloc w4 (.cells #[.int .i64 py, .int .i64 pr, .int .i64 pn] 34))))
              have K1 := Lib.hid (block_below K1.out (Below.drew (bel_trans hb4 (bel_alloc w4 (.cells #[.int .i64 py, .int .i64 pr, .int .i64 pn] 34)))))
              clear hb4
              have y0 := cellB K1.out (i := 0) rfl
              have y1 := cellB K1.out (i := 1) rfl
              have y2 := cellB K1.out (i := 2) rfl
              by_cases hyr : 1890 + p ≤ xy
              · have hyd : decide (1890 + p ≤ xy) = true := by simp; omega
                have HXL := Lib.hid ((HI.out.2 _).2 ⟨hev.out, by have := HF.out; dsimp only; omega, by have := (HLO.out _ hev.out hin.out.1 hin.out.2).2; dsimp only at this ⊢; omega⟩)
                go_wp2_with fail
                refine (containsEv_any _ L ⟨xy, xr, xn⟩ _ (by exact HA.out.below HBE.out) (by have := HLL.out; have := HN.out; omega) HXL.out).mono ?_
                rintro e w5 ⟨rfl, hb⟩
                have HBF := Lib.hid (bel_trans HBE.out hb)
                clear hb y0 y1 y2
                go_wp2_with fail
                go_round
                case rel => exact ⟨(d : Int) - 1, _, by omega, by omega, rfl, rfl, Lib.hid (bel_trans HB.out HBF.out), Lib.hid (HT.out.below HBF.out), Lib.hid (HR.out.below HBF.out), Lib.hid (HA.out.below HBF.out), Lib.hid (HV.out.below HBF.out)⟩
                case measure => simp [intOf] <;> omega
              · have hyd : decide (1890 + p ≤ xy) = false := by simp; omega
                go_wp2_with fail
                clear y0 y1 y2
                go_round
                case rel => exact ⟨(d : Int) - 1, _, by omega, by omega, rfl, rfl, Lib.hid (bel_trans HB.out HBE.out), Lib.hid (HT.out.below HBE.out), Lib.hid (HR.out.below HBE.out), Lib.hid (HA.out.below HBE.out), Lib.hid (HV.out.below HBE.out)⟩
                case measure => simp [intOf] <;> omega
          · obtain rfl : z = -1 := by omega
            go_wp2_with fail
            go_meet
            case rel => exact ⟨HB, HT, HR, HA, HV⟩
      case rest =>
        clear HB HT HR HA HV
        obtain ⟨HB, HT, HR, HA, HV⟩ := hcut
        obtain ⟨w3, hw3⟩ : ∃ w3 : World, w3 = wc := ⟨_, rfl⟩
        rw [← hw3] at HB HT HR HA HV ⊢
        clear hw3
        have hq60 : decide ((q : Int) < 60) = true := by simp; omega
        have hq61 : (q : Int) < 60 := by omega
        go_wp2_with fail
        go_loopw [213] (fun s wr => ∃ (k : Nat) (wq : World), k ≤ n ∧ s = .int .i64 (k : Int) ∧ wr = wq ∧ Hid (Below W.heap.size W wq) ∧ Hid (Tabs wq) ∧ Hid (Rul (.slice Al nl cl) rs wq) ∧ Hid (RdEv (.slice Aa n ca) L wq) ∧ Hid (RdEv (.slice AV q cV) LW wq)) (fun s _ => n - (intOf s).toNat)
        case atStart => exact ⟨0, _, by omega, rfl, rfl, HB, HT, HR, HA, HV⟩
        case round =>
          clear HB HT HR HA HV
          obtain ⟨k, wq, hk, rfl, rfl, HB, HT, HR, HA, HV⟩ := hrel
          by_cases hlt : k < n
          · obtain ⟨e, he⟩ : ∃ e, L[k]? = some e := ⟨_, _root_.List.getElem?_eq_getElem (by rw [← HN.out]; exact hlt)⟩
            obtain ⟨g, off, rfl, a0, a1, a2⟩ := HA.out.at_ he
            obtain ⟨hev0, hy10, _⟩ := (HI.out.2 e).1 (_root_.List.mem_of_getElem? he)
            have HLOW := Lib.hid (steps_in HMP.out HS.out hev0 hy10)
            have hev := Lib.hid hev0
            obtain ⟨hn1, hn2⟩ := nom_fits hev0
            obtain ⟨xy, xr, xn⟩ := e
            dsimp only at a0 a1 a2 hn1 hn2
            clear he hev0 hy10
            have HB1 := Lib.hid (bel_alloc wr (.cells #[.int .i64 xy, .int .i64 xr, .int .i64 xn] 34))
            have K1 := Lib.hid (heap_alloc_new wr (.cells #[.int .i64 xy, .int .i64 xr, .int .i64 xn] 34))
            have b0 := cellB K1.out (i := 0) rfl
            have b1 := cellB K1.out (i := 1) rfl
            have b2 := cellB K1.out (i := 2) rfl
            by_cases hx : xn < E * 86400
            · have hxd : decide (xn < E * 86400) = true := by simp; omega
              have HXL := Lib.hid (HEX.out _ hev.out HLOW.out (by dsimp only; omega))
              go_wp2_with fail
              refine (containsEv_any _ LW ⟨xy, xr, xn⟩ _ (by exact HV.out.below HB1.out) (by have := HQ.out; omega) HXL.out).mono ?_
              rintro e w5 ⟨rfl, hb⟩
              have HBF := Lib.hid (bel_trans HB1.out hb)
              clear hb a0 a1 a2 b0 b1 b2
              go_wp2_with fail
              go_round
              case rel => exact ⟨k + 1, _, by omega, by go_num, rfl, Lib.hid (bel_trans HB.out HBF.out), Lib.hid (HT.out.below HBF.out), Lib.hid (HR.out.below HBF.out), Lib.hid (HA.out.below HBF.out), Lib.hid (HV.out.below HBF.out)⟩
              case measure => simp [intOf] <;> omega
            · have hxd : decide (xn < E * 86400) = false := by simp; omega
              go_wp2_with fail
              clear a0 a1 a2 b0 b1 b2
              go_round
              case rel => exact ⟨k + 1, _, by omega, by go_num, rfl, Lib.hid (bel_trans HB.out HB1.out), Lib.hid (HT.out.below HB1.out), Lib.hid (HR.out.below HB1.out), Lib.hid (HA.out.below HB1.out), Lib.hid (HV.out.below HB1.out)⟩
              case measure => simp [intOf] <;> omega
          · obtain rfl : k = n := by omega
            go_wp2_with fail
            refine (works_any _ (by exact HT.out)).mono ?_
            rintro e w5 ⟨rfl, hb⟩
            go_wp2_with fail
            go_ret
            exact ⟨rfl, bel_trans HB.out hb⟩

set_option maxRecDepth 100000 in
theorem eventsSteps.eventsSteps_walk (W : World) (hL : laidMetH Tryd.prog Rows.eventsStepsRow.laid W) (v : Value) {H : Type} {enc : TypeId × Value → H} {base : Nat} {d : DataW H} {p : List MemPlace} (hv : Value.okWide Tryd.prog W .any base 23 v)
    (h : DataW.Trod enc Tryd.prog W 0 (fun _ => true) true 23 v d p) (q : Int) (wq : (Lit.int .u8 q).wf = true) :
    Calls Tryd.prog 8 #[v, .int .u8 q] W fun e w' => e = .returned (.bool true) ∧ Below W.heap.size W w' := by
  obtain ⟨bs, hD⟩ := drf_of hv h
  obtain ⟨hq1, hq2⟩ := byte_of wq
  exact evSteps_core v bs q W ⟨tab_of hL, ktab_of hL⟩ hD hq1 hq2
end Go.Proofs.YtpimibchameakaaDoor
