/-
  The walk of the law CheckedBack: it returns true at every two int64s.
-/
import Derived.Test.YtnfnjmpaikchcaaChkLaw
namespace Go.Proofs.Ytnfnjmpaikchcaa
open Go.RowKit Ck
set_option linter.unusedVariables false
set_option linter.unusedSimpArgs false

set_option maxRecDepth 100000 in
set_option maxHeartbeats 4000000 in
theorem checkedBack.checkedBack_walk (w : World) (a : Int) (wa : (Lit.int .i64 a).wf = true) (b : Int) (wb : (Lit.int .i64 b).wf = true) :
    Calls Try.prog 3 #[.int .i64 a, .int .i64 b] w fun e w' => e = .returned (.bool true) ∧ Below w.heap.size w w' := by
  have ha := Lib.hid (fit_of wa)
  have hb := Lib.hid (fit_of wb)
  clear wa wb
  go_enter Try.func3, Try.ntmps3
  go_upto_if 35 with (go_at_call 9; refine (add_any _ _ _ ha.out hb.out).mono ?_; intro e w' hq; obtain ⟨x1, ok1, hx1, rfl, rfl⟩ := Two.ex _ _ hq; clear hq)
  go_cut [] (fun w' => w' = w)
  case first =>
    rcases hx1.out with ⟨h1, rfl, rfl⟩ | ⟨h1, rfl, rfl⟩
    · have H1 := Lib.hid h1; clear h1 hx1
      go_wp2_with fail
      refine (sub_any _ _ _ H1.out hb.out).mono ?_
      intro e w' hq; obtain ⟨rfl, rfl⟩ := Two.to_yes (y := a) (by rw [show a + b - b = a from by omega]; exact ha.out) (by omega) _ _ hq; clear hq
      go_wp2_with fail
      refine (sub_any _ _ _ H1.out ha.out).mono ?_
      intro e w' hq; obtain ⟨rfl, rfl⟩ := Two.to_yes (y := b) (by rw [show a + b - a = b from by omega]; exact hb.out) (by omega) _ _ hq; clear hq
      go_wp2_with fail
      refine (is_any _ _ _ _ _).mono ?_
      intro e w' hq; obtain ⟨rfl, rfl⟩ := Yes.to_yes ⟨rfl, rfl⟩ _ _ hq; clear hq
      go_wp2_with fail
      refine (is_any _ _ _ _ _).mono ?_
      intro e w' hq; obtain ⟨rfl, rfl⟩ := Yes.to_yes ⟨rfl, rfl⟩ _ _ hq; clear hq
      go_wp2_with fail
      go_meet
      exact rfl
    · go_wp2_with fail
      go_meet
      exact rfl
  case rest =>
    obtain rfl := hcut
    clear hx1
    go_upto_if 66 with (go_at_call 10; refine (sub_any _ _ _ ha.out hb.out).mono ?_; intro e w' hq; obtain ⟨x2, ok2, hx2, rfl, rfl⟩ := Two.ex _ _ hq; clear hq)
    go_cut [] (fun w' => w' = wc)
    case first =>
      rcases hx2.out with ⟨h1, rfl, rfl⟩ | ⟨h1, rfl, rfl⟩
      · have H1 := Lib.hid h1; clear h1 hx2
        go_wp2_with fail
        refine (add_any _ _ _ H1.out hb.out).mono ?_
        intro e w' hq; obtain ⟨rfl, rfl⟩ := Two.to_yes (y := a) (by rw [show a - b + b = a from by omega]; exact ha.out) (by omega) _ _ hq; clear hq
        go_wp2_with fail
        refine (is_any _ _ _ _ _).mono ?_
        intro e w' hq; obtain ⟨rfl, rfl⟩ := Yes.to_yes ⟨rfl, rfl⟩ _ _ hq; clear hq
        go_wp2_with fail
        go_meet
        exact rfl
      · go_wp2_with fail
        go_meet
        exact rfl
    case rest =>
      obtain rfl := hcut
      clear hx2
      go_upto_region 13 with (go_at_call 12; refine (mul_any _ _ _ ha.out hb.out).mono ?_; intro e w' hq; obtain ⟨x3, ok3, hx3, rfl, rfl⟩ := Two.ex _ _ hq; clear hq)
      have hb1 : ∃ t, t = (b != 0) := ⟨_, rfl⟩
      obtain ⟨t, ht⟩ := hb1
      have HT := Lib.hid ht
      clear ht
      go_cut [88] (fun s w' => s = .bool (ok3 && t) ∧ w' = wc)
      case first =>
        cases ok3
        · go_wp2_with fail
          go_meet
          exact ⟨rfl, rfl⟩
        · go_wp2_with fail
          go_meet
          exact ⟨by rw [HT.out]; simp, rfl⟩
      case rest =>
        obtain ⟨rfl, rfl⟩ := hcut
        go_upto_if 88 with fail
        go_cut [] (fun w' => w' = wc)
        case first =>
          rcases hx3.out with ⟨h1, rfl, rfl⟩ | ⟨h1, rfl, rfl⟩
          · have H1 := Lib.hid h1; clear h1 hx3
            cases t with
            | false =>
              simp only [Bool.true_and]
              go_wp2_with fail
              go_meet
              exact rfl
            | true =>
              simp only [Bool.true_and]
              have HB0 := Lib.hid (bne_iff_ne.1 HT.out.symm)
              go_wp2_with fail
              refine (div_any _ _ _ H1.out hb.out).mono ?_
              intro e w' hq; obtain ⟨rfl, rfl⟩ := Two.to_yes (y := a) ⟨HB0.out, fun h => by have h2 := ha.out; have h3 := h.2; rw [h.1] at h3; unfold fit at h2; omega⟩ (dq_mul HB0.out).1 _ _ hq; clear hq
              go_wp2_with fail
              refine (mod_any _ _ _ H1.out hb.out).mono ?_
              intro e w' hq; obtain ⟨rfl, rfl⟩ := Two.to_yes (y := 0) HB0.out (dq_mul HB0.out).2 _ _ hq; clear hq
              go_wp2_with fail
              refine (is_any _ _ _ _ _).mono ?_
              intro e w' hq; obtain ⟨rfl, rfl⟩ := Yes.to_yes ⟨rfl, rfl⟩ _ _ hq; clear hq
              go_wp2_with fail
              refine (is_any _ _ _ _ _).mono ?_
              intro e w' hq; obtain ⟨rfl, rfl⟩ := Yes.to_yes ⟨rfl, rfl⟩ _ _ hq; clear hq
              go_wp2_with fail
              go_meet
              exact rfl
          · simp only [Bool.false_and]
            go_wp2_with fail
            go_meet
            exact rfl
        case rest =>
          obtain rfl := hcut
          clear hx3 HT
          go_upto_region 20 with (first
            | (go_at_call 13; refine (div_any _ _ _ ha.out hb.out).mono ?_; intro e w' hq; obtain ⟨x4, ok4, hx4, rfl, rfl⟩ := Two.ex _ _ hq; clear hq)
            | (go_at_call 14; refine (mod_any _ _ _ ha.out hb.out).mono ?_; intro e w' hq; obtain ⟨x5, ok5, hx5, rfl, rfl⟩ := Two.ex _ _ hq; clear hq))
          go_cut [150] (fun s w' => s = .bool false ∧ w' = wc)
          case first =>
            rcases hx5.out with ⟨h1, rfl, rfl⟩ | ⟨h1, rfl, rfl⟩
            · by_cases h3 : 0 < b
              · have h4 := dr_pos a b h3
                obtain ⟨h5, h6⟩ := h4
                go_wp2_with fail
                go_meet
                exact ⟨by simp; omega, rfl⟩
              · have h3' : b < 0 := by omega
                obtain ⟨h5, h6⟩ := dr_neg a b h3'
                go_wp2_with fail
                go_meet
                exact ⟨by simp; omega, rfl⟩
            · go_wp2_with fail
              go_meet
              exact ⟨rfl, rfl⟩
          case rest =>
            obtain ⟨rfl, rfl⟩ := hcut
            have hx4f : fit x4 := by
              rcases hx4.out with ⟨h1, rfl, rfl⟩ | ⟨h1, rfl, rfl⟩
              · exact dq_fit ha.out h1.1 h1.2
              · decide
            have HF4 := Lib.hid hx4f
            clear hx4f
            go_upto_region 23 with (go_at_call 12; refine (mul_any _ _ _ HF4.out hb.out).mono ?_; intro e w' hq; obtain ⟨x6, ok6, hx6, rfl, rfl⟩ := Two.ex _ _ hq; clear hq)
            rcases hx4.out with ⟨h1, rfl, rfl⟩ | ⟨h1, rfl, rfl⟩
            · rcases hx6.out with ⟨h2, rfl, rfl⟩ | ⟨h2, rfl, rfl⟩
              · have H1 := Lib.hid h1
                have H2 := Lib.hid h2
                have HX5 : Hid (x5 = dr a b) := hx5.out.elim (fun h => h.2.1) (fun h => (h.1 h1.1).elim)
                clear h1 h2
                go_wp2_with fail
                refine (add_any _ _ _ H2.out (by rw [HX5.out]; exact dr_fit hb.out H1.out.1)).mono ?_
                intro e w' hq; obtain ⟨rfl, rfl⟩ := Two.to_yes (y := a) (by rw [HX5.out, Int.mul_comm, dq_dr a b H1.out.1]; exact ha.out) (by rw [HX5.out, Int.mul_comm, dq_dr a b H1.out.1]) _ _ hq; clear hq
                go_wp2_with fail
                refine (is_any _ _ _ _ _).mono ?_
                intro e w' hq; obtain ⟨rfl, rfl⟩ := Yes.to_yes ⟨rfl, rfl⟩ _ _ hq; clear hq
                go_wp2_with fail
                refine (works_any _).mono ?_
                rintro e w1 ⟨rfl, hB⟩
                go_wp2_with fail
                go_ret
                exact ⟨rfl, hB⟩
              · go_wp2_with fail
                refine (works_any _).mono ?_
                rintro e w1 ⟨rfl, hB⟩
                go_wp2_with fail
                go_ret
                exact ⟨rfl, hB⟩
            · go_wp2_with fail
              refine (works_any _).mono ?_
              rintro e w1 ⟨rfl, hB⟩
              go_wp2_with fail
              go_ret
              exact ⟨rfl, hB⟩
end Go.Proofs.Ytnfnjmpaikchcaa
