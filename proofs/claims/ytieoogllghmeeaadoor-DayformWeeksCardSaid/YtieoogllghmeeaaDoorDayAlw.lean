/-
  The contract of dayform.Always.
-/
import Derived.Test.YtieoogllghmeeaaDoorDayOn
namespace Go.Proofs.YtieoogllghmeeaaDoor
open Go.RowKit Cv
set_option linter.unusedVariables false
set_option linter.unusedSimpArgs false

namespace Cv
/-- what Always answers -/
def alw (a b m k w d : Int) : Prop := (1 ≤ m ∧ m ≤ 12 ∧ good k w d) ∧ ((b < 1048576 ∧ b < a) ∨ d ≤ len 1 m ∨ (b < 1048576 ∧ a = b ∧ m = 2 ∧ d ≤ len a 2))
instance (a b m k w d : Int) : Decidable (alw a b m k w d) := by unfold alw; exact inferInstance
def YesB (p : Prop) (w : World) (e : Ending) (w' : World) : Prop := Below w.heap.size w w' ∧ ((p ∧ e = .returned (.bool true)) ∨ (¬ p ∧ e = .returned (.bool false)))
theorem YesB.yes {p : Prop} {w w' : World} (n : Below w.heap.size w w') (h : p) : YesB p w (.returned (.bool true)) w' := ⟨n, .inl ⟨h, rfl⟩⟩
theorem YesB.no {p : Prop} {w w' : World} (n : Below w.heap.size w w') (h : ¬ p) : YesB p w (.returned (.bool false)) w' := ⟨n, .inr ⟨h, rfl⟩⟩
theorem YesB.of {p : Prop} {w w' : World} {b : Bool} (n : Below w.heap.size w w') (h : b = true ↔ p) : YesB p w (.returned (.bool b)) w' := by
  refine ⟨n, ?_⟩
  cases b
  · exact .inr ⟨fun hp => by simpa using h.2 hp, rfl⟩
  · exact .inl ⟨h.1 rfl, rfl⟩
theorem YesB.to_b {p : Prop} [Decidable p] {w : World} {b : Bool} (hb : decide p = b) : ∀ e w', YesB p w e w' → e = .returned (.bool b) ∧ Below w.heap.size w w' := by
  rintro e w' ⟨h, ⟨hp, rfl⟩ | ⟨hp, rfl⟩⟩
  · exact ⟨by rw [← hb]; simp [hp], h⟩
  · exact ⟨by rw [← hb]; simp [hp], h⟩
theorem tm_bd (a b : Int) (hb : 0 < b) : -b < a.tmod b ∧ a.tmod b < b := by
  rcases (show a < 0 ∨ 0 ≤ a from by omega) with h | h
  · rw [(tdm_neg a b h).2]
    have := Int.emod_nonneg (-a) (b := b) (by omega); have := Int.emod_lt_of_pos (-a) (b := b) hb; omega
  · rw [(tdm_pos a b h).2]
    have := Int.emod_nonneg a (b := b) (by omega); have := Int.emod_lt_of_pos a (b := b) hb; omega
theorem lp_tmod (a : Int) : lp (a.tmod 400) = lp a := by
  rcases (show a < 0 ∨ 0 ≤ a from by omega) with h | h
  · rw [(tdm_neg a 400 h).2]; unfold lp; split <;> split <;> omega
  · rw [(tdm_pos a 400 h).2]; unfold lp; split <;> split <;> omega
theorem len_tmod (a m : Int) : len (a.tmod 400) m = len a m := by unfold len; rw [lp_tmod]
end Cv
/-- a quiet callee behind earlier draws -/
theorem quiet_more {f : FuncId} {args : Array Value} {w : World} {i j : Nat} {v : Value}
    (h : Calls Tryd.prog f args (w.drewN (i + j)) fun e w' => e = .returned v ∧ w' = w.drewN (i + j)) :
    Calls Tryd.prog f args (w.drewN (i + j)) fun e w' => e = .returned v ∧ ∃ n, w' = w.drewN (i + n) := h.mono fun e w' hq => ⟨hq.1, j, hq.2⟩

set_option maxRecDepth 100000 in
set_option maxHeartbeats 2000000 in
theorem always_any (a b m k w d : Int) (W : World) (hT : Tabs W) (ha1 : -9223372036854775808 ≤ a) (ha2 : a ≤ 9223372036854775807) :
    Calls Tryd.prog 14 #[.int .i64 a, .int .i64 b, .int .i64 m, form k w d] W (YesB (alw a b m k w d) W) := by
  have HT := Lib.hid hT
  clear hT
  by_cases h1 : m < 1
  · have HN := Lib.hid (show ¬ alw a b m k w d by unfold alw; omega)
    unfold form
    go_enter Tryd.func14, Tryd.ntmps14
    go_wp2_with fail
    go_ret
    exact YesB.no (bel_alloc _ _) HN.out
  · by_cases h2 : 12 < m
    · have HN := Lib.hid (show ¬ alw a b m k w d by unfold alw; omega)
      unfold form
      go_enter Tryd.func14, Tryd.ntmps14
      go_wp2_with fail
      go_ret
      exact YesB.no (bel_alloc _ _) HN.out
    · have h3 : 1 ≤ m := by omega
      have h4 : m ≤ 12 := by omega
      clear h1 h2
      by_cases hg : good k w d
      · have HG := Lib.hid hg
        obtain ⟨l1, hl1⟩ : ∃ l, l = len 1 m := ⟨_, rfl⟩
        obtain ⟨l2, hl2⟩ : ∃ l, l = len a 2 := ⟨_, rfl⟩
        have hb1 := len_bd 1 m
        have hb2 := len_bd a 2
        rw [← hl1] at hb1; rw [← hl2] at hb2
        have HA := Lib.hid (show alw a b m k w d ↔ ((b < 1048576 ∧ b < a) ∨ d ≤ l1 ∨ (b < 1048576 ∧ a = b ∧ m = 2 ∧ d ≤ l2)) by unfold alw; rw [← hl1, ← hl2]; simp only [h3, h4, hg, and_self, true_and])
        have HL1 := Lib.hid hl1.symm
        have HL2 := Lib.hid (show len (a.tmod 400) 2 = l2 by rw [len_tmod, hl2])
        obtain ⟨ht1, ht2⟩ := tm_bd a 400 (by decide)
        clear hg hl1 hl2 hb1 hb2
        unfold form
        go_enter Tryd.func14, Tryd.ntmps14
        go_wp2_with fail
        refine (check_any k w d _ (by exact (HT.out.alloc _).2)).mono ?_
        intro e w1 hq; obtain ⟨rfl, hb1⟩ := CheckR.to_yes HG.out _ _ hq; clear hq
        have fc : FC W.heap.size k w d w1 := (FC.new W k w d 23).below hb1
        obtain ⟨f0, f1, f2⟩ := fc
        have HQ1 : Hid (∀ V : World, Calls Tryd.prog 19 #[.int .i64 1, .int .i64 m] V fun e w' => e = .returned (.int .i64 l1) ∧ w' = V) := fun V => (len_any 1 m V (by decide) (by decide)).mono fun e w' hq => by
          obtain ⟨h, k⟩ := len_to HL1.out e w' hq; exact ⟨h, k.symm⟩
        have HQ2 : Hid (∀ (V : World) (x y : Int), x = a → y = 2 → Calls Tryd.prog 19 #[.int .i64 (x.tmod 400), .int .i64 y] V fun e w' => e = .returned (.int .i64 l2) ∧ w' = V) := fun V x y hx hy => by
          subst hx hy
          exact (len_any (x.tmod 400) 2 V (by omega) (by omega)).mono fun e w' hq => by
            obtain ⟨h, k⟩ := len_to HL2.out e w' hq; exact ⟨h, k.symm⟩
        go_wp2_with fail
        all_goals first
        | (go_ret; exact YesB.yes (bel_trans (bel_alloc _ _) hb1) (by rw [HA.out]; simp_all))
        | (go_quiet ((go_at_call 19; exact Calls.quiet_of_same (HQ1.out _)))
           go_wp2_with fail)
        all_goals first
        | (go_ret; first
           | exact YesB.yes (bel_drew (bel_trans (bel_alloc _ _) hb1) _) (by rw [HA.out]; simp_all <;> omega)
           | exact YesB.no (bel_drew (bel_trans (bel_alloc _ _) hb1) _) (by rw [HA.out]; simp_all <;> omega))
        | skip
        go_quiet ((go_at_call 19; exact quiet_more (HQ2.out _ _ _ (by first | rfl | assumption | (symm; assumption)) (by simp_all))))
        go_wp2
        all_goals
          go_ret
          exact YesB.of (bel_drew (bel_drew (bel_trans (bel_alloc _ _) hb1) _) _) (by rw [HA.out]; simp_all <;> omega)
      · have HG := Lib.hid hg
        have HN := Lib.hid (show ¬ alw a b m k w d from fun h => hg h.1.2.2)
        clear hg
        unfold form
        go_enter Tryd.func14, Tryd.ntmps14
        go_wp2_with fail
        refine (check_any k w d _ (by exact (HT.out.alloc _).2)).mono ?_
        intro e w1 hq; obtain ⟨rfl, hb1⟩ := CheckR.to_no HG.out _ _ hq; clear hq
        go_wp2_with fail
        go_ret
        exact YesB.no (bel_trans (bel_alloc _ _) hb1) HN.out
end Go.Proofs.YtieoogllghmeeaaDoor
