/-
  What the walks of the laws of chapter 1 share.
-/
import Derived.Test.YthppldacadehiaaDoorCivEx
import Derived.Test.YthppldacadehiaaDoorRows
import Derived.ProofKit
import Derived.Below
import Derived.LaidMore
import Derived.MakeChecks
import Derived.Lib.LaidTab
import Derived.WalkSmall
namespace Go.Proofs.YthppldacadehiaaDoor
open Go.RowKit Cv
set_option linter.unusedVariables false
set_option linter.unusedSimpArgs false

theorem fit_of {n : Int} (h : (Lit.int .i64 n).wf = true) : -9223372036854775808 ≤ n ∧ n ≤ 9223372036854775807 := by
  simp only [Lit.wf, IntKind.min, IntKind.max, IntKind.signed, IntKind.bits, Bool.and_eq_true, decide_eq_true_eq, if_true] at h
  omega
theorem byte_of {n : Int} (h : (Lit.int .u8 n).wf = true) : 0 ≤ n ∧ n ≤ 255 := by
  simp [Lit.wf, IntKind.min, IntKind.max, IntKind.signed, IntKind.bits] at h
  omega
theorem u32_of {n : Int} (h : (Lit.int .u32 n).wf = true) : 0 ≤ n ∧ n ≤ 4294967295 := by
  simp [Lit.wf, IntKind.min, IntKind.max, IntKind.signed, IntKind.bits] at h
  omega
theorem tab_of {W : World} (hL : laidMetH Tryd.prog Rows.civilBackRow.laid W) : Tab W := by
  rw [MakeChecks.laidMetH_plain _ _ _ (by kernel_rfl)] at hL
  have h := Lib.tabIs_of_head (k := .i64) (zs := [0, 31, 61, 92, 122, 153, 184, 214, 245, 275, 306, 337]) (g := 0) (t := 43) (e := 2) (n := 12) (by kernel_rfl) (by kernel_rfl) Tryd.underlying43 Tryd.underlying2 (by kernel_rfl) (by kernel_rfl) hL
  intro i hi
  exact h.cell (by kernel_rfl) i hi
namespace Cv
theorem tm_bd (a b : Int) (hb : 0 < b) : -b < a.tmod b ∧ a.tmod b < b := by
  rcases (show a < 0 ∨ 0 ≤ a from by omega) with h | h
  · rw [(tdm_neg a b h).2]
    have := Int.emod_nonneg (-a) (b := b) (by omega); have := Int.emod_lt_of_pos (-a) (b := b) hb; omega
  · rw [(tdm_pos a b h).2]
    have := Int.emod_nonneg a (b := b) (by omega); have := Int.emod_lt_of_pos a (b := b) hb; omega
/-- the date of a day whose year is in the range -/
def DateI (n : Int) (w : World) (e : Ending) (w' : World) : Prop :=
  ∃ y m d : Int, Hid (IsDate n y m d) ∧ Hid (inr y) ∧ e = .returned (.tuple #[.int .i64 y, .int .i64 m, .int .i64 d, .int .i64 0]) ∧ ∃ k, w' = w.drewN k
theorem DateE.with {n y m d : Int} {w : World} {e : Ending} {w' : World} (h : IsDate n y m d) (k : DateE n w e w') :
    ((Hid (inr y) ∧ e = .returned (.tuple #[.int .i64 y, .int .i64 m, .int .i64 d, .int .i64 0])) ∨ (Hid (¬ inr y) ∧ e = .returned (.tuple #[.int .i64 0, .int .i64 0, .int .i64 0, .int .i64 3]))) ∧ ∃ k, w' = w.drewN k := by
  obtain ⟨y', m', d', hd, hr, hw⟩ := k
  obtain ⟨rfl, rfl, rfl⟩ := h.uniq hd.out
  exact ⟨hr, hw⟩
theorem clamp_in {y : Int} (h : inr y) : clamp y = y := by unfold clamp; unfold inr at h; rw [if_neg (by omega), if_neg (by omega)]
theorem clamp_lo {n y m d : Int} (h : IsDate n y m d) (hi : ¬ inr y) (hn : n < 0) : clamp y = -2000000000 := by
  have hb := h.bd
  unfold fst at hb
  unfold Cv.inr at hi
  unfold clamp; rw [if_pos (by omega)]
theorem clamp_hi {n y m d : Int} (h : IsDate n y m d) (hi : ¬ inr y) (hn : 0 ≤ n) : clamp y = 2000000000 := by
  have hb := h.bd
  unfold fst at hb
  unfold Cv.inr at hi
  unfold clamp; rw [if_neg (by omega), if_pos (by omega)]
theorem IsDate.inr {n y m d : Int} (h : IsDate n y m d) (h1 : -730000000000 < n) (h2 : n < 730000000000) : inr y := by
  have hb := h.bd
  unfold fst at hb
  unfold Cv.inr; omega
end Cv
theorem dateI_any (n : Int) (w : World) (hT : Tab w) (h1 : -730000000000 < n) (h2 : n < 730000000000) :
    Calls Tryd.prog 18 #[.int .i64 n] w (DateI n w) := by
  refine (dateE_any n w hT (by omega) (by omega)).mono ?_
  rintro e w' ⟨y, m, d, hd, ⟨hi, rfl⟩ | ⟨hi, _⟩, hw⟩
  · exact ⟨y, m, d, hd, hi, rfl, hw⟩
  · exact (hi.out (hd.out.inr h1 h2)).elim
end Go.Proofs.YthppldacadehiaaDoor
