/-
  A drawn region of reads, within a round of a range over a function. No program in sight.
-/
import Derived.RangeFuncNested
import Derived.RangeFuncBound
import Derived.RangeFuncCalls
import Derived.RangeFuncLeaves
import Derived.Shelf.Abstract
import Derived.WalkKit
import Derived.OwnWalkIn
import Derived.TacticsInMore
import Derived.LoopNIn
import Derived.LoopIn
import Derived.Deep.RegionHeld3
namespace Go.Proofs.YtdppmeeobpbfnaaDoor.RgIn
open Go Go.RowKit
set_option linter.unusedVariables false
set_option linter.unusedSimpArgs false

/-- the region is left in the ordinary way -/
def OnlyN (K : Act → World → Prop) : Exit → Act → World → Prop := fun e a w => e = .normal ∧ K a w
theorem wp_to_in {P : Program} {n l : Nat} {o : Oper} {a : Act} {w : World} {K : Act → World → Prop} {Q : Exit → Act → World → Prop} (hnd : ∀ c, o.op ≠ .defer c)
    (h : o.wp P a w K (OnlyN (Q .normal))) : o.wpIn (Fence.wide.inRound l) n P a w K Q := by
  refine ⟨fun f _ => trivial, ?_⟩
  unfold Oper.wp at h
  have e : o.semAt (Fence.wide.inRound l).round a.eval = execOp a.eval o := Oper.semAt_some l _ _ hnd
  rw [e]
  generalize hr : (execOp a.eval o).run P w = r at h
  cases r with
  | ok x w' =>
    cases x with
    | value u => exact h
    | skip => exact h
    | defer d => exact h
    | enter f args =>
      refine ⟨fun hd => by simp [Fence.wide] at hd, ?_⟩
      refine CallsIn.inRound l (callsIn_wide.2 (Calls.mono h fun e w'' he => ?_))
      cases e with
      | returned u => exact he
      | panicked c => exact (by cases he.1)
      | outgrown => obtain ⟨a', w3, h1, _⟩ := he; cases h1
    | row row args => exact ⟨fun hd => by simp [Fence.wide] at hd, fun c cs _ => by
        obtain ⟨v, w3, r, s⟩ := h c cs
        exact ⟨v, w3, r, stepsIn_wide.2 s⟩⟩
    | _ => exact h.elim
  | halt x w' =>
    cases x <;> first | exact h.elim | exact (by cases h.1)
theorem wpOp_to_in {P : Program} {n l : Nat} {ops : Array Oper} {i : Nat} {a : Act} {w : World} {K K' : Act → World → Prop} {Q : Exit → Act → World → Prop} (hnd : ∀ o, ops[i]? = some o → ∀ c, o.op ≠ .defer c)
    (hK : ∀ a w, K a w → K' a w) (h : wpOp P ops (OnlyN (Q .normal)) i K a w) : wpOpIn (Fence.wide.inRound l) n P ops Q i K' a w := by
  have h2 := wpOp_mono hK h
  unfold wpOp at h2
  unfold wpOpIn
  cases ho : ops[i]? with
  | none => rw [ho] at h2; exact h2
  | some o =>
    rw [ho] at h2
    simp only at h2 ⊢
    split
    · rename_i hw
      rw [if_pos hw] at h2
      rcases h2 with h3 | ⟨_, ⟨a', w3, h4, _⟩⟩
      · exact wp_to_in (hnd o ho) h3
      · cases h4
    · rename_i hw
      rw [if_neg hw] at h2
      exact ⟨fun f _ => trivial, h2⟩
theorem any_to_in {P : Program} {n l : Nat} {md : Region.Mode} {ops : Array Oper} {Q : Exit → Act → World → Prop} (hnd : ∀ (i : Nat) (o : Oper), ops[i]? = some o → ∀ c, o.op ≠ .defer c) :
    ∀ (fuel : Nat) (listed : Array Bool) (a : Act) (w : World), wpAny P md ops (OnlyN (Q .normal)) fuel listed a w → wpAnyIn (Fence.wide.inRound l) n P md ops Q fuel listed a w
  | 0, _, _, _, h => ⟨h.1, h.2.2⟩
  | fuel + 1, listed, _, _, h => ⟨fun hr => (h.1 hr).2, fun i hi => wpOp_to_in (hnd i) (fun a w hk => any_to_in hnd fuel _ a w hk) (h.2 i hi)⟩
def noDefer (ops : Array Oper) : Bool := ops.all fun o => match o.op with
  | .defer _ => false
  | _ => true
theorem noDefer_spec {ops : Array Oper} (h : noDefer ops = true) : ∀ (i : Nat) (o : Oper), ops[i]? = some o → ∀ c, o.op ≠ .defer c := by
  intro i o ho c hc
  unfold noDefer at h
  rw [Array.all_eq_true] at h
  obtain ⟨hi, rfl⟩ := Array.getElem?_eq_some_iff.1 ho
  have := h i hi
  rw [hc] at this
  cases this
/-- the law: as the plain one for reads held by S -/
theorem wpIn_region_held {P : Program} {n l id : Nat} {ops : Array Oper} {Q : Exit → Act → World → Prop} {S : World → Prop} {a : Act} {w : World} (hm : P.follows .mixedOrders = true) (hnd : noDefer ops = true)
    (hS : S w.drew) (h : S w.drew → wpAnyH P .any ops (OnlyN (Q .normal)) S ops.size (Array.replicate ops.size false) a w.drew) : (Code.region id ops true).wpIn (Fence.wide.inRound l) n P Q a w :=
  wpIn_region_any hm (any_to_in (noDefer_spec hnd) _ _ _ _ (wpAny_of_held _ _ _ _ (h hS)))
end Go.Proofs.YtdppmeeobpbfnaaDoor.RgIn
