/-
  Chapter 22's laws in plain words, as far as sets by numbers go. No program in sight.
-/
import Derived.Test.YtdppmeeobpbfnaaDoorStFun
import Derived.Test.YtdppmeeobpbfnaaDoorStB
namespace Go.Proofs.YtdppmeeobpbfnaaDoor.Cv
open Go.RowKit
set_option linter.unusedVariables false
set_option linter.unusedSimpArgs false

theorem made_tame {sv : Int} {rs : _root_.List Ru} (h : MadeP sv rs) : Tame rs := fun r hr => by
  have := (h.each r hr).ok.fr; omega
theorem made_sav {sv : Int} {rs : _root_.List Ru} (h : MadeP sv rs) : ∀ r ∈ rs, -3600 ≤ r.save ∧ r.save ≤ 7200 := fun r hr => by
  have h1 := (h.each r hr).save
  have h2 := h.svs
  omega
/-- saves of states, within bounds -/
theorem befS_in {rs : _root_.List Ru} {a b : Int} (ha : a ≤ 0) (hb : 0 ≤ b) (h : ∀ r ∈ rs, a ≤ r.save ∧ r.save ≤ b) (o : Option Ev) : a ≤ (befS rs o).save ∧ (befS rs o).save ≤ b := by
  have hbeh : ∀ e, a ≤ (behS rs e).save ∧ (behS rs e).save ≤ b := by
    intro e
    unfold behS
    split
    · rename_i r hr
      obtain ⟨k, _, hk, _⟩ := ruleAt_ex hr
      exact h r (_root_.List.mem_of_getElem? hk)
    · exact ⟨ha, hb⟩
  cases o with
  | some e => exact hbeh e
  | none =>
    show a ≤ (initS rs).save ∧ (initS rs).save ≤ b
    unfold initS
    split
    · exact ⟨ha, hb⟩
    · split
      · exact hbeh _
      · exact hbeh _
theorem leastL_ge (rs : _root_.List Ru) (h : ∀ r ∈ rs, RuOk r) : -3600 ≤ leastL rs := by
  have key : ∀ (l : _root_.List Ru) (x : Int), -3600 ≤ x → (∀ r ∈ l, RuOk r) → -3600 ≤ l.foldl (fun x r => min x r.save) x := by
    intro l
    induction l with
    | nil => intro x h _; exact h
    | cons r l ih =>
      intro x h hl
      have := (hl r (_root_.List.mem_cons_self ..)).save
      exact ih _ (by show -3600 ≤ min x r.save; omega) fun q hq => hl q (_root_.List.mem_cons_of_mem _ hq)
  exact key rs 0 (by decide) h
theorem made_least {sv : Int} {rs : _root_.List Ru} (h : MadeP sv rs) : -3600 ≤ leastL rs ∧ leastL rs ≤ 0 ∧ baseL rs = leastL rs := by
  have h1 := leastL_ge rs (fun r hr => (h.each r hr).ok)
  have h2 := leastL_le0 rs
  refine ⟨h1, h2, ?_⟩
  unfold baseL; omega
theorem made_befS {sv : Int} {rs : _root_.List Ru} (h : MadeP sv rs) (o : Option Ev) : -3600 ≤ (befS rs o).save ∧ (befS rs o).save ≤ 7200 := befS_in (by omega) (by omega) (made_sav h) o
theorem BefR.ex {rs : _root_.List Ru} {N : Int} {o : Option Ev} {W : World} (h : BefIs rs N o) : ∀ e w', BefR rs N W e w' → e = .returned (.agg #[.int .i64 (befS rs o).save, .string (befS rs o).le]) ∧ Below W.heap.size W w' := by
  rintro e w' ⟨p, hp, he, hb⟩
  obtain rfl := hp.out.uniq h
  exact ⟨he, hb⟩
end Go.Proofs.YtdppmeeobpbfnaaDoor.Cv
