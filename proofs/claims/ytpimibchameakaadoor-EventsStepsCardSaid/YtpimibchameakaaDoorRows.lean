/-
  NARROWER THAN 'FOR EVERY INPUT', by the rows' own cells (each row's printed sentence says how): EventsCycle: laid · EventsAround: laid · EventsStd: laid · EventsRefuses: laid · EventsLists: laid · EventsSteps: laid.
  DERIVED. THE GIVEN ROWS OF THIS SEAT. 6 by the template 'for every input the law returns true; each argument reads behind the call as it read before'; 0 by the template 'total and deterministic' (their statements: YtpimibchameakaaDoorTotals.lean).
  GIVEN WITH THE SEED: the statements are not yours to turn. If you find one false, say at which input.
  Laid BY PROGRAM, IN A SANDBOX (cutbox-rows.mjs): the forced cells as the released guide's own fill.sh prints them over the translation 3d02dfb562082bd0… (all of the seat's roots in one cut). By AI agents, Wed Nov 11 2026. No macro, syntax, notation, axiom, sorry.
-/
import Derived.Test.YtpimibchameakaaDoorChecked
import GoSem.Claim
import GoSem.ClaimJoined
import GoSem.ClaimMapViews
import Derived.JoinedTies
import Derived.KernelRfl
namespace Go.Proofs.YtpimibchameakaaDoor
/- THE CELL 'sum', in the pinned program and in every row, IS THE sha256 OF THE DUMP (.gsa) THAT YtpimibchameakaaDoorProg.lean LOADS. Nothing in Lean hashes anything: it is a label: what it is worth is what the hold of that sum in a sandbox is worth. -/
noncomputable def Tryd.pinned : Pinned := { name := "ytpimibchameakaadoor", sum := "3d02dfb562082bd009930caab2afa8e07e2beb92b43178f12343a6e9b08fae50", checked := Tryd.checked }
namespace Rows
def none {H : Type} : Left H := { results := [], args := [] }

/- WHAT THE LISTED PACKAGE-LEVEL VARIABLES READ AS WHEN THE CALL BEGINS. Each datum BY PROGRAM (the guide's laid-datum.mjs) off the statement by which the dump's own 'gosem.cut.vars' lays the variable. In a bare row this is a premise. The card (YtpimibchameakaaDoorCards.lean) ties it to the program's text. -/
def laid_analemma_civil_before {H : Type} : DataW H := .agg [.lit (.int .i64 0), .lit (.int .i64 31), .lit (.int .i64 61), .lit (.int .i64 92), .lit (.int .i64 122), .lit (.int .i64 153), .lit (.int .i64 184), .lit (.int .i64 214), .lit (.int .i64 245), .lit (.int .i64 275), .lit (.int .i64 306), .lit (.int .i64 337)]
def laid_analemma_dayform_kinds {H : Type} : DataW H := .iface "func table" (.agg [.agg [.lit (.bool false), .lit (.bool false), .nil], .agg [.lit (.bool false), .lit (.bool true), .iface "func" (.lit (.string [97, 110, 97, 108, 101, 109, 109, 97, 47, 100, 97, 121, 102, 111, 114, 109, 46, 107, 105, 110, 100, 115, 36, 49]))], .agg [.lit (.bool true), .lit (.bool false), .iface "func" (.lit (.string [97, 110, 97, 108, 101, 109, 109, 97, 47, 100, 97, 121, 102, 111, 114, 109, 46, 107, 105, 110, 100, 115, 36, 50]))], .agg [.lit (.bool true), .lit (.bool true), .iface "func" (.lit (.string [97, 110, 97, 108, 101, 109, 109, 97, 47, 100, 97, 121, 102, 111, 114, 109, 46, 107, 105, 110, 100, 115, 36, 51]))], .agg [.lit (.bool true), .lit (.bool true), .iface "func" (.lit (.string [97, 110, 97, 108, 101, 109, 109, 97, 47, 100, 97, 121, 102, 111, 114, 109, 46, 107, 105, 110, 100, 115, 36, 52]))]])

/-- 'analemmalaw17.EventsCycle': WHATEVER THE INPUT: true; the input reads as it did. -/
def eventsCycleSpec : ChangeSpec := { name := "eventsCycle", fn := fun _ => fun
  | [d1, d2, d3, d4] => { results := [.lit (.bool true)], args := [d1, d2, d3, d4] }
  | _ => none }
def eventsCycleRow : OpenClaim := { program := "ytpimibchameakaadoor", sum := "3d02dfb562082bd009930caab2afa8e07e2beb92b43178f12343a6e9b08fae50", func := "analemma/analemmalaw17.EventsCycle", spec := "eventsCycle", unfollowed := true, recurses := true, named := ["analemma/dayform.kinds", "analemma/civil.before"], apart := false, laid := [("analemma/civil.before", laid_analemma_civil_before), ("analemma/dayform.kinds", laid_analemma_dayform_kinds)] }
def EventsCycleSaid : Prop := eventsCycleRow.holds Tryd.pinned (OpenSpec.ofChange eventsCycleSpec)

/-- ITS FALSE NEIGHBOUR: 'it returns false'. Refute it at one input. -/
def eventsCycleWrong : ChangeSpec := { name := "eventsCycle", fn := fun _ => fun
  | [d1, d2, d3, d4] => { results := [.lit (.bool false)], args := [d1, d2, d3, d4] }
  | _ => none }
def EventsCycleWrongFalsely : Prop := eventsCycleRow.holds Tryd.pinned (OpenSpec.ofChange eventsCycleWrong)

/-- 'analemmalaw17.EventsAround': WHATEVER THE INPUT: true; the input reads as it did. -/
def eventsAroundSpec : ChangeSpec := { name := "eventsAround", fn := fun _ => fun
  | [d1, d2] => { results := [.lit (.bool true)], args := [d1, d2] }
  | _ => none }
def eventsAroundRow : OpenClaim := { program := "ytpimibchameakaadoor", sum := "3d02dfb562082bd009930caab2afa8e07e2beb92b43178f12343a6e9b08fae50", func := "analemma/analemmalaw17.EventsAround", spec := "eventsAround", unfollowed := true, recurses := true, named := ["analemma/dayform.kinds", "analemma/civil.before"], apart := false, laid := [("analemma/civil.before", laid_analemma_civil_before), ("analemma/dayform.kinds", laid_analemma_dayform_kinds)] }
def EventsAroundSaid : Prop := eventsAroundRow.holds Tryd.pinned (OpenSpec.ofChange eventsAroundSpec)

/-- ITS FALSE NEIGHBOUR: 'it returns false'. Refute it at one input. -/
def eventsAroundWrong : ChangeSpec := { name := "eventsAround", fn := fun _ => fun
  | [d1, d2] => { results := [.lit (.bool false)], args := [d1, d2] }
  | _ => none }
def EventsAroundWrongFalsely : Prop := eventsAroundRow.holds Tryd.pinned (OpenSpec.ofChange eventsAroundWrong)

/-- 'analemmalaw17.EventsStd': WHATEVER THE INPUT: true; the input reads as it did. -/
def eventsStdSpec : ChangeSpec := { name := "eventsStd", fn := fun _ => fun
  | [d1, d2, d3] => { results := [.lit (.bool true)], args := [d1, d2, d3] }
  | _ => none }
def eventsStdRow : OpenClaim := { program := "ytpimibchameakaadoor", sum := "3d02dfb562082bd009930caab2afa8e07e2beb92b43178f12343a6e9b08fae50", func := "analemma/analemmalaw17.EventsStd", spec := "eventsStd", unfollowed := true, recurses := true, named := ["analemma/dayform.kinds", "analemma/civil.before"], apart := false, laid := [("analemma/civil.before", laid_analemma_civil_before), ("analemma/dayform.kinds", laid_analemma_dayform_kinds)] }
def EventsStdSaid : Prop := eventsStdRow.holds Tryd.pinned (OpenSpec.ofChange eventsStdSpec)

/-- ITS FALSE NEIGHBOUR: 'it returns false'. Refute it at one input. -/
def eventsStdWrong : ChangeSpec := { name := "eventsStd", fn := fun _ => fun
  | [d1, d2, d3] => { results := [.lit (.bool false)], args := [d1, d2, d3] }
  | _ => none }
def EventsStdWrongFalsely : Prop := eventsStdRow.holds Tryd.pinned (OpenSpec.ofChange eventsStdWrong)

/-- 'analemmalaw17.EventsRefuses': WHATEVER THE INPUT: true; the input reads as it did. -/
def eventsRefusesSpec : ChangeSpec := { name := "eventsRefuses", fn := fun _ => fun
  | [d1, d2, d3] => { results := [.lit (.bool true)], args := [d1, d2, d3] }
  | _ => none }
def eventsRefusesRow : OpenClaim := { program := "ytpimibchameakaadoor", sum := "3d02dfb562082bd009930caab2afa8e07e2beb92b43178f12343a6e9b08fae50", func := "analemma/analemmalaw17.EventsRefuses", spec := "eventsRefuses", unfollowed := true, recurses := true, named := ["analemma/dayform.kinds", "analemma/civil.before"], apart := false, laid := [("analemma/civil.before", laid_analemma_civil_before), ("analemma/dayform.kinds", laid_analemma_dayform_kinds)] }
def EventsRefusesSaid : Prop := eventsRefusesRow.holds Tryd.pinned (OpenSpec.ofChange eventsRefusesSpec)

/-- ITS FALSE NEIGHBOUR: 'it returns false'. Refute it at one input. -/
def eventsRefusesWrong : ChangeSpec := { name := "eventsRefuses", fn := fun _ => fun
  | [d1, d2, d3] => { results := [.lit (.bool false)], args := [d1, d2, d3] }
  | _ => none }
def EventsRefusesWrongFalsely : Prop := eventsRefusesRow.holds Tryd.pinned (OpenSpec.ofChange eventsRefusesWrong)

/-- 'analemmalaw17.EventsLists': WHATEVER THE INPUT: true; the input reads as it did. -/
def eventsListsSpec : ChangeSpec := { name := "eventsLists", fn := fun _ => fun
  | [d1, d2, d3, d4, d5] => { results := [.lit (.bool true)], args := [d1, d2, d3, d4, d5] }
  | _ => none }
def eventsListsRow : OpenClaim := { program := "ytpimibchameakaadoor", sum := "3d02dfb562082bd009930caab2afa8e07e2beb92b43178f12343a6e9b08fae50", func := "analemma/analemmalaw17.EventsLists", spec := "eventsLists", unfollowed := true, recurses := true, named := ["analemma/dayform.kinds", "analemma/civil.before"], apart := false, laid := [("analemma/civil.before", laid_analemma_civil_before), ("analemma/dayform.kinds", laid_analemma_dayform_kinds)] }
def EventsListsSaid : Prop := eventsListsRow.holds Tryd.pinned (OpenSpec.ofChange eventsListsSpec)

/-- ITS FALSE NEIGHBOUR: 'it returns false'. Refute it at one input. -/
def eventsListsWrong : ChangeSpec := { name := "eventsLists", fn := fun _ => fun
  | [d1, d2, d3, d4, d5] => { results := [.lit (.bool false)], args := [d1, d2, d3, d4, d5] }
  | _ => none }
def EventsListsWrongFalsely : Prop := eventsListsRow.holds Tryd.pinned (OpenSpec.ofChange eventsListsWrong)

/-- 'analemmalaw17.EventsSteps': WHATEVER THE INPUT: true; the input reads as it did. -/
def eventsStepsSpec : ChangeSpec := { name := "eventsSteps", fn := fun _ => fun
  | [d1, d2] => { results := [.lit (.bool true)], args := [d1, d2] }
  | _ => none }
def eventsStepsRow : OpenClaim := { program := "ytpimibchameakaadoor", sum := "3d02dfb562082bd009930caab2afa8e07e2beb92b43178f12343a6e9b08fae50", func := "analemma/analemmalaw17.EventsSteps", spec := "eventsSteps", unfollowed := true, recurses := true, named := ["analemma/dayform.kinds", "analemma/civil.before"], apart := false, laid := [("analemma/civil.before", laid_analemma_civil_before), ("analemma/dayform.kinds", laid_analemma_dayform_kinds)] }
def EventsStepsSaid : Prop := eventsStepsRow.holds Tryd.pinned (OpenSpec.ofChange eventsStepsSpec)

/-- ITS FALSE NEIGHBOUR: 'it returns false'. Refute it at one input. -/
def eventsStepsWrong : ChangeSpec := { name := "eventsSteps", fn := fun _ => fun
  | [d1, d2] => { results := [.lit (.bool false)], args := [d1, d2] }
  | _ => none }
def EventsStepsWrongFalsely : Prop := eventsStepsRow.holds Tryd.pinned (OpenSpec.ofChange eventsStepsWrong)

/- THE SECOND FORM. 'bulk': how many values and letters a reading holds, each counted each time it is reached (what is shared counts as often as it is met; a slice's spare places count too). A statement '..UptoSaid' is the law's where the arguments, and the package variables that the reading takes, are together of bulk at most 1048576: NARROWER than '..Said'. Prove '..Said' where nothing that the law and all that it calls make is longer than what came in: it says more and counts as full. Else prove '..UptoSaid'. A law counts once. -/
mutual
def uptoBulk {H : Type} : DataW H → Nat
  | .lit (.string bytes) => bytes.length + 1
  | .lit _ => 1
  | .nil => 1
  | .ptr d => uptoBulk d + 1
  | .slice elems spare => uptoBulkAll elems + uptoBulkAll spare + 1
  | .agg parts => uptoBulkAll parts + 1
  | .iface _ d => uptoBulk d + 1
  | .map entries => uptoBulkEntries entries + 1
  | .held _ => 1
def uptoBulkAll {H : Type} : List (DataW H) → Nat
  | [] => 0
  | d :: r => uptoBulk d + uptoBulkAll r
def uptoBulkEntries {H : Type} : List (Lit × DataW H) → Nat
  | [] => 0
  | x :: r => uptoBulkEntry x + uptoBulkEntries r
def uptoBulkEntry {H : Type} : Lit × DataW H → Nat
  | (.string bytes, d) => bytes.length + uptoBulk d + 1
  | (_, d) => uptoBulk d + 1
 end
def uptoSmall : (H : Type) → List (DataW H) → Bool := fun _ ds => decide (uptoBulkAll ds ≤ 1048576)
def OpenSpec.upto (s : _root_.Go.ChangeSpec) : _root_.Go.OpenSpec := { _root_.Go.OpenSpec.ofChange s with cond := some uptoSmall }

/-- 'analemmalaw17.EventsCycle', WHERE WHAT IT READS IS OF BULK AT MOST 1048576: true; the input reads as it did. -/
def eventsCycleUptoRow : OpenClaim := { program := "ytpimibchameakaadoor", sum := "3d02dfb562082bd009930caab2afa8e07e2beb92b43178f12343a6e9b08fae50", func := "analemma/analemmalaw17.EventsCycle", spec := "eventsCycle", unfollowed := true, recurses := true, named := ["analemma/dayform.kinds", "analemma/civil.before"], apart := false, laid := [("analemma/civil.before", laid_analemma_civil_before), ("analemma/dayform.kinds", laid_analemma_dayform_kinds)], narrowed := true }
def EventsCycleUptoSaid : Prop := eventsCycleUptoRow.holds Tryd.pinned (OpenSpec.upto eventsCycleSpec)

/-- 'analemmalaw17.EventsAround', WHERE WHAT IT READS IS OF BULK AT MOST 1048576: true; the input reads as it did. -/
def eventsAroundUptoRow : OpenClaim := { program := "ytpimibchameakaadoor", sum := "3d02dfb562082bd009930caab2afa8e07e2beb92b43178f12343a6e9b08fae50", func := "analemma/analemmalaw17.EventsAround", spec := "eventsAround", unfollowed := true, recurses := true, named := ["analemma/dayform.kinds", "analemma/civil.before"], apart := false, laid := [("analemma/civil.before", laid_analemma_civil_before), ("analemma/dayform.kinds", laid_analemma_dayform_kinds)], narrowed := true }
def EventsAroundUptoSaid : Prop := eventsAroundUptoRow.holds Tryd.pinned (OpenSpec.upto eventsAroundSpec)

/-- 'analemmalaw17.EventsStd', WHERE WHAT IT READS IS OF BULK AT MOST 1048576: true; the input reads as it did. -/
def eventsStdUptoRow : OpenClaim := { program := "ytpimibchameakaadoor", sum := "3d02dfb562082bd009930caab2afa8e07e2beb92b43178f12343a6e9b08fae50", func := "analemma/analemmalaw17.EventsStd", spec := "eventsStd", unfollowed := true, recurses := true, named := ["analemma/dayform.kinds", "analemma/civil.before"], apart := false, laid := [("analemma/civil.before", laid_analemma_civil_before), ("analemma/dayform.kinds", laid_analemma_dayform_kinds)], narrowed := true }
def EventsStdUptoSaid : Prop := eventsStdUptoRow.holds Tryd.pinned (OpenSpec.upto eventsStdSpec)

/-- 'analemmalaw17.EventsRefuses', WHERE WHAT IT READS IS OF BULK AT MOST 1048576: true; the input reads as it did. -/
def eventsRefusesUptoRow : OpenClaim := { program := "ytpimibchameakaadoor", sum := "3d02dfb562082bd009930caab2afa8e07e2beb92b43178f12343a6e9b08fae50", func := "analemma/analemmalaw17.EventsRefuses", spec := "eventsRefuses", unfollowed := true, recurses := true, named := ["analemma/dayform.kinds", "analemma/civil.before"], apart := false, laid := [("analemma/civil.before", laid_analemma_civil_before), ("analemma/dayform.kinds", laid_analemma_dayform_kinds)], narrowed := true }
def EventsRefusesUptoSaid : Prop := eventsRefusesUptoRow.holds Tryd.pinned (OpenSpec.upto eventsRefusesSpec)

/-- 'analemmalaw17.EventsLists', WHERE WHAT IT READS IS OF BULK AT MOST 1048576: true; the input reads as it did. -/
def eventsListsUptoRow : OpenClaim := { program := "ytpimibchameakaadoor", sum := "3d02dfb562082bd009930caab2afa8e07e2beb92b43178f12343a6e9b08fae50", func := "analemma/analemmalaw17.EventsLists", spec := "eventsLists", unfollowed := true, recurses := true, named := ["analemma/dayform.kinds", "analemma/civil.before"], apart := false, laid := [("analemma/civil.before", laid_analemma_civil_before), ("analemma/dayform.kinds", laid_analemma_dayform_kinds)], narrowed := true }
def EventsListsUptoSaid : Prop := eventsListsUptoRow.holds Tryd.pinned (OpenSpec.upto eventsListsSpec)

/-- 'analemmalaw17.EventsSteps', WHERE WHAT IT READS IS OF BULK AT MOST 1048576: true; the input reads as it did. -/
def eventsStepsUptoRow : OpenClaim := { program := "ytpimibchameakaadoor", sum := "3d02dfb562082bd009930caab2afa8e07e2beb92b43178f12343a6e9b08fae50", func := "analemma/analemmalaw17.EventsSteps", spec := "eventsSteps", unfollowed := true, recurses := true, named := ["analemma/dayform.kinds", "analemma/civil.before"], apart := false, laid := [("analemma/civil.before", laid_analemma_civil_before), ("analemma/dayform.kinds", laid_analemma_dayform_kinds)], narrowed := true }
def EventsStepsUptoSaid : Prop := eventsStepsUptoRow.holds Tryd.pinned (OpenSpec.upto eventsStepsSpec)

end Rows
end Go.Proofs.YtpimibchameakaaDoor
