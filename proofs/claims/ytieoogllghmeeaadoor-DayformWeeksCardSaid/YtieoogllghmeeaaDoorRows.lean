/-
  NARROWER THAN 'FOR EVERY INPUT', by the rows' own cells (each row's printed sentence says how): DayformDays: laid · DayformAlways: laid · DayformWeekdays: laid · DayformEach: laid · DayformWeeks: laid · DayformRefuses: laid.
  DERIVED. THE GIVEN ROWS OF THIS SEAT. 6 by the template 'for every input the law returns true; each argument reads behind the call as it read before'; 0 by the template 'total and deterministic' (their statements: YtieoogllghmeeaaDoorTotals.lean).
  GIVEN WITH THE SEED: the statements are not yours to turn. If you find one false, say at which input.
  Laid BY PROGRAM, IN A SANDBOX (cutbox-rows.mjs): the forced cells as the released guide's own fill.sh prints them over the translation 7f7a365345a2b789… (all of the seat's roots in one cut). By AI agents, Wed Nov 11 2026. No macro, syntax, notation, axiom, sorry.
-/
import Derived.Test.YtieoogllghmeeaaDoorChecked
import GoSem.Claim
import GoSem.ClaimJoined
import GoSem.ClaimMapViews
import Derived.JoinedTies
import Derived.KernelRfl
namespace Go.Proofs.YtieoogllghmeeaaDoor
/- THE CELL 'sum', in the pinned program and in every row, IS THE sha256 OF THE DUMP (.gsa) THAT YtieoogllghmeeaaDoorProg.lean LOADS. Nothing in Lean hashes anything: it is a label: what it is worth is what the hold of that sum in a sandbox is worth. -/
noncomputable def Tryd.pinned : Pinned := { name := "ytieoogllghmeeaadoor", sum := "7f7a365345a2b7890d8758379d1c7026bd87befe2ce866e0b5a6f5fcb06e53aa", checked := Tryd.checked }
namespace Rows
def none {H : Type} : Left H := { results := [], args := [] }

/- WHAT THE LISTED PACKAGE-LEVEL VARIABLES READ AS WHEN THE CALL BEGINS. Each datum BY PROGRAM (the guide's laid-datum.mjs) off the statement by which the dump's own 'gosem.cut.vars' lays the variable. In a bare row this is a premise. The card (YtieoogllghmeeaaDoorCards.lean) ties it to the program's text. -/
def laid_analemma_civil_before {H : Type} : DataW H := .agg [.lit (.int .i64 0), .lit (.int .i64 31), .lit (.int .i64 61), .lit (.int .i64 92), .lit (.int .i64 122), .lit (.int .i64 153), .lit (.int .i64 184), .lit (.int .i64 214), .lit (.int .i64 245), .lit (.int .i64 275), .lit (.int .i64 306), .lit (.int .i64 337)]
def laid_analemma_dayform_kinds {H : Type} : DataW H := .iface "func table" (.agg [.agg [.lit (.bool false), .lit (.bool false), .nil], .agg [.lit (.bool false), .lit (.bool true), .iface "func" (.lit (.string [97, 110, 97, 108, 101, 109, 109, 97, 47, 100, 97, 121, 102, 111, 114, 109, 46, 107, 105, 110, 100, 115, 36, 49]))], .agg [.lit (.bool true), .lit (.bool false), .iface "func" (.lit (.string [97, 110, 97, 108, 101, 109, 109, 97, 47, 100, 97, 121, 102, 111, 114, 109, 46, 107, 105, 110, 100, 115, 36, 50]))], .agg [.lit (.bool true), .lit (.bool true), .iface "func" (.lit (.string [97, 110, 97, 108, 101, 109, 109, 97, 47, 100, 97, 121, 102, 111, 114, 109, 46, 107, 105, 110, 100, 115, 36, 51]))], .agg [.lit (.bool true), .lit (.bool true), .iface "func" (.lit (.string [97, 110, 97, 108, 101, 109, 109, 97, 47, 100, 97, 121, 102, 111, 114, 109, 46, 107, 105, 110, 100, 115, 36, 52]))]])

/-- 'analemmalaw02.DayformDays': WHATEVER THE INPUT: true; the input reads as it did. -/
def dayformDaysSpec : ChangeSpec := { name := "dayformDays", fn := fun _ => fun
  | [d1, d2, d3] => { results := [.lit (.bool true)], args := [d1, d2, d3] }
  | _ => none }
def dayformDaysRow : OpenClaim := { program := "ytieoogllghmeeaadoor", sum := "7f7a365345a2b7890d8758379d1c7026bd87befe2ce866e0b5a6f5fcb06e53aa", func := "analemma/analemmalaw02.DayformDays", spec := "dayformDays", unfollowed := true, recurses := true, named := ["analemma/dayform.kinds", "analemma/civil.before"], apart := false, laid := [("analemma/civil.before", laid_analemma_civil_before), ("analemma/dayform.kinds", laid_analemma_dayform_kinds)] }
def DayformDaysSaid : Prop := dayformDaysRow.holds Tryd.pinned (OpenSpec.ofChange dayformDaysSpec)

/-- ITS FALSE NEIGHBOUR: 'it returns false'. Refute it at one input. -/
def dayformDaysWrong : ChangeSpec := { name := "dayformDays", fn := fun _ => fun
  | [d1, d2, d3] => { results := [.lit (.bool false)], args := [d1, d2, d3] }
  | _ => none }
def DayformDaysWrongFalsely : Prop := dayformDaysRow.holds Tryd.pinned (OpenSpec.ofChange dayformDaysWrong)

/-- 'analemmalaw02.DayformAlways': WHATEVER THE INPUT: true; the input reads as it did. -/
def dayformAlwaysSpec : ChangeSpec := { name := "dayformAlways", fn := fun _ => fun
  | [d1, d2, d3, d4] => { results := [.lit (.bool true)], args := [d1, d2, d3, d4] }
  | _ => none }
def dayformAlwaysRow : OpenClaim := { program := "ytieoogllghmeeaadoor", sum := "7f7a365345a2b7890d8758379d1c7026bd87befe2ce866e0b5a6f5fcb06e53aa", func := "analemma/analemmalaw02.DayformAlways", spec := "dayformAlways", unfollowed := true, recurses := true, named := ["analemma/dayform.kinds", "analemma/civil.before"], apart := false, laid := [("analemma/civil.before", laid_analemma_civil_before), ("analemma/dayform.kinds", laid_analemma_dayform_kinds)] }
def DayformAlwaysSaid : Prop := dayformAlwaysRow.holds Tryd.pinned (OpenSpec.ofChange dayformAlwaysSpec)

/-- ITS FALSE NEIGHBOUR: 'it returns false'. Refute it at one input. -/
def dayformAlwaysWrong : ChangeSpec := { name := "dayformAlways", fn := fun _ => fun
  | [d1, d2, d3, d4] => { results := [.lit (.bool false)], args := [d1, d2, d3, d4] }
  | _ => none }
def DayformAlwaysWrongFalsely : Prop := dayformAlwaysRow.holds Tryd.pinned (OpenSpec.ofChange dayformAlwaysWrong)

/-- 'analemmalaw02.DayformWeekdays': WHATEVER THE INPUT: true; the input reads as it did. -/
def dayformWeekdaysSpec : ChangeSpec := { name := "dayformWeekdays", fn := fun _ => fun
  | [d1, d2, d3] => { results := [.lit (.bool true)], args := [d1, d2, d3] }
  | _ => none }
def dayformWeekdaysRow : OpenClaim := { program := "ytieoogllghmeeaadoor", sum := "7f7a365345a2b7890d8758379d1c7026bd87befe2ce866e0b5a6f5fcb06e53aa", func := "analemma/analemmalaw02.DayformWeekdays", spec := "dayformWeekdays", unfollowed := true, recurses := true, named := ["analemma/dayform.kinds", "analemma/civil.before"], apart := false, laid := [("analemma/civil.before", laid_analemma_civil_before), ("analemma/dayform.kinds", laid_analemma_dayform_kinds)] }
def DayformWeekdaysSaid : Prop := dayformWeekdaysRow.holds Tryd.pinned (OpenSpec.ofChange dayformWeekdaysSpec)

/-- ITS FALSE NEIGHBOUR: 'it returns false'. Refute it at one input. -/
def dayformWeekdaysWrong : ChangeSpec := { name := "dayformWeekdays", fn := fun _ => fun
  | [d1, d2, d3] => { results := [.lit (.bool false)], args := [d1, d2, d3] }
  | _ => none }
def DayformWeekdaysWrongFalsely : Prop := dayformWeekdaysRow.holds Tryd.pinned (OpenSpec.ofChange dayformWeekdaysWrong)

/-- 'analemmalaw02.DayformEach': WHATEVER THE INPUT: true; the input reads as it did. -/
def dayformEachSpec : ChangeSpec := { name := "dayformEach", fn := fun _ => fun
  | [d1, d2, d3, d4] => { results := [.lit (.bool true)], args := [d1, d2, d3, d4] }
  | _ => none }
def dayformEachRow : OpenClaim := { program := "ytieoogllghmeeaadoor", sum := "7f7a365345a2b7890d8758379d1c7026bd87befe2ce866e0b5a6f5fcb06e53aa", func := "analemma/analemmalaw02.DayformEach", spec := "dayformEach", unfollowed := true, recurses := true, named := ["analemma/dayform.kinds", "analemma/civil.before"], apart := false, laid := [("analemma/civil.before", laid_analemma_civil_before), ("analemma/dayform.kinds", laid_analemma_dayform_kinds)] }
def DayformEachSaid : Prop := dayformEachRow.holds Tryd.pinned (OpenSpec.ofChange dayformEachSpec)

/-- ITS FALSE NEIGHBOUR: 'it returns false'. Refute it at one input. -/
def dayformEachWrong : ChangeSpec := { name := "dayformEach", fn := fun _ => fun
  | [d1, d2, d3, d4] => { results := [.lit (.bool false)], args := [d1, d2, d3, d4] }
  | _ => none }
def DayformEachWrongFalsely : Prop := dayformEachRow.holds Tryd.pinned (OpenSpec.ofChange dayformEachWrong)

/-- 'analemmalaw02.DayformWeeks': WHATEVER THE INPUT: true; the input reads as it did. -/
def dayformWeeksSpec : ChangeSpec := { name := "dayformWeeks", fn := fun _ => fun
  | [d1, d2, d3] => { results := [.lit (.bool true)], args := [d1, d2, d3] }
  | _ => none }
def dayformWeeksRow : OpenClaim := { program := "ytieoogllghmeeaadoor", sum := "7f7a365345a2b7890d8758379d1c7026bd87befe2ce866e0b5a6f5fcb06e53aa", func := "analemma/analemmalaw02.DayformWeeks", spec := "dayformWeeks", unfollowed := true, recurses := true, named := ["analemma/civil.before", "analemma/dayform.kinds"], apart := false, laid := [("analemma/civil.before", laid_analemma_civil_before), ("analemma/dayform.kinds", laid_analemma_dayform_kinds)] }
def DayformWeeksSaid : Prop := dayformWeeksRow.holds Tryd.pinned (OpenSpec.ofChange dayformWeeksSpec)

/-- ITS FALSE NEIGHBOUR: 'it returns false'. Refute it at one input. -/
def dayformWeeksWrong : ChangeSpec := { name := "dayformWeeks", fn := fun _ => fun
  | [d1, d2, d3] => { results := [.lit (.bool false)], args := [d1, d2, d3] }
  | _ => none }
def DayformWeeksWrongFalsely : Prop := dayformWeeksRow.holds Tryd.pinned (OpenSpec.ofChange dayformWeeksWrong)

/-- 'analemmalaw02.DayformRefuses': WHATEVER THE INPUT: true; the input reads as it did. -/
def dayformRefusesSpec : ChangeSpec := { name := "dayformRefuses", fn := fun _ => fun
  | [d1, d2, d3] => { results := [.lit (.bool true)], args := [d1, d2, d3] }
  | _ => none }
def dayformRefusesRow : OpenClaim := { program := "ytieoogllghmeeaadoor", sum := "7f7a365345a2b7890d8758379d1c7026bd87befe2ce866e0b5a6f5fcb06e53aa", func := "analemma/analemmalaw02.DayformRefuses", spec := "dayformRefuses", unfollowed := true, recurses := true, named := ["analemma/dayform.kinds", "analemma/civil.before"], apart := false, laid := [("analemma/civil.before", laid_analemma_civil_before), ("analemma/dayform.kinds", laid_analemma_dayform_kinds)] }
def DayformRefusesSaid : Prop := dayformRefusesRow.holds Tryd.pinned (OpenSpec.ofChange dayformRefusesSpec)

/-- ITS FALSE NEIGHBOUR: 'it returns false'. Refute it at one input. -/
def dayformRefusesWrong : ChangeSpec := { name := "dayformRefuses", fn := fun _ => fun
  | [d1, d2, d3] => { results := [.lit (.bool false)], args := [d1, d2, d3] }
  | _ => none }
def DayformRefusesWrongFalsely : Prop := dayformRefusesRow.holds Tryd.pinned (OpenSpec.ofChange dayformRefusesWrong)

/- THE SECOND FORM. 'bulk': how many values and letters a reading holds, each counted each time it is reached (what is shared counts as often as it is met; a slice's spare places count too). A statement '..UptoSaid' is the law's where the arguments, and the package variables that the reading takes, are together of bulk at most 1048576: NARROWER than '..Said'. Prove '..Said' where nothing that the law and all that it calls make is longer than what came in: it says more and counts as full. Else prove '..UptoSaid'. A law counts once. -/
mutual
def uptoBulk {H : Type} : DataW H → Nat
  | .lit (.string bytes) => bytes.length + 1
  | .lit _ => 1
  | .nil => 1
  | .ptr d => uptoBulk d + 1
  | .slice elems spare => uptoBulkAll elems + uptoBulkAll spare + 1
  | .agg parts => uptoBulkAll parts + 1
  | .iface _ d => uptoBulk d + 1
  | .map entries => uptoBulkEntries entries + 1
  | .held _ => 1
def uptoBulkAll {H : Type} : List (DataW H) → Nat
  | [] => 0
  | d :: r => uptoBulk d + uptoBulkAll r
def uptoBulkEntries {H : Type} : List (Lit × DataW H) → Nat
  | [] => 0
  | x :: r => uptoBulkEntry x + uptoBulkEntries r
def uptoBulkEntry {H : Type} : Lit × DataW H → Nat
  | (.string bytes, d) => bytes.length + uptoBulk d + 1
  | (_, d) => uptoBulk d + 1
 end
def uptoSmall : (H : Type) → List (DataW H) → Bool := fun _ ds => decide (uptoBulkAll ds ≤ 1048576)
def OpenSpec.upto (s : _root_.Go.ChangeSpec) : _root_.Go.OpenSpec := { _root_.Go.OpenSpec.ofChange s with cond := some uptoSmall }

/-- 'analemmalaw02.DayformDays', WHERE WHAT IT READS IS OF BULK AT MOST 1048576: true; the input reads as it did. -/
def dayformDaysUptoRow : OpenClaim := { program := "ytieoogllghmeeaadoor", sum := "7f7a365345a2b7890d8758379d1c7026bd87befe2ce866e0b5a6f5fcb06e53aa", func := "analemma/analemmalaw02.DayformDays", spec := "dayformDays", unfollowed := true, recurses := true, named := ["analemma/dayform.kinds", "analemma/civil.before"], apart := false, laid := [("analemma/civil.before", laid_analemma_civil_before), ("analemma/dayform.kinds", laid_analemma_dayform_kinds)], narrowed := true }
def DayformDaysUptoSaid : Prop := dayformDaysUptoRow.holds Tryd.pinned (OpenSpec.upto dayformDaysSpec)

/-- 'analemmalaw02.DayformAlways', WHERE WHAT IT READS IS OF BULK AT MOST 1048576: true; the input reads as it did. -/
def dayformAlwaysUptoRow : OpenClaim := { program := "ytieoogllghmeeaadoor", sum := "7f7a365345a2b7890d8758379d1c7026bd87befe2ce866e0b5a6f5fcb06e53aa", func := "analemma/analemmalaw02.DayformAlways", spec := "dayformAlways", unfollowed := true, recurses := true, named := ["analemma/dayform.kinds", "analemma/civil.before"], apart := false, laid := [("analemma/civil.before", laid_analemma_civil_before), ("analemma/dayform.kinds", laid_analemma_dayform_kinds)], narrowed := true }
def DayformAlwaysUptoSaid : Prop := dayformAlwaysUptoRow.holds Tryd.pinned (OpenSpec.upto dayformAlwaysSpec)

/-- 'analemmalaw02.DayformWeekdays', WHERE WHAT IT READS IS OF BULK AT MOST 1048576: true; the input reads as it did. -/
def dayformWeekdaysUptoRow : OpenClaim := { program := "ytieoogllghmeeaadoor", sum := "7f7a365345a2b7890d8758379d1c7026bd87befe2ce866e0b5a6f5fcb06e53aa", func := "analemma/analemmalaw02.DayformWeekdays", spec := "dayformWeekdays", unfollowed := true, recurses := true, named := ["analemma/dayform.kinds", "analemma/civil.before"], apart := false, laid := [("analemma/civil.before", laid_analemma_civil_before), ("analemma/dayform.kinds", laid_analemma_dayform_kinds)], narrowed := true }
def DayformWeekdaysUptoSaid : Prop := dayformWeekdaysUptoRow.holds Tryd.pinned (OpenSpec.upto dayformWeekdaysSpec)

/-- 'analemmalaw02.DayformEach', WHERE WHAT IT READS IS OF BULK AT MOST 1048576: true; the input reads as it did. -/
def dayformEachUptoRow : OpenClaim := { program := "ytieoogllghmeeaadoor", sum := "7f7a365345a2b7890d8758379d1c7026bd87befe2ce866e0b5a6f5fcb06e53aa", func := "analemma/analemmalaw02.DayformEach", spec := "dayformEach", unfollowed := true, recurses := true, named := ["analemma/dayform.kinds", "analemma/civil.before"], apart := false, laid := [("analemma/civil.before", laid_analemma_civil_before), ("analemma/dayform.kinds", laid_analemma_dayform_kinds)], narrowed := true }
def DayformEachUptoSaid : Prop := dayformEachUptoRow.holds Tryd.pinned (OpenSpec.upto dayformEachSpec)

/-- 'analemmalaw02.DayformWeeks', WHERE WHAT IT READS IS OF BULK AT MOST 1048576: true; the input reads as it did. -/
def dayformWeeksUptoRow : OpenClaim := { program := "ytieoogllghmeeaadoor", sum := "7f7a365345a2b7890d8758379d1c7026bd87befe2ce866e0b5a6f5fcb06e53aa", func := "analemma/analemmalaw02.DayformWeeks", spec := "dayformWeeks", unfollowed := true, recurses := true, named := ["analemma/civil.before", "analemma/dayform.kinds"], apart := false, laid := [("analemma/civil.before", laid_analemma_civil_before), ("analemma/dayform.kinds", laid_analemma_dayform_kinds)], narrowed := true }
def DayformWeeksUptoSaid : Prop := dayformWeeksUptoRow.holds Tryd.pinned (OpenSpec.upto dayformWeeksSpec)

/-- 'analemmalaw02.DayformRefuses', WHERE WHAT IT READS IS OF BULK AT MOST 1048576: true; the input reads as it did. -/
def dayformRefusesUptoRow : OpenClaim := { program := "ytieoogllghmeeaadoor", sum := "7f7a365345a2b7890d8758379d1c7026bd87befe2ce866e0b5a6f5fcb06e53aa", func := "analemma/analemmalaw02.DayformRefuses", spec := "dayformRefuses", unfollowed := true, recurses := true, named := ["analemma/dayform.kinds", "analemma/civil.before"], apart := false, laid := [("analemma/civil.before", laid_analemma_civil_before), ("analemma/dayform.kinds", laid_analemma_dayform_kinds)], narrowed := true }
def DayformRefusesUptoSaid : Prop := dayformRefusesUptoRow.holds Tryd.pinned (OpenSpec.upto dayformRefusesSpec)

end Rows
end Go.Proofs.YtieoogllghmeeaaDoor
