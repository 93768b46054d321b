/-
  NARROWER THAN 'FOR EVERY INPUT', by the rows' own cells (each row's printed sentence says how): CivilDates: laid · CivilDays: laid · CivilBack: laid · CivilNext: laid · CivilCycles: laid · CivilOrder: laid · CivilSeconds: laid · CivilRefuses: laid.
  DERIVED. THE GIVEN ROWS OF THIS SEAT. 8 by the template 'for every input the law returns true; each argument reads behind the call as it read before'; 0 by the template 'total and deterministic' (their statements: YthppldacadehiaaDoorTotals.lean).
  GIVEN WITH THE SEED: the statements are not yours to turn. If you find one false, say at which input.
  Laid BY PROGRAM, IN A SANDBOX (cutbox-rows.mjs): the forced cells as the released guide's own fill.sh prints them over the translation d417451cccafa5aa… (all of the seat's roots in one cut). By AI agents, Wed Nov 11 2026. No macro, syntax, notation, axiom, sorry.
-/
import Derived.Test.YthppldacadehiaaDoorChecked
import GoSem.Claim
import GoSem.ClaimJoined
import GoSem.ClaimMapViews
import Derived.JoinedTies
import Derived.KernelRfl
namespace Go.Proofs.YthppldacadehiaaDoor
/- THE CELL 'sum', in the pinned program and in every row, IS THE sha256 OF THE DUMP (.gsa) THAT YthppldacadehiaaDoorProg.lean LOADS. Nothing in Lean hashes anything: it is a label: what it is worth is what the hold of that sum in a sandbox is worth. -/
noncomputable def Tryd.pinned : Pinned := { name := "ythppldacadehiaadoor", sum := "d417451cccafa5aa605c6a36807ee77a6b6b43b13dd1e669853b29dbc79032c8", checked := Tryd.checked }
namespace Rows
def none {H : Type} : Left H := { results := [], args := [] }

/- WHAT THE LISTED PACKAGE-LEVEL VARIABLES READ AS WHEN THE CALL BEGINS. Each datum BY PROGRAM (the guide's laid-datum.mjs) off the statement by which the dump's own 'gosem.cut.vars' lays the variable. In a bare row this is a premise. The card (YthppldacadehiaaDoorCards.lean) ties it to the program's text. -/
def laid_analemma_civil_before {H : Type} : DataW H := .agg [.lit (.int .i64 0), .lit (.int .i64 31), .lit (.int .i64 61), .lit (.int .i64 92), .lit (.int .i64 122), .lit (.int .i64 153), .lit (.int .i64 184), .lit (.int .i64 214), .lit (.int .i64 245), .lit (.int .i64 275), .lit (.int .i64 306), .lit (.int .i64 337)]

/-- 'analemmalaw01.CivilDates': WHATEVER THE INPUT: true; the input reads as it did. -/
def civilDatesSpec : ChangeSpec := { name := "civilDates", fn := fun _ => fun
  | [d1, d2, d3] => { results := [.lit (.bool true)], args := [d1, d2, d3] }
  | _ => none }
def civilDatesRow : OpenClaim := { program := "ythppldacadehiaadoor", sum := "d417451cccafa5aa605c6a36807ee77a6b6b43b13dd1e669853b29dbc79032c8", func := "analemma/analemmalaw01.CivilDates", spec := "civilDates", named := ["analemma/civil.before"], apart := false, laid := [("analemma/civil.before", laid_analemma_civil_before)] }
def CivilDatesSaid : Prop := civilDatesRow.holds Tryd.pinned (OpenSpec.ofChange civilDatesSpec)

/-- ITS FALSE NEIGHBOUR: 'it returns false'. Refute it at one input. -/
def civilDatesWrong : ChangeSpec := { name := "civilDates", fn := fun _ => fun
  | [d1, d2, d3] => { results := [.lit (.bool false)], args := [d1, d2, d3] }
  | _ => none }
def CivilDatesWrongFalsely : Prop := civilDatesRow.holds Tryd.pinned (OpenSpec.ofChange civilDatesWrong)

/-- 'analemmalaw01.CivilDays': WHATEVER THE INPUT: true; the input reads as it did. -/
def civilDaysSpec : ChangeSpec := { name := "civilDays", fn := fun _ => fun
  | [d] => { results := [.lit (.bool true)], args := [d] }
  | _ => none }
def civilDaysRow : OpenClaim := { program := "ythppldacadehiaadoor", sum := "d417451cccafa5aa605c6a36807ee77a6b6b43b13dd1e669853b29dbc79032c8", func := "analemma/analemmalaw01.CivilDays", spec := "civilDays", named := ["analemma/civil.before"], apart := false, laid := [("analemma/civil.before", laid_analemma_civil_before)] }
def CivilDaysSaid : Prop := civilDaysRow.holds Tryd.pinned (OpenSpec.ofChange civilDaysSpec)

/-- ITS FALSE NEIGHBOUR: 'it returns false'. Refute it at one input. -/
def civilDaysWrong : ChangeSpec := { name := "civilDays", fn := fun _ => fun
  | [d] => { results := [.lit (.bool false)], args := [d] }
  | _ => none }
def CivilDaysWrongFalsely : Prop := civilDaysRow.holds Tryd.pinned (OpenSpec.ofChange civilDaysWrong)

/-- 'analemmalaw01.CivilBack': WHATEVER THE INPUT: true; the input reads as it did. -/
def civilBackSpec : ChangeSpec := { name := "civilBack", fn := fun _ => fun
  | [d1, d2, d3, d4] => { results := [.lit (.bool true)], args := [d1, d2, d3, d4] }
  | _ => none }
def civilBackRow : OpenClaim := { program := "ythppldacadehiaadoor", sum := "d417451cccafa5aa605c6a36807ee77a6b6b43b13dd1e669853b29dbc79032c8", func := "analemma/analemmalaw01.CivilBack", spec := "civilBack", named := ["analemma/civil.before"], apart := false, laid := [("analemma/civil.before", laid_analemma_civil_before)] }
def CivilBackSaid : Prop := civilBackRow.holds Tryd.pinned (OpenSpec.ofChange civilBackSpec)

/-- ITS FALSE NEIGHBOUR: 'it returns false'. Refute it at one input. -/
def civilBackWrong : ChangeSpec := { name := "civilBack", fn := fun _ => fun
  | [d1, d2, d3, d4] => { results := [.lit (.bool false)], args := [d1, d2, d3, d4] }
  | _ => none }
def CivilBackWrongFalsely : Prop := civilBackRow.holds Tryd.pinned (OpenSpec.ofChange civilBackWrong)

/-- 'analemmalaw01.CivilNext': WHATEVER THE INPUT: true; the input reads as it did. -/
def civilNextSpec : ChangeSpec := { name := "civilNext", fn := fun _ => fun
  | [d] => { results := [.lit (.bool true)], args := [d] }
  | _ => none }
def civilNextRow : OpenClaim := { program := "ythppldacadehiaadoor", sum := "d417451cccafa5aa605c6a36807ee77a6b6b43b13dd1e669853b29dbc79032c8", func := "analemma/analemmalaw01.CivilNext", spec := "civilNext", named := ["analemma/civil.before"], apart := false, laid := [("analemma/civil.before", laid_analemma_civil_before)] }
def CivilNextSaid : Prop := civilNextRow.holds Tryd.pinned (OpenSpec.ofChange civilNextSpec)

/-- ITS FALSE NEIGHBOUR: 'it returns false'. Refute it at one input. -/
def civilNextWrong : ChangeSpec := { name := "civilNext", fn := fun _ => fun
  | [d] => { results := [.lit (.bool false)], args := [d] }
  | _ => none }
def CivilNextWrongFalsely : Prop := civilNextRow.holds Tryd.pinned (OpenSpec.ofChange civilNextWrong)

/-- 'analemmalaw01.CivilCycles': WHATEVER THE INPUT: true; the input reads as it did. -/
def civilCyclesSpec : ChangeSpec := { name := "civilCycles", fn := fun _ => fun
  | [d1, d2, d3] => { results := [.lit (.bool true)], args := [d1, d2, d3] }
  | _ => none }
def civilCyclesRow : OpenClaim := { program := "ythppldacadehiaadoor", sum := "d417451cccafa5aa605c6a36807ee77a6b6b43b13dd1e669853b29dbc79032c8", func := "analemma/analemmalaw01.CivilCycles", spec := "civilCycles", named := ["analemma/civil.before"], apart := false, laid := [("analemma/civil.before", laid_analemma_civil_before)] }
def CivilCyclesSaid : Prop := civilCyclesRow.holds Tryd.pinned (OpenSpec.ofChange civilCyclesSpec)

/-- ITS FALSE NEIGHBOUR: 'it returns false'. Refute it at one input. -/
def civilCyclesWrong : ChangeSpec := { name := "civilCycles", fn := fun _ => fun
  | [d1, d2, d3] => { results := [.lit (.bool false)], args := [d1, d2, d3] }
  | _ => none }
def CivilCyclesWrongFalsely : Prop := civilCyclesRow.holds Tryd.pinned (OpenSpec.ofChange civilCyclesWrong)

/-- 'analemmalaw01.CivilOrder': WHATEVER THE INPUT: true; the input reads as it did. -/
def civilOrderSpec : ChangeSpec := { name := "civilOrder", fn := fun _ => fun
  | [d1, d2, d3, d4, d5, d6] => { results := [.lit (.bool true)], args := [d1, d2, d3, d4, d5, d6] }
  | _ => none }
def civilOrderRow : OpenClaim := { program := "ythppldacadehiaadoor", sum := "d417451cccafa5aa605c6a36807ee77a6b6b43b13dd1e669853b29dbc79032c8", func := "analemma/analemmalaw01.CivilOrder", spec := "civilOrder", named := ["analemma/civil.before"], apart := false, laid := [("analemma/civil.before", laid_analemma_civil_before)] }
def CivilOrderSaid : Prop := civilOrderRow.holds Tryd.pinned (OpenSpec.ofChange civilOrderSpec)

/-- ITS FALSE NEIGHBOUR: 'it returns false'. Refute it at one input. -/
def civilOrderWrong : ChangeSpec := { name := "civilOrder", fn := fun _ => fun
  | [d1, d2, d3, d4, d5, d6] => { results := [.lit (.bool false)], args := [d1, d2, d3, d4, d5, d6] }
  | _ => none }
def CivilOrderWrongFalsely : Prop := civilOrderRow.holds Tryd.pinned (OpenSpec.ofChange civilOrderWrong)

/-- 'analemmalaw01.CivilSeconds': WHATEVER THE INPUT: true; the input reads as it did. -/
def civilSecondsSpec : ChangeSpec := { name := "civilSeconds", fn := fun _ => fun
  | [d] => { results := [.lit (.bool true)], args := [d] }
  | _ => none }
def civilSecondsRow : OpenClaim := { program := "ythppldacadehiaadoor", sum := "d417451cccafa5aa605c6a36807ee77a6b6b43b13dd1e669853b29dbc79032c8", func := "analemma/analemmalaw01.CivilSeconds", spec := "civilSeconds", named := ["analemma/civil.before"], apart := false, laid := [("analemma/civil.before", laid_analemma_civil_before)] }
def CivilSecondsSaid : Prop := civilSecondsRow.holds Tryd.pinned (OpenSpec.ofChange civilSecondsSpec)

/-- ITS FALSE NEIGHBOUR: 'it returns false'. Refute it at one input. -/
def civilSecondsWrong : ChangeSpec := { name := "civilSeconds", fn := fun _ => fun
  | [d] => { results := [.lit (.bool false)], args := [d] }
  | _ => none }
def CivilSecondsWrongFalsely : Prop := civilSecondsRow.holds Tryd.pinned (OpenSpec.ofChange civilSecondsWrong)

/-- 'analemmalaw01.CivilRefuses': WHATEVER THE INPUT: true; the input reads as it did. -/
def civilRefusesSpec : ChangeSpec := { name := "civilRefuses", fn := fun _ => fun
  | [d1, d2] => { results := [.lit (.bool true)], args := [d1, d2] }
  | _ => none }
def civilRefusesRow : OpenClaim := { program := "ythppldacadehiaadoor", sum := "d417451cccafa5aa605c6a36807ee77a6b6b43b13dd1e669853b29dbc79032c8", func := "analemma/analemmalaw01.CivilRefuses", spec := "civilRefuses", named := ["analemma/civil.before"], apart := false, laid := [("analemma/civil.before", laid_analemma_civil_before)] }
def CivilRefusesSaid : Prop := civilRefusesRow.holds Tryd.pinned (OpenSpec.ofChange civilRefusesSpec)

/-- ITS FALSE NEIGHBOUR: 'it returns false'. Refute it at one input. -/
def civilRefusesWrong : ChangeSpec := { name := "civilRefuses", fn := fun _ => fun
  | [d1, d2] => { results := [.lit (.bool false)], args := [d1, d2] }
  | _ => none }
def CivilRefusesWrongFalsely : Prop := civilRefusesRow.holds Tryd.pinned (OpenSpec.ofChange civilRefusesWrong)

/- THE SECOND FORM. 'bulk': how many values and letters a reading holds, each counted each time it is reached (what is shared counts as often as it is met; a slice's spare places count too). A statement '..UptoSaid' is the law's where the arguments, and the package variables that the reading takes, are together of bulk at most 1048576: NARROWER than '..Said'. Prove '..Said' where nothing that the law and all that it calls make is longer than what came in: it says more and counts as full. Else prove '..UptoSaid'. A law counts once. -/
mutual
def uptoBulk {H : Type} : DataW H → Nat
  | .lit (.string bytes) => bytes.length + 1
  | .lit _ => 1
  | .nil => 1
  | .ptr d => uptoBulk d + 1
  | .slice elems spare => uptoBulkAll elems + uptoBulkAll spare + 1
  | .agg parts => uptoBulkAll parts + 1
  | .iface _ d => uptoBulk d + 1
  | .map entries => uptoBulkEntries entries + 1
  | .held _ => 1
def uptoBulkAll {H : Type} : List (DataW H) → Nat
  | [] => 0
  | d :: r => uptoBulk d + uptoBulkAll r
def uptoBulkEntries {H : Type} : List (Lit × DataW H) → Nat
  | [] => 0
  | x :: r => uptoBulkEntry x + uptoBulkEntries r
def uptoBulkEntry {H : Type} : Lit × DataW H → Nat
  | (.string bytes, d) => bytes.length + uptoBulk d + 1
  | (_, d) => uptoBulk d + 1
 end
def uptoSmall : (H : Type) → List (DataW H) → Bool := fun _ ds => decide (uptoBulkAll ds ≤ 1048576)
def OpenSpec.upto (s : _root_.Go.ChangeSpec) : _root_.Go.OpenSpec := { _root_.Go.OpenSpec.ofChange s with cond := some uptoSmall }

/-- 'analemmalaw01.CivilDates', WHERE WHAT IT READS IS OF BULK AT MOST 1048576: true; the input reads as it did. -/
def civilDatesUptoRow : OpenClaim := { program := "ythppldacadehiaadoor", sum := "d417451cccafa5aa605c6a36807ee77a6b6b43b13dd1e669853b29dbc79032c8", func := "analemma/analemmalaw01.CivilDates", spec := "civilDates", named := ["analemma/civil.before"], apart := false, laid := [("analemma/civil.before", laid_analemma_civil_before)], narrowed := true }
def CivilDatesUptoSaid : Prop := civilDatesUptoRow.holds Tryd.pinned (OpenSpec.upto civilDatesSpec)

/-- 'analemmalaw01.CivilDays', WHERE WHAT IT READS IS OF BULK AT MOST 1048576: true; the input reads as it did. -/
def civilDaysUptoRow : OpenClaim := { program := "ythppldacadehiaadoor", sum := "d417451cccafa5aa605c6a36807ee77a6b6b43b13dd1e669853b29dbc79032c8", func := "analemma/analemmalaw01.CivilDays", spec := "civilDays", named := ["analemma/civil.before"], apart := false, laid := [("analemma/civil.before", laid_analemma_civil_before)], narrowed := true }
def CivilDaysUptoSaid : Prop := civilDaysUptoRow.holds Tryd.pinned (OpenSpec.upto civilDaysSpec)

/-- 'analemmalaw01.CivilBack', WHERE WHAT IT READS IS OF BULK AT MOST 1048576: true; the input reads as it did. -/
def civilBackUptoRow : OpenClaim := { program := "ythppldacadehiaadoor", sum := "d417451cccafa5aa605c6a36807ee77a6b6b43b13dd1e669853b29dbc79032c8", func := "analemma/analemmalaw01.CivilBack", spec := "civilBack", named := ["analemma/civil.before"], apart := false, laid := [("analemma/civil.before", laid_analemma_civil_before)], narrowed := true }
def CivilBackUptoSaid : Prop := civilBackUptoRow.holds Tryd.pinned (OpenSpec.upto civilBackSpec)

/-- 'analemmalaw01.CivilNext', WHERE WHAT IT READS IS OF BULK AT MOST 1048576: true; the input reads as it did. -/
def civilNextUptoRow : OpenClaim := { program := "ythppldacadehiaadoor", sum := "d417451cccafa5aa605c6a36807ee77a6b6b43b13dd1e669853b29dbc79032c8", func := "analemma/analemmalaw01.CivilNext", spec := "civilNext", named := ["analemma/civil.before"], apart := false, laid := [("analemma/civil.before", laid_analemma_civil_before)], narrowed := true }
def CivilNextUptoSaid : Prop := civilNextUptoRow.holds Tryd.pinned (OpenSpec.upto civilNextSpec)

/-- 'analemmalaw01.CivilCycles', WHERE WHAT IT READS IS OF BULK AT MOST 1048576: true; the input reads as it did. -/
def civilCyclesUptoRow : OpenClaim := { program := "ythppldacadehiaadoor", sum := "d417451cccafa5aa605c6a36807ee77a6b6b43b13dd1e669853b29dbc79032c8", func := "analemma/analemmalaw01.CivilCycles", spec := "civilCycles", named := ["analemma/civil.before"], apart := false, laid := [("analemma/civil.before", laid_analemma_civil_before)], narrowed := true }
def CivilCyclesUptoSaid : Prop := civilCyclesUptoRow.holds Tryd.pinned (OpenSpec.upto civilCyclesSpec)

/-- 'analemmalaw01.CivilOrder', WHERE WHAT IT READS IS OF BULK AT MOST 1048576: true; the input reads as it did. -/
def civilOrderUptoRow : OpenClaim := { program := "ythppldacadehiaadoor", sum := "d417451cccafa5aa605c6a36807ee77a6b6b43b13dd1e669853b29dbc79032c8", func := "analemma/analemmalaw01.CivilOrder", spec := "civilOrder", named := ["analemma/civil.before"], apart := false, laid := [("analemma/civil.before", laid_analemma_civil_before)], narrowed := true }
def CivilOrderUptoSaid : Prop := civilOrderUptoRow.holds Tryd.pinned (OpenSpec.upto civilOrderSpec)

/-- 'analemmalaw01.CivilSeconds', WHERE WHAT IT READS IS OF BULK AT MOST 1048576: true; the input reads as it did. -/
def civilSecondsUptoRow : OpenClaim := { program := "ythppldacadehiaadoor", sum := "d417451cccafa5aa605c6a36807ee77a6b6b43b13dd1e669853b29dbc79032c8", func := "analemma/analemmalaw01.CivilSeconds", spec := "civilSeconds", named := ["analemma/civil.before"], apart := false, laid := [("analemma/civil.before", laid_analemma_civil_before)], narrowed := true }
def CivilSecondsUptoSaid : Prop := civilSecondsUptoRow.holds Tryd.pinned (OpenSpec.upto civilSecondsSpec)

/-- 'analemmalaw01.CivilRefuses', WHERE WHAT IT READS IS OF BULK AT MOST 1048576: true; the input reads as it did. -/
def civilRefusesUptoRow : OpenClaim := { program := "ythppldacadehiaadoor", sum := "d417451cccafa5aa605c6a36807ee77a6b6b43b13dd1e669853b29dbc79032c8", func := "analemma/analemmalaw01.CivilRefuses", spec := "civilRefuses", named := ["analemma/civil.before"], apart := false, laid := [("analemma/civil.before", laid_analemma_civil_before)], narrowed := true }
def CivilRefusesUptoSaid : Prop := civilRefusesUptoRow.holds Tryd.pinned (OpenSpec.upto civilRefusesSpec)

end Rows
end Go.Proofs.YthppldacadehiaaDoor
