/-
  No cell of these rows narrows 'for every input' (looked for: loops, veiled, ifaces, maps, wideKeys, modest, calm, conditions, laid).
  DERIVED. THE GIVEN ROWS OF THIS SEAT. 6 by the template 'for every input the law returns true; each argument reads behind the call as it read before'; 0 by the template 'total and deterministic' (their statements: YtdlmlcgmonkdfaaTotals.lean).
  GIVEN WITH THE SEED: the statements are not yours to turn. If you find one false, say at which input.
  Laid BY PROGRAM, IN A SANDBOX (cutbox-rows.mjs): the forced cells as the released guide's own fill.sh prints them over the translation e056ffd723b9f57a… (all of the seat's roots in one cut). By AI agents, Wed Nov 11 2026. No macro, syntax, notation, axiom, sorry.
-/
import Derived.Test.YtdlmlcgmonkdfaaChecked
import GoSem.Claim
import GoSem.ClaimJoined
import GoSem.ClaimMapViews
import Derived.JoinedTies
import Derived.KernelRfl
namespace Go.Proofs.Ytdlmlcgmonkdfaa
/- THE CELL 'sum', in the pinned program and in every row, IS THE sha256 OF THE DUMP (.gsa) THAT YtdlmlcgmonkdfaaProg.lean LOADS. Nothing in Lean hashes anything: it is a label: what it is worth is what the hold of that sum in a sandbox is worth. -/
noncomputable def Try.pinned : Pinned := { name := "ytdlmlcgmonkdfaa", sum := "e056ffd723b9f57aa643fea55e36eaf7134d529c408d920374b8d4772e8d8960", checked := Try.checked }
namespace Rows
def none {H : Type} : Left H := { results := [], args := [] }

/-- 'analemmalaw28.ShiftSets': WHATEVER THE INPUT: true; the input reads as it did. -/
def shiftSetsSpec : ChangeSpec := { name := "shiftSets", fn := fun _ => fun
  | [d1, d2, d3] => { results := [.lit (.bool true)], args := [d1, d2, d3] }
  | _ => none }
def shiftSetsRow : OpenClaim := { program := "ytdlmlcgmonkdfaa", sum := "e056ffd723b9f57aa643fea55e36eaf7134d529c408d920374b8d4772e8d8960", func := "analemma/analemmalaw28.ShiftSets", spec := "shiftSets", unfollowed := true, recurses := true, apart := false }
def ShiftSetsSaid : Prop := shiftSetsRow.holds Try.pinned (OpenSpec.ofChange shiftSetsSpec)

/-- ITS FALSE NEIGHBOUR: 'it returns false'. Refute it at one input. -/
def shiftSetsWrong : ChangeSpec := { name := "shiftSets", fn := fun _ => fun
  | [d1, d2, d3] => { results := [.lit (.bool false)], args := [d1, d2, d3] }
  | _ => none }
def ShiftSetsWrongFalsely : Prop := shiftSetsRow.holds Try.pinned (OpenSpec.ofChange shiftSetsWrong)

/-- 'analemmalaw28.ShiftBack': WHATEVER THE INPUT: true; the input reads as it did. -/
def shiftBackSpec : ChangeSpec := { name := "shiftBack", fn := fun _ => fun
  | [d1, d2, d3, d4] => { results := [.lit (.bool true)], args := [d1, d2, d3, d4] }
  | _ => none }
def shiftBackRow : OpenClaim := { program := "ytdlmlcgmonkdfaa", sum := "e056ffd723b9f57aa643fea55e36eaf7134d529c408d920374b8d4772e8d8960", func := "analemma/analemmalaw28.ShiftBack", spec := "shiftBack", unfollowed := true, recurses := true, apart := false }
def ShiftBackSaid : Prop := shiftBackRow.holds Try.pinned (OpenSpec.ofChange shiftBackSpec)

/-- ITS FALSE NEIGHBOUR: 'it returns false'. Refute it at one input. -/
def shiftBackWrong : ChangeSpec := { name := "shiftBack", fn := fun _ => fun
  | [d1, d2, d3, d4] => { results := [.lit (.bool false)], args := [d1, d2, d3, d4] }
  | _ => none }
def ShiftBackWrongFalsely : Prop := shiftBackRow.holds Try.pinned (OpenSpec.ofChange shiftBackWrong)

/-- 'analemmalaw28.ShiftSums': WHATEVER THE INPUT: true; the input reads as it did. -/
def shiftSumsSpec : ChangeSpec := { name := "shiftSums", fn := fun _ => fun
  | [d1, d2, d3] => { results := [.lit (.bool true)], args := [d1, d2, d3] }
  | _ => none }
def shiftSumsRow : OpenClaim := { program := "ytdlmlcgmonkdfaa", sum := "e056ffd723b9f57aa643fea55e36eaf7134d529c408d920374b8d4772e8d8960", func := "analemma/analemmalaw28.ShiftSums", spec := "shiftSums", unfollowed := true, recurses := true, apart := false }
def ShiftSumsSaid : Prop := shiftSumsRow.holds Try.pinned (OpenSpec.ofChange shiftSumsSpec)

/-- ITS FALSE NEIGHBOUR: 'it returns false'. Refute it at one input. -/
def shiftSumsWrong : ChangeSpec := { name := "shiftSums", fn := fun _ => fun
  | [d1, d2, d3] => { results := [.lit (.bool false)], args := [d1, d2, d3] }
  | _ => none }
def ShiftSumsWrongFalsely : Prop := shiftSumsRow.holds Try.pinned (OpenSpec.ofChange shiftSumsWrong)

/-- 'analemmalaw28.ShiftOrders': WHATEVER THE INPUT: true; the input reads as it did. -/
def shiftOrdersSpec : ChangeSpec := { name := "shiftOrders", fn := fun _ => fun
  | [d1, d2, d3, d4, d5] => { results := [.lit (.bool true)], args := [d1, d2, d3, d4, d5] }
  | _ => none }
def shiftOrdersRow : OpenClaim := { program := "ytdlmlcgmonkdfaa", sum := "e056ffd723b9f57aa643fea55e36eaf7134d529c408d920374b8d4772e8d8960", func := "analemma/analemmalaw28.ShiftOrders", spec := "shiftOrders", unfollowed := true, recurses := true, apart := false }
def ShiftOrdersSaid : Prop := shiftOrdersRow.holds Try.pinned (OpenSpec.ofChange shiftOrdersSpec)

/-- ITS FALSE NEIGHBOUR: 'it returns false'. Refute it at one input. -/
def shiftOrdersWrong : ChangeSpec := { name := "shiftOrders", fn := fun _ => fun
  | [d1, d2, d3, d4, d5] => { results := [.lit (.bool false)], args := [d1, d2, d3, d4, d5] }
  | _ => none }
def ShiftOrdersWrongFalsely : Prop := shiftOrdersRow.holds Try.pinned (OpenSpec.ofChange shiftOrdersWrong)

/-- 'analemmalaw28.ShiftApart': WHATEVER THE INPUT: true; the input reads as it did. -/
def shiftApartSpec : ChangeSpec := { name := "shiftApart", fn := fun _ => fun
  | [d1, d2, d3] => { results := [.lit (.bool true)], args := [d1, d2, d3] }
  | _ => none }
def shiftApartRow : OpenClaim := { program := "ytdlmlcgmonkdfaa", sum := "e056ffd723b9f57aa643fea55e36eaf7134d529c408d920374b8d4772e8d8960", func := "analemma/analemmalaw28.ShiftApart", spec := "shiftApart", unfollowed := true, recurses := true, apart := false }
def ShiftApartSaid : Prop := shiftApartRow.holds Try.pinned (OpenSpec.ofChange shiftApartSpec)

/-- ITS FALSE NEIGHBOUR: 'it returns false'. Refute it at one input. -/
def shiftApartWrong : ChangeSpec := { name := "shiftApart", fn := fun _ => fun
  | [d1, d2, d3] => { results := [.lit (.bool false)], args := [d1, d2, d3] }
  | _ => none }
def ShiftApartWrongFalsely : Prop := shiftApartRow.holds Try.pinned (OpenSpec.ofChange shiftApartWrong)

/-- 'analemmalaw28.ShiftOthers': WHATEVER THE INPUT: true; the input reads as it did. -/
def shiftOthersSpec : ChangeSpec := { name := "shiftOthers", fn := fun _ => fun
  | [d1, d2, d3, d4] => { results := [.lit (.bool true)], args := [d1, d2, d3, d4] }
  | _ => none }
def shiftOthersRow : OpenClaim := { program := "ytdlmlcgmonkdfaa", sum := "e056ffd723b9f57aa643fea55e36eaf7134d529c408d920374b8d4772e8d8960", func := "analemma/analemmalaw28.ShiftOthers", spec := "shiftOthers", unfollowed := true, recurses := true, apart := false }
def ShiftOthersSaid : Prop := shiftOthersRow.holds Try.pinned (OpenSpec.ofChange shiftOthersSpec)

/-- ITS FALSE NEIGHBOUR: 'it returns false'. Refute it at one input. -/
def shiftOthersWrong : ChangeSpec := { name := "shiftOthers", fn := fun _ => fun
  | [d1, d2, d3, d4] => { results := [.lit (.bool false)], args := [d1, d2, d3, d4] }
  | _ => none }
def ShiftOthersWrongFalsely : Prop := shiftOthersRow.holds Try.pinned (OpenSpec.ofChange shiftOthersWrong)

/- THE SECOND FORM. 'bulk': how many values and letters a reading holds, each counted each time it is reached (what is shared counts as often as it is met; a slice's spare places count too). A statement '..UptoSaid' is the law's where the arguments, and the package variables that the reading takes, are together of bulk at most 1048576: NARROWER than '..Said'. Prove '..Said' where nothing that the law and all that it calls make is longer than what came in: it says more and counts as full. Else prove '..UptoSaid'. A law counts once. -/
mutual
def uptoBulk {H : Type} : DataW H → Nat
  | .lit (.string bytes) => bytes.length + 1
  | .lit _ => 1
  | .nil => 1
  | .ptr d => uptoBulk d + 1
  | .slice elems spare => uptoBulkAll elems + uptoBulkAll spare + 1
  | .agg parts => uptoBulkAll parts + 1
  | .iface _ d => uptoBulk d + 1
  | .map entries => uptoBulkEntries entries + 1
  | .held _ => 1
def uptoBulkAll {H : Type} : List (DataW H) → Nat
  | [] => 0
  | d :: r => uptoBulk d + uptoBulkAll r
def uptoBulkEntries {H : Type} : List (Lit × DataW H) → Nat
  | [] => 0
  | x :: r => uptoBulkEntry x + uptoBulkEntries r
def uptoBulkEntry {H : Type} : Lit × DataW H → Nat
  | (.string bytes, d) => bytes.length + uptoBulk d + 1
  | (_, d) => uptoBulk d + 1
 end
def uptoSmall : (H : Type) → List (DataW H) → Bool := fun _ ds => decide (uptoBulkAll ds ≤ 1048576)
def OpenSpec.upto (s : _root_.Go.ChangeSpec) : _root_.Go.OpenSpec := { _root_.Go.OpenSpec.ofChange s with cond := some uptoSmall }

/-- 'analemmalaw28.ShiftSets', WHERE WHAT IT READS IS OF BULK AT MOST 1048576: true; the input reads as it did. -/
def shiftSetsUptoRow : OpenClaim := { program := "ytdlmlcgmonkdfaa", sum := "e056ffd723b9f57aa643fea55e36eaf7134d529c408d920374b8d4772e8d8960", func := "analemma/analemmalaw28.ShiftSets", spec := "shiftSets", unfollowed := true, recurses := true, apart := false, narrowed := true }
def ShiftSetsUptoSaid : Prop := shiftSetsUptoRow.holds Try.pinned (OpenSpec.upto shiftSetsSpec)

/-- 'analemmalaw28.ShiftBack', WHERE WHAT IT READS IS OF BULK AT MOST 1048576: true; the input reads as it did. -/
def shiftBackUptoRow : OpenClaim := { program := "ytdlmlcgmonkdfaa", sum := "e056ffd723b9f57aa643fea55e36eaf7134d529c408d920374b8d4772e8d8960", func := "analemma/analemmalaw28.ShiftBack", spec := "shiftBack", unfollowed := true, recurses := true, apart := false, narrowed := true }
def ShiftBackUptoSaid : Prop := shiftBackUptoRow.holds Try.pinned (OpenSpec.upto shiftBackSpec)

/-- 'analemmalaw28.ShiftSums', WHERE WHAT IT READS IS OF BULK AT MOST 1048576: true; the input reads as it did. -/
def shiftSumsUptoRow : OpenClaim := { program := "ytdlmlcgmonkdfaa", sum := "e056ffd723b9f57aa643fea55e36eaf7134d529c408d920374b8d4772e8d8960", func := "analemma/analemmalaw28.ShiftSums", spec := "shiftSums", unfollowed := true, recurses := true, apart := false, narrowed := true }
def ShiftSumsUptoSaid : Prop := shiftSumsUptoRow.holds Try.pinned (OpenSpec.upto shiftSumsSpec)

/-- 'analemmalaw28.ShiftOrders', WHERE WHAT IT READS IS OF BULK AT MOST 1048576: true; the input reads as it did. -/
def shiftOrdersUptoRow : OpenClaim := { program := "ytdlmlcgmonkdfaa", sum := "e056ffd723b9f57aa643fea55e36eaf7134d529c408d920374b8d4772e8d8960", func := "analemma/analemmalaw28.ShiftOrders", spec := "shiftOrders", unfollowed := true, recurses := true, apart := false, narrowed := true }
def ShiftOrdersUptoSaid : Prop := shiftOrdersUptoRow.holds Try.pinned (OpenSpec.upto shiftOrdersSpec)

/-- 'analemmalaw28.ShiftApart', WHERE WHAT IT READS IS OF BULK AT MOST 1048576: true; the input reads as it did. -/
def shiftApartUptoRow : OpenClaim := { program := "ytdlmlcgmonkdfaa", sum := "e056ffd723b9f57aa643fea55e36eaf7134d529c408d920374b8d4772e8d8960", func := "analemma/analemmalaw28.ShiftApart", spec := "shiftApart", unfollowed := true, recurses := true, apart := false, narrowed := true }
def ShiftApartUptoSaid : Prop := shiftApartUptoRow.holds Try.pinned (OpenSpec.upto shiftApartSpec)

/-- 'analemmalaw28.ShiftOthers', WHERE WHAT IT READS IS OF BULK AT MOST 1048576: true; the input reads as it did. -/
def shiftOthersUptoRow : OpenClaim := { program := "ytdlmlcgmonkdfaa", sum := "e056ffd723b9f57aa643fea55e36eaf7134d529c408d920374b8d4772e8d8960", func := "analemma/analemmalaw28.ShiftOthers", spec := "shiftOthers", unfollowed := true, recurses := true, apart := false, narrowed := true }
def ShiftOthersUptoSaid : Prop := shiftOthersUptoRow.holds Try.pinned (OpenSpec.upto shiftOthersSpec)

end Rows
end Go.Proofs.Ytdlmlcgmonkdfaa
