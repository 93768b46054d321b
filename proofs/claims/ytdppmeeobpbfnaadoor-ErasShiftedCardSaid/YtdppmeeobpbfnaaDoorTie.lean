/-
  DERIVED. GIVEN WITH THE SEED: THE PROGRAM's TIES (one call each: nine closed facts by the kernel) AND EACH ROW's TIE, after the 31st guide's Derived/Test/Toyas{Tie, Card}.lean. No idea stands in it: it is a product of the set-up. Laid BY PROGRAM, IN A SANDBOX (cutbox-door.mjs). By AI agents, Wed Nov 11 2026. No macro, syntax, notation, axiom, sorry.
-/
import Derived.Test.YtdppmeeobpbfnaaDoorRows
import Derived.LaidByTextLater
import Derived.SevenTiedAt
import Derived.LaidSub
import Derived.LaidOnce
namespace Go.Proofs.YtdppmeeobpbfnaaDoor
open Go
set_option maxRecDepth 100000
theorem seatTie1 : Tryd.prog.laidByTextLater [("math/bits.deBruijn32tab", Rows.laid_math_bits_deBruijn32tab), ("math/bits.deBruijn64tab", Rows.laid_math_bits_deBruijn64tab), ("internal/strconv.uint64pow10", Rows.laid_internal_strconv_uint64pow10), ("analemma/civil.before", Rows.laid_analemma_civil_before), ("analemma/dayform.kinds", Rows.laid_analemma_dayform_kinds)] [.data, .data, .data, .data, .funcs] true :=
  Program.laidByTextLater_by_one 38 8 65 (by kernel_rfl) (by kernel_rfl) (by kernel_rfl) (by kernel_rfl) (by kernel_rfl) (by kernel_rfl) (fun _ _ => by kernel_rfl)
theorem noOwnUnsafe : Tryd.pinned.checked.prog.headLifts.contains "ownunsafe" = false := by kernel_rfl
theorem tie : Tryd.prog.laidByTextLater [("analemma/civil.before", Rows.laid_analemma_civil_before), ("analemma/dayform.kinds", Rows.laid_analemma_dayform_kinds)] [.data, .funcs] true :=
  Program.laidByTextLater.sub seatTie1 ["analemma/civil.before", "analemma/dayform.kinds"] (by kernel_rfl) (by kernel_rfl)
theorem erasFind_row_tie : Rows.erasFindRow.laidByTextAt .later Tryd.pinned [.data, .funcs] true :=
  OpenClaim.laidByTextAt_later rfl rfl tie noOwnUnsafe
theorem tie2 : Tryd.prog.laidByTextLater [("math/bits.deBruijn32tab", Rows.laid_math_bits_deBruijn32tab), ("math/bits.deBruijn64tab", Rows.laid_math_bits_deBruijn64tab), ("internal/strconv.uint64pow10", Rows.laid_internal_strconv_uint64pow10), ("analemma/civil.before", Rows.laid_analemma_civil_before), ("analemma/dayform.kinds", Rows.laid_analemma_dayform_kinds)] [.data, .data, .data, .data, .funcs] true :=
  Program.laidByTextLater.sub seatTie1 ["math/bits.deBruijn32tab", "math/bits.deBruijn64tab", "internal/strconv.uint64pow10", "analemma/civil.before", "analemma/dayform.kinds"] (by kernel_rfl) (by kernel_rfl)
theorem erasWhole_row_tie : Rows.erasWholeRow.laidByTextAt .later Tryd.pinned [.data, .data, .data, .data, .funcs] true :=
  OpenClaim.laidByTextAt_later rfl rfl tie2 noOwnUnsafe
theorem erasShifted_row_tie : Rows.erasShiftedRow.laidByTextAt .later Tryd.pinned [.data, .data, .data, .data, .funcs] true :=
  OpenClaim.laidByTextAt_later rfl rfl tie2 noOwnUnsafe
theorem erasWrong_row_tie : Rows.erasWrongRow.laidByTextAt .later Tryd.pinned [.data, .data, .data, .data, .funcs] true :=
  OpenClaim.laidByTextAt_later rfl rfl tie2 noOwnUnsafe
theorem erasFindUpto_row_tie : Rows.erasFindUptoRow.laidByTextAt .later Tryd.pinned [.data, .funcs] true :=
  OpenClaim.laidByTextAt_later rfl rfl tie noOwnUnsafe
theorem erasWholeUpto_row_tie : Rows.erasWholeUptoRow.laidByTextAt .later Tryd.pinned [.data, .data, .data, .data, .funcs] true :=
  OpenClaim.laidByTextAt_later rfl rfl tie2 noOwnUnsafe
theorem erasShiftedUpto_row_tie : Rows.erasShiftedUptoRow.laidByTextAt .later Tryd.pinned [.data, .data, .data, .data, .funcs] true :=
  OpenClaim.laidByTextAt_later rfl rfl tie2 noOwnUnsafe
theorem erasWrongUpto_row_tie : Rows.erasWrongUptoRow.laidByTextAt .later Tryd.pinned [.data, .data, .data, .data, .funcs] true :=
  OpenClaim.laidByTextAt_later rfl rfl tie2 noOwnUnsafe
end Go.Proofs.YtdppmeeobpbfnaaDoor
