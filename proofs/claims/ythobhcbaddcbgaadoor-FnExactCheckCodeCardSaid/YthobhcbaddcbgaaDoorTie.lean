/-
  DERIVED. GIVEN WITH THE SEED: THE PROGRAM's TIES (one call each: nine closed facts by the kernel) AND EACH ROW's TIE, after the 31st guide's Derived/Test/Toyas{Tie, Card}.lean. No idea stands in it: it is a product of the set-up. Laid BY PROGRAM, IN A SANDBOX (cutbox-door.mjs). By AI agents, Wed Nov 11 2026. No macro, syntax, notation, axiom, sorry.
-/
import Derived.Test.YthobhcbaddcbgaaDoorRows
import Derived.LaidByTextLater
import Derived.SevenTiedAt
import Derived.LaidSub
import Derived.LaidOnce
namespace Go.Proofs.YthobhcbaddcbgaaDoor
open Go
set_option maxRecDepth 100000
theorem seatTie1 : Tryd.prog.laidByTextLater [("unicode.White_Space", Rows.laid_unicode_White_Space), ("strings.asciiSpace", Rows.laid_strings_asciiSpace), ("loop.example/kilnmill/impl.typeWords", Rows.laid_loop_example_kilnmill_impl_typeWords), ("loop.example/kilnmill/impl.builtGives", Rows.laid_loop_example_kilnmill_impl_builtGives)] [.listed, .data, .data, .data] true :=
  Program.laidByTextLater_by_one 43 8 257 (by kernel_rfl) (by kernel_rfl) (by kernel_rfl) (by kernel_rfl) (by kernel_rfl) (by kernel_rfl) (fun _ _ => by kernel_rfl)
theorem noOwnUnsafe : Tryd.pinned.checked.prog.headLifts.contains "ownunsafe" = false := by kernel_rfl
theorem tie : Tryd.prog.laidByTextLater [("unicode.White_Space", Rows.laid_unicode_White_Space), ("strings.asciiSpace", Rows.laid_strings_asciiSpace), ("loop.example/kilnmill/impl.typeWords", Rows.laid_loop_example_kilnmill_impl_typeWords), ("loop.example/kilnmill/impl.builtGives", Rows.laid_loop_example_kilnmill_impl_builtGives)] [.listed, .data, .data, .data] true :=
  Program.laidByTextLater.sub seatTie1 ["unicode.White_Space", "strings.asciiSpace", "loop.example/kilnmill/impl.typeWords", "loop.example/kilnmill/impl.builtGives"] (by kernel_rfl) (by kernel_rfl)
theorem fnExactCheckCode_row_tie : Rows.fnExactCheckCodeRow.laidByTextAt .later Tryd.pinned [.listed, .data, .data, .data] true :=
  OpenClaim.laidByTextAt_later rfl rfl tie noOwnUnsafe
theorem fnExactShapes_row_tie : Rows.fnExactShapesRow.laidByTextAt .later Tryd.pinned [.listed, .data, .data, .data] true :=
  OpenClaim.laidByTextAt_later rfl rfl tie noOwnUnsafe
theorem fnExactWriteCode_row_tie : Rows.fnExactWriteCodeRow.laidByTextAt .later Tryd.pinned [.listed, .data, .data, .data] true :=
  OpenClaim.laidByTextAt_later rfl rfl tie noOwnUnsafe
theorem fnExactCheckCodeUpto_row_tie : Rows.fnExactCheckCodeUptoRow.laidByTextAt .later Tryd.pinned [.listed, .data, .data, .data] true :=
  OpenClaim.laidByTextAt_later rfl rfl tie noOwnUnsafe
theorem fnExactShapesUpto_row_tie : Rows.fnExactShapesUptoRow.laidByTextAt .later Tryd.pinned [.listed, .data, .data, .data] true :=
  OpenClaim.laidByTextAt_later rfl rfl tie noOwnUnsafe
theorem fnExactWriteCodeUpto_row_tie : Rows.fnExactWriteCodeUptoRow.laidByTextAt .later Tryd.pinned [.listed, .data, .data, .data] true :=
  OpenClaim.laidByTextAt_later rfl rfl tie noOwnUnsafe
end Go.Proofs.YthobhcbaddcbgaaDoor
