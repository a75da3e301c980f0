/-
  DERIVED. GIVEN WITH THE SEED: THE CARDS: each row of YthobhcbaddcbgaaDoorRows.lean that lists a variable, with what it lists TIED to the program's text (the seventh form; the later family's looks); each row that meets fmt, with fmt's text TOLD by the authors' own Lean function (tested against real Go, not proved from fmt's source: count such statements apart). THE CARD IS WHAT COUNTS. Prove the row's statement (the work); the ties are given (YthobhcbaddcbgaaDoorTie.lean); close each card by the builder's one call (the guide's Derived/Test/ToyasCard.lean, 'card_holds'). Laid BY PROGRAM, IN A SANDBOX (cutbox-door.mjs). By AI agents, Wed Nov 11 2026. No macro, syntax, notation, axiom, sorry.
-/
import Derived.Test.YthobhcbaddcbgaaDoorRows
import GoSem.ClaimSeven
namespace Go.Proofs.YthobhcbaddcbgaaDoor
namespace Rows

/-- THE TIED CARD OF 'laws.FnExactCheckCode'. -/
def fnExactCheckCodeCard : Claim7 := { stood := { row := fnExactCheckCodeRow, standIns := [], harness := (true, "9505b24de7057b5b59a6414903ad003dd5fa19a6519ddf8343b58425db361c7d"), looks := false }, kinds := [], alts := [], laidByText := true, laidKinds := [.listed, .data, .data, .data], laidTests := true, laidLooks := .later }
def FnExactCheckCodeCardSaid : Prop := Claim7.holds Tryd.pinned (.plain (OpenSpec.ofChange fnExactCheckCodeSpec)) fnExactCheckCodeCard

/-- THE TIED CARD OF 'laws.FnExactShapes'. -/
def fnExactShapesCard : Claim7 := { stood := { row := fnExactShapesRow, standIns := [], harness := (true, "9505b24de7057b5b59a6414903ad003dd5fa19a6519ddf8343b58425db361c7d"), looks := false }, kinds := [], alts := [], laidByText := true, laidKinds := [.listed, .data, .data, .data], laidTests := true, laidLooks := .later }
def FnExactShapesCardSaid : Prop := Claim7.holds Tryd.pinned (.plain (OpenSpec.ofChange fnExactShapesSpec)) fnExactShapesCard

/-- THE TIED CARD OF 'laws.FnExactWriteCode'. -/
def fnExactWriteCodeCard : Claim7 := { stood := { row := fnExactWriteCodeRow, standIns := [], harness := (true, "9505b24de7057b5b59a6414903ad003dd5fa19a6519ddf8343b58425db361c7d"), looks := false }, kinds := [], alts := [], laidByText := true, laidKinds := [.listed, .data, .data, .data], laidTests := true, laidLooks := .later }
def FnExactWriteCodeCardSaid : Prop := Claim7.holds Tryd.pinned (.plain (OpenSpec.ofChange fnExactWriteCodeSpec)) fnExactWriteCodeCard

/-- THE SECOND FORM's CARD OF 'laws.FnExactCheckCode'. -/
def fnExactCheckCodeUptoCard : Claim7 := { stood := { row := fnExactCheckCodeUptoRow, standIns := [], harness := (true, "9505b24de7057b5b59a6414903ad003dd5fa19a6519ddf8343b58425db361c7d"), looks := false }, kinds := [], alts := [], laidByText := true, laidKinds := [.listed, .data, .data, .data], laidTests := true, laidLooks := .later }
def FnExactCheckCodeUptoCardSaid : Prop := Claim7.holds Tryd.pinned (.plain (OpenSpec.upto fnExactCheckCodeSpec)) fnExactCheckCodeUptoCard

/-- THE SECOND FORM's CARD OF 'laws.FnExactShapes'. -/
def fnExactShapesUptoCard : Claim7 := { stood := { row := fnExactShapesUptoRow, standIns := [], harness := (true, "9505b24de7057b5b59a6414903ad003dd5fa19a6519ddf8343b58425db361c7d"), looks := false }, kinds := [], alts := [], laidByText := true, laidKinds := [.listed, .data, .data, .data], laidTests := true, laidLooks := .later }
def FnExactShapesUptoCardSaid : Prop := Claim7.holds Tryd.pinned (.plain (OpenSpec.upto fnExactShapesSpec)) fnExactShapesUptoCard

/-- THE SECOND FORM's CARD OF 'laws.FnExactWriteCode'. -/
def fnExactWriteCodeUptoCard : Claim7 := { stood := { row := fnExactWriteCodeUptoRow, standIns := [], harness := (true, "9505b24de7057b5b59a6414903ad003dd5fa19a6519ddf8343b58425db361c7d"), looks := false }, kinds := [], alts := [], laidByText := true, laidKinds := [.listed, .data, .data, .data], laidTests := true, laidLooks := .later }
def FnExactWriteCodeUptoCardSaid : Prop := Claim7.holds Tryd.pinned (.plain (OpenSpec.upto fnExactWriteCodeSpec)) fnExactWriteCodeUptoCard
end Rows
end Go.Proofs.YthobhcbaddcbgaaDoor
