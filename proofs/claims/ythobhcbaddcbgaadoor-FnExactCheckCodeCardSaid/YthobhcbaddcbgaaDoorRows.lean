/-
  NARROWER THAN 'FOR EVERY INPUT', by the rows' own cells (each row's printed sentence says how): FnExactCheckCode: laid · FnExactShapes: laid · FnExactWriteCode: laid.
  DERIVED. THE GIVEN ROWS OF THIS SEAT. 3 by the template 'for every input the law returns true; each argument reads behind the call as it read before'; 0 by the template 'total and deterministic' (their statements: YthobhcbaddcbgaaDoorTotals.lean).
  GIVEN WITH THE SEED: the statements are not yours to turn. If you find one false, say at which input.
  Laid BY PROGRAM, IN A SANDBOX (cutbox-rows.mjs): the forced cells as the released guide's own fill.sh prints them over the translation d9628989b7bec3a8… (all of the seat's roots in one cut). By AI agents, Wed Nov 11 2026. No macro, syntax, notation, axiom, sorry.
-/
import Derived.Test.YthobhcbaddcbgaaDoorChecked
import GoSem.Claim
import GoSem.ClaimJoined
import GoSem.ClaimMapViews
import Derived.JoinedTies
import Derived.KernelRfl
namespace Go.Proofs.YthobhcbaddcbgaaDoor
/- THE CELL 'sum', in the pinned program and in every row, IS THE sha256 OF THE DUMP (.gsa) THAT YthobhcbaddcbgaaDoorProg.lean LOADS. Nothing in Lean hashes anything: it is a label: what it is worth is what the hold of that sum in a sandbox is worth. -/
noncomputable def Tryd.pinned : Pinned := { name := "ythobhcbaddcbgaadoor", sum := "d9628989b7bec3a8c622e844cd07281667367745feb4bb11b8aacb088eb87793", checked := Tryd.checked }
namespace Rows
def none {H : Type} : Left H := { results := [], args := [] }

/- WHAT THE LISTED PACKAGE-LEVEL VARIABLES READ AS WHEN THE CALL BEGINS. Each datum BY PROGRAM (the guide's laid-datum.mjs) off the statement by which the dump's own 'gosem.cut.vars' lays the variable. In a bare row this is a premise. The card (YthobhcbaddcbgaaDoorCards.lean) ties it to the program's text. -/
def laid_unicode_White_Space {H : Type} : DataW H := .ptr (.agg [.slice [.agg [.lit (.int .u16 9), .lit (.int .u16 13), .lit (.int .u16 1)], .agg [.lit (.int .u16 32), .lit (.int .u16 133), .lit (.int .u16 101)], .agg [.lit (.int .u16 160), .lit (.int .u16 5760), .lit (.int .u16 5600)], .agg [.lit (.int .u16 8192), .lit (.int .u16 8202), .lit (.int .u16 1)], .agg [.lit (.int .u16 8232), .lit (.int .u16 8233), .lit (.int .u16 1)], .agg [.lit (.int .u16 8239), .lit (.int .u16 8287), .lit (.int .u16 48)], .agg [.lit (.int .u16 12288), .lit (.int .u16 12288), .lit (.int .u16 1)]] [], .nil, .lit (.int .i64 2)])
def laid_strings_asciiSpace {H : Type} : DataW H := .agg [.lit (.int .u8 0), .lit (.int .u8 0), .lit (.int .u8 0), .lit (.int .u8 0), .lit (.int .u8 0), .lit (.int .u8 0), .lit (.int .u8 0), .lit (.int .u8 0), .lit (.int .u8 0), .lit (.int .u8 1), .lit (.int .u8 1), .lit (.int .u8 1), .lit (.int .u8 1), .lit (.int .u8 1), .lit (.int .u8 0), .lit (.int .u8 0), .lit (.int .u8 0), .lit (.int .u8 0), .lit (.int .u8 0), .lit (.int .u8 0), .lit (.int .u8 0), .lit (.int .u8 0), .lit (.int .u8 0), .lit (.int .u8 0), .lit (.int .u8 0), .lit (.int .u8 0), .lit (.int .u8 0), .lit (.int .u8 0), .lit (.int .u8 0), .lit (.int .u8 0), .lit (.int .u8 0), .lit (.int .u8 0), .lit (.int .u8 1), .lit (.int .u8 0), .lit (.int .u8 0), .lit (.int .u8 0), .lit (.int .u8 0), .lit (.int .u8 0), .lit (.int .u8 0), .lit (.int .u8 0), .lit (.int .u8 0), .lit (.int .u8 0), .lit (.int .u8 0), .lit (.int .u8 0), .lit (.int .u8 0), .lit (.int .u8 0), .lit (.int .u8 0), .lit (.int .u8 0), .lit (.int .u8 0), .lit (.int .u8 0), .lit (.int .u8 0), .lit (.int .u8 0), .lit (.int .u8 0), .lit (.int .u8 0), .lit (.int .u8 0), .lit (.int .u8 0), .lit (.int .u8 0), .lit (.int .u8 0), .lit (.int .u8 0), .lit (.int .u8 0), .lit (.int .u8 0), .lit (.int .u8 0), .lit (.int .u8 0), .lit (.int .u8 0), .lit (.int .u8 0), .lit (.int .u8 0), .lit (.int .u8 0), .lit (.int .u8 0), .lit (.int .u8 0), .lit (.int .u8 0), .lit (.int .u8 0), .lit (.int .u8 0), .lit (.int .u8 0), .lit (.int .u8 0), .lit (.int .u8 0), .lit (.int .u8 0), .lit (.int .u8 0), .lit (.int .u8 0), .lit (.int .u8 0), .lit (.int .u8 0), .lit (.int .u8 0), .lit (.int .u8 0), .lit (.int .u8 0), .lit (.int .u8 0), .lit (.int .u8 0), .lit (.int .u8 0), .lit (.int .u8 0), .lit (.int .u8 0), .lit (.int .u8 0), .lit (.int .u8 0), .lit (.int .u8 0), .lit (.int .u8 0), .lit (.int .u8 0), .lit (.int .u8 0), .lit (.int .u8 0), .lit (.int .u8 0), .lit (.int .u8 0), .lit (.int .u8 0), .lit (.int .u8 0), .lit (.int .u8 0), .lit (.int .u8 0), .lit (.int .u8 0), .lit (.int .u8 0), .lit (.int .u8 0), .lit (.int .u8 0), .lit (.int .u8 0), .lit (.int .u8 0), .lit (.int .u8 0), .lit (.int .u8 0), .lit (.int .u8 0), .lit (.int .u8 0), .lit (.int .u8 0), .lit (.int .u8 0), .lit (.int .u8 0), .lit (.int .u8 0), .lit (.int .u8 0), .lit (.int .u8 0), .lit (.int .u8 0), .lit (.int .u8 0), .lit (.int .u8 0), .lit (.int .u8 0), .lit (.int .u8 0), .lit (.int .u8 0), .lit (.int .u8 0), .lit (.int .u8 0), .lit (.int .u8 0), .lit (.int .u8 0), .lit (.int .u8 0), .lit (.int .u8 0), .lit (.int .u8 0), .lit (.int .u8 0), .lit (.int .u8 0), .lit (.int .u8 0), .lit (.int .u8 0), .lit (.int .u8 0), .lit (.int .u8 0), .lit (.int .u8 0), .lit (.int .u8 0), .lit (.int .u8 0), .lit (.int .u8 0), .lit (.int .u8 0), .lit (.int .u8 0), .lit (.int .u8 0), .lit (.int .u8 0), .lit (.int .u8 0), .lit (.int .u8 0), .lit (.int .u8 0), .lit (.int .u8 0), .lit (.int .u8 0), .lit (.int .u8 0), .lit (.int .u8 0), .lit (.int .u8 0), .lit (.int .u8 0), .lit (.int .u8 0), .lit (.int .u8 0), .lit (.int .u8 0), .lit (.int .u8 0), .lit (.int .u8 0), .lit (.int .u8 0), .lit (.int .u8 0), .lit (.int .u8 0), .lit (.int .u8 0), .lit (.int .u8 0), .lit (.int .u8 0), .lit (.int .u8 0), .lit (.int .u8 0), .lit (.int .u8 0), .lit (.int .u8 0), .lit (.int .u8 0), .lit (.int .u8 0), .lit (.int .u8 0), .lit (.int .u8 0), .lit (.int .u8 0), .lit (.int .u8 0), .lit (.int .u8 0), .lit (.int .u8 0), .lit (.int .u8 0), .lit (.int .u8 0), .lit (.int .u8 0), .lit (.int .u8 0), .lit (.int .u8 0), .lit (.int .u8 0), .lit (.int .u8 0), .lit (.int .u8 0), .lit (.int .u8 0), .lit (.int .u8 0), .lit (.int .u8 0), .lit (.int .u8 0), .lit (.int .u8 0), .lit (.int .u8 0), .lit (.int .u8 0), .lit (.int .u8 0), .lit (.int .u8 0), .lit (.int .u8 0), .lit (.int .u8 0), .lit (.int .u8 0), .lit (.int .u8 0), .lit (.int .u8 0), .lit (.int .u8 0), .lit (.int .u8 0), .lit (.int .u8 0), .lit (.int .u8 0), .lit (.int .u8 0), .lit (.int .u8 0), .lit (.int .u8 0), .lit (.int .u8 0), .lit (.int .u8 0), .lit (.int .u8 0), .lit (.int .u8 0), .lit (.int .u8 0), .lit (.int .u8 0), .lit (.int .u8 0), .lit (.int .u8 0), .lit (.int .u8 0), .lit (.int .u8 0), .lit (.int .u8 0), .lit (.int .u8 0), .lit (.int .u8 0), .lit (.int .u8 0), .lit (.int .u8 0), .lit (.int .u8 0), .lit (.int .u8 0), .lit (.int .u8 0), .lit (.int .u8 0), .lit (.int .u8 0), .lit (.int .u8 0), .lit (.int .u8 0), .lit (.int .u8 0), .lit (.int .u8 0), .lit (.int .u8 0), .lit (.int .u8 0), .lit (.int .u8 0), .lit (.int .u8 0), .lit (.int .u8 0), .lit (.int .u8 0), .lit (.int .u8 0), .lit (.int .u8 0), .lit (.int .u8 0), .lit (.int .u8 0), .lit (.int .u8 0), .lit (.int .u8 0), .lit (.int .u8 0), .lit (.int .u8 0), .lit (.int .u8 0), .lit (.int .u8 0), .lit (.int .u8 0), .lit (.int .u8 0), .lit (.int .u8 0), .lit (.int .u8 0), .lit (.int .u8 0), .lit (.int .u8 0), .lit (.int .u8 0), .lit (.int .u8 0), .lit (.int .u8 0), .lit (.int .u8 0), .lit (.int .u8 0)]
def laid_loop_example_kilnmill_impl_typeWords {H : Type} : DataW H := .slice [.lit (.string []), .lit (.string [98, 111, 111, 108]), .lit (.string [116, 101, 120, 116]), .lit (.string [117, 56]), .lit (.string [117, 49, 54]), .lit (.string [117, 51, 50]), .lit (.string [117, 54, 52]), .lit (.string [105, 56]), .lit (.string [105, 49, 54]), .lit (.string [105, 51, 50]), .lit (.string [105, 54, 52])] []
def laid_loop_example_kilnmill_impl_builtGives {H : Type} : DataW H := .slice [.lit (.int .i64 0), .lit (.int .i64 2), .lit (.int .i64 1), .lit (.int .i64 2), .lit (.int .i64 2), .lit (.int .i64 2), .lit (.int .i64 10), .lit (.int .i64 3), .lit (.int .i64 2), .lit (.int .i64 10), .lit (.int .i64 2), .lit (.int .i64 2), .lit (.int .i64 10)] []

/-- 'laws.FnExactCheckCode': WHATEVER THE INPUT: true; the input reads as it did. -/
def fnExactCheckCodeSpec : ChangeSpec := { name := "fnExactCheckCode", vars := ["loop.example/kilnmill/impl.typeWords", "loop.example/kilnmill/impl.builtGives"], fn := fun _ => fun
  | [d, g1, g2] => { results := [.lit (.bool true)], args := [d], vars := [g1, g2] }
  | _ => none }
def fnExactCheckCodeRow : OpenClaim := { program := "ythobhcbaddcbgaadoor", sum := "d9628989b7bec3a8c622e844cd07281667367745feb4bb11b8aacb088eb87793", func := "loop.example/kilnmill/laws.FnExactCheckCode", spec := "fnExactCheckCode", unfollowed := true, recurses := true, named := ["strings.asciiSpace", "unicode.White_Space", "loop.example/kilnmill/impl.typeWords", "loop.example/kilnmill/impl.builtGives"], apart := false, laid := [("unicode.White_Space", laid_unicode_White_Space), ("strings.asciiSpace", laid_strings_asciiSpace), ("loop.example/kilnmill/impl.typeWords", laid_loop_example_kilnmill_impl_typeWords), ("loop.example/kilnmill/impl.builtGives", laid_loop_example_kilnmill_impl_builtGives)] }
def FnExactCheckCodeSaid : Prop := fnExactCheckCodeRow.holds Tryd.pinned (OpenSpec.ofChange fnExactCheckCodeSpec)

/-- ITS FALSE NEIGHBOUR: 'it returns false'. Refute it at one input. -/
def fnExactCheckCodeWrong : ChangeSpec := { name := "fnExactCheckCode", vars := ["loop.example/kilnmill/impl.typeWords", "loop.example/kilnmill/impl.builtGives"], fn := fun _ => fun
  | [d, g1, g2] => { results := [.lit (.bool false)], args := [d], vars := [g1, g2] }
  | _ => none }
def FnExactCheckCodeWrongFalsely : Prop := fnExactCheckCodeRow.holds Tryd.pinned (OpenSpec.ofChange fnExactCheckCodeWrong)

/-- 'laws.FnExactShapes': WHATEVER THE INPUT: true; the input reads as it did. -/
def fnExactShapesSpec : ChangeSpec := { name := "fnExactShapes", vars := ["loop.example/kilnmill/impl.typeWords", "loop.example/kilnmill/impl.builtGives"], fn := fun _ => fun
  | [d1, d2, g1, g2] => { results := [.lit (.bool true)], args := [d1, d2], vars := [g1, g2] }
  | _ => none }
def fnExactShapesRow : OpenClaim := { program := "ythobhcbaddcbgaadoor", sum := "d9628989b7bec3a8c622e844cd07281667367745feb4bb11b8aacb088eb87793", func := "loop.example/kilnmill/laws.FnExactShapes", spec := "fnExactShapes", unfollowed := true, recurses := true, named := ["strings.asciiSpace", "unicode.White_Space", "loop.example/kilnmill/impl.typeWords", "loop.example/kilnmill/impl.builtGives"], apart := false, laid := [("unicode.White_Space", laid_unicode_White_Space), ("strings.asciiSpace", laid_strings_asciiSpace), ("loop.example/kilnmill/impl.typeWords", laid_loop_example_kilnmill_impl_typeWords), ("loop.example/kilnmill/impl.builtGives", laid_loop_example_kilnmill_impl_builtGives)] }
def FnExactShapesSaid : Prop := fnExactShapesRow.holds Tryd.pinned (OpenSpec.ofChange fnExactShapesSpec)

/-- ITS FALSE NEIGHBOUR: 'it returns false'. Refute it at one input. -/
def fnExactShapesWrong : ChangeSpec := { name := "fnExactShapes", vars := ["loop.example/kilnmill/impl.typeWords", "loop.example/kilnmill/impl.builtGives"], fn := fun _ => fun
  | [d1, d2, g1, g2] => { results := [.lit (.bool false)], args := [d1, d2], vars := [g1, g2] }
  | _ => none }
def FnExactShapesWrongFalsely : Prop := fnExactShapesRow.holds Tryd.pinned (OpenSpec.ofChange fnExactShapesWrong)

/-- 'laws.FnExactWriteCode': WHATEVER THE INPUT: true; the input reads as it did. -/
def fnExactWriteCodeSpec : ChangeSpec := { name := "fnExactWriteCode", vars := ["loop.example/kilnmill/impl.typeWords", "loop.example/kilnmill/impl.builtGives"], fn := fun _ => fun
  | [d, g1, g2] => { results := [.lit (.bool true)], args := [d], vars := [g1, g2] }
  | _ => none }
def fnExactWriteCodeRow : OpenClaim := { program := "ythobhcbaddcbgaadoor", sum := "d9628989b7bec3a8c622e844cd07281667367745feb4bb11b8aacb088eb87793", func := "loop.example/kilnmill/laws.FnExactWriteCode", spec := "fnExactWriteCode", inPlace := ["internal/abi.NoEscape"], unfollowed := true, recurses := true, named := ["strings.asciiSpace", "unicode.White_Space", "loop.example/kilnmill/impl.typeWords", "loop.example/kilnmill/impl.builtGives"], apart := false, laid := [("unicode.White_Space", laid_unicode_White_Space), ("strings.asciiSpace", laid_strings_asciiSpace), ("loop.example/kilnmill/impl.typeWords", laid_loop_example_kilnmill_impl_typeWords), ("loop.example/kilnmill/impl.builtGives", laid_loop_example_kilnmill_impl_builtGives)] }
def FnExactWriteCodeSaid : Prop := fnExactWriteCodeRow.holds Tryd.pinned (OpenSpec.ofChange fnExactWriteCodeSpec)

/-- ITS FALSE NEIGHBOUR: 'it returns false'. Refute it at one input. -/
def fnExactWriteCodeWrong : ChangeSpec := { name := "fnExactWriteCode", vars := ["loop.example/kilnmill/impl.typeWords", "loop.example/kilnmill/impl.builtGives"], fn := fun _ => fun
  | [d, g1, g2] => { results := [.lit (.bool false)], args := [d], vars := [g1, g2] }
  | _ => none }
def FnExactWriteCodeWrongFalsely : Prop := fnExactWriteCodeRow.holds Tryd.pinned (OpenSpec.ofChange fnExactWriteCodeWrong)

/- THE SECOND FORM. 'bulk': how many values and letters a reading holds, each counted each time it is reached (what is shared counts as often as it is met; a slice's spare places count too). A statement '..UptoSaid' is the law's where the arguments, and the package variables that the reading takes, are together of bulk at most 1048576: NARROWER than '..Said'. Prove '..Said' where nothing that the law and all that it calls make is longer than what came in: it says more and counts as full. Else prove '..UptoSaid'. A law counts once. -/
mutual
def uptoBulk {H : Type} : DataW H → Nat
  | .lit (.string bytes) => bytes.length + 1
  | .lit _ => 1
  | .nil => 1
  | .ptr d => uptoBulk d + 1
  | .slice elems spare => uptoBulkAll elems + uptoBulkAll spare + 1
  | .agg parts => uptoBulkAll parts + 1
  | .iface _ d => uptoBulk d + 1
  | .map entries => uptoBulkEntries entries + 1
  | .held _ => 1
def uptoBulkAll {H : Type} : List (DataW H) → Nat
  | [] => 0
  | d :: r => uptoBulk d + uptoBulkAll r
def uptoBulkEntries {H : Type} : List (Lit × DataW H) → Nat
  | [] => 0
  | x :: r => uptoBulkEntry x + uptoBulkEntries r
def uptoBulkEntry {H : Type} : Lit × DataW H → Nat
  | (.string bytes, d) => bytes.length + uptoBulk d + 1
  | (_, d) => uptoBulk d + 1
 end
def uptoSmall : (H : Type) → List (DataW H) → Bool := fun _ ds => decide (uptoBulkAll ds ≤ 1048576)
def OpenSpec.upto (s : _root_.Go.ChangeSpec) : _root_.Go.OpenSpec := { _root_.Go.OpenSpec.ofChange s with cond := some uptoSmall }

/-- 'laws.FnExactCheckCode', WHERE WHAT IT READS IS OF BULK AT MOST 1048576: true; the input reads as it did. -/
def fnExactCheckCodeUptoRow : OpenClaim := { program := "ythobhcbaddcbgaadoor", sum := "d9628989b7bec3a8c622e844cd07281667367745feb4bb11b8aacb088eb87793", func := "loop.example/kilnmill/laws.FnExactCheckCode", spec := "fnExactCheckCode", unfollowed := true, recurses := true, named := ["strings.asciiSpace", "unicode.White_Space", "loop.example/kilnmill/impl.typeWords", "loop.example/kilnmill/impl.builtGives"], apart := false, laid := [("unicode.White_Space", laid_unicode_White_Space), ("strings.asciiSpace", laid_strings_asciiSpace), ("loop.example/kilnmill/impl.typeWords", laid_loop_example_kilnmill_impl_typeWords), ("loop.example/kilnmill/impl.builtGives", laid_loop_example_kilnmill_impl_builtGives)], narrowed := true }
def FnExactCheckCodeUptoSaid : Prop := fnExactCheckCodeUptoRow.holds Tryd.pinned (OpenSpec.upto fnExactCheckCodeSpec)

/-- 'laws.FnExactShapes', WHERE WHAT IT READS IS OF BULK AT MOST 1048576: true; the input reads as it did. -/
def fnExactShapesUptoRow : OpenClaim := { program := "ythobhcbaddcbgaadoor", sum := "d9628989b7bec3a8c622e844cd07281667367745feb4bb11b8aacb088eb87793", func := "loop.example/kilnmill/laws.FnExactShapes", spec := "fnExactShapes", unfollowed := true, recurses := true, named := ["strings.asciiSpace", "unicode.White_Space", "loop.example/kilnmill/impl.typeWords", "loop.example/kilnmill/impl.builtGives"], apart := false, laid := [("unicode.White_Space", laid_unicode_White_Space), ("strings.asciiSpace", laid_strings_asciiSpace), ("loop.example/kilnmill/impl.typeWords", laid_loop_example_kilnmill_impl_typeWords), ("loop.example/kilnmill/impl.builtGives", laid_loop_example_kilnmill_impl_builtGives)], narrowed := true }
def FnExactShapesUptoSaid : Prop := fnExactShapesUptoRow.holds Tryd.pinned (OpenSpec.upto fnExactShapesSpec)

/-- 'laws.FnExactWriteCode', WHERE WHAT IT READS IS OF BULK AT MOST 1048576: true; the input reads as it did. -/
def fnExactWriteCodeUptoRow : OpenClaim := { program := "ythobhcbaddcbgaadoor", sum := "d9628989b7bec3a8c622e844cd07281667367745feb4bb11b8aacb088eb87793", func := "loop.example/kilnmill/laws.FnExactWriteCode", spec := "fnExactWriteCode", inPlace := ["internal/abi.NoEscape"], unfollowed := true, recurses := true, named := ["strings.asciiSpace", "unicode.White_Space", "loop.example/kilnmill/impl.typeWords", "loop.example/kilnmill/impl.builtGives"], apart := false, laid := [("unicode.White_Space", laid_unicode_White_Space), ("strings.asciiSpace", laid_strings_asciiSpace), ("loop.example/kilnmill/impl.typeWords", laid_loop_example_kilnmill_impl_typeWords), ("loop.example/kilnmill/impl.builtGives", laid_loop_example_kilnmill_impl_builtGives)], narrowed := true }
def FnExactWriteCodeUptoSaid : Prop := fnExactWriteCodeUptoRow.holds Tryd.pinned (OpenSpec.upto fnExactWriteCodeSpec)

end Rows
end Go.Proofs.YthobhcbaddcbgaaDoor
