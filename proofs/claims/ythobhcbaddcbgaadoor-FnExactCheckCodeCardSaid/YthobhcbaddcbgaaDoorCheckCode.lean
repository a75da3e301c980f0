/- The tied card of FnExactCheckCode holds: at every code as argument the law answers true (the program's CheckCode answers as the specification's, field by field), and the argument and the named variables read afterwards as they read before. No condition beyond the card's own: the listed package variables start as the program's text lays them. -/
import Derived.Test.YthobhcbaddcbgaaDoorQ1
namespace Go.Proofs.YthobhcbaddcbgaaDoor
theorem checkCode_card : Rows.FnExactCheckCodeCardSaid := Go.KE.code_card
#print axioms checkCode_card
end Go.Proofs.YthobhcbaddcbgaaDoor
