/- The contracts of the functions that the law TopShaped reaches: Go's code comes to what these Lean functions tell (written by a program of ours and the kit's, out of the translation). -/
import Derived.Test.YtnbpkibefgahlaaHTopShapedx0
import Derived.Test.YtnbpkibefgahlaaHTopShapedx1
import Derived.Test.YtnbpkibefgahlaaHTopShapedx2
import Derived.Test.YtnbpkibefgahlaaHTopShapedx3
import Derived.Test.YtnbpkibefgahlaaHTopShapedx4
import Derived.Test.YtnbpkibefgahlaaHTopShapedx5
namespace Go.Proofs.Ytnbpkibefgahlaa.HTopShaped
open Go.RowKit Go.Proofs.YtnbpkibefgahlaaW.PrintWords Go.Proofs.YtnbpkibefgahlaaW.PrintLast Go.Proofs.YtnbpkibefgahlaaW.PrintMore
attribute [local go_sem] max2_int min2_int max_two min_two max_three min_three max_four min_four   -- for this text's walks alone
set_option linter.unusedVariables false
set_option linter.unusedSimpArgs false

end Go.Proofs.Ytnbpkibefgahlaa.HTopShaped
