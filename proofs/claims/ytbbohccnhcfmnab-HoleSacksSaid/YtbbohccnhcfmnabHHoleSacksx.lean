/- The contracts of the functions that the law HoleSacks reaches: Go's code comes to what these Lean functions tell (written by a program of ours and the kit's, out of the translation). -/
import Derived.Test.YtbbohccnhcfmnabHHoleSacksx0
import Derived.Test.YtbbohccnhcfmnabHHoleSacksx1
import Derived.Test.YtbbohccnhcfmnabHHoleSacksx2
import Derived.Test.YtbbohccnhcfmnabHHoleSacksx3
import Derived.Test.YtbbohccnhcfmnabHHoleSacksx4
namespace Go.Proofs.Ytbbohccnhcfmnab.HHoleSacks
open Go.RowKit Go.Proofs.YtbbohccnhcfmnabW.PrintWords Go.Proofs.YtbbohccnhcfmnabW.PrintLast Go.Proofs.YtbbohccnhcfmnabW.PrintMore
attribute [local go_sem] max2_int min2_int max_two min_two max_three min_three max_four min_four   -- for this text's walks alone
set_option linter.unusedVariables false
set_option linter.unusedSimpArgs false

end Go.Proofs.Ytbbohccnhcfmnab.HHoleSacks
