/- The contracts of the functions that the law DeltaPatches reaches: Go's code comes to what these Lean functions tell (written by a program of ours and the kit's, out of the translation). -/
import Derived.Test.YtbbohccnhcfmnabHDeltaPatchesx0
import Derived.Test.YtbbohccnhcfmnabHDeltaPatchesx1
import Derived.Test.YtbbohccnhcfmnabHDeltaPatchesx2
import Derived.Test.YtbbohccnhcfmnabHDeltaPatchesx3
import Derived.Test.YtbbohccnhcfmnabHDeltaPatchesx4
namespace Go.Proofs.Ytbbohccnhcfmnab.HDeltaPatches
open Go.RowKit Go.Proofs.YtbbohccnhcfmnabW.PrintWords Go.Proofs.YtbbohccnhcfmnabW.PrintLast Go.Proofs.YtbbohccnhcfmnabW.PrintMore
attribute [local go_sem] max2_int min2_int max_two min_two max_three min_three max_four min_four   -- for this text's walks alone
set_option linter.unusedVariables false
set_option linter.unusedSimpArgs false

end Go.Proofs.Ytbbohccnhcfmnab.HDeltaPatches
