/- The contracts of the functions that the law FetchPlays reaches: Go's code comes to what these Lean functions tell (written by a program of ours and the kit's, out of the translation). -/
import Derived.Test.YtkghoodhgihokaaHFetchPlaysx0
import Derived.Test.YtkghoodhgihokaaHFetchPlaysx1
import Derived.Test.YtkghoodhgihokaaHFetchPlaysx2
namespace Go.Proofs.Ytkghoodhgihokaa.HFetchPlays
open Go.RowKit Go.Proofs.YtkghoodhgihokaaW.PrintWords Go.Proofs.YtkghoodhgihokaaW.PrintLast Go.Proofs.YtkghoodhgihokaaW.PrintMore
attribute [local go_sem] max2_int min2_int max_two min_two max_three min_three max_four min_four   -- for this text's walks alone
set_option linter.unusedVariables false
set_option linter.unusedSimpArgs false

end Go.Proofs.Ytkghoodhgihokaa.HFetchPlays
