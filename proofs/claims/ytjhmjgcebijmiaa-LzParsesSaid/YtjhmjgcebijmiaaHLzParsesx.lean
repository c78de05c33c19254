/- The contracts of the functions that the law LzParses reaches: Go's code comes to what these Lean functions tell (written by a program of ours and the kit's, out of the translation). -/
import Derived.Test.YtjhmjgcebijmiaaHLzParsesx0
import Derived.Test.YtjhmjgcebijmiaaHLzParsesx1
import Derived.Test.YtjhmjgcebijmiaaHLzParsesx2
import Derived.Test.YtjhmjgcebijmiaaHLzParsesx3
import Derived.Test.YtjhmjgcebijmiaaHLzParsesx4
namespace Go.Proofs.Ytjhmjgcebijmiaa.HLzParses
open Go.RowKit Go.Proofs.YtjhmjgcebijmiaaW.PrintWords Go.Proofs.YtjhmjgcebijmiaaW.PrintLast Go.Proofs.YtjhmjgcebijmiaaW.PrintMore
attribute [local go_sem] max2_int min2_int max_two min_two max_three min_three max_four min_four   -- for this text's walks alone
set_option linter.unusedVariables false
set_option linter.unusedSimpArgs false

end Go.Proofs.Ytjhmjgcebijmiaa.HLzParses
