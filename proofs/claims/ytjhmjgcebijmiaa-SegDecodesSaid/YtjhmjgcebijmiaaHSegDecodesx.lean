/- The contracts of the functions that the law SegDecodes reaches: Go's code comes to what these Lean functions tell (written by a program of ours and the kit's, out of the translation). -/
import Derived.Test.YtjhmjgcebijmiaaHSegDecodesx0
import Derived.Test.YtjhmjgcebijmiaaHSegDecodesx1
import Derived.Test.YtjhmjgcebijmiaaHSegDecodesx2
import Derived.Test.YtjhmjgcebijmiaaHSegDecodesx3
import Derived.Test.YtjhmjgcebijmiaaHSegDecodesx4
import Derived.Test.YtjhmjgcebijmiaaHSegDecodesx5
import Derived.Test.YtjhmjgcebijmiaaHSegDecodesx6
import Derived.Test.YtjhmjgcebijmiaaHSegDecodesx7
import Derived.Test.YtjhmjgcebijmiaaHSegDecodesx8
namespace Go.Proofs.Ytjhmjgcebijmiaa.HSegDecodes
open Go.RowKit Go.Proofs.YtjhmjgcebijmiaaW.PrintWords Go.Proofs.YtjhmjgcebijmiaaW.PrintLast Go.Proofs.YtjhmjgcebijmiaaW.PrintMore
attribute [local go_sem] max2_int min2_int max_two min_two max_three min_three max_four min_four   -- for this text's walks alone
set_option linter.unusedVariables false
set_option linter.unusedSimpArgs false

end Go.Proofs.Ytjhmjgcebijmiaa.HSegDecodes
