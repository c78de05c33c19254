/- The contracts of the functions that the law HoleAdds reaches: Go's code comes to what these Lean functions tell (written by a program of ours and the kit's, out of the translation). -/
import Derived.Test.YtjhmjgcebijmiaaHHoleAddsx0
import Derived.Test.YtjhmjgcebijmiaaHHoleAddsx1
import Derived.Test.YtjhmjgcebijmiaaHHoleAddsx2
import Derived.Test.YtjhmjgcebijmiaaHHoleAddsx3
import Derived.Test.YtjhmjgcebijmiaaHHoleAddsx4
import Derived.Test.YtjhmjgcebijmiaaHHoleAddsx5
namespace Go.Proofs.Ytjhmjgcebijmiaa.HHoleAdds
open Go.RowKit Go.Proofs.YtjhmjgcebijmiaaW.PrintWords Go.Proofs.YtjhmjgcebijmiaaW.PrintLast Go.Proofs.YtjhmjgcebijmiaaW.PrintMore
attribute [local go_sem] max2_int min2_int max_two min_two max_three min_three max_four min_four   -- for this text's walks alone
set_option linter.unusedVariables false
set_option linter.unusedSimpArgs false

end Go.Proofs.Ytjhmjgcebijmiaa.HHoleAdds
