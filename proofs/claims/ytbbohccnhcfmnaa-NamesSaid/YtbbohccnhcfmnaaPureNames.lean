/- The error numbers, kinds and limits are the document's; no condition. -/
import Derived.Test.YtbbohccnhcfmnaaPNamesx
import Derived.Test.YtbbohccnhcfmnaaHelp
namespace Go.Proofs.Ytbbohccnhcfmnaa.Pure
open Go.RowKit Go.Proofs.Ytbbohccnhcfmnaa.PNames Go.Proofs.YtbbohccnhcfmnaaW.PrintWords Go.Proofs.YtbbohccnhcfmnaaW.PrintLast Go.Proofs.Ytbbohccnhcfmnaa.Help
set_option linter.unusedSimpArgs false
set_option linter.unusedVariables false

set_option maxRecDepth 10000 in
theorem Names : packthreadlaw_Names.Pure := ⟨200, by decide +kernel⟩

end Go.Proofs.Ytbbohccnhcfmnaa.Pure
