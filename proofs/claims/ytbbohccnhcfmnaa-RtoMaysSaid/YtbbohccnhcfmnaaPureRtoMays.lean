/- rto.May answers what its reference answers, at every four whole numbers of 64 bits; no further condition. -/
import Derived.Test.YtbbohccnhcfmnaaPRtoMaysx
import Derived.Test.YtbbohccnhcfmnaaHelp
namespace Go.Proofs.Ytbbohccnhcfmnaa.Pure
open Go.RowKit Go.Proofs.Ytbbohccnhcfmnaa.PRtoMays Go.Proofs.YtbbohccnhcfmnaaW.PrintWords Go.Proofs.YtbbohccnhcfmnaaW.PrintLast Go.Proofs.Ytbbohccnhcfmnaa.Help
set_option linter.unusedSimpArgs false
set_option linter.unusedVariables false

theorem RtoMays (a b c d : Int) (_ : (Lit.int .i64 a).wf = true ∧ (Lit.int .i64 b).wf = true ∧ (Lit.int .i64 c).wf = true ∧ (Lit.int .i64 d).wf = true) : packthreadlaw_RtoMays.f a b c d = some true := by
  simp only [packthreadlaw_RtoMays.f, rto_May.f, rto_in.f, packthreadref_TimerMay.f]
  by_cases h1 : a ≥ 0
  · by_cases h2 : a ≤ 8388608
    · by_cases h3 : b ≥ 0
      · by_cases h4 : b ≤ 4194304
        · by_cases h5 : c ≥ 200
          · by_cases h6 : c ≤ 60000
            · by_cases h7 : d ≥ 0
              · simp [h1, h2, h3, h4, h5, h6, h7]
              · simp [h1, h2, h3, h4, h5, h6, h7]
            · simp [h1, h2, h3, h4, h5, h6]
          · simp [h1, h2, h3, h4, h5]
        · simp [h1, h2, h3, h4]
      · simp [h1, h2, h3]
    · simp [h1, h2]
  · simp [h1]

end Go.Proofs.Ytbbohccnhcfmnaa.Pure
