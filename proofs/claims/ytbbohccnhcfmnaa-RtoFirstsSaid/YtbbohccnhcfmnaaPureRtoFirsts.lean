/- rto.First answers what its reference answers, at every whole number of 64 bits; no further condition. -/
import Derived.Test.YtbbohccnhcfmnaaXORtoFirsts
import Derived.Test.YtbbohccnhcfmnaaHelp
namespace Go.Proofs.Ytbbohccnhcfmnaa.Pure
open Go.RowKit Go.Proofs.Ytbbohccnhcfmnaa.PRtoFirsts Go.Proofs.YtbbohccnhcfmnaaW.PrintWords Go.Proofs.YtbbohccnhcfmnaaW.PrintLast Go.Proofs.YtbbohccnhcfmnaaW.PrintMore Go.Proofs.Ytbbohccnhcfmnaa.Help
set_option linter.unusedSimpArgs false
set_option linter.unusedVariables false

theorem RtoFirsts (a : Int) (_ : (Lit.int .i64 a).wf = true) : packthreadlaw_RtoFirsts.f a = some true := by
  simp only [packthreadlaw_RtoFirsts.f, rto_First.f, rto_set.f, rto_in.f, packthreadref_RtoFirst.f, packthreadref_waits.f]
  by_cases h1 : a ≥ 0
  · by_cases h2 : a ≤ 1048576
    · rw [w64 (x := 8 * a) (by omega) (by omega), w64 (x := 2 * a) (by omega) (by omega), tdiv_nn (by omega), show 8 * a / 8 = a by omega, w64 (x := a) (by omega) (by omega), w64 (x := a + 2 * a) (by omega) (by omega)]
      by_cases h3 : a + 2 * a < 200
      · simp [h1, h2, h3, show ¬ a < 0 by omega, show ¬ a > 1048576 by omega, mx, mn]
      · by_cases h4 : a + 2 * a > 60000
        · simp [h1, h2, h3, h4, show ¬ a < 0 by omega, show ¬ a > 1048576 by omega, mx, mn]
        · simp [h1, h2, h3, h4, show ¬ a < 0 by omega, show ¬ a > 1048576 by omega, mx, mn]
    · simp [h1, h2, show ¬ a < 0 by omega, show a > 1048576 by omega]
  · simp [h1, show a < 0 by omega]

end Go.Proofs.Ytbbohccnhcfmnaa.Pure
