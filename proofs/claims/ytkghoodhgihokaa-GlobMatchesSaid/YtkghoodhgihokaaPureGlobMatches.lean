/- glob.Match answers what its reference answers, at every pattern and name; no further condition. -/
import Derived.Test.YtkghoodhgihokaaHGlobMatchesx
import Derived.Test.YtkghoodhgihokaaHelp
namespace Go.Proofs.Ytkghoodhgihokaa.Pure
open Go.RowKit Go.Proofs.Ytkghoodhgihokaa Go.Proofs.Ytkghoodhgihokaa.HGlobMatches Go.Proofs.YtkghoodhgihokaaW.PrintWords Go.Proofs.YtkghoodhgihokaaW.PrintLast Go.Proofs.YtkghoodhgihokaaW.PrintMore Go.Proofs.Ytkghoodhgihokaa.Help
theorem GlobMatches : packthreadlaw_GlobMatches.Pure := by
  intro a0 a1 h0 h1
  unfold packthreadlaw_GlobMatches.f glob_Match.f packthreadref_GlobMatch.f
  simp only [Option.bind_some]
  simp
end Go.Proofs.Ytkghoodhgihokaa.Pure
