/- glob.May answers what its reference answers, at every text; no further condition. -/
import Derived.Test.YtkghoodhgihokaaHGlobMaysx
import Derived.Test.YtkghoodhgihokaaHelp
namespace Go.Proofs.Ytkghoodhgihokaa.Pure
open Go.RowKit Go.Proofs.Ytkghoodhgihokaa Go.Proofs.Ytkghoodhgihokaa.HGlobMays Go.Proofs.YtkghoodhgihokaaW.PrintWords Go.Proofs.YtkghoodhgihokaaW.PrintLast Go.Proofs.YtkghoodhgihokaaW.PrintMore Go.Proofs.Ytkghoodhgihokaa.Help
theorem GlobMays : packthreadlaw_GlobMays.Pure := by
  intro a0 ha
  unfold packthreadlaw_GlobMays.f glob_May.f packthreadref_GlobMay.f
  simp only [Option.bind_some]
  cases (Glob.partsF a0.data.toList).isSome <;> rfl
end Go.Proofs.Ytkghoodhgihokaa.Pure
