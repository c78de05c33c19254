/- fetch.Play answers what its reference answers, at every argument; no further condition. -/
import Derived.Test.YtkghoodhgihokaaHFetchPlaysx
import Derived.Test.YtkghoodhgihokaaXFetchN
import Derived.Test.YtkghoodhgihokaaHelp
namespace Go.Proofs.Ytkghoodhgihokaa.Pure
open Go.RowKit Go.Proofs.Ytkghoodhgihokaa.HFetchPlays Go.Proofs.YtkghoodhgihokaaW.PrintWords Go.Proofs.YtkghoodhgihokaaW.PrintLast Go.Proofs.Ytkghoodhgihokaa.Help
set_option linter.unusedSimpArgs false
set_option linter.unusedVariables false
theorem FetchPlays (l : List S110) (hh : l.length * 40 ≤ 140737488351232 ∧ ∀ x ∈ l, (Lit.int IntKind.i64 (x.f0, x.f1, x.f2).fst).wf = true ∧ (Lit.int IntKind.i64 (x.f0, x.f1, x.f2).snd.fst).wf = true ∧ (x.f0, x.f1, x.f2).snd.snd.length * 1 ≤ 140737488351232 ∧ ∀ y ∈ (x.f0, x.f1, x.f2).snd.snd, (Lit.int IntKind.u8 y).wf = true) : packthreadlaw_FetchPlays.f l = some true := by
  unfold packthreadlaw_FetchPlays.f
  refine if_pos (Fetch.okB_iff.2 (fun x hx => ?_))
  obtain ⟨_, _, h1, h2⟩ := hh.2 x hx
  refine ⟨by have h1 : x.f2.length * 1 ≤ 140737488351232 := h1; omega, fun y hy => ?_⟩
  have := wf8 (h2 y hy)
  omega
end Go.Proofs.Ytkghoodhgihokaa.Pure
