/- rto.Back answers what its reference answers, at every four whole numbers of 64 bits; no further condition. -/
import Derived.Test.YtbbohccnhcfmnaaXORtoBacks
import Derived.Test.YtbbohccnhcfmnaaHelp
namespace Go.Proofs.Ytbbohccnhcfmnaa.Pure
open Go.RowKit Go.Proofs.Ytbbohccnhcfmnaa.PRtoBacks Go.Proofs.YtbbohccnhcfmnaaW.PrintWords Go.Proofs.YtbbohccnhcfmnaaW.PrintLast Go.Proofs.YtbbohccnhcfmnaaW.PrintMore Go.Proofs.Ytbbohccnhcfmnaa.Help
set_option linter.unusedSimpArgs false
set_option linter.unusedVariables false

/-- The four numbers may be a timer. -/
def Fits (a b c d : Int) : Prop := a ≥ 0 ∧ a ≤ 8388608 ∧ b ≥ 0 ∧ b ≤ 4194304 ∧ c ≥ 200 ∧ c ≤ 60000 ∧ d ≥ 0 ∧ d ≤ 12
instance (a b c d : Int) : Decidable (Fits a b c d) := by unfold Fits; exact inferInstance
theorem own_may (a b c d : Int) : rto_May.f a b c d = some (decide (Fits a b c d)) := by
  simp only [rto_May.f, rto_in.f, Fits]
  by_cases h1 : a ≥ 0
  · by_cases h2 : a ≤ 8388608
    · by_cases h3 : b ≥ 0
      · by_cases h4 : b ≤ 4194304
        · by_cases h5 : c ≥ 200
          · by_cases h6 : c ≤ 60000
            · by_cases h7 : d ≥ 0
              · simp [h1, h2, h3, h4, h5, h6, h7]
              · simp [h1, h2, h3, h4, h5, h6, h7]
            · simp [h1, h2, h3, h4, h5, h6]
          · simp [h1, h2, h3, h4, h5]
        · simp [h1, h2, h3, h4]
      · simp [h1, h2, h3]
    · simp [h1, h2]
  · simp [h1]
theorem ref_may (a b c d : Int) : packthreadref_TimerMay.f a b c d = some (decide (Fits a b c d)) := by
  simp only [packthreadref_TimerMay.f, Fits]
  by_cases h1 : a ≥ 0
  · by_cases h2 : a ≤ 8388608
    · by_cases h3 : b ≥ 0
      · by_cases h4 : b ≤ 4194304
        · by_cases h5 : c ≥ 200
          · by_cases h6 : c ≤ 60000
            · by_cases h7 : d ≥ 0
              · simp [h1, h2, h3, h4, h5, h6, h7]
              · simp [h1, h2, h3, h4, h5, h6, h7]
            · simp [h1, h2, h3, h4, h5, h6]
          · simp [h1, h2, h3, h4, h5]
        · simp [h1, h2, h3, h4]
      · simp [h1, h2, h3]
    · simp [h1, h2]
  · simp [h1]


theorem RtoBacks (a b c d : Int) (_ : (Lit.int .i64 a).wf = true ∧ (Lit.int .i64 b).wf = true ∧ (Lit.int .i64 c).wf = true ∧ (Lit.int .i64 d).wf = true) : packthreadlaw_RtoBacks.f a b c d = some true := by
  simp only [packthreadlaw_RtoBacks.f, rto_Back.f, packthreadref_RtoBack.f, own_may, ref_may, Option.bind_some]
  by_cases h : Fits a b c d
  · have ⟨h1, h2, h3, h4, h5, h6, h7, h8⟩ := h
    simp only [h, decide_true, if_true]
    by_cases h9 : d = 12
    · simp [h9]
    · rw [if_neg h9, if_neg (by omega), w64 (x := 2 * c) (by omega) (by omega), w64 (x := c + c) (by omega) (by omega), show c + c = 2 * c by omega]
      by_cases h10 : 2 * c > 60000
      · simp [mn, h10]
      · simp [mn, h10]
  · simp [h]

end Go.Proofs.Ytbbohccnhcfmnaa.Pure
