/- serial.Far answers what its reference answers, at every two whole numbers of 64 bits; no further condition. -/
import Derived.Test.YtbbohccnhcfmnaaPSerialFarsx
import Derived.Test.YtbbohccnhcfmnaaHelp
namespace Go.Proofs.Ytbbohccnhcfmnaa.Pure
open Go.RowKit Go.Proofs.Ytbbohccnhcfmnaa.PSerialFars Go.Proofs.YtbbohccnhcfmnaaW.PrintWords Go.Proofs.YtbbohccnhcfmnaaW.PrintLast Go.Proofs.Ytbbohccnhcfmnaa.Help
set_option linter.unusedSimpArgs false
set_option linter.unusedVariables false

theorem bad2 (a b : Int) : serial_bad.f 4 [a, b] = some (decide (¬ (0 ≤ a ∧ a ≤ 65535 ∧ 0 ≤ b ∧ b ≤ 65535))) := by
  simp only [serial_bad.f, serial_bad.l0, List.length_cons, List.length_nil]
  simp only [w01, w11, rd]
  by_cases h1 : a < 0
  · simp [h1] <;> omega
  · by_cases h2 : a ≥ 65536
    · simp [h1, h2] <;> omega
    · by_cases h3 : b < 0
      · simp [h1, h2, h3] <;> omega
      · by_cases h4 : b ≥ 65536
        · simp [h1, h2, h3, h4] <;> omega
        · simp [h1, h2, h3, h4] <;> omega


theorem SerialFars : packthreadlaw_SerialFars.Pure := by
  intro a b ha hb
  have ha := wf64 ha
  have hb := wf64 hb
  refine ⟨4, ?_⟩
  simp only [packthreadlaw_SerialFars.f, serial_Far.f, serial_far.f, bad2, packthreadref_SerialFar.f, packthreadref_serialMay.f, packthreadref_SerialFar.j0, Option.bind_some]
  by_cases h1 : 0 ≤ a
  · by_cases h2 : a ≤ 65535
    · by_cases h3 : 0 ≤ b
      · by_cases h4 : b ≤ 65535
        · rw [w64 (x := b - a) (by omega) (by omega), w64 (x := a - b) (by omega) (by omega), w64 (x := b - a + 65536) (by omega) (by omega), tmod_nn (by omega), w64 (x := 65536 - (a - b)) (by omega) (by omega)]
          by_cases h5 : b ≥ a
          · simp [h1, h2, h3, h4, h5]
            omega
          · simp [h1, h2, h3, h4, h5]
            omega
        · simp [h1, h2, h3, h4]
      · simp [h1, h2, h3]
    · simp [h1, h2]
  · simp [h1]

end Go.Proofs.Ytbbohccnhcfmnaa.Pure
