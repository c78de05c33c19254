/- serial.Within answers what its reference answers, at every three whole numbers of 64 bits; no further condition. -/
import Derived.Test.YtbbohccnhcfmnaaPSerialWithinsx
import Derived.Test.YtbbohccnhcfmnaaHelp
namespace Go.Proofs.Ytbbohccnhcfmnaa.Pure
open Go.RowKit Go.Proofs.Ytbbohccnhcfmnaa.PSerialWithins Go.Proofs.YtbbohccnhcfmnaaW.PrintWords Go.Proofs.YtbbohccnhcfmnaaW.PrintLast Go.Proofs.Ytbbohccnhcfmnaa.Help
set_option linter.unusedSimpArgs false
set_option linter.unusedVariables false

theorem bad2 (a b : Int) : serial_bad.f 4 [a, b] = some (decide (¬ (0 ≤ a ∧ a ≤ 65535 ∧ 0 ≤ b ∧ b ≤ 65535))) := by
  simp only [serial_bad.f, serial_bad.l0, List.length_cons, List.length_nil]
  simp only [w01, w11, rd]
  by_cases h1 : a < 0
  · simp [h1] <;> omega
  · by_cases h2 : a ≥ 65536
    · simp [h1, h2] <;> omega
    · by_cases h3 : b < 0
      · simp [h1, h2, h3] <;> omega
      · by_cases h4 : b ≥ 65536
        · simp [h1, h2, h3, h4] <;> omega
        · simp [h1, h2, h3, h4] <;> omega


theorem SerialWithins : packthreadlaw_SerialWithins.Pure := by
  intro a b c ha hb hc
  have ha := wf64 ha
  have hb := wf64 hb
  have hc := wf64 hc
  refine ⟨4, ?_⟩
  simp only [packthreadlaw_SerialWithins.f, serial_Within.f, serial_far.f, bad2, packthreadref_SerialWithin.f, packthreadref_serialMay.f, Option.bind_some]
  by_cases h1 : 0 ≤ a
  · by_cases h2 : a ≤ 65535
    · by_cases h3 : 0 ≤ b
      · by_cases h4 : b ≤ 65535
        · by_cases h5 : 0 ≤ c
          · by_cases h6 : c ≤ 65536
            · rw [w64 (x := a - b) (by omega) (by omega), w64 (x := a - b + 65536) (by omega) (by omega), tmod_nn (by omega), w64 (x := b + c) (by omega) (by omega), w64 (x := a + 65536) (by omega) (by omega)]
              have h9 : a + 65536 ≥ b := by omega
              by_cases h7 : a ≥ b
              · have h10 : (a - b + 65536) % 65536 = a - b := by omega
                by_cases h8 : a < b + c
                · simp [h1, h2, h3, h4, h7, h8, h10, show ¬ c < 0 by omega, show ¬ c > 65536 by omega]
                  omega
                · simp [h1, h2, h3, h4, h7, h8, h9, h10, show ¬ c < 0 by omega, show ¬ c > 65536 by omega]
                  omega
              · have h10 : (a - b + 65536) % 65536 = a - b + 65536 := by omega
                simp [h1, h2, h3, h4, h7, h9, h10, show ¬ c < 0 by omega, show ¬ c > 65536 by omega]
                omega
            · simp [h1, h2, h3, h4, show ¬ c < 0 by omega, show c > 65536 by omega]
          · simp [h1, h2, h3, h4, show c < 0 by omega]
        · simp [h1, h2, h3, h4]
      · simp [h1, h2, h3]
    · simp [h1, h2]
  · simp [h1]

end Go.Proofs.Ytbbohccnhcfmnaa.Pure
