/- serial.Add answers what its reference answers, at every two whole numbers of 64 bits; no further condition. -/
import Derived.Test.YtbbohccnhcfmnaaPSerialAddsx
import Derived.Test.YtbbohccnhcfmnaaHelp
namespace Go.Proofs.Ytbbohccnhcfmnaa.Pure
open Go.RowKit Go.Proofs.Ytbbohccnhcfmnaa.PSerialAdds Go.Proofs.YtbbohccnhcfmnaaW.PrintWords Go.Proofs.YtbbohccnhcfmnaaW.PrintLast Go.Proofs.Ytbbohccnhcfmnaa.Help
set_option linter.unusedSimpArgs false
set_option linter.unusedVariables false

theorem bad1 (a : Int) : serial_bad.f 3 [a] = some (decide (¬ (0 ≤ a ∧ a ≤ 65535))) := by
  simp only [serial_bad.f, serial_bad.l0, List.length_singleton]
  simp only [w01, rd]
  by_cases h1 : a < 0
  · simp [h1] <;> omega
  · by_cases h2 : a ≥ 65536
    · simp [h1, h2] <;> omega
    · simp [h1, h2] <;> omega

theorem SerialAdds : packthreadlaw_SerialAdds.Pure := by
  intro a b ha hb
  have ha := wf64 ha
  have hb := wf64 hb
  refine ⟨3, ?_⟩
  simp only [packthreadlaw_SerialAdds.f, serial_Add.f, bad1, packthreadref_SerialAdd.f, packthreadref_serialMay.f, packthreadref_SerialAdd.j0, Option.bind_some]
  by_cases h1 : 0 ≤ a
  · by_cases h2 : a ≤ 65535
    · by_cases h3 : 0 ≤ b
      · by_cases h4 : b ≤ 32767
        · rw [w64 (x := a + b) (by omega) (by omega), tmod_nn (by omega)]
          by_cases h5 : a + b > 65535
          · rw [w64 (x := a + b - 65536) (by omega) (by omega)]
            simp [h1, h2, h5, show ¬ b < 0 by omega, show ¬ b > 32767 by omega, show ¬ b ≥ 32768 by omega]
            omega
          · simp [h1, h2, h5, show ¬ b < 0 by omega, show ¬ b > 32767 by omega, show ¬ b ≥ 32768 by omega]
            omega
        · simp [h1, h2, show ¬ b < 0 by omega, show b > 32767 by omega, show b ≥ 32768 by omega]
      · simp [h1, h2, show b < 0 by omega]
    · simp [h1, h2]
  · simp [h1]

end Go.Proofs.Ytbbohccnhcfmnaa.Pure
