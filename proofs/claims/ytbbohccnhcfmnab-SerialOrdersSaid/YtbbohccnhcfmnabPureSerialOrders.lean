/- serial.Order answers what its reference answers, at every two whole numbers of 64 bits; no further condition. -/
import Derived.Test.YtbbohccnhcfmnabPSerialOrdersx
import Derived.Test.YtbbohccnhcfmnabHelp
namespace Go.Proofs.Ytbbohccnhcfmnab.Pure
open Go.RowKit Go.Proofs.Ytbbohccnhcfmnab.PSerialOrders Go.Proofs.YtbbohccnhcfmnabW.PrintWords Go.Proofs.YtbbohccnhcfmnabW.PrintLast Go.Proofs.Ytbbohccnhcfmnab.Help
set_option linter.unusedSimpArgs false
set_option linter.unusedVariables false

theorem bad2 (a b : Int) : serial_bad.f 4 [a, b] = some (decide (¬ (0 ≤ a ∧ a ≤ 65535 ∧ 0 ≤ b ∧ b ≤ 65535))) := by
  simp only [serial_bad.f, serial_bad.l0, List.length_cons, List.length_nil]
  simp only [w01, w11, rd]
  by_cases h1 : a < 0
  · simp [h1] <;> omega
  · by_cases h2 : a ≥ 65536
    · simp [h1, h2] <;> omega
    · by_cases h3 : b < 0
      · simp [h1, h2, h3] <;> omega
      · by_cases h4 : b ≥ 65536
        · simp [h1, h2, h3, h4] <;> omega
        · simp [h1, h2, h3, h4] <;> omega

theorem ref_far {a b : Int} (h1 : 0 ≤ a) (h2 : a ≤ 65535) (h3 : 0 ≤ b) (h4 : b ≤ 65535) : packthreadref_SerialFar.f 4 a b = some (if b ≥ a then b - a else 65536 - (a - b), 0) := by
  simp only [packthreadref_SerialFar.f, packthreadref_serialMay.f, packthreadref_SerialFar.j0]
  rw [w64 (x := b - a) (by omega) (by omega), w64 (x := a - b) (by omega) (by omega), w64 (x := 65536 - (a - b)) (by omega) (by omega)]
  by_cases h5 : b ≥ a
  · simp [h1, h2, h3, h4, h5]
  · simp [h1, h2, h3, h4, h5]

theorem SerialOrders : packthreadlaw_SerialOrders.Pure := by
  intro a b ha hb
  have ha := wf64 ha
  have hb := wf64 hb
  refine ⟨4, ?_⟩
  simp only [packthreadlaw_SerialOrders.f, serial_Order.f, serial_far.f, bad2, packthreadref_SerialOrder.f, Option.bind_some]
  by_cases h1 : 0 ≤ a
  · by_cases h2 : a ≤ 65535
    · by_cases h3 : 0 ≤ b
      · by_cases h4 : b ≤ 65535
        · rw [ref_far h1 h2 h3 h4, ref_far h3 h4 h1 h2, w64 (x := b - a) (by omega) (by omega), w64 (x := b - a + 65536) (by omega) (by omega), tmod_nn (by omega)]
          simp only [Option.bind_some]
          rcases Int.lt_trichotomy a b with h | h | h
          · rw [show (b - a + 65536) % 65536 = b - a by omega, if_pos (show b ≥ a by omega), if_neg (show ¬ a ≥ b by omega)]
            by_cases h5 : b - a = 32768
            · simp [h1, h2, h3, h4, h5, show a ≠ b by omega, show 65536 - (32768 : Int) = 32768 by omega]
            · by_cases h6 : b - a < 32768
              · simp [h1, h2, h3, h4, h5, h6, show a ≠ b by omega, show b - a ≠ 0 by omega, show ¬ b - a = 65536 - (b - a) by omega, show b - a < 65536 - (b - a) by omega]
              · simp [h1, h2, h3, h4, h5, h6, show a ≠ b by omega, show b - a ≠ 0 by omega, show ¬ b - a = 65536 - (b - a) by omega, show ¬ b - a < 65536 - (b - a) by omega]
          · subst h
            simp [h1, h2]
          · rw [show (b - a + 65536) % 65536 = 65536 - (a - b) by omega, if_neg (show ¬ b ≥ a by omega), if_pos (show a ≥ b by omega)]
            by_cases h5 : a - b = 32768
            · simp [h1, h2, h3, h4, h5, show a ≠ b by omega, show 65536 - (32768 : Int) = 32768 by omega]
            · by_cases h6 : 65536 - (a - b) < 32768
              · simp [h1, h2, h3, h4, h5, h6, show a ≠ b by omega, show 65536 - (a - b) ≠ 0 by omega, show ¬ 65536 - (a - b) = 32768 by omega, show ¬ 65536 - (a - b) = a - b by omega, show 65536 - (a - b) < a - b by omega]
              · simp [h1, h2, h3, h4, h5, h6, show a ≠ b by omega, show 65536 - (a - b) ≠ 0 by omega, show ¬ 65536 - (a - b) = 32768 by omega, show ¬ 65536 - (a - b) = a - b by omega, show ¬ 65536 - (a - b) < a - b by omega]
        · simp [h1, h2, h3, h4, packthreadref_SerialFar.f, packthreadref_serialMay.f, packthreadref_SerialFar.j0]
      · simp [h1, h2, h3, packthreadref_SerialFar.f, packthreadref_serialMay.f, packthreadref_SerialFar.j0]
    · simp [h1, h2, packthreadref_SerialFar.f, packthreadref_serialMay.f, packthreadref_SerialFar.j0]
  · simp [h1, packthreadref_SerialFar.f, packthreadref_serialMay.f, packthreadref_SerialFar.j0]

end Go.Proofs.Ytbbohccnhcfmnab.Pure
