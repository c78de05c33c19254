/- rto.Next answers what its reference answers, at every five whole numbers of 64 bits; no further condition. -/
import Derived.Test.YtbbohccnhcfmnabXORtoNexts
import Derived.Test.YtbbohccnhcfmnabHelp
namespace Go.Proofs.Ytbbohccnhcfmnab.Pure
open Go.RowKit Go.Proofs.Ytbbohccnhcfmnab.PRtoNexts Go.Proofs.YtbbohccnhcfmnabW.PrintWords Go.Proofs.YtbbohccnhcfmnabW.PrintLast Go.Proofs.YtbbohccnhcfmnabW.PrintMore Go.Proofs.Ytbbohccnhcfmnab.Help
set_option linter.unusedSimpArgs false
set_option linter.unusedVariables false

/-- The four numbers may be a timer. -/
def Fits (a b c d : Int) : Prop := a ≥ 0 ∧ a ≤ 8388608 ∧ b ≥ 0 ∧ b ≤ 4194304 ∧ c ≥ 200 ∧ c ≤ 60000 ∧ d ≥ 0 ∧ d ≤ 12
instance (a b c d : Int) : Decidable (Fits a b c d) := by unfold Fits; exact inferInstance
theorem own_may (a b c d : Int) : rto_May.f a b c d = some (decide (Fits a b c d)) := by
  simp only [rto_May.f, rto_in.f, Fits]
  by_cases h1 : a ≥ 0
  · by_cases h2 : a ≤ 8388608
    · by_cases h3 : b ≥ 0
      · by_cases h4 : b ≤ 4194304
        · by_cases h5 : c ≥ 200
          · by_cases h6 : c ≤ 60000
            · by_cases h7 : d ≥ 0
              · simp [h1, h2, h3, h4, h5, h6, h7]
              · simp [h1, h2, h3, h4, h5, h6, h7]
            · simp [h1, h2, h3, h4, h5, h6]
          · simp [h1, h2, h3, h4, h5]
        · simp [h1, h2, h3, h4]
      · simp [h1, h2, h3]
    · simp [h1, h2]
  · simp [h1]
theorem ref_may (a b c d : Int) : packthreadref_TimerMay.f a b c d = some (decide (Fits a b c d)) := by
  simp only [packthreadref_TimerMay.f, Fits]
  by_cases h1 : a ≥ 0
  · by_cases h2 : a ≤ 8388608
    · by_cases h3 : b ≥ 0
      · by_cases h4 : b ≤ 4194304
        · by_cases h5 : c ≥ 200
          · by_cases h6 : c ≤ 60000
            · by_cases h7 : d ≥ 0
              · simp [h1, h2, h3, h4, h5, h6, h7]
              · simp [h1, h2, h3, h4, h5, h6, h7]
            · simp [h1, h2, h3, h4, h5, h6]
          · simp [h1, h2, h3, h4, h5]
        · simp [h1, h2, h3, h4]
      · simp [h1, h2, h3]
    · simp [h1, h2]
  · simp [h1]

theorem waits_eq {x y : Int} (h0 : 0 ≤ x) (h1 : x ≤ 1000000000) (h2 : 0 ≤ y) (h3 : y ≤ 1000000000) : packthreadref_waits.f x y = some (x, y, mn (mx (x / 8 + y) 200) 60000, 0) := by
  simp only [packthreadref_waits.f]
  rw [w64 (x := x / 8 + y) (by omega) (by omega)]
  by_cases h4 : x / 8 + y < 200
  · simp [h4, mx, mn]
  · by_cases h5 : x / 8 + y > 60000
    · simp [h4, h5, mx, mn]
    · simp [h4, h5, mx, mn]

theorem RtoNexts (a b c d s : Int) (_ : (Lit.int .i64 a).wf = true ∧ (Lit.int .i64 b).wf = true ∧ (Lit.int .i64 c).wf = true ∧ (Lit.int .i64 d).wf = true) (_ : (Lit.int .i64 s).wf = true) : ∃ k, packthreadlaw_RtoNexts.f k a b c d s = some true := by
  refine ⟨1, ?_⟩
  simp only [packthreadlaw_RtoNexts.f, rto_Next.f, rto_set.f, rto_in.f, packthreadref_RtoNext.f, packthreadref_RtoNext.j0, own_may, ref_may, Option.bind_some]
  by_cases h : Fits a b c d
  · have ⟨h1, h2, h3, h4, h5, h6, h7, h8⟩ := h
    simp only [h, decide_true, if_true]
    by_cases g1 : s ≥ 0
    · by_cases g2 : s ≤ 1048576
      · rw [if_pos g1, if_neg (show ¬ s < 0 by omega), tdiv_nn h1, tdiv_nn h3, w64 (x := a / 8) (by omega) (by omega), w64 (x := b / 4) (by omega) (by omega), w64 (x := s - a / 8) (by omega) (by omega), w64 (x := -(s - a / 8)) (by omega) (by omega),
          w64 (x := a + (s - a / 8)) (by omega) (by omega), tdiv_nn (by omega), w64 (x := (a + (s - a / 8)) / 8) (by omega) (by omega), w64 (x := b - b / 4) (by omega) (by omega)]
        simp only [g2, show ¬ s > 1048576 by omega, decide_true, decide_false, Option.bind_some, if_true]
        rw [if_neg (show ¬ (false = true) by simp)]
        by_cases g3 : s - a / 8 < 0
        · have e : mx (s - a / 8) (-(s - a / 8)) = -(s - a / 8) := by unfold mx; rw [if_pos (by omega)]
          rw [if_pos g3, e, w64 (x := -(s - a / 8) - b / 4) (by omega) (by omega), w64 (x := b + (-(s - a / 8) - b / 4)) (by omega) (by omega), w64 (x := b - b / 4 + -(s - a / 8)) (by omega) (by omega), waits_eq (by omega) (by omega) (by omega) (by omega),
            w64 (x := (a + (s - a / 8)) / 8 + (b + (-(s - a / 8) - b / 4))) (by omega) (by omega), show b - b / 4 + -(s - a / 8) = b + (-(s - a / 8) - b / 4) by omega]
          simp
        · have e : mx (s - a / 8) (-(s - a / 8)) = s - a / 8 := by unfold mx; split <;> omega
          rw [if_neg g3, e, w64 (x := s - a / 8 - b / 4) (by omega) (by omega), w64 (x := b + (s - a / 8 - b / 4)) (by omega) (by omega), w64 (x := b - b / 4 + (s - a / 8)) (by omega) (by omega), waits_eq (by omega) (by omega) (by omega) (by omega),
            w64 (x := (a + (s - a / 8)) / 8 + (b + (s - a / 8 - b / 4))) (by omega) (by omega), show b - b / 4 + (s - a / 8) = b + (s - a / 8 - b / 4) by omega]
          simp
      · simp [g1, g2, show ¬ s < 0 by omega, show s > 1048576 by omega]
    · simp [g1, show s < 0 by omega]
  · simp [h]

end Go.Proofs.Ytbbohccnhcfmnab.Pure
