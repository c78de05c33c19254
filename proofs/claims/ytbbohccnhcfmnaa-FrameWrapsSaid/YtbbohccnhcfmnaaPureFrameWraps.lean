/- frame.Wrap answers what its reference answers, at every slice of bytes; no further condition. -/
import Derived.Test.YtbbohccnhcfmnaaPFrameWrapsx
import Derived.Test.YtbbohccnhcfmnaaHelp
namespace Go.Proofs.Ytbbohccnhcfmnaa.Pure
open Go.RowKit Go.Proofs.Ytbbohccnhcfmnaa.PFrameWraps Go.Proofs.YtbbohccnhcfmnaaW.PrintWords Go.Proofs.YtbbohccnhcfmnaaW.PrintLast Go.Proofs.YtbbohccnhcfmnaaW.PrintMore Go.Proofs.Ytbbohccnhcfmnaa.Help
set_option linter.unusedSimpArgs false
set_option linter.unusedVariables false

theorem same_loop (l : List Int) (hl : l.length ≤ 9223372036854775806) (d : Nat) : ∀ (k i : Nat), l.length - i = d → i ≤ l.length → d < k → packthreadlaw_sameBytes.l0 k l l (i : Int) = some true := by
  induction d with
  | zero =>
    intro k i hd hi hk
    obtain ⟨k, rfl⟩ : ∃ m, k = m + 1 := ⟨k - 1, by omega⟩
    simp only [packthreadlaw_sameBytes.l0]
    rw [if_neg (by omega)]
  | succ d ih =>
    intro k i hd hi hk
    obtain ⟨k, rfl⟩ : ∃ m, k = m + 1 := ⟨k - 1, by omega⟩
    simp only [packthreadlaw_sameBytes.l0]
    rw [if_pos (by omega), if_pos (by omega), if_pos (by omega), if_pos trivial, w64 (by omega) (by omega)]
    exact ih k (i + 1) (by omega) (by omega) (by omega)
theorem same_all (l : List Int) (hl : l.length ≤ 9223372036854775806) (k : Nat) (hk : l.length < k) : packthreadlaw_sameBytes.f k l l = some true := by
  simp only [packthreadlaw_sameBytes.f]
  rw [if_pos trivial]
  exact same_loop l hl l.length k 0 (by omega) (by omega) hk

theorem put4 (k : Nat) (n : Int) (h0 : 0 ≤ n) (h1 : n ≤ 1024) : frame_Put.f (k + 5) [] 4 n = some [0, 0, n / 256 % 256, n % 256] := by
  simp only [frame_Put.f, frame_Put.l0]
  simp (disch := omega) [w64, shr, IntKind.bits]
  omega

theorem FrameWraps (l : List Int) (hh : l.length * 1 ≤ 140737488351232 ∧ ∀ x ∈ l, (Lit.int .u8 x).wf = true) : ∃ k, packthreadlaw_FrameWraps.f k l = some true := by
  obtain ⟨hl, h⟩ := hh
  refine ⟨l.length + 10, ?_⟩
  simp only [packthreadlaw_FrameWraps.f, frame_Wrap.f, packthreadref_FrameWrapped.f]
  by_cases h1 : (l.length : Int) > 1024
  · rw [if_pos h1, if_pos h1]
    simp only [Option.bind_some]
    rw [same_all [] (by simp) _ (by simp)]
    simp
  · rw [if_neg h1, if_neg h1, show l.length + 10 = (l.length + 5) + 5 by omega, put4 _ _ (by omega) (by omega)]
    simp only [Option.bind_some, List.length_cons, List.length_nil]
    rw [if_pos (by omega), w64 (by omega) (by omega), if_pos (by omega)]
    simp only [Option.bind_some]
    rw [same_all _ (by simp; omega) _ (by simp)]
    simp

end Go.Proofs.Ytbbohccnhcfmnaa.Pure
