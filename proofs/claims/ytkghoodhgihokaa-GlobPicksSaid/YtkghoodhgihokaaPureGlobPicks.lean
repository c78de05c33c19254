/- glob.Pick answers what its reference answers, at every pattern and list of names; no further condition. -/
import Derived.Test.YtkghoodhgihokaaHGlobPicksx
import Derived.Test.YtkghoodhgihokaaHelp
namespace Go.Proofs.Ytkghoodhgihokaa.Pure
open Go.RowKit Go.Proofs.Ytkghoodhgihokaa Go.Proofs.Ytkghoodhgihokaa.HGlobPicks Go.Proofs.YtkghoodhgihokaaW.PrintWords Go.Proofs.YtkghoodhgihokaaW.PrintLast Go.Proofs.YtkghoodhgihokaaW.PrintMore Go.Proofs.Ytkghoodhgihokaa.Help
theorem sameTexts_self (l : List ByteArray) (hl : l.length ≤ 100000) : ∀ (d k i : Nat), l.length - i = d → i ≤ l.length → d < k → packthreadlaw_sameTexts.l0 k l l (i : Int) = some true := by
  intro d
  induction d with
  | zero =>
    intro k i hd hi hk
    obtain ⟨k, rfl⟩ : ∃ m, k = m + 1 := ⟨k - 1, by omega⟩
    rw [packthreadlaw_sameTexts.l0, if_neg (by omega)]
  | succ d ih =>
    intro k i hd hi hk
    obtain ⟨k, rfl⟩ : ∃ m, k = m + 1 := ⟨k - 1, by omega⟩
    have hlt : i < l.length := by omega
    rw [packthreadlaw_sameTexts.l0, if_pos (by omega), if_pos (by omega), if_pos (by omega), if_pos rfl]
    have e : wrap64 ((i : Int) + 1) = ((i + 1 : Nat) : Int) := by unfold wrap64; omega
    rw [e]
    exact ih k (i + 1) (by omega) (by omega) (by omega)
theorem sameTexts_is (l : List ByteArray) (hl : l.length ≤ 100000) (k : Nat) (hk : l.length < k) : packthreadlaw_sameTexts.f k l l = some true := by
  unfold packthreadlaw_sameTexts.f
  rw [if_pos rfl]
  exact sameTexts_self l hl l.length k 0 (by omega) (by omega) hk

theorem pick_len (p : ByteArray) (l : List ByteArray) : (Glob.pickF p l).1.length ≤ 64 := by
  unfold Glob.pickF
  split
  · simp
  · split
    · simp
    · split
      · simp
      · exact Nat.le_trans (List.length_filter_le _ _) (by omega)
theorem GlobPicks (a0 : ByteArray) (l1 : List ByteArray) {P Q : Prop} (_ : P) (_ : Q) : ∃ k, packthreadlaw_GlobPicks.f k a0 l1 = some true := by
  refine ⟨100, ?_⟩
  unfold packthreadlaw_GlobPicks.f glob_Pick.f packthreadref_GlobPick.f
  rw [Option.bind_some, Option.bind_some, sameTexts_is _ (Nat.le_trans (pick_len a0 l1) (by decide)) 100 (Nat.lt_of_le_of_lt (pick_len a0 l1) (by decide)), Option.bind_some, if_pos rfl]
  simp
end Go.Proofs.Ytkghoodhgihokaa.Pure
