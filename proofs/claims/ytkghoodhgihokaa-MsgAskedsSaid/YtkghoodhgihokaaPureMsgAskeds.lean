/- msg.Asked answers what its reference answers, at all bytes; no further condition. -/
import Derived.Test.YtkghoodhgihokaaHMsgAskedsx
import Derived.Test.YtkghoodhgihokaaXMsgX
import Derived.Test.YtkghoodhgihokaaHelp
namespace Go.Proofs.Ytkghoodhgihokaa.Pure
open Go.RowKit Go.Proofs.Ytkghoodhgihokaa.HMsgAskeds Go.Proofs.YtkghoodhgihokaaW.PrintWords Go.Proofs.YtkghoodhgihokaaW.PrintLast Go.Proofs.Ytkghoodhgihokaa.Help Go.Proofs.Ytkghoodhgihokaa.Msg
set_option linter.unusedSimpArgs false
set_option linter.unusedVariables false
theorem same_loop (l : List Int) (hl : l.length ≤ 9223372036854775806) (d : Nat) : ∀ (k i : Nat), l.length - i = d → i ≤ l.length → d < k → packthreadlaw_sameBytes.l0 k l l (i : Int) = some true := by
  induction d with
  | zero =>
    intro k i hd hi hk
    obtain ⟨k, rfl⟩ : ∃ m, k = m + 1 := ⟨k - 1, by omega⟩
    simp only [packthreadlaw_sameBytes.l0]
    rw [if_neg (by omega)]
  | succ d ih =>
    intro k i hd hi hk
    obtain ⟨k, rfl⟩ : ∃ m, k = m + 1 := ⟨k - 1, by omega⟩
    simp only [packthreadlaw_sameBytes.l0]
    rw [if_pos (by omega), if_pos (by omega), if_pos (by omega), if_pos trivial, w64 (by omega) (by omega)]
    exact ih k (i + 1) (by omega) (by omega) (by omega)
theorem same_all (l : List Int) (hl : l.length ≤ 9223372036854775806) (k : Nat) (hk : l.length < k) : packthreadlaw_sameBytes.f k l l = some true := by
  simp only [packthreadlaw_sameBytes.f]
  rw [if_pos trivial]
  exact same_loop l hl l.length k 0 (by omega) (by omega) hk

theorem bytes_ok {l : List Int} (h : ∀ x ∈ l, (Lit.int .u8 x).wf = true) : bytesB l = true := by
  unfold bytesB
  rw [List.all_eq_true]
  intro x hx
  have := wf8 (h x hx)
  simp [this]
theorem same_rq (q : Rq) (k : Nat) (hl : q.data.length ≤ 140737488351232) (hk : q.data.length < k) : packthreadlaw_sameRequest.f k q.kind q.mark q.path q.to_ q.how q.handle q.at_ q.count q.data q.kind q.mark q.path q.to_ q.how q.handle q.at_ q.count q.data = some true := by
  unfold packthreadlaw_sameRequest.f
  simp only [if_true]
  rw [same_all q.data (by omega) k hk, Option.bind_some]
theorem MsgAskeds (l : List Int) (hh : l.length * 1 ≤ 140737488351232 ∧ ∀ x ∈ l, (Lit.int .u8 x).wf = true) : ∃ k, packthreadlaw_MsgAskeds.f k l = some true := by
  refine ⟨l.length + 1, ?_⟩
  have hb := bytes_ok hh.2
  have hg : bytesB l = true ∧ l.length < 140737488351233 := ⟨hb, by omega⟩
  unfold packthreadlaw_MsgAskeds.f msg_Asked.f packthreadref_MsgAsked.f
  rw [if_pos hg, if_pos hg, Option.bind_some, Option.bind_some, ← asked_eq l (bytesB_in hb)]
  have hlen := asked_len l
  generalize askedF 0 l = r at hlen
  obtain ⟨q, e⟩ := r
  have hlen : q.data.length ≤ l.length := hlen
  rw [same_rq q (l.length + 1) (by omega) (by omega), Option.bind_some, if_pos rfl]
  simp
end Go.Proofs.Ytkghoodhgihokaa.Pure
