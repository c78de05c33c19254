/- msg.Answered answers what its reference answers, at all bytes; no further condition. -/
import Derived.Test.YtkghoodhgihokaaHMsgAnsweredsx
import Derived.Test.YtkghoodhgihokaaXMsgAa
import Derived.Test.YtkghoodhgihokaaXMsgX
import Derived.Test.YtkghoodhgihokaaHelp
import Derived.WalkArith
namespace Go.Proofs.Ytkghoodhgihokaa.Pure
open Go.RowKit Go.Proofs.Ytkghoodhgihokaa Go.Proofs.Ytkghoodhgihokaa.HMsgAnswereds Go.Proofs.YtkghoodhgihokaaW.PrintWords Go.Proofs.YtkghoodhgihokaaW.PrintLast Go.Proofs.Ytkghoodhgihokaa.Help Go.Proofs.Ytkghoodhgihokaa.Msg
set_option linter.unusedSimpArgs false
set_option linter.unusedVariables false
theorem same_loop (l : List Int) (hl : l.length ≤ 9223372036854775806) (d : Nat) : ∀ (k i : Nat), l.length - i = d → i ≤ l.length → d < k → packthreadlaw_sameBytes.l0 k l l (i : Int) = some true := by
  induction d with
  | zero =>
    intro k i hd hi hk
    obtain ⟨k, rfl⟩ : ∃ m, k = m + 1 := ⟨k - 1, by omega⟩
    simp only [packthreadlaw_sameBytes.l0]
    rw [if_neg (by omega)]
  | succ d ih =>
    intro k i hd hi hk
    obtain ⟨k, rfl⟩ : ∃ m, k = m + 1 := ⟨k - 1, by omega⟩
    simp only [packthreadlaw_sameBytes.l0]
    rw [if_pos (by omega), if_pos (by omega), if_pos (by omega), if_pos trivial, w64 (by omega) (by omega)]
    exact ih k (i + 1) (by omega) (by omega) (by omega)
theorem same_all (l : List Int) (hl : l.length ≤ 9223372036854775806) (k : Nat) (hk : l.length < k) : packthreadlaw_sameBytes.f k l l = some true := by
  simp only [packthreadlaw_sameBytes.f]
  rw [if_pos trivial]
  exact same_loop l hl l.length k 0 (by omega) (by omega) hk

theorem sameTexts_self (l : List ByteArray) (hl : l.length ≤ 100000) : ∀ (d k i : Nat), l.length - i = d → i ≤ l.length → d < k → packthreadlaw_sameTexts.l0 k l l (i : Int) = some true := by
  intro d
  induction d with
  | zero =>
    intro k i hd hi hk
    obtain ⟨k, rfl⟩ : ∃ m, k = m + 1 := ⟨k - 1, by omega⟩
    rw [packthreadlaw_sameTexts.l0, if_neg (by omega)]
  | succ d ih =>
    intro k i hd hi hk
    obtain ⟨k, rfl⟩ : ∃ m, k = m + 1 := ⟨k - 1, by omega⟩
    have hlt : i < l.length := by omega
    rw [packthreadlaw_sameTexts.l0, if_pos (by omega), if_pos (by omega), if_pos (by omega), if_pos rfl]
    have e : wrap64 ((i : Int) + 1) = ((i + 1 : Nat) : Int) := by unfold wrap64; omega
    rw [e]
    exact ih k (i + 1) (by omega) (by omega) (by omega)
theorem sameTexts_is (l : List ByteArray) (hl : l.length ≤ 100000) (k : Nat) (hk : l.length < k) : packthreadlaw_sameTexts.f k l l = some true := by
  unfold packthreadlaw_sameTexts.f
  rw [if_pos rfl]
  exact sameTexts_self l hl l.length k 0 (by omega) (by omega) hk

theorem bytes_ok {l : List Int} (h : ∀ x ∈ l, (Lit.int .u8 x).wf = true) : bytesB l = true := by
  unfold bytesB
  rw [List.all_eq_true]
  intro x hx
  have := wf8 (h x hx)
  simp [this]
theorem all_rep (q : Rp) (m : Int) (h0 : 0 ≤ m) (h1 : m ≤ 255) : allG 0 (repV 0 0 0 q m) = if rangeP q = true then 2 else if 100 < q.data.length then 1 else 0 := by
  rw [all_is _ 0 (.inl rfl)]
  have e2 : (repV 0 0 0 q m).any (fun p => fitsF p == 2) = rangeP q := by
    have hm : (decide (m < 0) || decide (255 < m)) = false := by simp; omega
    simp [repV, fits1, fits4, fitsd, rangeP, Bool.or_assoc, hm, h0, h1]
  have e1 : (repV 0 0 0 q m).any (fun p => fitsF p == 1) = decide (100 < q.data.length) := by
    simp [repV, fitsn, fitsd1]
  rw [e2, e1]
  simp
theorem fault_eq (q : Rp) : pfaultF q = rfaultF q := by
  unfold pfaultF rfaultF
  rw [all_rep q _ (by omega) (by omega)]
  by_cases h1 : rangeP q = true
  · rw [if_pos h1, if_pos h1, if_pos (by decide)]
  rw [if_neg h1, if_neg h1]
  by_cases h2 : 100 < q.data.length
  · rw [if_pos h2, if_pos (by decide)]
    have : sizeP q = true := by simp [sizeP, h2]
    rw [if_pos this]
  rw [if_neg h2, if_neg (by decide)]
  by_cases h3 : 40 < q.names.length
  · have : sizeP q = true := by simp [sizeP, h3]
    rw [if_pos h3, if_pos this]
  · have : ¬ sizeP q = true := by simp [sizeP]; omega
    rw [if_neg h3, if_neg this]
theorem rn0 {wd : Nat} (h : 0 < wd) : readN wd [] true = (0, [], true) := readN_less h true
theorem rt0 : readT [] true = (strOfNums [], [], true) := by unfold readT; rw [rn0 (by omega)]; rfl
theorem num_no {wd : Nat} {a : Addr} {n : Int} {l : List Int} (h : getG (.num wd a n) l = none) : readN wd l false = (0, [], true) := by
  rw [getG_num] at h
  by_cases h1 : l.length < wd
  · exact readN_less h1 _
  · rw [if_neg h1] at h; cases h
theorem num_yes {wd : Nat} {a : Addr} {n : Int} {l : List Int} {x : GV × List Int} (h : getG (.num wd a n) l = some x) : ∃ m : Nat, ∃ r, x = (.num m, r) ∧ readN wd l false = ((m : Int), r, false) := by
  rw [getG_num] at h
  by_cases h1 : l.length < wd
  · rw [if_pos h1] at h; cases h
  · rw [if_neg h1] at h; cases h; exact ⟨_, _, rfl, readN_more h1 _⟩
theorem data_no {a : Addr} {A : Option Addr} {d : List Int} {c : Nat} {l : List Int} (h : getG (.data a A d c) l = none) : readT l false = (⟨#[]⟩, [], true) := by
  rw [getG_data] at h
  by_cases h1 : l.length < 2
  · exact readT_less h1
  rw [if_neg h1] at h
  by_cases h2 : (l.drop 2).length < valN (l.take 2)
  · exact readT_less2 h1 h2
  · rw [if_neg h2] at h; cases h
theorem data_yes {a : Addr} {A : Option Addr} {d : List Int} {c : Nat} {l : List Int} {x : GV × List Int} (h : getG (.data a A d c) l = some x) : ∃ e r, x = (.data e, r) ∧ readT l false = (strOfNums e, r, false) := by
  rw [getG_data] at h
  by_cases h1 : l.length < 2
  · rw [if_pos h1] at h; cases h
  rw [if_neg h1] at h
  by_cases h2 : (l.drop 2).length < valN (l.take 2)
  · rw [if_pos h2] at h; cases h
  · rw [if_neg h2] at h; cases h; exact ⟨_, _, rfl, readT_more h1 h2⟩
theorem data_b {a : Addr} {A : Option Addr} {d e : List Int} {c : Nat} {l r : List Int} (hb : ∀ y ∈ l, 0 ≤ y ∧ y ≤ 255) (h : getG (.data a A d c) l = some (.data e, r)) : ∀ y ∈ e, 0 ≤ y ∧ y ≤ 255 := by
  rw [getG_data] at h
  by_cases h1 : l.length < 2
  · rw [if_pos h1] at h; cases h
  rw [if_neg h1] at h
  by_cases h2 : (l.drop 2).length < valN (l.take 2)
  · rw [if_pos h2] at h; cases h
  · rw [if_neg h2] at h; cases h; exact bytes_take (bytes_drop hb 2) _
theorem text_no {a : Addr} {s : ByteArray} {l : List Int} (h : getG (.text a s) l = none) : readT l false = (⟨#[]⟩, [], true) := by
  rw [getG_text] at h
  by_cases h1 : l.length < 2
  · exact readT_less h1
  rw [if_neg h1] at h
  by_cases h2 : (l.drop 2).length < valN (l.take 2)
  · exact readT_less2 h1 h2
  · rw [if_neg h2] at h; cases h
theorem text_yes {a : Addr} {s : ByteArray} {l : List Int} {x : GV × List Int} (h : getG (.text a s) l = some x) : ∃ t r, x = (.text t, r) ∧ readT l false = (t, r, false) := by
  rw [getG_text] at h
  by_cases h1 : l.length < 2
  · rw [if_pos h1] at h; cases h
  rw [if_neg h1] at h
  by_cases h2 : (l.drop 2).length < valN (l.take 2)
  · rw [if_pos h2] at h; cases h
  · rw [if_neg h2] at h; cases h; exact ⟨_, _, rfl, readT_more h1 h2⟩
theorem namesR_short : ∀ (n : Nat) (ns : List ByteArray) (l : List Int), namesR n ns l true = (ns, l, true)
  | 0, _, _ => rfl
  | _ + 1, _, _ => rfl
theorem tail_short (f : Rp → Int) (q : Rp) (n : Int) (l : List Int) : refTail f q n l true = (zeroP, 5) := by
  unfold refTail
  rw [namesR_short]
  rfl
theorem names_sim : ∀ (n : Nat) (ns : List ByteArray) (l : List Int), (namesG n l ns = none → (namesR n ns l false).2.2 = true) ∧ (∀ ns' r, namesG n l ns = some (ns', r) → namesR n ns l false = (ns', r, false))
  | 0, ns, l => ⟨fun h => (by cases h), fun ns' r h => (by cases h; rfl)⟩
  | n + 1, ns, l => by
    have e : namesR (n + 1) ns l false = namesR n (ns ++ [(readT l false).1]) (readT l false).2.1 (readT l false).2.2 := rfl
    have e2 : namesG (n + 1) l ns = match getG (.text ⟨0, 0, none⟩ ⟨#[]⟩) l with | some (.text s, r) => namesG n r (ns ++ [s]) | _ => none := rfl
    rw [e, e2]
    cases h : getG (.text ⟨0, 0, none⟩ ⟨#[]⟩) l with
    | none => rw [text_no h, namesR_short]; exact ⟨fun _ => rfl, fun _ _ h => (by cases h)⟩
    | some x =>
      obtain ⟨t, r, rfl, hr⟩ := text_yes h
      rw [hr]
      exact names_sim n _ r
theorem answered_eq (l : List Int) (hb : ∀ y ∈ l, 0 ≤ y ∧ y ≤ 255) : answeredF 0 1 2 l = refAnsweredF rfaultF l := by
  rw [answered_is (by decide) (by decide) (by decide)]
  unfold headF refAnsweredF
  cases h1 : getG (.num 4 ⟨0, 0, none⟩ 0) l with
  | none =>
    rw [num_no h1]
    simp only [Option.bind_none, rn0 (show 0 < 4 by omega), rn0 (show 0 < 1 by omega), rt0, tail_short]
  | some x1 =>
  obtain ⟨m1, r1, rfl, e1⟩ := num_yes h1
  rw [e1, Option.bind_some]
  dsimp only
  have hb1 := (getG_part h1).2.1 hb
  cases h2 : getG (.num 1 ⟨0, 0, none⟩ 0) r1 with
  | none =>
    rw [num_no h2]
    simp only [Option.bind_none, rn0 (show 0 < 4 by omega), rn0 (show 0 < 1 by omega), rt0, tail_short]
  | some x2 =>
  obtain ⟨m2, r2, rfl, e2⟩ := num_yes h2
  rw [e2, Option.bind_some]
  dsimp only
  have hb2 := (getG_part h2).2.1 hb1
  cases h3 : getG (.num 4 ⟨0, 0, none⟩ 0) r2 with
  | none =>
    rw [num_no h3]
    simp only [Option.bind_none, rn0 (show 0 < 4 by omega), rn0 (show 0 < 1 by omega), rt0, tail_short]
  | some x3 =>
  obtain ⟨m3, r3, rfl, e3⟩ := num_yes h3
  rw [e3, Option.bind_some]
  dsimp only
  have hb3 := (getG_part h3).2.1 hb2
  cases h4 : getG (.num 1 ⟨0, 0, none⟩ 0) r3 with
  | none =>
    rw [num_no h4]
    simp only [Option.bind_none, rn0 (show 0 < 4 by omega), rn0 (show 0 < 1 by omega), rt0, tail_short]
  | some x4 =>
  obtain ⟨m4, r4, rfl, e4⟩ := num_yes h4
  rw [e4, Option.bind_some]
  dsimp only
  have hb4 := (getG_part h4).2.1 hb3
  cases h5 : getG (.num 4 ⟨0, 0, none⟩ 0) r4 with
  | none =>
    rw [num_no h5]
    simp only [Option.bind_none, rn0 (show 0 < 4 by omega), rn0 (show 0 < 1 by omega), rt0, tail_short]
  | some x5 =>
  obtain ⟨m5, r5, rfl, e5⟩ := num_yes h5
  rw [e5, Option.bind_some]
  dsimp only
  have hb5 := (getG_part h5).2.1 hb4
  cases h6 : getG (.data ⟨0, 0, none⟩ none [] 0) r5 with
  | none =>
    rw [data_no h6]
    simp only [Option.bind_none, rn0 (show 0 < 4 by omega), rn0 (show 0 < 1 by omega), rt0, tail_short]
  | some x6 =>
  obtain ⟨m6, r6, rfl, e6⟩ := data_yes h6
  have hd : ∀ y ∈ m6, 0 ≤ y ∧ y ≤ 255 := data_b hb5 h6
  rw [e6, Option.bind_some]
  dsimp only
  have hb6 := (getG_part h6).2.1 hb5
  cases h7 : getG (.num 1 ⟨0, 0, none⟩ 0) r6 with
  | none =>
    rw [num_no h7]
    simp only [Option.bind_none, rn0 (show 0 < 4 by omega), rn0 (show 0 < 1 by omega), rt0, tail_short]
  | some x7 =>
  obtain ⟨m7, r7, rfl, e7⟩ := num_yes h7
  rw [e7, Option.bind_some]
  dsimp only
  have hb7 := (getG_part h7).2.1 hb6
  have hs := names_sim m7 [] r7
  rw [str_bytes hd]
  unfold refTail
  rw [Int.toNat_natCast]
  cases hN : namesG m7 r7 [] with
  | none => rw [if_pos (hs.1 hN)]
  | some x =>
    obtain ⟨ns, r8⟩ := x
    rw [hs.2 ns r8 hN, if_neg (show ¬ ((ns, r8, false) : List ByteArray × List Int × Bool).2.2 = true from Bool.false_ne_true)]
    simp only [hN, Int.toNat_natCast, fault_eq]
theorem answered_small (l : List Int) : (answeredF 0 1 2 l).1.data.length ≤ 100 ∧ (answeredF 0 1 2 l).1.names.length ≤ 40 := by
  have hz : zeroP.data.length ≤ 100 ∧ zeroP.names.length ≤ 40 := ⟨Nat.zero_le _, Nat.zero_le _⟩
  unfold answeredF
  cases takeG (updP 1 2) (repV 0 1 2 zeroP 0) (zeroP, 0, 0) l with
  | none => exact hz
  | some x =>
    obtain ⟨s, r⟩ := x
    dsimp only
    cases namesG s.2.2.toNat r [] with
    | none => exact hz
    | some y =>
      obtain ⟨ns, r2⟩ := y
      dsimp only
      by_cases h1 : 0 < r2.length
      · rw [if_pos h1]; exact hz
      rw [if_neg h1]
      by_cases h2 : pfaultF { s.1 with code := s.2.1, names := ns } ≠ 0
      · rw [if_pos h2]; exact hz
      · rw [if_neg h2]
        have h3 := pfault_zero (Classical.not_not.1 h2)
        exact ⟨h3.1, h3.2.1⟩
theorem same_rp (q : Rp) (k : Nat) (h1 : q.data.length ≤ 100) (h2 : q.names.length ≤ 40) (hk : 200 < k) : packthreadlaw_sameReply.f k q.mark q.code q.handle q.kind q.size q.data q.names q.mark q.code q.handle q.kind q.size q.data q.names = some true := by
  unfold packthreadlaw_sameReply.f
  simp only [if_true]
  rw [same_all q.data (by omega) k (by omega), Option.bind_some, if_pos rfl, sameTexts_is q.names (by omega) k (by omega), Option.bind_some]
theorem MsgAnswereds (l : List Int) (hh : l.length * 1 ≤ 140737488351232 ∧ ∀ x ∈ l, (Lit.int .u8 x).wf = true) : ∃ k, packthreadlaw_MsgAnswereds.f k l = some true := by
  refine ⟨300, ?_⟩
  have hb := bytes_ok hh.2
  have hg : bytesB l = true ∧ l.length < 140737488351233 := ⟨hb, by omega⟩
  unfold packthreadlaw_MsgAnswereds.f msg_Answered.f packthreadref_MsgAnswered.f
  rw [if_pos hg, if_pos hg, Option.bind_some, Option.bind_some, ← answered_eq l (bytesB_in hb)]
  have hlen := answered_small l
  generalize answeredF 0 1 2 l = r at hlen
  obtain ⟨q, e⟩ := r
  rw [same_rp q 300 hlen.1 hlen.2 (by omega), Option.bind_some, if_pos rfl]
  simp
end Go.Proofs.Ytkghoodhgihokaa.Pure
