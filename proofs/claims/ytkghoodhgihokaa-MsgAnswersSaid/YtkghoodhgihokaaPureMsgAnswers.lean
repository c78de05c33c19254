/- msg.Answer answers what its reference answers, at every reply; no further condition. -/
import Derived.Test.YtkghoodhgihokaaHMsgAnswersx
import Derived.Test.YtkghoodhgihokaaXMsgAa
import Derived.Test.YtkghoodhgihokaaHelp
import Derived.WalkArith
namespace Go.Proofs.Ytkghoodhgihokaa.Pure
open Go.RowKit Go.Proofs.Ytkghoodhgihokaa Go.Proofs.Ytkghoodhgihokaa.HMsgAnswers Go.Proofs.YtkghoodhgihokaaW.PrintWords Go.Proofs.YtkghoodhgihokaaW.PrintLast Go.Proofs.Ytkghoodhgihokaa.Help Go.Proofs.Ytkghoodhgihokaa.Msg
set_option linter.unusedSimpArgs false
set_option linter.unusedVariables false
theorem same_loop (l : List Int) (hl : l.length ≤ 9223372036854775806) (d : Nat) : ∀ (k i : Nat), l.length - i = d → i ≤ l.length → d < k → packthreadlaw_sameBytes.l0 k l l (i : Int) = some true := by
  induction d with
  | zero =>
    intro k i hd hi hk
    obtain ⟨k, rfl⟩ : ∃ m, k = m + 1 := ⟨k - 1, by omega⟩
    simp only [packthreadlaw_sameBytes.l0]
    rw [if_neg (by omega)]
  | succ d ih =>
    intro k i hd hi hk
    obtain ⟨k, rfl⟩ : ∃ m, k = m + 1 := ⟨k - 1, by omega⟩
    simp only [packthreadlaw_sameBytes.l0]
    rw [if_pos (by omega), if_pos (by omega), if_pos (by omega), if_pos trivial, w64 (by omega) (by omega)]
    exact ih k (i + 1) (by omega) (by omega) (by omega)
theorem same_all (l : List Int) (hl : l.length ≤ 9223372036854775806) (k : Nat) (hk : l.length < k) : packthreadlaw_sameBytes.f k l l = some true := by
  simp only [packthreadlaw_sameBytes.f]
  rw [if_pos trivial]
  exact same_loop l hl l.length k 0 (by omega) (by omega) hk

theorem bof_step (k : Nat) (x : Int) (xs : List Int) (j : Nat) (h0 : 0 ≤ x) (h1 : x ≤ 4294967295) (hj : j < xs.length) (hl : xs.length ≤ 4) : packthreadref_bytesOf.l0 (k + 1) x xs (j : Int) = packthreadref_bytesOf.l0 k (x / 256) (xs.set j (x % 256)) ((j : Int) - 1) := by
  rw [packthreadref_bytesOf.l0]
  rw [if_pos (by omega), if_pos (by omega), if_pos (by omega)]
  have e1 : Int.tdiv x 256 = x / 256 := Int.tdiv_eq_ediv_of_nonneg h0
  have e2 : Int.tmod x 256 = x % 256 := Int.tmod_eq_emod_of_nonneg h0
  rw [e1, e2, show wrap64 (x / 256) = x / 256 by unfold wrap64; omega, show wrap64 ((j : Int) - 1) = (j : Int) - 1 by unfold wrap64; omega, show x % 256 % 256 = x % 256 by omega]
  rfl
theorem bof_end (k : Nat) (x : Int) (xs : List Int) : packthreadref_bytesOf.l0 (k + 1) x xs (-1) = some xs := by
  rw [packthreadref_bytesOf.l0, if_neg (by decide)]
theorem bof (k : Nat) (wd : Nat) (n : Int) (hw : wd = 1 ∨ wd = 2 ∨ wd = 4) (h0 : 0 ≤ n) (h1 : n ≤ 4294967295) : packthreadref_bytesOf.f (k + 5) n (wd : Int) = some (Msg.bytesF wd n) := by
  unfold packthreadref_bytesOf.f
  rw [if_pos (by omega), if_pos (by omega), show wrap64 ((wd : Int) - 1) = (wd : Int) - 1 by unfold wrap64; omega]
  rcases hw with rfl | rfl | rfl
  · refine (bof_step (k + 4) n _ 0 h0 h1 (by simp) (by simp)).trans ?_
    refine (bof_end (k + 3) _ _).trans ?_
    rfl
  · refine (bof_step (k + 4) n _ 1 h0 h1 (by simp) (by simp)).trans ?_
    refine (bof_step (k + 3) _ _ 0 (by omega) (by omega) (by simp) (by simp)).trans ?_
    refine (bof_end (k + 2) _ _).trans ?_
    rfl
  · refine (bof_step (k + 4) n _ 3 h0 h1 (by simp) (by simp)).trans ?_
    refine (bof_step (k + 3) _ _ 2 (by omega) (by omega) (by simp) (by simp)).trans ?_
    refine (bof_step (k + 2) _ _ 1 (by omega) (by omega) (by simp) (by simp)).trans ?_
    refine (bof_step (k + 1) _ _ 0 (by omega) (by omega) (by simp) (by simp)).trans ?_
    refine (bof_end k _ _).trans ?_
    rw [show n / 256 / 256 = n / 65536 by omega, show n / 65536 / 256 = n / 16777216 by omega]
    rfl
theorem tof (k : Nat) (s : ByteArray) (h : s.size ≤ 65535) : packthreadref_textOf.f (k + 5) s = some (Msg.txtF s) := by
  unfold packthreadref_textOf.f
  rw [show ((2 : Int)) = ((2 : Nat) : Int) from rfl, bof k 2 (s.size : Int) (by omega) (by omega) (by omega), Option.bind_some, if_pos (by have := Msg.bytesF_len 2 (s.size : Int); omega)]
  rfl

theorem all_rep (q : Rp) (m : Int) (h0 : 0 ≤ m) (h1 : m ≤ 255) : allG 0 (repV 0 0 0 q m) = if rangeP q = true then 2 else if 100 < q.data.length then 1 else 0 := by
  rw [all_is _ 0 (.inl rfl)]
  have e2 : (repV 0 0 0 q m).any (fun p => fitsF p == 2) = rangeP q := by
    have hm : (decide (m < 0) || decide (255 < m)) = false := by simp; omega
    simp [repV, fits1, fits4, fitsd, rangeP, Bool.or_assoc, hm, h0, h1]
  have e1 : (repV 0 0 0 q m).any (fun p => fitsF p == 1) = decide (100 < q.data.length) := by
    simp [repV, fitsn, fitsd1]
  rw [e2, e1]
  simp
theorem fault_eq (q : Rp) : pfaultF q = rfaultF q := by
  unfold pfaultF rfaultF
  rw [all_rep q _ (by omega) (by omega)]
  by_cases h1 : rangeP q = true
  · rw [if_pos h1, if_pos h1, if_pos (by decide)]
  rw [if_neg h1, if_neg h1]
  by_cases h2 : 100 < q.data.length
  · rw [if_pos h2, if_pos (by decide)]
    have : sizeP q = true := by simp [sizeP, h2]
    rw [if_pos this]
  rw [if_neg h2, if_neg (by decide)]
  by_cases h3 : 40 < q.names.length
  · have : sizeP q = true := by simp [sizeP, h3]
    rw [if_pos h3, if_pos this]
  · have : ¬ sizeP q = true := by simp [sizeP]; omega
    rw [if_neg h3, if_neg this]
theorem fit_of {q : Rp} (h : rfaultF q = 0) : (0 ≤ q.mark ∧ q.mark ≤ 4294967295) ∧ (0 ≤ q.handle ∧ q.handle ≤ 4294967295) ∧ (0 ≤ q.size ∧ q.size ≤ 4294967295) := by
  unfold rfaultF at h
  by_cases h1 : rangeP q = true
  · rw [if_pos h1] at h; cases h
  simp only [rangeP, four, Bool.or_eq_true, Bool.not_eq_true', Bool.and_eq_false_iff, decide_eq_false_iff_not, decide_eq_true_eq, not_or, Classical.not_not, Int.not_lt, Int.not_le] at h1
  obtain ⟨m, _, _, n, _, _, s⟩ := h1
  exact ⟨m, n, s⟩
theorem txt_len {s : ByteArray} (h : s.size ≤ 16) : (txtF s).length ≤ 20 := by
  unfold txtF
  rw [List.length_append, bytesOf_length]
  have := bytesF_len 2 (s.size : Int)
  omega
theorem rep_loop (l : List ByteArray) (hl : l.length ≤ 40) (hs : ∀ s ∈ l, s.size ≤ 16) : ∀ (d k i : Nat) (x : List Int), l.length - i = d → i ≤ l.length → d < k → x.length ≤ 1000 + 20 * i → packthreadref_MsgAnswer.l0 (k + 5) x l (l.length : Int) (i : Int) = some (x ++ (l.drop i).flatMap txtF, 0) := by
  intro d
  induction d with
  | zero =>
    intro k i x hd hi hk hx
    rw [packthreadref_MsgAnswer.l0, if_neg (by omega), show i = l.length by omega, List.drop_length]
    simp
  | succ d ih =>
    intro k i x hd hi hk hx
    have hil : i < l.length := by omega
    obtain ⟨m, rfl⟩ : ∃ m, k = m + 1 := ⟨k - 1, by omega⟩
    have hr : rdOf ByteArray.empty l (i : Int) = l[i] := by simp [rdOf, List.getD_eq_getElem?_getD, List.getElem?_eq_getElem hil]
    have hz := hs _ (List.getElem_mem hil)
    have ht := txt_len hz
    rw [show m + 1 + 5 = (m + 5) + 1 by omega, packthreadref_MsgAnswer.l0, if_pos (by omega), if_pos (by omega), if_pos (by omega), hr, tof m _ (by omega), Option.bind_some, if_pos (by omega), show wrap64 ((i : Int) + 1) = ((i + 1 : Nat) : Int) by unfold wrap64; omega]
    rw [ih m (i + 1) _ (by omega) (by omega) (by omega) (by rw [List.length_append]; omega), List.drop_eq_getElem_cons hil, List.flatMap_cons, List.append_assoc]
theorem ref_is (k : Nat) (q : Rp) (h : rfaultF q = 0) (hb : ∀ x ∈ q.data, 0 ≤ x ∧ x ≤ 255) (hd : q.data.length ≤ 100) (hn : q.names.length ≤ 40) (hs : ∀ s ∈ q.names, s.size ≤ 16) : packthreadref_MsgAnswer.f (k + 95 + 5) q.mark q.code q.handle q.kind q.size q.data q.names = some ((repV 0 0 0 q (q.names.length : Int)).flatMap putF ++ q.names.flatMap txtF, 0) := by
  obtain ⟨h1, h2, h3⟩ := fit_of h
  have hf : packthreadref_answerFault.f q.mark q.code q.handle q.kind q.size q.data q.names = some 0 := by
    unfold packthreadref_answerFault.f
    rw [if_pos ⟨by omega, by omega⟩]
    exact congrArg some h
  have ls : (strOfNums q.data).size = q.data.length := by show ((q.data.map fun n => UInt8.ofNat n.toNat).toArray).size = q.data.length; rw [List.size_toArray, List.length_map]
  have b4 := fun n h0 h1 => bof (k + 95) 4 n (by omega) h0 h1
  have l4 := fun n => bytesF_len 4 n
  have l1 := l4 q.mark
  have l2 := l4 q.handle
  have l3 := l4 q.size
  have lt : (txtF (strOfNums q.data)).length ≤ 104 := by
    unfold txtF
    rw [List.length_append, bytesOf_length, ls]
    have := bytesF_len 2 (((strOfNums q.data).size : Nat) : Int)
    rw [ls] at this
    omega
  unfold packthreadref_MsgAnswer.f
  rw [hf, Option.bind_some, if_pos rfl]
  rw [show (4 : Int) = ((4 : Nat) : Int) from rfl, b4 q.mark h1.1 h1.2, Option.bind_some, Option.bind_some, if_pos (by simp only [List.length_cons, List.length_nil]; omega), Option.bind_some]
  rw [b4 q.handle h2.1 h2.2, Option.bind_some, if_pos (by simp only [List.length_append, List.length_cons, List.length_nil]; omega), Option.bind_some, Option.bind_some, if_pos (by simp only [List.length_append, List.length_cons, List.length_nil]; omega), Option.bind_some]
  rw [b4 q.size h3.1 h3.2, Option.bind_some, if_pos (by simp only [List.length_append, List.length_cons, List.length_nil]; omega), Option.bind_some]
  rw [tof (k + 95) (strOfNums q.data) (by rw [ls]; omega), Option.bind_some, if_pos (by simp only [List.length_append, List.length_cons, List.length_nil]; omega), Option.bind_some, Option.bind_some, if_pos (by simp only [List.length_append, List.length_cons, List.length_nil]; omega)]
  rw [show (0 : Int) = ((0 : Nat) : Int) from rfl, rep_loop q.names hn hs q.names.length (k + 95) 0 _ rfl (Nat.zero_le _) (by omega) (by simp only [List.length_append, List.length_cons, List.length_nil]; omega)]
  have et : txtF (strOfNums q.data) = bytesF 2 (q.data.length : Int) ++ q.data := by
    unfold txtF
    rw [ls, str_bytes hb]
  rw [et]
  simp [repV, putF, bytesF]
theorem MsgAnswers (a0 a1 a2 a3 a4 : Int) (l5 : List Int) (l6 : List ByteArray) {P0 P1 P2 P3 P4 : Prop} {G : ByteArray → Prop} (hh : P0 ∧ P1 ∧ P2 ∧ P3 ∧ P4 ∧ (l5.length * 1 ≤ 140737488351232 ∧ ∀ x ∈ l5, (Lit.int .u8 x).wf = true) ∧ (l6.length * 16 ≤ 140737488351232 ∧ ∀ x ∈ l6, G x)) : ∃ k, packthreadlaw_MsgAnswers.f k a0 a1 a2 a3 a4 l5 l6 = some true := by
  obtain ⟨_, _, _, _, _, ⟨h5, hb5⟩, h6, _⟩ := hh
  have hl : l5.length < 140737488351233 ∧ l6.length < 140737488351233 := by omega
  have hb : ∀ x ∈ l5, 0 ≤ x ∧ x ≤ 255 := fun x hx => wf8 (hb5 x hx)
  unfold packthreadlaw_MsgAnswers.f msg_Answer.f
  by_cases hf : rfaultF ⟨a0, a1, a2, a3, a4, none, l5, 0, none, l6, 0⟩ = 0
  · have hp := hf
    rw [← fault_eq] at hp
    obtain ⟨hd, hn, hs⟩ := pfault_zero hp
    have hr := ref_is 1900 ⟨a0, a1, a2, a3, a4, none, l5, 0, none, l6, 0⟩ hf hb hd hn hs
    refine ⟨2000, ?_⟩
    have e1 : answerF ⟨a0, a1, a2, a3, a4, none, l5, 0, none, l6, 0⟩ = ((repV 0 0 0 ⟨a0, a1, a2, a3, a4, none, l5, 0, none, l6, 0⟩ (l6.length : Int)).flatMap putF ++ l6.flatMap txtF, 0) := by
      unfold answerF
      rw [if_neg (not_not_intro hp)]
    have hlen : ((repV 0 0 0 ⟨a0, a1, a2, a3, a4, none, l5, 0, none, l6, 0⟩ (l6.length : Int)).flatMap putF ++ l6.flatMap txtF).length ≤ 1528 := by
      have h1 : ∀ (ps : List Pv), (∀ p ∈ ps, (putF p).length ≤ 104) → (ps.flatMap putF).length ≤ 104 * ps.length := by
        intro ps
        induction ps with
        | nil => intro _; simp
        | cons p t ih =>
          intro hp
          rw [List.flatMap_cons, List.length_append, List.length_cons]
          have := hp p List.mem_cons_self
          have := ih (fun x hx => hp x (List.mem_cons_of_mem _ hx))
          omega
      have h2 : ∀ (l : List ByteArray), (∀ s ∈ l, s.size ≤ 16) → (l.flatMap txtF).length ≤ 20 * l.length := by
        intro l
        induction l with
        | nil => intro _; simp
        | cons p t ih =>
          intro hp
          rw [List.flatMap_cons, List.length_append, List.length_cons]
          have := txt_len (hp p List.mem_cons_self)
          have := ih (fun x hx => hp x (List.mem_cons_of_mem _ hx))
          omega
      have h3 := h1 _ (fun p hp => (rep_small (b := 0) (cc := 0) (kc := 0) (q := ⟨a0, a1, a2, a3, a4, none, l5, 0, none, l6, 0⟩) (n := (l6.length : Int)) hd p hp).2)
      have h4 := h2 l6 hs
      have h5 : (repV 0 0 0 ⟨a0, a1, a2, a3, a4, none, l5, 0, none, l6, 0⟩ (l6.length : Int)).length = 7 := rfl
      have h6 : l6.length ≤ 40 := hn
      rw [List.length_append]
      omega
    have hr : packthreadref_MsgAnswer.f 2000 a0 a1 a2 a3 a4 l5 l6 = _ := hr
    rw [if_pos hl, Option.bind_some, e1, hr, Option.bind_some]
    show ((packthreadlaw_sameBytes.f 2000 ((repV 0 0 0 ⟨a0, a1, a2, a3, a4, none, l5, 0, none, l6, 0⟩ (l6.length : Int)).flatMap putF ++ l6.flatMap txtF) ((repV 0 0 0 ⟨a0, a1, a2, a3, a4, none, l5, 0, none, l6, 0⟩ (l6.length : Int)).flatMap putF ++ l6.flatMap txtF)).bind fun t => if t = true then some ((0 : Int) == 0) else some false) = some true
    generalize (repV 0 0 0 ⟨a0, a1, a2, a3, a4, none, l5, 0, none, l6, 0⟩ (l6.length : Int)).flatMap putF ++ l6.flatMap txtF = r at hlen
    rw [same_all r (by omega) 2000 (by omega), Option.bind_some, if_pos rfl]
    rfl
  · refine ⟨100, ?_⟩
    rw [if_pos hl, Option.bind_some]
    have e1 : answerF ⟨a0, a1, a2, a3, a4, none, l5, 0, none, l6, 0⟩ = ([], rfaultF ⟨a0, a1, a2, a3, a4, none, l5, 0, none, l6, 0⟩) := by
      unfold answerF
      rw [fault_eq, if_pos hf]
    have e2 : packthreadref_MsgAnswer.f 100 a0 a1 a2 a3 a4 l5 l6 = some ([], rfaultF ⟨a0, a1, a2, a3, a4, none, l5, 0, none, l6, 0⟩) := by
      unfold packthreadref_MsgAnswer.f packthreadref_answerFault.f
      rw [if_pos hl, Option.bind_some, if_neg hf]
    rw [e1, e2, Option.bind_some, same_all [] (by simp) 100 (by simp), Option.bind_some, if_pos rfl]
    simp
end Go.Proofs.Ytkghoodhgihokaa.Pure
