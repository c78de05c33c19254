/- path.Join answers what its reference answers, at every list of names; no further condition. -/
import Derived.Test.YtkghoodhgihokaaHPathJoinsx
import Derived.Test.YtkghoodhgihokaaHelp
namespace Go.Proofs.Ytkghoodhgihokaa.Pure
open Go.RowKit Go.Proofs.Ytkghoodhgihokaa Go.Proofs.Ytkghoodhgihokaa.HPathJoins Go.Proofs.YtkghoodhgihokaaW.PrintWords Go.Proofs.YtkghoodhgihokaaW.PrintLast Go.Proofs.YtkghoodhgihokaaW.PrintMore Go.Proofs.Ytkghoodhgihokaa.Help
set_option linter.unusedSimpArgs false
set_option linter.unusedVariables false
theorem w64 {x : Int} (h : -9223372036854775808 ≤ x) (h' : x ≤ 9223372036854775807) : wrap64 x = x := by unfold wrap64; omega
theorem bt_at (s : ByteArray) (i : Nat) (h : i < s.size) : bt s (i : Int) = ((s[i]'h).toNat : Int) := by
  simp [bt, getElem!_pos, h]
theorem two_in (x : UInt8) : two.data.toList.contains x = (x.toNat == 47 || x.toNat == 0) := by
  show ([47, 0] : List UInt8).contains x = _
  have h1 : (x == 47) = (x.toNat == 47) := by
    rw [Bool.eq_iff_iff, beq_iff_eq, beq_iff_eq]
    exact ⟨fun e => by rw [e]; rfl, fun e => UInt8.toNat_inj.1 e⟩
  have h2 : (x == 0) = (x.toNat == 0) := by
    rw [Bool.eq_iff_iff, beq_iff_eq, beq_iff_eq]
    exact ⟨fun e => by rw [e]; rfl, fun e => UInt8.toNat_inj.1 e⟩
  simp only [List.contains_cons, List.contains_nil, Bool.or_false, h1, h2]
theorem may_l (s : ByteArray) (hs : s.size ≤ 16) : ∀ (d k i : Nat), s.size - i = d → i ≤ s.size → d < k → Lib.NoAny s.data.toList two.data.toList i →
    packthreadref_nameMay.l0 k s (i : Int) = some (!Lib.containsAny s.data.toList two.data.toList) := by
  intro d
  induction d with
  | zero =>
    intro k i hd hi hk hn
    obtain ⟨k, rfl⟩ : ∃ m, k = m + 1 := ⟨k - 1, by omega⟩
    rw [packthreadref_nameMay.l0, if_neg (by omega)]
    have he : i = s.data.toList.length := by have := Lib.size_eq s; omega
    unfold Lib.containsAny
    rw [Lib.indexAny_none (he ▸ hn)]
    rfl
  | succ d ih =>
    intro k i hd hi hk hn
    obtain ⟨k, rfl⟩ : ∃ m, k = m + 1 := ⟨k - 1, by omega⟩
    have hlt : i < s.size := by omega
    have hx := Lib.data_getElem? s i hlt
    rw [packthreadref_nameMay.l0, if_pos (by omega), if_pos (by omega), bt_at s i hlt]
    have hc := two_in (s[i]'hlt)
    by_cases h0 : ((s[i]'hlt).toNat : Int) = 0
    · rw [if_pos h0]
      have : two.data.toList.contains (s[i]'hlt) = true := by rw [hc]; simp; omega
      unfold Lib.containsAny
      rw [Lib.indexAny_hit hn hx this, decide_eq_true (by omega)]
      rfl
    · rw [if_neg h0]
      by_cases h1 : ((s[i]'hlt).toNat : Int) = 47
      · rw [if_pos h1]
        have : two.data.toList.contains (s[i]'hlt) = true := by rw [hc]; simp; omega
        unfold Lib.containsAny
        rw [Lib.indexAny_hit hn hx this, decide_eq_true (by omega)]
        rfl
      · rw [if_neg h1]
        have hno : two.data.toList.contains (s[i]'hlt) = false := by
          rw [hc, Bool.or_eq_false_iff, beq_eq_false_iff_ne, beq_eq_false_iff_ne]
          omega
        have e : wrap64 ((i : Int) + 1) = ((i + 1 : Nat) : Int) := by rw [w64 (by omega) (by omega)]; omega
        rw [e]
        exact ih k (i + 1) (by omega) (by omega) (by omega) (hn.succ hx hno)
theorem may_is (s : ByteArray) (k : Nat) (hk : 20 < k) : packthreadref_nameMay.f k s = some (nameB s) := by
  obtain ⟨k, rfl⟩ : ∃ m, k = m + 1 := ⟨k - 1, by omega⟩
  unfold packthreadref_nameMay.f nameB
  by_cases h0 : (s.size : Int) = 0
  · rw [if_pos h0, packthreadref_nameMay.j0, if_pos rfl, decide_eq_false (by omega)]; rfl
  · rw [if_neg h0, decide_eq_true (show 1 ≤ s.size by omega)]
    by_cases h1 : (s.size : Int) > 16
    · rw [if_pos h1, packthreadref_nameMay.j0, if_pos rfl, decide_eq_false (by omega)]; rfl
    · rw [if_neg h1, decide_eq_true (show s.size ≤ 16 by omega)]
      by_cases h2 : s.toList = [46]
      · rw [if_pos h2, packthreadref_nameMay.j0, if_pos rfl, h2]; rfl
      · rw [if_neg h2, packthreadref_nameMay.j0]
        have b2 : (s.toList == [46]) = false := beq_eq_false_iff_ne.2 h2
        rw [b2]
        by_cases h3 : s.toList = [46, 46]
        · rw [h3]; rfl
        · have b3 : (s.toList == [46, 46]) = false := beq_eq_false_iff_ne.2 h3
          rw [b3, if_neg (by simp)]
          have := may_l s (by omega) s.size k 0 rfl (by omega) (by omega) (Lib.NoAny.zero _ _)
          rw [show ((0 : Nat) : Int) = 0 from rfl] at this
          rw [this]
          simp
theorem fault_l (l : List ByteArray) (hl : l.length ≤ 12) : ∀ (d k i : Nat), l.length - i = d → i ≤ l.length → d + 21 < k → (l.take i).any (fun s => !nameB s) = false →
    packthreadref_namesFault.l0 k l (l.length : Int) (i : Int) = some (if l.any (fun s => !nameB s) = true then 4 else 0) := by
  intro d
  induction d with
  | zero =>
    intro k i hd hi hk hn
    obtain ⟨k, rfl⟩ : ∃ m, k = m + 1 := ⟨k - 1, by omega⟩
    rw [packthreadref_namesFault.l0, if_neg (by omega)]
    rw [List.take_of_length_le (by omega)] at hn
    rw [hn]
    rfl
  | succ d ih =>
    intro k i hd hi hk hn
    obtain ⟨k, rfl⟩ : ∃ m, k = m + 1 := ⟨k - 1, by omega⟩
    have hlt : i < l.length := by omega
    rw [packthreadref_namesFault.l0, if_pos (by omega), if_pos (by omega), if_pos (by omega), rdOf_get hlt, may_is _ k (by omega), Option.bind_some]
    have e : wrap64 ((i : Int) + 1) = ((i + 1 : Nat) : Int) := by rw [w64 (by omega) (by omega)]; omega
    cases hb : nameB l[i] with
    | true =>
      rw [if_pos rfl, e]
      exact ih k (i + 1) (by omega) (by omega) (by omega) (by rw [List.take_add_one, List.getElem?_eq_getElem hlt, List.any_append, hn]; simp [hb])
    | false =>
      rw [if_neg (by simp), if_pos (List.any_eq_true.2 ⟨l[i], List.getElem_mem hlt, by rw [hb]; rfl⟩)]
theorem fault_is (l : List ByteArray) (k : Nat) (hk : 40 < k) : packthreadref_namesFault.f k l = some (namesF l) := by
  unfold packthreadref_namesFault.f namesF
  by_cases h : 12 < l.length
  · rw [if_pos h, if_pos (by omega)]
  · rw [if_neg h, if_neg (by omega)]
    exact fault_l l (by omega) l.length k 0 rfl (by omega) (by omega) rfl
theorem sz_app (a b : ByteArray) : (a ++ b).size = a.size + b.size := by
  rw [Lib.size_eq, Lib.size_eq, Lib.size_eq, ByteArray.data_append, Array.toList_append, List.length_append]
theorem list_app (a b : ByteArray) : (a ++ b).toList = a.toList ++ b.toList := by
  rw [Lib.toList_data, Lib.toList_data, Lib.toList_data, ByteArray.data_append, Array.toList_append]
theorem join_l (l : List ByteArray) (hl : l.length ≤ 12) (hs : ∀ x ∈ l, x.size ≤ 16) : ∀ (t : List ByteArray) (k i : Nat) (a : ByteArray), l.drop i = t → t.length < k → a.size ≤ 17 * i →
    ∃ o : ByteArray, packthreadref_PathJoin.l0 k a l (l.length : Int) (i : Int) = some (o, 0) ∧ o.toList = (if a.toList ++ Lib.joinTail [47] (t.map (·.data.toList)) = [] then [47] else a.toList ++ Lib.joinTail [47] (t.map (·.data.toList)))
  | [], k, i, a, hd, hk, ha => by
    obtain ⟨k, rfl⟩ : ∃ m, k = m + 1 := ⟨k - 1, by omega⟩
    have : l.length ≤ i := List.drop_eq_nil_iff.1 hd
    rw [packthreadref_PathJoin.l0, if_neg (by omega)]
    have e : a.toList ++ Lib.joinTail [47] (([] : List ByteArray).map (·.data.toList)) = a.toList := by simp [Lib.joinTail]
    rw [e]
    by_cases h : a.toList = []
    · rw [if_pos h, if_pos h]; exact ⟨_, rfl, by rw [Lib.toList_data]⟩
    · rw [if_neg h, if_neg h]; exact ⟨_, rfl, rfl⟩
  | x :: t, k, i, a, hd, hk, ha => by
    simp only [List.length_cons] at hk
    obtain ⟨k, rfl⟩ : ∃ m, k = m + 1 := ⟨k - 1, by omega⟩
    have hlt : i < l.length := by
      rcases Nat.lt_or_ge i l.length with h1 | h1
      · exact h1
      · rw [List.drop_eq_nil_of_le h1] at hd; cases hd
    have e1 := List.drop_eq_getElem_cons hlt
    rw [hd] at e1
    injection e1 with e1 e2
    have hx := hs l[i] (List.getElem_mem hlt)
    have e47 : (⟨#[47]⟩ : ByteArray).size = 1 := rfl
    have e : wrap64 ((i : Int) + 1) = ((i + 1 : Nat) : Int) := by rw [w64 (by omega) (by omega)]; omega
    rw [packthreadref_PathJoin.l0, if_pos (by omega), if_pos (by omega), if_pos (by omega), rdOf_get hlt, if_pos (by omega), if_pos (by rw [sz_app, e47]; omega), e]
    obtain ⟨o, h1, h2⟩ := join_l l hl hs t k (i + 1) (a ++ ((⟨#[47]⟩ : ByteArray) ++ l[i])) e2.symm (by omega) (by rw [sz_app, sz_app, e47]; omega)
    refine ⟨o, h1, ?_⟩
    rw [h2, list_app, list_app, ← e1]
    have e3 : a.toList ++ ((⟨#[47]⟩ : ByteArray).toList ++ x.toList) ++ Lib.joinTail [47] (t.map (·.data.toList)) = a.toList ++ Lib.joinTail [47] ((x :: t).map (·.data.toList)) := by
      rw [show (⟨#[47]⟩ : ByteArray).toList = [47] by rw [Lib.toList_data], Lib.toList_data x]
      simp [Lib.joinTail]
    rw [e3]
theorem PathJoins (l0 : List ByteArray) {P : Prop} (_ : P) : ∃ k, packthreadlaw_PathJoins.f k l0 = some true := by
  refine ⟨100, ?_⟩
  unfold packthreadlaw_PathJoins.f path_Join.f packthreadref_PathJoin.f
  rw [fault_is l0 100 (by omega)]
  by_cases h : namesF l0 = 0
  · rw [if_pos h, Option.bind_some, Option.bind_some, if_pos h]
    obtain ⟨h1, h2⟩ := namesF_ok h
    obtain ⟨o, h3, h4⟩ := join_l l0 h1 h2 l0 100 0 ⟨#[]⟩ rfl (by omega) (Nat.zero_le _)
    rw [show ((0 : Nat) : Int) = 0 from rfl] at h3
    rw [h3, Option.bind_some]
    dsimp only
    have e0 : (⟨#[]⟩ : ByteArray).toList = [] := by rw [Lib.toList_data]
    rw [if_pos (by
      rw [list_app, h4, e0, List.nil_append, Lib.toList_data, Lib.toList_data]
      cases l0 with
      | nil => simp [Lib.joinTail, Lib.join_nil]
      | cons x r =>
        rw [if_neg (by simp [Lib.joinTail]), List.map_cons, Lib.join_cons]
        simp [Lib.joinTail])]
    rfl
  · rw [if_neg h, Option.bind_some, Option.bind_some, if_neg h, Option.bind_some]
    dsimp only
    rw [if_pos rfl]
    simp
end Go.Proofs.Ytkghoodhgihokaa.Pure
