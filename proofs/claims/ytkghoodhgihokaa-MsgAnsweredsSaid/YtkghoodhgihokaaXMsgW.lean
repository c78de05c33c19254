/- Messages: what both find of a request, once its form is right. -/
import Derived.Test.YtkghoodhgihokaaXMsgG
import Derived.Test.YtkghoodhgihokaaXMsgS
import Derived.Lib.Strings
namespace Go.Proofs.Ytkghoodhgihokaa.Msg
open Go.RowKit Go.Lib Go.Proofs.YtkghoodhgihokaaW.PrintWords Go.Proofs.YtkghoodhgihokaaW.PrintLast Go.Proofs.YtkghoodhgihokaaW.PrintMore
set_option linter.unusedVariables false
set_option linter.unusedSimpArgs false
theorem fits4 (a : Addr) (n : Int) : (fitsF (.num 4 a n) == 2) = !four n := by
  rw [fitsF_num]
  unfold four
  by_cases h : n < 0 ∨ 0 < n / 2 ^ (8 * 4)
  · rw [if_pos h]; simp; omega
  · rw [if_neg h]; simp; omega
theorem fits1 (a : Addr) (n : Int) : (fitsF (.num 1 a n) == 2) = (decide (n < 0) || decide (255 < n)) := by
  rw [fitsF_num]
  by_cases h : n < 0 ∨ 0 < n / 2 ^ (8 * 1)
  · rw [if_pos h]; simp; omega
  · rw [if_neg h]; simp; omega
theorem fits2 (a : Addr) (n : Int) : (fitsF (.num 2 a n) == 2) = (decide (n < 0) || decide (65535 < n)) := by
  rw [fitsF_num]
  by_cases h : n < 0 ∨ 0 < n / 2 ^ (8 * 2)
  · rw [if_pos h]; simp; omega
  · rw [if_neg h]; simp; omega
theorem fitsn (w : Nat) (a : Addr) (n : Int) : (fitsF (.num w a n) == 1) = false := by
  rw [fitsF_num]; split <;> rfl
theorem fitst (a : Addr) (s : ByteArray) : (fitsF (.text a s) == 2) = false := by
  show ((if 200 < s.size then (1 : Int) else 0) == 2) = false
  split <;> rfl
theorem fitst1 (a : Addr) (s : ByteArray) : (fitsF (.text a s) == 1) = decide (200 < s.size) := by
  show ((if 200 < s.size then (1 : Int) else 0) == 1) = _
  by_cases h : 200 < s.size
  · rw [if_pos h]; simp [h]
  · rw [if_neg h]; simp; omega
theorem fitsd (a : Addr) (A : Option Addr) (l : List Int) (c : Nat) : (fitsF (.data a A l c) == 2) = false := by
  show ((if 100 < l.length then (1 : Int) else 0) == 2) = false
  split <;> rfl
theorem fitsd1 (a : Addr) (A : Option Addr) (l : List Int) (c : Nat) : (fitsF (.data a A l c) == 1) = decide (100 < l.length) := by
  show ((if 100 < l.length then (1 : Int) else 0) == 1) = _
  by_cases h : 100 < l.length
  · rw [if_pos h]; simp [h]
  · rw [if_neg h]; simp; omega
theorem fits_any (p : Pv) : fitsF p = 0 ∨ fitsF p = 1 ∨ fitsF p = 2 := by
  cases p with
  | num w a n => rw [fitsF_num]; split <;> simp
  | text a s => show (if 200 < s.size then (1 : Int) else 0) = 0 ∨ (if 200 < s.size then (1 : Int) else 0) = 1 ∨ (if 200 < s.size then (1 : Int) else 0) = 2; split <;> simp
  | data a A l c => show (if 100 < l.length then (1 : Int) else 0) = 0 ∨ (if 100 < l.length then (1 : Int) else 0) = 1 ∨ (if 100 < l.length then (1 : Int) else 0) = 2; split <;> simp
theorem all_is : ∀ (l : List Pv) (o : Int), (o = 0 ∨ o = 1) → allG o l = if l.any (fun p => fitsF p == 2) = true then 2 else if o = 1 ∨ l.any (fun p => fitsF p == 1) = true then 1 else 0
  | [], o, h => by rcases h with rfl | rfl <;> rfl
  | p :: t, o, h => by
    unfold allG
    rw [List.any_cons, List.any_cons]
    rcases fits_any p with e | e | e <;> rw [e]
    · rw [if_neg (by decide)]
      rw [show (if o = 0 then (0 : Int) else o) = o by split <;> omega, all_is t o h]
      simp
    · rw [if_neg (by decide)]
      rw [all_is t _ (by split <;> omega)]
      rcases h with rfl | rfl <;> simp
    · rw [if_pos rfl]; simp
theorem all_q {q : Rq} {R S : Bool} (h2 : (fullV 0 q).any (fun p => fitsF p == 2) = R) (h1 : (fullV 0 q).any (fun p => fitsF p == 1) = S) : allG 0 (fullV 0 q) = if R = true then 2 else if S = true then 1 else 0 := by
  rw [all_is _ 0 (.inl rfl), h2, h1]
  simp
theorem str_bytes {l : List Int} (h : ∀ x ∈ l, 0 ≤ x ∧ x ≤ 255) : bytesOf (strOfNums l) = l := by
  show (((l.map fun n => UInt8.ofNat n.toNat).toArray).toList.map fun b => ((b.toNat : Nat) : Int)) = l
  rw [List.map_map]
  conv => rhs; rw [← List.map_id l]
  refine List.map_congr_left fun x hx => ?_
  have := h x hx
  show (((UInt8.ofNat x.toNat).toNat : Nat) : Int) = x
  rw [UInt8.toNat_ofNat']
  omega
theorem four_zero : four 0 = true := rfl
theorem size_zero {s : ByteArray} (h : s.toList = []) : s.size = 0 := by
  have := Lib.size_eq s
  rw [← Lib.toList_data, h] at this
  simpa using this
/-- The form, the range and the size that both find. -/
def Same (q : Rq) : Prop := bareF 0 q = (!formB q) ∧ (formB q = false → (fullV 0 q).any (fun p => fitsF p == 2) = rangeB q) ∧ (formB q = false → (fullV 0 q).any (fun p => fitsF p == 1) = sizeB q)
theorem same1 (q : Rq) (hk : q.kind = 1) : Same q := by
  obtain ⟨kd, mk, pa, to_, how, hn, at_, ct, dA, dt, dc⟩ := q
  dsimp only at hk
  subst hk
  refine ⟨?_, ?_, ?_⟩
  · simp [bareF, begunV, partsV, Pv.off, clrO, bareB, formB, nm, namesK, bne]
  · intro h
    simp [formB, nm, namesK] at h
    simp [fullV, begunV, partsV, fits1, fits2, fits4, fitst, fitsd, rangeB, h, four_zero, Bool.or_assoc]
  · intro h
    simp [formB, nm, namesK] at h
    have e_to_ : to_.size = 0 := size_zero (by simp [h])
    simp [fullV, begunV, partsV, fitsn, fitst1, fitsd1, sizeB, h, e_to_]
theorem same2 (q : Rq) (hk : q.kind = 2) : Same q := by
  obtain ⟨kd, mk, pa, to_, how, hn, at_, ct, dA, dt, dc⟩ := q
  dsimp only at hk
  subst hk
  refine ⟨?_, ?_, ?_⟩
  · simp [bareF, begunV, partsV, Pv.off, clrO, bareB, formB, nm, namesK, bne]
  · intro h
    simp [formB, nm, namesK] at h
    simp [fullV, begunV, partsV, fits1, fits2, fits4, fitst, fitsd, rangeB, h, four_zero, Bool.or_assoc]
  · intro h
    simp [formB, nm, namesK] at h
    have e_pa : pa.size = 0 := size_zero (by simp [h])
    have e_to_ : to_.size = 0 := size_zero (by simp [h])
    simp [fullV, begunV, partsV, fitsn, fitst1, fitsd1, sizeB, h, e_pa, e_to_]
theorem same3 (q : Rq) (hk : q.kind = 3) : Same q := by
  obtain ⟨kd, mk, pa, to_, how, hn, at_, ct, dA, dt, dc⟩ := q
  dsimp only at hk
  subst hk
  refine ⟨?_, ?_, ?_⟩
  · simp [bareF, begunV, partsV, Pv.off, clrO, bareB, formB, nm, namesK, bne]
  · intro h
    simp [formB, nm, namesK] at h
    simp [fullV, begunV, partsV, fits1, fits2, fits4, fitst, fitsd, rangeB, h, four_zero, Bool.or_assoc]
  · intro h
    simp [formB, nm, namesK] at h
    have e_pa : pa.size = 0 := size_zero (by simp [h])
    have e_to_ : to_.size = 0 := size_zero (by simp [h])
    simp [fullV, begunV, partsV, fitsn, fitst1, fitsd1, sizeB, h, e_pa, e_to_]
theorem same4 (q : Rq) (hk : q.kind = 4) : Same q := by
  obtain ⟨kd, mk, pa, to_, how, hn, at_, ct, dA, dt, dc⟩ := q
  dsimp only at hk
  subst hk
  refine ⟨?_, ?_, ?_⟩
  · simp [bareF, begunV, partsV, Pv.off, clrO, bareB, formB, nm, namesK, bne]
  · intro h
    simp [formB, nm, namesK] at h
    simp [fullV, begunV, partsV, fits1, fits2, fits4, fitst, fitsd, rangeB, h, four_zero, Bool.or_assoc]
  · intro h
    simp [formB, nm, namesK] at h
    have e_pa : pa.size = 0 := size_zero (by simp [h])
    have e_to_ : to_.size = 0 := size_zero (by simp [h])
    simp [fullV, begunV, partsV, fitsn, fitst1, fitsd1, sizeB, h, e_pa, e_to_]
theorem same5 (q : Rq) (hk : q.kind = 5) : Same q := by
  obtain ⟨kd, mk, pa, to_, how, hn, at_, ct, dA, dt, dc⟩ := q
  dsimp only at hk
  subst hk
  refine ⟨?_, ?_, ?_⟩
  · simp [bareF, begunV, partsV, Pv.off, clrO, bareB, formB, nm, namesK, bne]
  · intro h
    simp [formB, nm, namesK] at h
    simp [fullV, begunV, partsV, fits1, fits2, fits4, fitst, fitsd, rangeB, h, four_zero, Bool.or_assoc]
  · intro h
    simp [formB, nm, namesK] at h
    have e_to_ : to_.size = 0 := size_zero (by simp [h])
    simp [fullV, begunV, partsV, fitsn, fitst1, fitsd1, sizeB, h, e_to_]
theorem same6 (q : Rq) (hk : q.kind = 6) : Same q := by
  obtain ⟨kd, mk, pa, to_, how, hn, at_, ct, dA, dt, dc⟩ := q
  dsimp only at hk
  subst hk
  refine ⟨?_, ?_, ?_⟩
  · simp [bareF, begunV, partsV, Pv.off, clrO, bareB, formB, nm, namesK, bne]
  · intro h
    simp [formB, nm, namesK] at h
    simp [fullV, begunV, partsV, fits1, fits2, fits4, fitst, fitsd, rangeB, h, four_zero, Bool.or_assoc]
  · intro h
    simp [formB, nm, namesK] at h
    have e_to_ : to_.size = 0 := size_zero (by simp [h])
    simp [fullV, begunV, partsV, fitsn, fitst1, fitsd1, sizeB, h, e_to_]
theorem same7 (q : Rq) (hk : q.kind = 7) : Same q := by
  obtain ⟨kd, mk, pa, to_, how, hn, at_, ct, dA, dt, dc⟩ := q
  dsimp only at hk
  subst hk
  refine ⟨?_, ?_, ?_⟩
  · simp [bareF, begunV, partsV, Pv.off, clrO, bareB, formB, nm, namesK, bne]
  · intro h
    simp [formB, nm, namesK] at h
    simp [fullV, begunV, partsV, fits1, fits2, fits4, fitst, fitsd, rangeB, h, four_zero, Bool.or_assoc]
  · intro h
    simp [formB, nm, namesK] at h
    have e_to_ : to_.size = 0 := size_zero (by simp [h])
    simp [fullV, begunV, partsV, fitsn, fitst1, fitsd1, sizeB, h, e_to_]
theorem same8 (q : Rq) (hk : q.kind = 8) : Same q := by
  obtain ⟨kd, mk, pa, to_, how, hn, at_, ct, dA, dt, dc⟩ := q
  dsimp only at hk
  subst hk
  refine ⟨?_, ?_, ?_⟩
  · simp [bareF, begunV, partsV, Pv.off, clrO, bareB, formB, nm, namesK, bne]
  · intro h
    simp [formB, nm, namesK] at h
    simp [fullV, begunV, partsV, fits1, fits2, fits4, fitst, fitsd, rangeB, h, four_zero, Bool.or_assoc]
  · intro h
    simp [formB, nm, namesK] at h
    have e_to_ : to_.size = 0 := size_zero (by simp [h])
    simp [fullV, begunV, partsV, fitsn, fitst1, fitsd1, sizeB, h, e_to_]
theorem same9 (q : Rq) (hk : q.kind = 9) : Same q := by
  obtain ⟨kd, mk, pa, to_, how, hn, at_, ct, dA, dt, dc⟩ := q
  dsimp only at hk
  subst hk
  refine ⟨?_, ?_, ?_⟩
  · simp [bareF, begunV, partsV, Pv.off, clrO, bareB, formB, nm, namesK, bne]
  · intro h
    simp [formB, nm, namesK] at h
    simp [fullV, begunV, partsV, fits1, fits2, fits4, fitst, fitsd, rangeB, h, four_zero, Bool.or_assoc]
  · intro h
    simp [formB, nm, namesK] at h
    simp [fullV, begunV, partsV, fitsn, fitst1, fitsd1, sizeB, h]
theorem same10 (q : Rq) (hk : q.kind = 10) : Same q := by
  obtain ⟨kd, mk, pa, to_, how, hn, at_, ct, dA, dt, dc⟩ := q
  dsimp only at hk
  subst hk
  refine ⟨?_, ?_, ?_⟩
  · simp [bareF, begunV, partsV, Pv.off, clrO, bareB, formB, nm, namesK, bne]
  · intro h
    simp [formB, nm, namesK] at h
    simp [fullV, begunV, partsV, fits1, fits2, fits4, fitst, fitsd, rangeB, h, four_zero, Bool.or_assoc]
  · intro h
    simp [formB, nm, namesK] at h
    simp [fullV, begunV, partsV, fitsn, fitst1, fitsd1, sizeB, h]
theorem same_is (q : Rq) (hk : 1 ≤ q.kind ∧ q.kind ≤ 10) : Same q := by
  have : q.kind = 1 ∨ q.kind = 2 ∨ q.kind = 3 ∨ q.kind = 4 ∨ q.kind = 5 ∨ q.kind = 6 ∨ q.kind = 7 ∨ q.kind = 8 ∨ q.kind = 9 ∨ q.kind = 10 := by omega
  rcases this with h | h | h | h | h | h | h | h | h | h
  · exact same1 q h
  · exact same2 q h
  · exact same3 q h
  · exact same4 q h
  · exact same5 q h
  · exact same6 q h
  · exact same7 q h
  · exact same8 q h
  · exact same9 q h
  · exact same10 q h
/-- A bare request of a kind: the program's parts find what the reference finds. -/
theorem fault_all (q : Rq) (hk : 1 ≤ q.kind ∧ q.kind ≤ 10) (hb : bareF 0 q = true) : faultF q = allG 0 (fullV 0 q) := by
  obtain ⟨h1, h2, h3⟩ := same_is q hk
  have hf : formB q = false := by rw [hb] at h1; cases h : formB q with | false => rfl | true => rw [h] at h1; cases h1
  unfold faultF
  rw [if_neg (not_not_intro hk), hf, all_q (h2 hf) (h3 hf)]
  rfl
theorem all_parts (q : Rq) (hk : 1 ≤ q.kind ∧ q.kind ≤ 10) (hm : 0 ≤ q.mark ∧ q.mark ≤ 4294967295) : allG 0 (fullV 0 q) = allG 0 (partsV 0 q) := by
  have e1 : fitsF (.num 1 ⟨0, 0, none⟩ q.kind) = 0 := by rw [fitsF_num, if_neg (by omega)]
  have e2 : fitsF (.num 4 ⟨0, 1, none⟩ q.mark) = 0 := by rw [fitsF_num, if_neg (by omega)]
  show allG 0 (.num 1 ⟨0, 0, none⟩ q.kind :: .num 4 ⟨0, 1, none⟩ q.mark :: partsV 0 q) = _
  rw [allG, e1, if_neg (by decide), if_pos rfl, allG, e2, if_neg (by decide), if_pos rfl]
/-- A part and its letter. -/
def Corr (p : Pv) (c : Nat) : Prop := (∃ a s, p = .text a s ∧ ((a.off = 2 ∧ c = 112) ∨ (a.off = 3 ∧ c = 116))) ∨ (∃ a n, p = .num 1 a n ∧ a.off = 4 ∧ c = 104) ∨ (∃ a n, p = .num 4 a n ∧ ((a.off = 5 ∧ c = 110) ∨ (a.off = 6 ∧ c = 97))) ∨ (∃ a n, p = .num 2 a n ∧ a.off = 7 ∧ c = 99) ∨ (∃ a A l d, p = .data a A l d ∧ c = 100)
end Go.Proofs.Ytkghoodhgihokaa.Msg
