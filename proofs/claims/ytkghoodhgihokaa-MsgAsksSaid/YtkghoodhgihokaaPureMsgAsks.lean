/- msg.Ask answers what its reference answers, at every request; no further condition. -/
import Derived.Test.YtkghoodhgihokaaHMsgAsksx
import Derived.Test.YtkghoodhgihokaaHelp
import Derived.Lib.Strings
import Derived.WalkArith
namespace Go.Proofs.Ytkghoodhgihokaa.Pure
open Go.RowKit Go.Proofs.Ytkghoodhgihokaa.HMsgAsks Go.Proofs.YtkghoodhgihokaaW.PrintWords Go.Proofs.YtkghoodhgihokaaW.PrintLast Go.Proofs.Ytkghoodhgihokaa.Help Go.Proofs.Ytkghoodhgihokaa.Msg
set_option linter.unusedSimpArgs false
set_option linter.unusedVariables false
theorem same_loop (l : List Int) (hl : l.length ≤ 9223372036854775806) (d : Nat) : ∀ (k i : Nat), l.length - i = d → i ≤ l.length → d < k → packthreadlaw_sameBytes.l0 k l l (i : Int) = some true := by
  induction d with
  | zero =>
    intro k i hd hi hk
    obtain ⟨k, rfl⟩ : ∃ m, k = m + 1 := ⟨k - 1, by omega⟩
    simp only [packthreadlaw_sameBytes.l0]
    rw [if_neg (by omega)]
  | succ d ih =>
    intro k i hd hi hk
    obtain ⟨k, rfl⟩ : ∃ m, k = m + 1 := ⟨k - 1, by omega⟩
    simp only [packthreadlaw_sameBytes.l0]
    rw [if_pos (by omega), if_pos (by omega), if_pos (by omega), if_pos trivial, w64 (by omega) (by omega)]
    exact ih k (i + 1) (by omega) (by omega) (by omega)
theorem same_all (l : List Int) (hl : l.length ≤ 9223372036854775806) (k : Nat) (hk : l.length < k) : packthreadlaw_sameBytes.f k l l = some true := by
  simp only [packthreadlaw_sameBytes.f]
  rw [if_pos trivial]
  exact same_loop l hl l.length k 0 (by omega) (by omega) hk

theorem fits4 (a : Addr) (n : Int) : (fitsF (.num 4 a n) == 2) = !four n := by
  rw [fitsF_num]
  unfold four
  by_cases h : n < 0 ∨ 0 < n / 2 ^ (8 * 4)
  · rw [if_pos h]; simp; omega
  · rw [if_neg h]; simp; omega
theorem fits1 (a : Addr) (n : Int) : (fitsF (.num 1 a n) == 2) = (decide (n < 0) || decide (255 < n)) := by
  rw [fitsF_num]
  by_cases h : n < 0 ∨ 0 < n / 2 ^ (8 * 1)
  · rw [if_pos h]; simp; omega
  · rw [if_neg h]; simp; omega
theorem fits2 (a : Addr) (n : Int) : (fitsF (.num 2 a n) == 2) = (decide (n < 0) || decide (65535 < n)) := by
  rw [fitsF_num]
  by_cases h : n < 0 ∨ 0 < n / 2 ^ (8 * 2)
  · rw [if_pos h]; simp; omega
  · rw [if_neg h]; simp; omega
theorem fitsn (w : Nat) (a : Addr) (n : Int) : (fitsF (.num w a n) == 1) = false := by
  rw [fitsF_num]; split <;> rfl
theorem fitst (a : Addr) (s : ByteArray) : (fitsF (.text a s) == 2) = false := by
  show ((if 200 < s.size then (1 : Int) else 0) == 2) = false
  split <;> rfl
theorem fitst1 (a : Addr) (s : ByteArray) : (fitsF (.text a s) == 1) = decide (200 < s.size) := by
  show ((if 200 < s.size then (1 : Int) else 0) == 1) = _
  by_cases h : 200 < s.size
  · rw [if_pos h]; simp [h]
  · rw [if_neg h]; simp; omega
theorem fitsd (a : Addr) (A : Option Addr) (l : List Int) (c : Nat) : (fitsF (.data a A l c) == 2) = false := by
  show ((if 100 < l.length then (1 : Int) else 0) == 2) = false
  split <;> rfl
theorem fitsd1 (a : Addr) (A : Option Addr) (l : List Int) (c : Nat) : (fitsF (.data a A l c) == 1) = decide (100 < l.length) := by
  show ((if 100 < l.length then (1 : Int) else 0) == 1) = _
  by_cases h : 100 < l.length
  · rw [if_pos h]; simp [h]
  · rw [if_neg h]; simp; omega
theorem fits_any (p : Pv) : fitsF p = 0 ∨ fitsF p = 1 ∨ fitsF p = 2 := by
  cases p with
  | num w a n => rw [fitsF_num]; split <;> simp
  | text a s => show (if 200 < s.size then (1 : Int) else 0) = 0 ∨ (if 200 < s.size then (1 : Int) else 0) = 1 ∨ (if 200 < s.size then (1 : Int) else 0) = 2; split <;> simp
  | data a A l c => show (if 100 < l.length then (1 : Int) else 0) = 0 ∨ (if 100 < l.length then (1 : Int) else 0) = 1 ∨ (if 100 < l.length then (1 : Int) else 0) = 2; split <;> simp
theorem all_is : ∀ (l : List Pv) (o : Int), (o = 0 ∨ o = 1) → allG o l = if l.any (fun p => fitsF p == 2) = true then 2 else if o = 1 ∨ l.any (fun p => fitsF p == 1) = true then 1 else 0
  | [], o, h => by rcases h with rfl | rfl <;> rfl
  | p :: t, o, h => by
    unfold allG
    rw [List.any_cons, List.any_cons]
    rcases fits_any p with e | e | e <;> rw [e]
    · rw [if_neg (by decide)]
      rw [show (if o = 0 then (0 : Int) else o) = o by split <;> omega, all_is t o h]
      simp
    · rw [if_neg (by decide)]
      rw [all_is t _ (by split <;> omega)]
      rcases h with rfl | rfl <;> simp
    · rw [if_pos rfl]; simp
theorem all_q {q : Rq} {R S : Bool} (h2 : (fullV 0 q).any (fun p => fitsF p == 2) = R) (h1 : (fullV 0 q).any (fun p => fitsF p == 1) = S) : allG 0 (fullV 0 q) = if R = true then 2 else if S = true then 1 else 0 := by
  rw [all_is _ 0 (.inl rfl), h2, h1]
  simp
theorem str_bytes {l : List Int} (h : ∀ x ∈ l, 0 ≤ x ∧ x ≤ 255) : bytesOf (strOfNums l) = l := by
  show (((l.map fun n => UInt8.ofNat n.toNat).toArray).toList.map fun b => ((b.toNat : Nat) : Int)) = l
  rw [List.map_map]
  conv => rhs; rw [← List.map_id l]
  refine List.map_congr_left fun x hx => ?_
  have := h x hx
  show (((UInt8.ofNat x.toNat).toNat : Nat) : Int) = x
  rw [UInt8.toNat_ofNat']
  omega
theorem four_zero : four 0 = true := rfl
theorem size_zero {s : ByteArray} (h : s.toList = []) : s.size = 0 := by
  have := Lib.size_eq s
  rw [← Lib.toList_data, h] at this
  simpa using this
/-- What both find, once the form is right. -/
theorem rest_eq (q : Rq) (k1 : 1 ≤ q.kind ∧ q.kind ≤ 10) (hb : ∀ x ∈ q.data, 0 ≤ x ∧ x ≤ 255) (hf : bareF 0 q = !formB q) (h2 : formB q = false → (fullV 0 q).any (fun p => fitsF p == 2) = rangeB q) (h1 : formB q = false → (fullV 0 q).any (fun p => fitsF p == 1) = sizeB q) (hp : (fullV 0 q).flatMap putF = bytesF 1 q.kind ++ bytesF 4 q.mark ++ (namesK q.kind).flatMap (ltr q)) : askF q = refF q := by
  unfold askF refF faultF
  rw [if_neg (not_not_intro k1), if_neg (not_not_intro k1), hf]
  cases h : formB q with
  | true => rfl
  | false =>
    rw [all_q (h2 h) (h1 h), hp]
    cases rangeB q <;> cases sizeB q <;> rfl
theorem k1_eq (q : Rq) (hk : q.kind = 1) (hb : ∀ x ∈ q.data, 0 ≤ x ∧ x ≤ 255) : askF q = refF q := by
  obtain ⟨kd, mk, pa, to_, how, hn, at_, ct, dA, dt, dc⟩ := q
  dsimp only at hk hb
  subst hk
  refine rest_eq _ ⟨by show (1 : Int) ≤ 1; decide, by show (1 : Int) ≤ 10; decide⟩ hb ?_ ?_ ?_ ?_
  · simp [bareF, begunV, partsV, Pv.off, clrO, bareB, formB, nm, namesK, bne]
  · intro h
    simp [formB, nm, namesK] at h
    simp [fullV, begunV, partsV, fits1, fits2, fits4, fitst, fitsd, rangeB, h, four_zero, Bool.or_assoc]
  · intro h
    simp [formB, nm, namesK] at h
    have e_to_ : to_.size = 0 := size_zero (by simp [h])
    simp [fullV, begunV, partsV, fitsn, fitst1, fitsd1, sizeB, h, e_to_]
  · simp [fullV, begunV, partsV, putF, namesK, ltr, txt]
theorem k2_eq (q : Rq) (hk : q.kind = 2) (hb : ∀ x ∈ q.data, 0 ≤ x ∧ x ≤ 255) : askF q = refF q := by
  obtain ⟨kd, mk, pa, to_, how, hn, at_, ct, dA, dt, dc⟩ := q
  dsimp only at hk hb
  subst hk
  refine rest_eq _ ⟨by show (1 : Int) ≤ 2; decide, by show (2 : Int) ≤ 10; decide⟩ hb ?_ ?_ ?_ ?_
  · simp [bareF, begunV, partsV, Pv.off, clrO, bareB, formB, nm, namesK, bne]
  · intro h
    simp [formB, nm, namesK] at h
    simp [fullV, begunV, partsV, fits1, fits2, fits4, fitst, fitsd, rangeB, h, four_zero, Bool.or_assoc]
  · intro h
    simp [formB, nm, namesK] at h
    have e_pa : pa.size = 0 := size_zero (by simp [h])
    have e_to_ : to_.size = 0 := size_zero (by simp [h])
    simp [fullV, begunV, partsV, fitsn, fitst1, fitsd1, sizeB, h, e_pa, e_to_]
  · simp [fullV, begunV, partsV, putF, namesK, ltr, txt]
theorem k3_eq (q : Rq) (hk : q.kind = 3) (hb : ∀ x ∈ q.data, 0 ≤ x ∧ x ≤ 255) : askF q = refF q := by
  obtain ⟨kd, mk, pa, to_, how, hn, at_, ct, dA, dt, dc⟩ := q
  dsimp only at hk hb
  subst hk
  refine rest_eq _ ⟨by show (1 : Int) ≤ 3; decide, by show (3 : Int) ≤ 10; decide⟩ hb ?_ ?_ ?_ ?_
  · simp [bareF, begunV, partsV, Pv.off, clrO, bareB, formB, nm, namesK, bne]
  · intro h
    simp [formB, nm, namesK] at h
    simp [fullV, begunV, partsV, fits1, fits2, fits4, fitst, fitsd, rangeB, h, four_zero, Bool.or_assoc]
  · intro h
    simp [formB, nm, namesK] at h
    have e_pa : pa.size = 0 := size_zero (by simp [h])
    have e_to_ : to_.size = 0 := size_zero (by simp [h])
    simp [fullV, begunV, partsV, fitsn, fitst1, fitsd1, sizeB, h, e_pa, e_to_]
  · simp [fullV, begunV, partsV, putF, namesK, ltr, txt]
theorem k4_eq (q : Rq) (hk : q.kind = 4) (hb : ∀ x ∈ q.data, 0 ≤ x ∧ x ≤ 255) : askF q = refF q := by
  obtain ⟨kd, mk, pa, to_, how, hn, at_, ct, dA, dt, dc⟩ := q
  dsimp only at hk hb
  subst hk
  refine rest_eq _ ⟨by show (1 : Int) ≤ 4; decide, by show (4 : Int) ≤ 10; decide⟩ hb ?_ ?_ ?_ ?_
  · simp [bareF, begunV, partsV, Pv.off, clrO, bareB, formB, nm, namesK, bne]
  · intro h
    simp [formB, nm, namesK] at h
    simp [fullV, begunV, partsV, fits1, fits2, fits4, fitst, fitsd, rangeB, h, four_zero, Bool.or_assoc]
  · intro h
    simp [formB, nm, namesK] at h
    have e_pa : pa.size = 0 := size_zero (by simp [h])
    have e_to_ : to_.size = 0 := size_zero (by simp [h])
    simp [fullV, begunV, partsV, fitsn, fitst1, fitsd1, sizeB, h, e_pa, e_to_]
  · simp [fullV, begunV, partsV, putF, namesK, ltr, txt, str_size, str_bytes hb]
theorem k5_eq (q : Rq) (hk : q.kind = 5) (hb : ∀ x ∈ q.data, 0 ≤ x ∧ x ≤ 255) : askF q = refF q := by
  obtain ⟨kd, mk, pa, to_, how, hn, at_, ct, dA, dt, dc⟩ := q
  dsimp only at hk hb
  subst hk
  refine rest_eq _ ⟨by show (1 : Int) ≤ 5; decide, by show (5 : Int) ≤ 10; decide⟩ hb ?_ ?_ ?_ ?_
  · simp [bareF, begunV, partsV, Pv.off, clrO, bareB, formB, nm, namesK, bne]
  · intro h
    simp [formB, nm, namesK] at h
    simp [fullV, begunV, partsV, fits1, fits2, fits4, fitst, fitsd, rangeB, h, four_zero, Bool.or_assoc]
  · intro h
    simp [formB, nm, namesK] at h
    have e_to_ : to_.size = 0 := size_zero (by simp [h])
    simp [fullV, begunV, partsV, fitsn, fitst1, fitsd1, sizeB, h, e_to_]
  · simp [fullV, begunV, partsV, putF, namesK, ltr, txt]
theorem k6_eq (q : Rq) (hk : q.kind = 6) (hb : ∀ x ∈ q.data, 0 ≤ x ∧ x ≤ 255) : askF q = refF q := by
  obtain ⟨kd, mk, pa, to_, how, hn, at_, ct, dA, dt, dc⟩ := q
  dsimp only at hk hb
  subst hk
  refine rest_eq _ ⟨by show (1 : Int) ≤ 6; decide, by show (6 : Int) ≤ 10; decide⟩ hb ?_ ?_ ?_ ?_
  · simp [bareF, begunV, partsV, Pv.off, clrO, bareB, formB, nm, namesK, bne]
  · intro h
    simp [formB, nm, namesK] at h
    simp [fullV, begunV, partsV, fits1, fits2, fits4, fitst, fitsd, rangeB, h, four_zero, Bool.or_assoc]
  · intro h
    simp [formB, nm, namesK] at h
    have e_to_ : to_.size = 0 := size_zero (by simp [h])
    simp [fullV, begunV, partsV, fitsn, fitst1, fitsd1, sizeB, h, e_to_]
  · simp [fullV, begunV, partsV, putF, namesK, ltr, txt]
theorem k7_eq (q : Rq) (hk : q.kind = 7) (hb : ∀ x ∈ q.data, 0 ≤ x ∧ x ≤ 255) : askF q = refF q := by
  obtain ⟨kd, mk, pa, to_, how, hn, at_, ct, dA, dt, dc⟩ := q
  dsimp only at hk hb
  subst hk
  refine rest_eq _ ⟨by show (1 : Int) ≤ 7; decide, by show (7 : Int) ≤ 10; decide⟩ hb ?_ ?_ ?_ ?_
  · simp [bareF, begunV, partsV, Pv.off, clrO, bareB, formB, nm, namesK, bne]
  · intro h
    simp [formB, nm, namesK] at h
    simp [fullV, begunV, partsV, fits1, fits2, fits4, fitst, fitsd, rangeB, h, four_zero, Bool.or_assoc]
  · intro h
    simp [formB, nm, namesK] at h
    have e_to_ : to_.size = 0 := size_zero (by simp [h])
    simp [fullV, begunV, partsV, fitsn, fitst1, fitsd1, sizeB, h, e_to_]
  · simp [fullV, begunV, partsV, putF, namesK, ltr, txt]
theorem k8_eq (q : Rq) (hk : q.kind = 8) (hb : ∀ x ∈ q.data, 0 ≤ x ∧ x ≤ 255) : askF q = refF q := by
  obtain ⟨kd, mk, pa, to_, how, hn, at_, ct, dA, dt, dc⟩ := q
  dsimp only at hk hb
  subst hk
  refine rest_eq _ ⟨by show (1 : Int) ≤ 8; decide, by show (8 : Int) ≤ 10; decide⟩ hb ?_ ?_ ?_ ?_
  · simp [bareF, begunV, partsV, Pv.off, clrO, bareB, formB, nm, namesK, bne]
  · intro h
    simp [formB, nm, namesK] at h
    simp [fullV, begunV, partsV, fits1, fits2, fits4, fitst, fitsd, rangeB, h, four_zero, Bool.or_assoc]
  · intro h
    simp [formB, nm, namesK] at h
    have e_to_ : to_.size = 0 := size_zero (by simp [h])
    simp [fullV, begunV, partsV, fitsn, fitst1, fitsd1, sizeB, h, e_to_]
  · simp [fullV, begunV, partsV, putF, namesK, ltr, txt]
theorem k9_eq (q : Rq) (hk : q.kind = 9) (hb : ∀ x ∈ q.data, 0 ≤ x ∧ x ≤ 255) : askF q = refF q := by
  obtain ⟨kd, mk, pa, to_, how, hn, at_, ct, dA, dt, dc⟩ := q
  dsimp only at hk hb
  subst hk
  refine rest_eq _ ⟨by show (1 : Int) ≤ 9; decide, by show (9 : Int) ≤ 10; decide⟩ hb ?_ ?_ ?_ ?_
  · simp [bareF, begunV, partsV, Pv.off, clrO, bareB, formB, nm, namesK, bne]
  · intro h
    simp [formB, nm, namesK] at h
    simp [fullV, begunV, partsV, fits1, fits2, fits4, fitst, fitsd, rangeB, h, four_zero, Bool.or_assoc]
  · intro h
    simp [formB, nm, namesK] at h
    simp [fullV, begunV, partsV, fitsn, fitst1, fitsd1, sizeB, h]
  · simp [fullV, begunV, partsV, putF, namesK, ltr, txt]
theorem k10_eq (q : Rq) (hk : q.kind = 10) (hb : ∀ x ∈ q.data, 0 ≤ x ∧ x ≤ 255) : askF q = refF q := by
  obtain ⟨kd, mk, pa, to_, how, hn, at_, ct, dA, dt, dc⟩ := q
  dsimp only at hk hb
  subst hk
  refine rest_eq _ ⟨by show (1 : Int) ≤ 10; decide, by show (10 : Int) ≤ 10; decide⟩ hb ?_ ?_ ?_ ?_
  · simp [bareF, begunV, partsV, Pv.off, clrO, bareB, formB, nm, namesK, bne]
  · intro h
    simp [formB, nm, namesK] at h
    simp [fullV, begunV, partsV, fits1, fits2, fits4, fitst, fitsd, rangeB, h, four_zero, Bool.or_assoc]
  · intro h
    simp [formB, nm, namesK] at h
    simp [fullV, begunV, partsV, fitsn, fitst1, fitsd1, sizeB, h]
  · simp [fullV, begunV, partsV, putF, namesK, ltr, txt]
theorem ask_eq (q : Rq) (hb : ∀ x ∈ q.data, 0 ≤ x ∧ x ≤ 255) : askF q = refF q := by
  by_cases hk : 1 ≤ q.kind ∧ q.kind ≤ 10
  · have : q.kind = 1 ∨ q.kind = 2 ∨ q.kind = 3 ∨ q.kind = 4 ∨ q.kind = 5 ∨ q.kind = 6 ∨ q.kind = 7 ∨ q.kind = 8 ∨ q.kind = 9 ∨ q.kind = 10 := by omega
    rcases this with h | h | h | h | h | h | h | h | h | h
    · exact k1_eq q h hb
    · exact k2_eq q h hb
    · exact k3_eq q h hb
    · exact k4_eq q h hb
    · exact k5_eq q h hb
    · exact k6_eq q h hb
    · exact k7_eq q h hb
    · exact k8_eq q h hb
    · exact k9_eq q h hb
    · exact k10_eq q h hb
  · unfold askF refF faultF
    rw [if_pos hk, if_pos hk]
    rfl
theorem put_len4 (wd : Nat) (n : Int) : (bytesF wd n).length ≤ 4 := bytesF_len wd n
theorem ref_len (q : Rq) : (refF q).1.length ≤ 1000 := by
  unfold refF
  by_cases h0 : faultF q = 0
  case neg => rw [if_pos h0]; simp
  rw [if_neg (not_not_intro h0)]
  have hf := fit_of h0
  have h3 := (names_l q.kind).2
  generalize namesK q.kind = l at h3
  have : ∀ l : List Nat, (l.flatMap (ltr q)).length ≤ 204 * l.length := by
    intro l
    induction l with
    | nil => simp
    | cons c t ih => rw [List.flatMap_cons, List.length_append, List.length_cons]; have := ltr_len hf c; omega
  have h4 := this l
  have h5 := bytesF_len 1 q.kind
  have h6 := bytesF_len 4 q.mark
  show ((bytesF 1 q.kind ++ bytesF 4 q.mark ++ l.flatMap (ltr q))).length ≤ 1000
  rw [List.length_append, List.length_append]
  omega
theorem bytes_in {l : List Int} (h : ∀ x ∈ l, (Lit.int .u8 x).wf = true) : ∀ x ∈ l, 0 ≤ x ∧ x ≤ 255 := by
  intro x hx
  have := h x hx
  have := wf8 this
  omega
theorem MsgAsks (a0 a1 : Int) (a2 a3 : ByteArray) (a4 a5 a6 a7 : Int) (l8 : List Int) {P0 P1 P2 P3 P4 P5 P6 P7 : Prop} (hh : P0 ∧ P1 ∧ P2 ∧ P3 ∧ P4 ∧ P5 ∧ P6 ∧ P7 ∧ (l8.length * 1 ≤ 140737488351232 ∧ ∀ x ∈ l8, (Lit.int .u8 x).wf = true)) : ∃ k, packthreadlaw_MsgAsks.f k a0 a1 a2 a3 a4 a5 a6 a7 l8 = some true := by
  refine ⟨2000, ?_⟩
  have hl : l8.length < 140737488351233 := by have := hh.2.2.2.2.2.2.2.2.1; omega
  have hb : ∀ x ∈ l8, 0 ≤ x ∧ x ≤ 255 := bytes_in hh.2.2.2.2.2.2.2.2.2
  unfold packthreadlaw_MsgAsks.f msg_Ask.f packthreadref_MsgAsk.f
  rw [if_pos hl, if_pos hl, Option.bind_some, Option.bind_some, ask_eq _ hb]
  have hlen := ref_len ⟨a0, a1, a2, a3, a4, a5, a6, a7, none, l8, 0⟩
  generalize refF ⟨a0, a1, a2, a3, a4, a5, a6, a7, none, l8, 0⟩ = r at hlen
  rw [same_all r.1 (by omega) 2000 (by omega), Option.bind_some, if_pos rfl]
  simp
end Go.Proofs.Ytkghoodhgihokaa.Pure
