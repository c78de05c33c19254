/- hole.Gaps answers what its reference answers, at every whole number of 64 bits and every slice of ranges; no further condition. -/
import Derived.Test.YtbbohccnhcfmnabPHoleGapsx
import Derived.Test.YtbbohccnhcfmnabHelp
namespace Go.Proofs.Ytbbohccnhcfmnab.Pure
open Go.RowKit Go.Proofs.Ytbbohccnhcfmnab.PHoleGaps Go.Proofs.YtbbohccnhcfmnabW.PrintWords Go.Proofs.YtbbohccnhcfmnabW.PrintLast Go.Proofs.Ytbbohccnhcfmnab.Help
set_option linter.unusedSimpArgs false
set_option linter.unusedVariables false

/-- Ranges that may be, from a place on. -/
def okR : Int → List S108 → Bool
  | _, [] => true
  | low, r :: l => decide (low < r.f0) && decide (r.f0 < r.f1) && okR r.f1 l
def lastR : Int → List S108 → Int
  | low, [] => low
  | _, r :: l => lastR r.f1 l
theorem okR_last (low : Int) (l : List S108) (h : okR low l = true) : low ≤ lastR low l := by
  induction l generalizing low with
  | nil => simp [lastR]
  | cons r l ih =>
    simp only [okR, Bool.and_eq_true, decide_eq_true_eq] at h
    have := ih r.f1 h.2
    simp only [lastR]
    omega
def mayB (a : Int) (l : List S108) : Bool := okR a l && decide (a ≥ 0) && decide (lastR a l ≤ 1048576) && decide (a ≤ 1048576) && decide (l.length ≤ 16)
theorem rdT (l : List S108) (i : Nat) (x : S108) (t : List S108) (h : l.drop i = x :: t) : rd_T108 l (i : Int) = x ∧ l.drop (i + 1) = t ∧ i < l.length := by
  have hl : i < l.length := by
    rcases Nat.lt_or_ge i l.length with h1 | h1
    · exact h1
    · rw [List.drop_eq_nil_of_le h1] at h; cases h
  have h2 := List.drop_eq_getElem_cons hl
  rw [h] at h2
  injection h2 with h3 h4
  exact ⟨by simp [rd_T108, List.getD_eq_getElem?_getD, List.getElem?_eq_getElem hl, h3], h4.symm, hl⟩
theorem own_loop (a : Int) (l : List S108) (hl : l.length ≤ 140737488351232) (t : List S108) : ∀ (k i : Nat) (low : Int), l.drop i = t → i ≤ l.length → t.length < k →
    hole_May.l0 k a l low l (l.length : Int) (i : Int) = some (okR low t && decide (a ≥ 0) && decide (lastR low t ≤ 1048576) && decide (a ≤ 1048576) && decide (l.length ≤ 16)) := by
  induction t with
  | nil =>
    intro k i low ht hi hk
    obtain ⟨k, rfl⟩ : ∃ m, k = m + 1 := ⟨k - 1, by omega⟩
    have : l.length ≤ i := by simpa using ht
    simp only [hole_May.l0]
    rw [if_neg (by omega)]
    by_cases h1 : a ≥ 0
    · by_cases h2 : low ≤ 1048576
      · by_cases h3 : a ≤ 1048576
        · simp [h1, h2, h3, okR, lastR]
          omega
        · simp [h1, h2, h3, okR, lastR]
      · simp [h1, h2, okR, lastR]
    · simp [h1, okR, lastR]
  | cons x t ih =>
    intro k i low ht hi hk
    obtain ⟨k, rfl⟩ : ∃ m, k = m + 1 := ⟨k - 1, by omega⟩
    obtain ⟨h1, h2, h3⟩ := rdT l i x t ht
    have hn := ih k (i + 1) x.f1 h2 (by omega) (by simpa using hk)
    simp only [hole_May.l0]
    rw [if_pos (by omega), if_pos (by omega), if_pos (by omega), h1, w64 (by omega) (by omega), show ((i : Int) + 1) = ((i + 1 : Nat) : Int) by omega, hn]
    rw [show okR low (x :: t) = (decide (low < x.f0) && decide (x.f0 < x.f1) && okR x.f1 t) from rfl, show lastR low (x :: t) = lastR x.f1 t from rfl]
    by_cases h4 : x.f0 ≤ low
    · simp [h4, show ¬ low < x.f0 by omega]
    · by_cases h5 : x.f0 ≥ x.f1
      · simp [h4, h5, show ¬ x.f0 < x.f1 by omega]
      · simp [h4, h5, show low < x.f0 by omega, show x.f0 < x.f1 by omega]
theorem may_own (a : Int) (l : List S108) (hl : l.length ≤ 140737488351232) (k : Nat) (hk : l.length < k) : hole_May.f k a l = some (mayB a l) := by
  have := own_loop a l hl l k 0 a rfl (by omega) hk
  simpa [hole_May.f, mayB] using this
theorem ref_loop (a : Int) (l : List S108) (hl : l.length ≤ 140737488351232) (t : List S108) : ∀ (k i : Nat) (low : Int), l.drop i = t → i ≤ l.length → low ≤ 1048576 → low = (if 0 < i then (rd_T108 l ((i : Int) - 1)).f1 else a) → t.length < k →
    packthreadref_HoleMay.l0 k a l l (l.length : Int) (i : Int) = some (okR low t && decide (lastR low t ≤ 1048576)) := by
  induction t with
  | nil =>
    intro k i low ht hi hlow he hk
    obtain ⟨k, rfl⟩ : ∃ m, k = m + 1 := ⟨k - 1, by omega⟩
    have : l.length ≤ i := by simpa using ht
    simp only [packthreadref_HoleMay.l0]
    rw [if_neg (by omega)]
    simp [okR, lastR, hlow]
  | cons x t ih =>
    intro k i low ht hi hlow he hk
    obtain ⟨k, rfl⟩ : ∃ m, k = m + 1 := ⟨k - 1, by omega⟩
    obtain ⟨h1, h2, h3⟩ := rdT l i x t ht
    simp only [packthreadref_HoleMay.l0]
    rw [if_pos (by omega), if_pos (by omega), if_pos (by omega), h1, w64 (x := (i : Int) + 1) (by omega) (by omega), w64 (x := (i : Int) - 1) (by omega) (by omega)]
    have key : (if x.f0 ≤ low then some false else if x.f1 ≤ x.f0 then some false else if x.f1 > 1048576 then some false else packthreadref_HoleMay.l0 k a l l (l.length : Int) ((i : Int) + 1)) = some (okR low (x :: t) && decide (lastR low (x :: t) ≤ 1048576)) := by
      rw [show okR low (x :: t) = (decide (low < x.f0) && decide (x.f0 < x.f1) && okR x.f1 t) from rfl, show lastR low (x :: t) = lastR x.f1 t from rfl]
      by_cases h4 : x.f0 ≤ low
      · simp [h4, show ¬ low < x.f0 by omega]
      · by_cases h5 : x.f1 ≤ x.f0
        · simp [h4, h5, show ¬ x.f0 < x.f1 by omega]
        · by_cases h6 : x.f1 > 1048576
          · rw [if_neg h4, if_neg h5, if_pos h6]
            cases hO : okR x.f1 t with
            | false => simp
            | true =>
              have := okR_last x.f1 t hO
              rw [decide_eq_false (show ¬ lastR x.f1 t ≤ 1048576 by omega), Bool.and_false]
          · have hn := ih k (i + 1) x.f1 h2 (by omega) (by omega) (by rw [if_pos (by omega), show ((i + 1 : Nat) : Int) - 1 = i by omega, h1]) (by simpa using hk)
            rw [if_neg h4, if_neg h5, if_neg h6, show ((i : Int) + 1) = ((i + 1 : Nat) : Int) by omega, hn]
            simp [show low < x.f0 by omega, show x.f0 < x.f1 by omega]
    by_cases h0 : 0 < i
    · rw [if_pos (by omega), if_pos (by omega), if_pos (by omega)]
      rw [if_pos h0] at he
      rw [← he]
      exact key
    · rw [if_neg (by omega)]
      rw [if_neg h0] at he
      subst he
      exact key
theorem may_ref (a : Int) (l : List S108) (hl : l.length ≤ 140737488351232) (k : Nat) (hk : l.length + 1 < k) : packthreadref_HoleMay.f k a l = some (mayB a l) := by
  obtain ⟨k, rfl⟩ : ∃ m, k = m + 1 := ⟨k - 1, by omega⟩
  simp only [packthreadref_HoleMay.f, packthreadref_HoleMay.j0, mayB]
  by_cases h1 : a < 0
  · simp [h1, show ¬ 0 ≤ a by omega]
  · by_cases h2 : a > 1048576
    · simp [h1, h2]
      omega
    · by_cases h3 : l.length > 16
      · simp [h1, h2, show ((l.length : Int) > 16) by omega]
        omega
      · have := ref_loop a l hl l k 0 a rfl (by omega) (by omega) (by simp) (by omega)
        rw [if_neg h1, if_neg h2, if_neg (by simp; omega)]
        simp only [Int.ofNat_zero] at this
        rw [this]
        simp [show 0 ≤ a by omega, show a ≤ 1048576 by omega, show l.length ≤ 16 by omega]

theorem same_loop (l : List S108) (hl : l.length ≤ 9223372036854775806) (d : Nat) : ∀ (k i : Nat), l.length - i = d → i ≤ l.length → d < k → packthreadlaw_sameRanges.l0 k l l (i : Int) = some true := by
  induction d with
  | zero =>
    intro k i hd hi hk
    obtain ⟨k, rfl⟩ : ∃ m, k = m + 1 := ⟨k - 1, by omega⟩
    simp only [packthreadlaw_sameRanges.l0]
    rw [if_neg (by omega)]
  | succ d ih =>
    intro k i hd hi hk
    obtain ⟨k, rfl⟩ : ∃ m, k = m + 1 := ⟨k - 1, by omega⟩
    simp only [packthreadlaw_sameRanges.l0]
    rw [if_pos (by omega), if_pos (by omega), if_pos (by omega), if_neg (by simp), w64 (by omega) (by omega)]
    exact ih k (i + 1) (by omega) (by omega) (by omega)
theorem same_all (l : List S108) (hl : l.length ≤ 9223372036854775806) (k : Nat) (hk : l.length < k) : packthreadlaw_sameRanges.f k l l = some true := by
  simp only [packthreadlaw_sameRanges.f]
  rw [if_pos trivial]
  exact same_loop l hl l.length k 0 (by omega) (by omega) hk

/-- The gaps ahead of ranges, from a place on. -/
def gaps : Int → List S108 → List S108
  | _, [] => []
  | a, r :: l => ⟨a, r.f0⟩ :: gaps r.f1 l
theorem gaps_length (a : Int) (l : List S108) : (gaps a l).length = l.length := by
  induction l generalizing a with
  | nil => rfl
  | cons r l ih => simp [gaps, ih]
theorem gaps_own (l : List S108) (hl : l.length ≤ 16) (t : List S108) : ∀ (k i : Nat) (a : Int) (o : List S108), l.drop i = t → i ≤ l.length → o.length = i → t.length < k →
    hole_Gaps.l0 k a o l (l.length : Int) (i : Int) = some (o ++ gaps a t, 0) := by
  induction t with
  | nil =>
    intro k i a o ht hi ho hk
    obtain ⟨k, rfl⟩ : ∃ m, k = m + 1 := ⟨k - 1, by omega⟩
    have : l.length ≤ i := by simpa using ht
    simp only [hole_Gaps.l0]
    rw [if_neg (by omega)]
    simp [gaps]
  | cons x t ih =>
    intro k i a o ht hi ho hk
    obtain ⟨k, rfl⟩ : ∃ m, k = m + 1 := ⟨k - 1, by omega⟩
    obtain ⟨h1, h2, h3⟩ := rdT l i x t ht
    simp only [hole_Gaps.l0]
    rw [if_pos (by omega), if_pos (by omega), if_pos (by omega), if_pos (by omega), h1, w64 (by omega) (by omega), show ((i : Int) + 1) = ((i + 1 : Nat) : Int) by omega, ih k (i + 1) _ _ h2 (by omega) (by simp [ho]) (by simpa using hk)]
    simp [gaps]
theorem gaps_ref (a : Int) (l : List S108) (hl : l.length ≤ 16) (t : List S108) : ∀ (k i : Nat) (low : Int) (o : List S108), l.drop i = t → i ≤ l.length → o.length = i → low = (if 0 < i then (rd_T108 l ((i : Int) - 1)).f1 else a) → t.length < k →
    packthreadref_HoleGaps.l0 k a l o (l.length : Int) (i : Int) = some (o ++ gaps low t, 0) := by
  induction t with
  | nil =>
    intro k i low o ht hi ho he hk
    obtain ⟨k, rfl⟩ : ∃ m, k = m + 1 := ⟨k - 1, by omega⟩
    have : l.length ≤ i := by simpa using ht
    simp only [packthreadref_HoleGaps.l0]
    rw [if_neg (by omega)]
    simp [gaps]
  | cons x t ih =>
    intro k i low o ht hi ho he hk
    obtain ⟨k, rfl⟩ : ∃ m, k = m + 1 := ⟨k - 1, by omega⟩
    obtain ⟨h1, h2, h3⟩ := rdT l i x t ht
    have hn := fun o' ho' => ih k (i + 1) x.f1 o' h2 (by omega) ho' (by rw [if_pos (by omega), show ((i + 1 : Nat) : Int) - 1 = i by omega, h1]) (by simpa using hk)
    simp only [packthreadref_HoleGaps.l0]
    rw [if_pos (by omega), w64 (x := (i : Int) - 1) (by omega) (by omega), w64 (x := (i : Int) + 1) (by omega) (by omega), h1]
    by_cases h0 : 0 < i
    · rw [if_pos h0] at he
      rw [if_pos (by omega), if_pos (by omega), if_pos (by omega), if_pos (by omega), if_pos (by omega), if_pos (by omega), ← he, show ((i : Int) + 1) = ((i + 1 : Nat) : Int) by omega, hn _ (by simp [ho])]
      simp [gaps]
    · rw [if_neg h0] at he
      rw [if_neg (by omega), if_pos (by omega), if_pos (by omega), if_pos (by omega), ← he, show ((i : Int) + 1) = ((i + 1 : Nat) : Int) by omega]
      subst he
      rw [hn _ (by simp [ho])]
      simp [gaps]

theorem HoleGaps (a : Int) (l : List S108) (ha : (Lit.int .i64 a).wf = true) (hl : l.length * 16 ≤ 140737488351232 ∧ ∀ x ∈ l, (Lit.int .i64 x.f0).wf = true ∧ (Lit.int .i64 x.f1).wf = true) : ∃ k, packthreadlaw_HoleGaps.f k a l = some true := by
  refine ⟨l.length + 3, ?_⟩
  simp only [packthreadlaw_HoleGaps.f, hole_Gaps.f, packthreadref_HoleGaps.f]
  rw [may_own a l (by omega) _ (by omega), may_ref a l (by omega) _ (by omega)]
  simp only [Option.bind_some]
  cases hm : mayB a l with
  | false =>
    rw [if_neg (by simp), if_neg (by simp)]
    simp only [Option.bind_some]
    rw [same_all [] (by simp) _ (by simp)]
    simp
  | true =>
    have hl16 : l.length ≤ 16 := by
      simp only [mayB, Bool.and_eq_true, decide_eq_true_eq] at hm
      omega
    have e1 := gaps_own l hl16 l (l.length + 3) 0 a [] rfl (by omega) rfl (by omega)
    have e2 := gaps_ref a l hl16 l (l.length + 3) 0 a [] rfl (by omega) rfl (by simp) (by omega)
    simp only [Int.ofNat_zero] at e1 e2
    rw [if_pos rfl, if_pos rfl, e1, e2]
    simp only [Option.bind_some, List.nil_append]
    rw [same_all _ (by rw [gaps_length]; omega) _ (by rw [gaps_length]; omega)]
    simp
end Go.Proofs.Ytbbohccnhcfmnab.Pure
