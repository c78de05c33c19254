/- hole.Add answers what its reference answers, at every whole number of 64 bits, every slice of ranges and every range; no further condition. -/
import Derived.Test.YtjhmjgcebijmiaaHHoleAddsx
import Derived.Test.YtjhmjgcebijmiaaHelp
namespace Go.Proofs.Ytjhmjgcebijmiaa.Pure
open Go.RowKit Go.Proofs.Ytjhmjgcebijmiaa.HHoleAdds Go.Proofs.YtjhmjgcebijmiaaW.PrintWords Go.Proofs.YtjhmjgcebijmiaaW.PrintLast Go.Proofs.YtjhmjgcebijmiaaW.PrintMore Go.Proofs.Ytjhmjgcebijmiaa.Help
set_option linter.unusedSimpArgs false
set_option linter.unusedVariables false

/-- Ranges that may be, from a place on. -/
def okR : Int → List S54 → Bool
  | _, [] => true
  | low, r :: l => decide (low < r.f0) && decide (r.f0 < r.f1) && okR r.f1 l
def lastR : Int → List S54 → Int
  | low, [] => low
  | _, r :: l => lastR r.f1 l
theorem okR_last (low : Int) (l : List S54) (h : okR low l = true) : low ≤ lastR low l := by
  induction l generalizing low with
  | nil => simp [lastR]
  | cons r l ih =>
    simp only [okR, Bool.and_eq_true, decide_eq_true_eq] at h
    have := ih r.f1 h.2
    simp only [lastR]
    omega
def mayB (a : Int) (l : List S54) : Bool := okR a l && decide (a ≥ 0) && decide (lastR a l ≤ 1048576) && decide (a ≤ 1048576) && decide (l.length ≤ 16)
theorem rdT (l : List S54) (i : Nat) (x : S54) (t : List S54) (h : l.drop i = x :: t) : rd_T54 l (i : Int) = x ∧ l.drop (i + 1) = t ∧ i < l.length := by
  have hl : i < l.length := by
    rcases Nat.lt_or_ge i l.length with h1 | h1
    · exact h1
    · rw [List.drop_eq_nil_of_le h1] at h; cases h
  have h2 := List.drop_eq_getElem_cons hl
  rw [h] at h2
  injection h2 with h3 h4
  exact ⟨by simp [rd_T54, List.getD_eq_getElem?_getD, List.getElem?_eq_getElem hl, h3], h4.symm, hl⟩
theorem own_loop (a : Int) (l : List S54) (hl : l.length ≤ 140737488351232) (t : List S54) : ∀ (k i : Nat) (low : Int), l.drop i = t → i ≤ l.length → t.length < k →
    hole_May.l0 k a l low l (l.length : Int) (i : Int) = some (okR low t && decide (a ≥ 0) && decide (lastR low t ≤ 1048576) && decide (a ≤ 1048576) && decide (l.length ≤ 16)) := by
  induction t with
  | nil =>
    intro k i low ht hi hk
    obtain ⟨k, rfl⟩ : ∃ m, k = m + 1 := ⟨k - 1, by omega⟩
    have : l.length ≤ i := by simpa using ht
    simp only [hole_May.l0]
    rw [if_neg (by omega)]
    by_cases h1 : a ≥ 0
    · by_cases h2 : low ≤ 1048576
      · by_cases h3 : a ≤ 1048576
        · simp [h1, h2, h3, okR, lastR]
          omega
        · simp [h1, h2, h3, okR, lastR]
      · simp [h1, h2, okR, lastR]
    · simp [h1, okR, lastR]
  | cons x t ih =>
    intro k i low ht hi hk
    obtain ⟨k, rfl⟩ : ∃ m, k = m + 1 := ⟨k - 1, by omega⟩
    obtain ⟨h1, h2, h3⟩ := rdT l i x t ht
    have hn := ih k (i + 1) x.f1 h2 (by omega) (by simpa using hk)
    simp only [hole_May.l0]
    rw [if_pos (by omega), if_pos (by omega), if_pos (by omega), h1, w64 (by omega) (by omega), show ((i : Int) + 1) = ((i + 1 : Nat) : Int) by omega, hn]
    rw [show okR low (x :: t) = (decide (low < x.f0) && decide (x.f0 < x.f1) && okR x.f1 t) from rfl, show lastR low (x :: t) = lastR x.f1 t from rfl]
    by_cases h4 : x.f0 ≤ low
    · simp [h4, show ¬ low < x.f0 by omega]
    · by_cases h5 : x.f0 ≥ x.f1
      · simp [h4, h5, show ¬ x.f0 < x.f1 by omega]
      · simp [h4, h5, show low < x.f0 by omega, show x.f0 < x.f1 by omega]
theorem may_own (a : Int) (l : List S54) (hl : l.length ≤ 140737488351232) (k : Nat) (hk : l.length < k) : hole_May.f k a l = some (mayB a l) := by
  have := own_loop a l hl l k 0 a rfl (by omega) hk
  simpa [hole_May.f, mayB] using this
theorem ref_loop (a : Int) (l : List S54) (hl : l.length ≤ 140737488351232) (t : List S54) : ∀ (k i : Nat) (low : Int), l.drop i = t → i ≤ l.length → low ≤ 1048576 → low = (if 0 < i then (rd_T54 l ((i : Int) - 1)).f1 else a) → t.length < k →
    packthreadref_HoleMay.l0 k a l l (l.length : Int) (i : Int) = some (okR low t && decide (lastR low t ≤ 1048576)) := by
  induction t with
  | nil =>
    intro k i low ht hi hlow he hk
    obtain ⟨k, rfl⟩ : ∃ m, k = m + 1 := ⟨k - 1, by omega⟩
    have : l.length ≤ i := by simpa using ht
    simp only [packthreadref_HoleMay.l0]
    rw [if_neg (by omega)]
    simp [okR, lastR, hlow]
  | cons x t ih =>
    intro k i low ht hi hlow he hk
    obtain ⟨k, rfl⟩ : ∃ m, k = m + 1 := ⟨k - 1, by omega⟩
    obtain ⟨h1, h2, h3⟩ := rdT l i x t ht
    simp only [packthreadref_HoleMay.l0]
    rw [if_pos (by omega), if_pos (by omega), if_pos (by omega), h1, w64 (x := (i : Int) + 1) (by omega) (by omega), w64 (x := (i : Int) - 1) (by omega) (by omega)]
    have key : (if x.f0 ≤ low then some false else if x.f1 ≤ x.f0 then some false else if x.f1 > 1048576 then some false else packthreadref_HoleMay.l0 k a l l (l.length : Int) ((i : Int) + 1)) = some (okR low (x :: t) && decide (lastR low (x :: t) ≤ 1048576)) := by
      rw [show okR low (x :: t) = (decide (low < x.f0) && decide (x.f0 < x.f1) && okR x.f1 t) from rfl, show lastR low (x :: t) = lastR x.f1 t from rfl]
      by_cases h4 : x.f0 ≤ low
      · simp [h4, show ¬ low < x.f0 by omega]
      · by_cases h5 : x.f1 ≤ x.f0
        · simp [h4, h5, show ¬ x.f0 < x.f1 by omega]
        · by_cases h6 : x.f1 > 1048576
          · rw [if_neg h4, if_neg h5, if_pos h6]
            cases hO : okR x.f1 t with
            | false => simp
            | true =>
              have := okR_last x.f1 t hO
              rw [decide_eq_false (show ¬ lastR x.f1 t ≤ 1048576 by omega), Bool.and_false]
          · have hn := ih k (i + 1) x.f1 h2 (by omega) (by omega) (by rw [if_pos (by omega), show ((i + 1 : Nat) : Int) - 1 = i by omega, h1]) (by simpa using hk)
            rw [if_neg h4, if_neg h5, if_neg h6, show ((i : Int) + 1) = ((i + 1 : Nat) : Int) by omega, hn]
            simp [show low < x.f0 by omega, show x.f0 < x.f1 by omega]
    by_cases h0 : 0 < i
    · rw [if_pos (by omega), if_pos (by omega), if_pos (by omega)]
      rw [if_pos h0] at he
      rw [← he]
      exact key
    · rw [if_neg (by omega)]
      rw [if_neg h0] at he
      subst he
      exact key
theorem may_ref (a : Int) (l : List S54) (hl : l.length ≤ 140737488351232) (k : Nat) (hk : l.length + 1 < k) : packthreadref_HoleMay.f k a l = some (mayB a l) := by
  obtain ⟨k, rfl⟩ : ∃ m, k = m + 1 := ⟨k - 1, by omega⟩
  simp only [packthreadref_HoleMay.f, packthreadref_HoleMay.j0, mayB]
  by_cases h1 : a < 0
  · simp [h1, show ¬ 0 ≤ a by omega]
  · by_cases h2 : a > 1048576
    · simp [h1, h2]
      omega
    · by_cases h3 : l.length > 16
      · simp [h1, h2, show ((l.length : Int) > 16) by omega]
        omega
      · have := ref_loop a l hl l k 0 a rfl (by omega) (by omega) (by simp) (by omega)
        rw [if_neg h1, if_neg h2, if_neg (by simp; omega)]
        simp only [Int.ofNat_zero] at this
        rw [this]
        simp [show 0 ≤ a by omega, show a ≤ 1048576 by omega, show l.length ≤ 16 by omega]

theorem same_loop (l : List S54) (hl : l.length ≤ 9223372036854775806) (d : Nat) : ∀ (k i : Nat), l.length - i = d → i ≤ l.length → d < k → packthreadlaw_sameRanges.l0 k l l (i : Int) = some true := by
  induction d with
  | zero =>
    intro k i hd hi hk
    obtain ⟨k, rfl⟩ : ∃ m, k = m + 1 := ⟨k - 1, by omega⟩
    simp only [packthreadlaw_sameRanges.l0]
    rw [if_neg (by omega)]
  | succ d ih =>
    intro k i hd hi hk
    obtain ⟨k, rfl⟩ : ∃ m, k = m + 1 := ⟨k - 1, by omega⟩
    simp only [packthreadlaw_sameRanges.l0]
    rw [if_pos (by omega), if_pos (by omega), if_pos (by omega), if_neg (by simp), w64 (by omega) (by omega)]
    exact ih k (i + 1) (by omega) (by omega) (by omega)
theorem same_all (l : List S54) (hl : l.length ≤ 9223372036854775806) (k : Nat) (hk : l.length < k) : packthreadlaw_sameRanges.f k l l = some true := by
  simp only [packthreadlaw_sameRanges.f]
  rw [if_pos trivial]
  exact same_loop l hl l.length k 0 (by omega) (by omega) hk

abbrev RG := S54
def In (n : Int) (l : List RG) : Prop := ∃ x ∈ l, x.f0 ≤ n ∧ n < x.f1
theorem okR_above {low : Int} {l : List RG} (h : okR low l = true) : ∀ y ∈ l, low < y.f0 ∧ y.f0 < y.f1 := by
  induction l generalizing low with
  | nil => intro y hy; simp at hy
  | cons x t ih =>
    simp only [okR, Bool.and_eq_true, decide_eq_true_eq] at h
    intro y hy
    rcases List.mem_cons.1 hy with rfl | hy
    · omega
    · have := ih h.2 y hy
      omega
theorem In_nil (n : Int) : ¬ In n [] := fun ⟨x, hx, _⟩ => by simp at hx
theorem In_cons (n : Int) (x : RG) (l : List RG) : In n (x :: l) ↔ (x.f0 ≤ n ∧ n < x.f1) ∨ In n l := by
  constructor
  · rintro ⟨y, hy, h⟩
    rcases List.mem_cons.1 hy with rfl | hy
    · exact .inl h
    · exact .inr ⟨y, hy, h⟩
  · rintro (h | ⟨y, hy, h⟩)
    · exact ⟨x, List.mem_cons_self, h⟩
    · exact ⟨y, List.mem_cons_of_mem _ hy, h⟩
theorem In_append (n : Int) (a b : List RG) : In n (a ++ b) ↔ In n a ∨ In n b := by
  constructor
  · rintro ⟨y, hy, h⟩
    rcases List.mem_append.1 hy with hy | hy
    · exact .inl ⟨y, hy, h⟩
    · exact .inr ⟨y, hy, h⟩
  · rintro (⟨y, hy, h⟩ | ⟨y, hy, h⟩)
    · exact ⟨y, List.mem_append_left _ hy, h⟩
    · exact ⟨y, List.mem_append_right _ hy, h⟩
theorem In_above {low n : Int} {l : List RG} (h : okR low l = true) (hn : In n l) : low < n := by
  obtain ⟨y, hy, h1, h2⟩ := hn
  have := okR_above h y hy
  omega
/-- Two separated lists of the same places are the same. -/
theorem uniq : ∀ (l m : List RG) (a b : Int), okR a l = true → okR b m = true → (∀ n, In n l ↔ In n m) → l = m
  | [], [], _, _, _, _, _ => rfl
  | [], y :: s, a, b, _, hm, h => by
    simp only [okR, Bool.and_eq_true, decide_eq_true_eq] at hm
    exact absurd ((h y.f0).2 ((In_cons _ _ _).2 (.inl ⟨Int.le_refl _, hm.1.2⟩))) (In_nil _)
  | x :: t, [], a, b, hl, _, h => by
    simp only [okR, Bool.and_eq_true, decide_eq_true_eq] at hl
    exact absurd ((h x.f0).1 ((In_cons _ _ _).2 (.inl ⟨Int.le_refl _, hl.1.2⟩))) (In_nil _)
  | x :: t, y :: s, a, b, hl, hm, h => by
    have hl' := hl
    have hm' := hm
    simp only [okR, Bool.and_eq_true, decide_eq_true_eq] at hl hm
    have up : ∀ (z : RG) (u : List RG) (c : Int), okR c (z :: u) = true → ∀ n, In n (z :: u) → z.f0 ≤ n := by
      intro z u c hz n hn
      simp only [okR, Bool.and_eq_true, decide_eq_true_eq] at hz
      rcases (In_cons _ _ _).1 hn with h1 | h1
      · exact h1.1
      · have := In_above hz.2 h1; omega
    have e0 : x.f0 = y.f0 := by
      have h1 := up y s b hm' x.f0 ((h _).1 ((In_cons _ _ _).2 (.inl ⟨Int.le_refl _, hl.1.2⟩)))
      have h2 := up x t a hl' y.f0 ((h _).2 ((In_cons _ _ _).2 (.inl ⟨Int.le_refl _, hm.1.2⟩)))
      omega
    have n1 : ¬ In x.f1 (x :: t) := fun hh => by
      rcases (In_cons _ _ _).1 hh with h1 | h1
      · omega
      · have := In_above hl.2 h1; omega
    have n2 : ¬ In y.f1 (y :: s) := fun hh => by
      rcases (In_cons _ _ _).1 hh with h1 | h1
      · omega
      · have := In_above hm.2 h1; omega
    have e1 : x.f1 = y.f1 := by
      have h1 : ¬ (y.f0 ≤ x.f1 ∧ x.f1 < y.f1) := fun hh => n1 ((h _).2 ((In_cons _ _ _).2 (.inl hh)))
      have h2 : ¬ (x.f0 ≤ y.f1 ∧ y.f1 < x.f1) := fun hh => n2 ((h _).1 ((In_cons _ _ _).2 (.inl hh)))
      omega
    have exy : x = y := by cases x; cases y; simp_all
    subst exy
    have ht : t = s := uniq t s x.f1 x.f1 hl.2 hm.2 (fun n => by
      constructor
      · intro hn
        have hlt := In_above hl.2 hn
        rcases (In_cons _ _ _).1 ((h n).1 ((In_cons _ _ _).2 (.inr hn))) with h1 | h1
        · omega
        · exact h1
      · intro hn
        have hlt := In_above hm.2 hn
        rcases (In_cons _ _ _).1 ((h n).2 ((In_cons _ _ _).2 (.inr hn))) with h1 | h1
        · omega
        · exact h1)
    rw [ht]
theorem okR_append (low : Int) (l m : List RG) : okR low (l ++ m) = (okR low l && okR (lastR low l) m) := by
  induction l generalizing low with
  | nil => simp [okR, lastR]
  | cons x t ih => simp [okR, lastR, ih, Bool.and_assoc]
theorem lastR_append (low : Int) (l m : List RG) : lastR low (l ++ m) = lastR (lastR low l) m := by
  induction l generalizing low with
  | nil => simp [lastR]
  | cons x t ih => simp [lastR, ih]
theorem okR_lower {a b : Int} (hab : a ≤ b) {l : List RG} (h : okR b l = true) : okR a l = true := by
  cases l with
  | nil => rfl
  | cons x t => simp only [okR, Bool.and_eq_true, decide_eq_true_eq] at h ⊢; exact ⟨⟨by omega, h.1.2⟩, h.2⟩
theorem okR_raise {a b : Int} {l : List RG} (h : okR a l = true) (hb : ∀ y ∈ l, b < y.f0) : okR b l = true := by
  cases l with
  | nil => rfl
  | cons x t => simp only [okR, Bool.and_eq_true, decide_eq_true_eq] at h ⊢; exact ⟨⟨hb x List.mem_cons_self, h.1.2⟩, h.2⟩
theorem lastR_mem (low : Int) (l : List RG) (h : l ≠ []) : ∃ y ∈ l, lastR low l = y.f1 := by
  induction l generalizing low with
  | nil => exact absurd rfl h
  | cons x t ih =>
    by_cases ht : t = []
    · subst ht; exact ⟨x, List.mem_cons_self, rfl⟩
    · obtain ⟨y, hy, e⟩ := ih x.f1 ht
      exact ⟨y, List.mem_cons_of_mem _ hy, e⟩
theorem lastR_any (a b : Int) (l : List RG) (h : l ≠ []) : lastR a l = lastR b l := by
  cases l with
  | nil => exact absurd rfl h
  | cons x t => rfl
theorem mem_last (low : Int) (l : List RG) (h : okR low l = true) : ∀ y ∈ l, y.f1 ≤ lastR low l := by
  induction l generalizing low with
  | nil => intro y hy; simp at hy
  | cons x t ih =>
    simp only [okR, Bool.and_eq_true, decide_eq_true_eq] at h
    intro y hy
    rcases List.mem_cons.1 hy with rfl | hy
    · exact okR_last _ _ h.2
    · exact ih _ h.2 y hy
/-- What hole.merged comes to. -/
theorem merged_loop (a : Int) (l : List RG) (hl : l.length ≤ 16) (t : List RG) : ∀ (k i : Nat) (A B : List RG) (r0 r1 p : Int), l.drop i = t → i ≤ l.length → A.length ≤ i → B.length ≤ i → t.length < k → r0 < r1 → a ≤ p →
    okR a A = true → (∀ y ∈ A, y.f1 < r0) → lastR a A ≤ p → okR r1 B = true → (∀ y ∈ B, a < y.f0) → (B ≠ [] → lastR r1 B = p) → okR p t = true →
    ∃ A' B' s0 s1, hole_merged.l0 k a A B l (l.length : Int) (i : Int) r0 r1 = some (if s0 ≤ a then (mx a s1, B') else (a, A' ++ ⟨s0, s1⟩ :: B')) ∧ s0 < s1 ∧ s0 ≤ r0 ∧ okR a A' = true ∧ (∀ y ∈ A', y.f1 < s0) ∧ okR s1 B' = true ∧ (∀ y ∈ B', a < y.f0) ∧ (s0 = r0 ∨ a < s0) ∧
      (∀ n, In n (A' ++ ⟨s0, s1⟩ :: B') ↔ In n (A ++ ⟨r0, r1⟩ :: B) ∨ In n t) := by
  induction t with
  | nil =>
    intro k i A B r0 r1 p ht hi hA hB hk hr hap h1 h2 h3 h4 h5 h6 h7
    obtain ⟨k, rfl⟩ : ∃ m, k = m + 1 := ⟨k - 1, by omega⟩
    have hle : l.length ≤ i := by simpa using ht
    refine ⟨A, B, r0, r1, ?_, hr, Int.le_refl _, h1, h2, h4, h5, .inl rfl, fun n => by simp [In_nil]⟩
    rw [hole_merged.l0, if_neg (by omega)]
    split
    · rfl
    · unfold api_Range_93.f
      rw [if_pos (by rw [← api_Range_93.flat_length]; simp; omega)]
      simp
  | cons x t ih =>
    intro k i A B r0 r1 p ht hi hA hB hk hr hap h1 h2 h3 h4 h5 h6 h7
    obtain ⟨k, rfl⟩ : ∃ m, k = m + 1 := ⟨k - 1, by omega⟩
    obtain ⟨e1, e2, e3⟩ := rdT l i x t ht
    have h7' := h7
    simp only [okR, Bool.and_eq_true, decide_eq_true_eq] at h7
    have hxe : (⟨x.f0, x.f1⟩ : RG) = x := by cases x; rfl
    have go := fun A B r0 r1 hA hB hr h1 h2 h3 h4 h5 h6 => ih k (i + 1) A B r0 r1 x.f1 e2 (by omega) hA hB (by simpa using hk) hr (by omega) h1 h2 h3 h4 h5 h6 h7.2
    rw [hole_merged.l0, if_pos (by omega), if_pos (by omega), if_pos (by omega), e1, w64 (by omega) (by omega), show ((i : Int) + 1) = ((i + 1 : Nat) : Int) by omega, hxe]
    by_cases c1 : x.f1 < r0
    · have hBn : B = [] := by
        by_cases hB0 : B = []
        · exact hB0
        · have := h6 hB0
          have := okR_last r1 B h4
          omega
      subst hBn
      rw [if_pos c1, if_pos (by omega)]
      obtain ⟨A', B', s0, s1, g, g1, g2, g3, g4, g5, g6, g7, g8⟩ := go (A ++ [x]) [] r0 r1 (by simp; omega) (by simp) hr
        (by rw [okR_append, h1]; simp only [okR, Bool.true_and, Bool.and_true, Bool.and_eq_true, decide_eq_true_eq]; exact ⟨by omega, h7.1.2⟩)
        (fun y hy => by rcases List.mem_append.1 hy with hy | hy; · exact h2 y hy
                        · rw [List.mem_singleton.1 hy]; exact c1)
        (by rw [lastR_append]; exact Int.le_refl _) rfl (fun y hy => by simp at hy) (fun h => absurd rfl h)
      refine ⟨A', B', s0, s1, g, g1, g2, g3, g4, g5, g6, g7, fun n => ?_⟩
      rw [g8]
      simp only [In_append, In_cons, In_nil, or_false]
      constructor
      · rintro ((h | h) | h)
        · rcases h with h | h
          · exact .inl (.inl h)
          · exact .inr (.inl h)
        · exact .inl (.inr h)
        · exact .inr (.inr h)
      · rintro ((h | h) | (h | h))
        · exact .inl (.inl (.inl h))
        · exact .inl (.inr h)
        · exact .inl (.inl (.inr h))
        · exact .inr h
    · rw [if_neg c1]
      by_cases c2 : x.f0 > r1
      · rw [if_pos c2, if_pos (by omega)]
        have hlb : lastR r1 B < x.f0 := by
          by_cases hB0 : B = []
          · subst hB0; exact c2
          · have := h6 hB0; omega
        obtain ⟨A', B', s0, s1, g, g1, g2, g3, g4, g5, g6, g7, g8⟩ := go A (B ++ [x]) r0 r1 (by omega) (by simp; omega) hr h1 h2 (by omega)
          (by rw [okR_append, h4]; simp only [okR, Bool.true_and, Bool.and_true, Bool.and_eq_true, decide_eq_true_eq]; exact ⟨hlb, h7.1.2⟩)
          (fun y hy => by rcases List.mem_append.1 hy with hy | hy; · exact h5 y hy
                          · rw [List.mem_singleton.1 hy]; omega)
          (fun _ => by rw [lastR_append]; rfl)
        refine ⟨A', B', s0, s1, g, g1, g2, g3, g4, g5, g6, g7, fun n => ?_⟩
        rw [g8]
        simp only [In_append, In_cons, In_nil, or_false]
        constructor
        · rintro ((h | h | h | h) | h)
          · exact .inl (.inl h)
          · exact .inl (.inr (.inl h))
          · exact .inl (.inr (.inr h))
          · exact .inr (.inl h)
          · exact .inr (.inr h)
        · rintro ((h | h | h) | (h | h))
          · exact .inl (.inl h)
          · exact .inl (.inr (.inl h))
          · exact .inl (.inr (.inr (.inl h)))
          · exact .inl (.inr (.inr (.inr h)))
          · exact .inr h
      · rw [if_neg c2]
        have hBn : B = [] := by
          by_cases hB0 : B = []
          · exact hB0
          · have := h6 hB0
            have := okR_last r1 B h4
            omega
        subst hBn
        have hm1 : mn r0 x.f0 = min r0 x.f0 := mn_eq _ _
        have hm2 : mx r1 x.f1 = max r1 x.f1 := mx_eq _ _
        rw [hm1, hm2]
        obtain ⟨A', B', s0, s1, g, g1, g2, g3, g4, g5, g6, g7, g8⟩ := go A [] (min r0 x.f0) (max r1 x.f1) (by omega) (by simp) (by omega) h1
          (fun y hy => by
            have hy1 := h2 y hy
            have hle := mem_last a A h1 y hy
            omega)
          (by omega) rfl (fun y hy => by simp at hy) (fun h => absurd rfl h)
        refine ⟨A', B', s0, s1, g, g1, by omega, g3, g4, g5, g6, by omega, fun n => ?_⟩
        rw [g8]
        simp only [In_append, In_cons, In_nil, or_false]
        have hu : (min r0 x.f0 ≤ n ∧ n < max r1 x.f1) ↔ (r0 ≤ n ∧ n < r1) ∨ (x.f0 ≤ n ∧ n < x.f1) := by omega
        rw [hu]
        constructor
        · rintro ((h | h | h) | h)
          · exact .inl (.inl h)
          · exact .inl (.inr h)
          · exact .inr (.inl h)
          · exact .inr (.inr h)
        · rintro ((h | h) | (h | h))
          · exact .inl (.inl h)
          · exact .inl (.inr (.inl h))
          · exact .inl (.inr (.inr h))
          · exact .inr h
/-- The order of the places. -/
def insS (n : Int) : List Int → List Int
  | [] => [n]
  | x :: t => if x < n then x :: insS n t else if x = n then x :: t else n :: x :: t
theorem at_cons (n x : Int) (t : List Int) : at_ n (x :: t) = if x < n then at_ n t + 1 else 0 := by
  unfold at_
  rw [List.takeWhile_cons]
  by_cases h : x < n <;> simp [h]
theorem rd_succ (x : Int) (t : List Int) (j : Nat) : rd (x :: t) ((j + 1 : Nat) : Int) = rd t (j : Int) := by simp [rd]
theorem ins_is (n : Int) (l : List Int) : ins n l = insS n l := by
  induction l with
  | nil => simp [ins, insS, at_]
  | cons x t ih =>
    unfold ins insS
    rw [at_cons]
    by_cases h : x < n
    · rw [if_pos h, if_pos h, rd_succ]
      rw [← ih]
      unfold ins
      by_cases h2 : at_ n t < t.length ∧ rd t (at_ n t : Int) = n
      · rw [if_pos ⟨by simp; omega, h2.2⟩, if_pos h2]
      · rw [if_neg (fun hh => h2 ⟨by have := hh.1; simp at this; omega, hh.2⟩), if_neg h2]
        simp
    · rw [if_neg h, if_neg h]
      by_cases h2 : x = n
      · rw [if_pos h2, if_pos ⟨by simp, by simp [rd, h2]⟩]
      · rw [if_neg h2, if_neg (fun hh => h2 (by have := hh.2; simpa [rd] using this))]
        simp
theorem insS_mem (n m : Int) (l : List Int) : m ∈ insS n l ↔ m = n ∨ m ∈ l := by
  induction l with
  | nil => simp [insS]
  | cons x t ih =>
    unfold insS
    split
    · simp only [List.mem_cons, ih]
      constructor
      · rintro (h | h | h)
        · exact .inr (.inl h)
        · exact .inl h
        · exact .inr (.inr h)
      · rintro (h | h | h)
        · exact .inr (.inl h)
        · exact .inl h
        · exact .inr (.inr h)
    · split
      · rename_i h; subst h; simp
      · simp
theorem insS_sorted (n : Int) (l : List Int) (h : l.Pairwise (· < ·)) : (insS n l).Pairwise (· < ·) := by
  induction l with
  | nil => simp [insS]
  | cons x t ih =>
    unfold insS
    rw [List.pairwise_cons] at h
    split
    · rename_i hx
      rw [List.pairwise_cons]
      refine ⟨fun y hy => ?_, ih h.2⟩
      rcases (insS_mem n y t).1 hy with rfl | hy
      · exact hx
      · exact h.1 y hy
    · split
      · exact List.pairwise_cons.2 h
      · rw [List.pairwise_cons, List.pairwise_cons]
        refine ⟨fun y hy => ?_, h⟩
        rcases List.mem_cons.1 hy with rfl | hy
        · omega
        · have := h.1 y hy; omega
theorem fold_places (l : List RG) : ∀ p : List Int, p.Pairwise (· < ·) → (l.foldl (fun p x => ins x.f1 (ins x.f0 p)) p).Pairwise (· < ·) ∧ ∀ m, m ∈ l.foldl (fun p x => ins x.f1 (ins x.f0 p)) p ↔ m ∈ p ∨ ∃ x ∈ l, m = x.f0 ∨ m = x.f1 := by
  induction l with
  | nil => intro p hp; exact ⟨hp, fun m => by simp⟩
  | cons x t ih =>
    intro p hp
    have hs : (ins x.f1 (ins x.f0 p)).Pairwise (· < ·) := by rw [ins_is, ins_is]; exact insS_sorted _ _ (insS_sorted _ _ hp)
    obtain ⟨h1, h2⟩ := ih _ hs
    refine ⟨h1, fun m => ?_⟩
    rw [List.foldl_cons, h2, ins_is, ins_is, insS_mem, insS_mem]
    constructor
    · rintro ((h | h | h) | ⟨y, hy, h⟩)
      · exact .inr ⟨x, List.mem_cons_self, .inr h⟩
      · exact .inr ⟨x, List.mem_cons_self, .inl h⟩
      · exact .inl h
      · exact .inr ⟨y, List.mem_cons_of_mem _ hy, h⟩
    · rintro (h | ⟨y, hy, h⟩)
      · exact .inl (.inr (.inr h))
      · rcases List.mem_cons.1 hy with rfl | hy
        · rcases h with h | h
          · exact .inl (.inr (.inl h))
          · exact .inl (.inl h)
        · exact .inr ⟨y, hy, h⟩
theorem places_all (a : Int) (l : List RG) : (placesOf a l).Pairwise (· < ·) ∧ ∀ m, m ∈ placesOf a l ↔ m = a ∨ m = 0 ∨ ∃ x ∈ l, m = x.f0 ∨ m = x.f1 := by
  have h0 : (ins a (ins 0 [])).Pairwise (· < ·) := by rw [ins_is, ins_is]; exact insS_sorted _ _ (insS_sorted _ _ List.Pairwise.nil)
  obtain ⟨h1, h2⟩ := fold_places l _ h0
  refine ⟨h1, fun m => ?_⟩
  unfold placesOf
  rw [h2, ins_is, ins_is, insS_mem, insS_mem]
  simp [or_assoc]
theorem cameB_iff (a : Int) (l : List RG) (n : Int) : cameB a l n = true ↔ n < a ∨ In n l := by
  unfold cameB In
  simp
theorem sorted_lt {P : List Int} (hP : P.Pairwise (· < ·)) {i j : Nat} (hij : i < j) (hj : j < P.length) : rd P (i : Int) < rd P (j : Int) := by
  rw [rd_nat P i (by omega), rd_nat P j hj]
  exact List.pairwise_iff_getElem.1 hP i j (by omega) hj hij
theorem apart {P : List Int} (hP : P.Pairwise (· < ·)) {i : Nat} (hi : i + 1 < P.length) {e : Int} (he : e ∈ P) : e ≤ rd P (i : Int) ∨ rd P ((i + 1 : Nat) : Int) ≤ e := by
  obtain ⟨j, hj, rfl⟩ := List.mem_iff_getElem.1 he
  rw [← rd_nat P j hj]
  rcases Nat.lt_trichotomy j i with h | h | h
  · have := sorted_lt hP h (by omega); exact .inl (by omega)
  · subst h; exact .inl (Int.le_refl _)
  · rcases Nat.lt_or_ge (i + 1) j with h2 | h2
    · have := sorted_lt hP h2 hj; exact .inr (by omega)
    · have : j = i + 1 := by omega
      subst this; exact .inr (Int.le_refl _)
theorem last_split (o : List RG) (h : 0 < o.length) : ∃ o0 z, o = o0 ++ [z] ∧ rd_T54 o ((o.length - 1 : Nat) : Int) = z := by
  refine ⟨o.dropLast, o.getLast (fun e => by subst e; simp at h), (List.dropLast_concat_getLast _).symm, ?_⟩
  unfold rd_T54
  rw [Int.toNat_natCast, List.getD_eq_getElem?_getD, List.getElem?_eq_getElem (by omega), List.getLast_eq_getElem]
  rfl
theorem outs_inv (a : Int) (all : List RG) (P : List Int) (hP : P.Pairwise (· < ·)) (h0 : ∀ m ∈ P, 0 ≤ m) (ha : a ∈ P) (hall : ∀ x ∈ all, x.f0 ∈ P ∧ x.f1 ∈ P) : ∀ i : Nat, i < P.length →
    okR (-1) (outs a all P i) = true ∧ (∀ y ∈ outs a all P i, y.f1 ≤ rd P (i : Int)) ∧ ∀ n, In n (outs a all P i) ↔ rd P 0 ≤ n ∧ n < rd P (i : Int) ∧ cameB a all n = true := by
  intro i
  induction i with
  | zero =>
    intro hi
    refine ⟨rfl, fun y hy => by simp [outs] at hy, fun n => ?_⟩
    simp only [outs]
    constructor
    · intro h; exact absurd h (In_nil n)
    · rintro ⟨h1, h2, _⟩; exact absurd h2 (by simpa using h1)
  | succ i ih =>
    intro hi
    obtain ⟨g1, g2, g3⟩ := ih (by omega)
    have hpq := sorted_lt hP (Nat.lt_succ_self i) hi
    have hp0 : rd P 0 ≤ rd P (i : Int) := by
      cases i with
      | zero => exact Int.le_refl _
      | succ i => have := sorted_lt hP (Nat.succ_pos i) (by omega); simpa using Int.le_of_lt this
    have hpn : 0 ≤ rd P (i : Int) := h0 _ (by rw [rd_nat P i (by omega)]; exact List.getElem_mem _)
    have hc : ∀ n, rd P (i : Int) ≤ n → n < rd P ((i + 1 : Nat) : Int) → cameB a all n = cameB a all (rd P (i : Int)) := by
      intro n h1 h2
      rw [Bool.eq_iff_iff, cameB_iff, cameB_iff]
      have hx : ∀ x ∈ all, (x.f0 ≤ n ∧ n < x.f1) ↔ (x.f0 ≤ rd P (i : Int) ∧ rd P (i : Int) < x.f1) := fun x hx => by
        have q0 := apart hP hi (hall x hx).1
        have q1 := apart hP hi (hall x hx).2
        omega
      have q := apart hP hi ha
      constructor
      · rintro (h | ⟨x, hm, h⟩)
        · exact .inl (by omega)
        · exact .inr ⟨x, hm, (hx x hm).1 h⟩
      · rintro (h | ⟨x, hm, h⟩)
        · exact .inl (by omega)
        · exact .inr ⟨x, hm, (hx x hm).2 h⟩
    show okR (-1) (outNext (cameB a all (rd P (i : Int))) (rd P (i : Int)) (rd P ((i + 1 : Nat) : Int)) (outs a all P i)) = true ∧ (∀ y ∈ outNext (cameB a all (rd P (i : Int))) (rd P (i : Int)) (rd P ((i + 1 : Nat) : Int)) (outs a all P i), y.f1 ≤ rd P ((i + 1 : Nat) : Int)) ∧ ∀ n, In n (outNext (cameB a all (rd P (i : Int))) (rd P (i : Int)) (rd P ((i + 1 : Nat) : Int)) (outs a all P i)) ↔ _
    generalize rd P ((i + 1 : Nat) : Int) = q at *
    generalize rd P (i : Int) = p at *
    generalize outs a all P i = o at *
    generalize rd P 0 = z0 at *
    have key : cameB a all p = true → ∀ n, (In n o ∨ (p ≤ n ∧ n < q)) ↔ z0 ≤ n ∧ n < q ∧ cameB a all n = true := by
      intro hcm n
      rw [g3]
      constructor
      · rintro (⟨h1, h2, h3⟩ | ⟨h1, h2⟩)
        · exact ⟨h1, by omega, h3⟩
        · exact ⟨by omega, h2, by rw [hc n h1 h2]; exact hcm⟩
      · rintro ⟨h1, h2, h3⟩
        rcases Int.lt_or_le n p with h4 | h4
        · exact .inl ⟨h1, h4, h3⟩
        · exact .inr ⟨h4, h2⟩
    cases hcm : cameB a all p with
    | false =>
      rw [outNext_no]
      refine ⟨g1, fun y hy => by have := g2 y hy; omega, fun n => ?_⟩
      rw [g3]
      constructor
      · rintro ⟨h1, h2, h3⟩; exact ⟨h1, by omega, h3⟩
      · rintro ⟨h1, h2, h3⟩
        rcases Int.lt_or_le n p with h4 | h4
        · exact ⟨h1, h4, h3⟩
        · rw [hc n h4 h2, hcm] at h3; cases h3
    | true =>
      by_cases hl : 0 < o.length ∧ (rd_T54 o ((o.length - 1 : Nat) : Int)).f1 = p
      · obtain ⟨o0, z, ho, hz⟩ := last_split o hl.1
        rw [hz] at hl
        have hset : outNext true p q o = o0 ++ [⟨z.f0, q⟩] := by
          unfold outNext
          rw [if_pos rfl, hz, if_pos hl, ho]
          simp
        rw [hset]
        rw [ho, okR_append] at g1
        simp only [okR, Bool.and_eq_true, decide_eq_true_eq, Bool.and_true] at g1
        refine ⟨?_, ?_, fun n => ?_⟩
        · rw [okR_append]
          simp only [okR, Bool.and_eq_true, decide_eq_true_eq, Bool.and_true]
          exact ⟨g1.1, g1.2.1, by omega⟩
        · intro y hy
          rcases List.mem_append.1 hy with hy | hy
          · have := g2 y (by rw [ho]; exact List.mem_append_left _ hy); omega
          · rw [List.mem_singleton.1 hy]; exact Int.le_refl _
        · rw [← key hcm n, ho]
          simp only [In_append, In_cons, In_nil, or_false]
          have h1 := g1.2.2
          have h2 := hl.2
          have hu : (z.f0 ≤ n ∧ n < q) ↔ (z.f0 ≤ n ∧ n < z.f1) ∨ (p ≤ n ∧ n < q) := by omega
          rw [hu, or_assoc]
      · rw [outNext_new _ _ _ hl]
        refine ⟨?_, ?_, fun n => ?_⟩
        · rw [okR_append, g1]
          simp only [okR, Bool.and_eq_true, decide_eq_true_eq, Bool.and_true, Bool.true_and]
          refine ⟨?_, hpq⟩
          by_cases ho0 : o = []
          · subst ho0; simp only [lastR]; omega
          · obtain ⟨o0, z, ho, hz⟩ := last_split o (by cases o; exact absurd rfl ho0; simp)
            have e : lastR (-1) o = z.f1 := by rw [ho, lastR_append]; rfl
            have h1 := g2 z (by rw [ho]; simp)
            have h2 : z.f1 ≠ p := fun hh => hl ⟨by cases o; exact absurd rfl ho0; simp, by rw [hz]; exact hh⟩
            rw [e]; omega
        · intro y hy
          rcases List.mem_append.1 hy with hy | hy
          · have := g2 y hy; omega
          · rw [List.mem_singleton.1 hy]; exact Int.le_refl _
        · rw [← key hcm n]
          simp only [In_append, In_cons, In_nil, or_false]
theorem outs_all (a : Int) (all : List RG) (ha : 0 ≤ a) (hall : ∀ x ∈ all, 0 ≤ x.f0 ∧ x.f0 ≤ x.f1) :
    okR (-1) (outs a all (placesOf a all) ((placesOf a all).length - 1)) = true ∧ ∀ n, In n (outs a all (placesOf a all) ((placesOf a all).length - 1)) ↔ 0 ≤ n ∧ (n < a ∨ In n all) := by
  obtain ⟨hP, hm⟩ := places_all a all
  have hpos := places_pos a all
  generalize placesOf a all = P at *
  have h0 : ∀ m ∈ P, 0 ≤ m := fun m h => by
    rcases (hm m).1 h with rfl | rfl | ⟨x, hx, h | h⟩
    · exact ha
    · exact Int.le_refl _
    · have := hall x hx; omega
    · have := hall x hx; omega
  have haP : a ∈ P := (hm a).2 (.inl rfl)
  have hx : ∀ x ∈ all, x.f0 ∈ P ∧ x.f1 ∈ P := fun x hx => ⟨(hm _).2 (.inr (.inr ⟨x, hx, .inl rfl⟩)), (hm _).2 (.inr (.inr ⟨x, hx, .inr rfl⟩))⟩
  obtain ⟨g1, _, g3⟩ := outs_inv a all P hP h0 haP hx (P.length - 1) (by omega)
  refine ⟨g1, fun n => ?_⟩
  have hz : rd P 0 = 0 := by
    have hz := rd_nat P 0 hpos
    simp only [Int.ofNat_zero] at hz
    have h1 := h0 _ (by rw [hz]; exact List.getElem_mem _ : rd P 0 ∈ P)
    obtain ⟨j, hj, he⟩ := List.mem_iff_getElem.1 ((hm 0).2 (.inr (.inl rfl)))
    rcases Nat.eq_zero_or_pos j with rfl | hj0
    · rw [hz]; exact he
    · have := sorted_lt hP hj0 hj
      rw [rd_nat P j hj, he] at this
      simp only [Int.ofNat_zero] at this
      omega
  have hup : ∀ e ∈ P, e ≤ rd P ((P.length - 1 : Nat) : Int) := fun e he => by
    obtain ⟨j, hj, rfl⟩ := List.mem_iff_getElem.1 he
    rw [← rd_nat P j hj]
    rcases Nat.lt_or_ge j (P.length - 1) with h | h
    · exact Int.le_of_lt (sorted_lt hP h (by omega))
    · rw [show j = P.length - 1 by omega]; exact Int.le_refl _
  rw [g3, hz, cameB_iff]
  constructor
  · rintro ⟨h1, _, h3⟩; exact ⟨h1, h3⟩
  · rintro ⟨h1, h3⟩
    refine ⟨h1, ?_, h3⟩
    rcases h3 with h3 | ⟨x, hm', h4⟩
    · have := hup a haP; omega
    · have := hup _ (hx x hm').2; omega
theorem last_is (O M : List RG) (a : Int) (hO : okR (-1) O = true) (hM : okR a M = true) (ha : 0 ≤ a) (h : ∀ n, In n O ↔ 0 ≤ n ∧ (n < a ∨ In n M)) : holeLast O = (a, M) := by
  by_cases h0 : 0 < a
  · have e : O = ⟨0, a⟩ :: M := by
      refine uniq O (⟨0, a⟩ :: M) (-1) (-1) hO ?_ (fun n => ?_)
      · simp only [okR, hM, Bool.and_true, Bool.and_eq_true, decide_eq_true_eq]; omega
      · rw [h n, In_cons]
        constructor
        · rintro ⟨h1, h2 | h2⟩
          · exact .inl ⟨h1, h2⟩
          · exact .inr h2
        · rintro (⟨h1, h2⟩ | h2)
          · exact ⟨h1, .inl h2⟩
          · exact ⟨by have := In_above hM h2; omega, .inr h2⟩
    rw [e]
    unfold holeLast
    rw [if_pos ⟨by simp, rfl⟩]
    rfl
  · have ha0 : a = 0 := by omega
    subst ha0
    have e : O = M := by
      refine uniq O M (-1) 0 hO hM (fun n => ?_)
      rw [h n]
      constructor
      · rintro ⟨h1, h2 | h2⟩
        · omega
        · exact h2
      · intro h2; exact ⟨by have := In_above hM h2; omega, .inr h2⟩
    rw [e]
    unfold holeLast
    rw [if_neg]
    rintro ⟨h1, h2⟩
    cases M with
    | nil => simp at h1
    | cons x t =>
      simp only [okR, Bool.and_eq_true, decide_eq_true_eq] at hM
      have : (rd_T54 (x :: t) 0) = x := rfl
      rw [this] at h2
      omega
theorem HoleAdds (a : Int) (l : List S54) (r0 r1 : Int) (ha : (Lit.int .i64 a).wf = true) (hl : l.length * 16 ≤ 140737488351232 ∧ ∀ x ∈ l, (Lit.int .i64 x.f0).wf = true ∧ (Lit.int .i64 x.f1).wf = true) (hr : (Lit.int .i64 r0).wf = true ∧ (Lit.int .i64 r1).wf = true) : ∃ k, packthreadlaw_HoleAdds.f k a l r0 r1 = some true := by
  refine ⟨l.length + 1000, ?_⟩
  unfold packthreadlaw_HoleAdds.f hole_Add.f packthreadref_HoleAdd.f
  rw [may_own a l (by omega) _ (by omega), may_ref a l (by omega) _ (by omega)]
  simp only [Option.bind_some]
  have hnil : ∀ e : Int, ((packthreadlaw_sameRanges.f (l.length + 1000) [] []).bind fun t => if t = true then some (e == e) else some false) = some true := fun e => by
    rw [same_all [] (by simp) _ (by simp)]
    simp
  cases hm : mayB a l with
  | false => simp only [Bool.false_eq_true, if_false, Option.bind_some, if_true]; exact hnil 4
  | true =>
    simp only [mayB, Bool.and_eq_true, decide_eq_true_eq] at hm
    obtain ⟨⟨⟨⟨hok, ha0⟩, hla⟩, ha1⟩, hl16⟩ := hm
    simp only [if_true]
    by_cases hbad : r0 < 0 ∨ r1 < r0 ∨ 1048576 < r1
    · rw [if_pos hbad]
      have e : (if r0 < 0 then some ((0 : Int), ([] : List RG), (2 : Int)) else if r0 > r1 then some (0, [], 2) else if r1 > 1048576 then some (0, [], 2) else if r0 < r1 then ((hole_merged.f (l.length + 1000) a l r0 r1).bind fun bt123 => if (bt123.2.length : Int) > 16 then some (0, [], 9) else (api_Range_65.f bt123.2).bind fun t127 => some (bt123.1, t127, 0)) else if (l.length : Int) > 16 then some (0, [], 9) else (api_Range_65.f l).bind fun t130 => some (a, t130, 0)) = some (0, [], 2) := by
        by_cases h1 : r0 < 0
        · rw [if_pos h1]
        · rw [if_neg h1]
          by_cases h2 : r0 > r1
          · rw [if_pos h2]
          · rw [if_neg h2, if_pos (by omega)]
      rw [e]
      simp only [Option.bind_some, if_true]
      exact hnil 2
    · rw [if_neg hbad, if_neg (by omega), if_neg (by omega), if_neg (by omega)]
      have hab := okR_above hok
      obtain ⟨gO, gI⟩ := outs_all a (l ++ [⟨r0, r1⟩]) ha0 (fun x hx => by
        rcases List.mem_append.1 hx with hx | hx
        · have := hab x hx; omega
        · rw [List.mem_singleton.1 hx]; simp only; omega)
      generalize outs a (l ++ [⟨r0, r1⟩]) (placesOf a (l ++ [⟨r0, r1⟩])) ((placesOf a (l ++ [⟨r0, r1⟩])).length - 1) = O at *
      have clone : ∀ m : List RG, m.length ≤ 16 → api_Range_65.f m = some m := fun m hm => by
        unfold api_Range_65.f
        rw [if_pos (by omega)]
      have fin : ∀ (b : Int) (M : List RG), holeLast O = (b, M) → (((if (M.length : Int) > 16 then some ((0 : Int), ([] : List RG), (9 : Int)) else (api_Range_65.f M).bind fun t => some (b, t, 0))).bind fun x => (if 16 < (holeLast O).2.length then some ((0 : Int), ([] : List RG), (9 : Int)) else some ((holeLast O).1, (holeLast O).2, 0)).bind fun y => (if x.1 = y.1 then (packthreadlaw_sameRanges.f (l.length + 1000) x.2.1 y.2.1).bind fun t => (if t = true then some (x.2.2 == y.2.2) else some false) else some false)) = some true := by
        intro b M hO
        rw [hO]
        by_cases hb : 16 < M.length
        · rw [if_pos (by omega), if_pos hb]
          simp only [Option.bind_some, if_true]
          exact hnil 9
        · rw [if_neg (by omega), if_neg hb, clone M (by omega)]
          simp only [Option.bind_some, if_true]
          rw [same_all M (by omega) _ (by omega)]
          simp
      by_cases hlt : r0 < r1
      · rw [if_pos hlt]
        unfold hole_merged.f
        obtain ⟨A, B, s0, s1, g, g1, g2, g3, g4, g5, g6, g7, g8⟩ := merged_loop a l hl16 l (l.length + 1000) 0 [] [] r0 r1 a rfl (by omega) (by simp) (by simp) (by omega) hlt (Int.le_refl _) rfl (fun y hy => by simp at hy) (Int.le_refl _) rfl (fun y hy => by simp at hy) (fun h => absurd rfl h) hok
        simp only [Int.ofNat_zero] at g
        rw [g]
        have hcm : ∀ n, In n (l ++ [⟨r0, r1⟩]) ↔ In n (A ++ ⟨s0, s1⟩ :: B) := fun n => by
          rw [g8]
          simp only [In_append, In_cons, In_nil, or_false, List.nil_append]
          exact or_comm
        by_cases hs : s0 ≤ a
        · have hA : A = [] := by
            cases A with
            | nil => rfl
            | cons y u =>
              have h1 := okR_above g3 y List.mem_cons_self
              have h2 := g4 y List.mem_cons_self
              omega
          subst hA
          rw [if_pos hs]
          have hmx : mx a s1 = max a s1 := mx_eq _ _
          have hO := last_is O B (max a s1) gO (okR_raise g5 (fun y hy => by have := okR_above g5 y hy; have := g6 y hy; omega)) (by omega) (fun n => by
            rw [gI, hcm]
            simp only [In_append, In_cons, In_nil, false_or]
            have hu : 0 ≤ n → ((n < a ∨ (s0 ≤ n ∧ n < s1)) ↔ n < max a s1) := by omega
            constructor
            · rintro ⟨h1, h2⟩
              refine ⟨h1, ?_⟩
              rcases h2 with h2 | h2 | h2
              · exact .inl ((hu h1).1 (.inl h2))
              · exact .inl ((hu h1).1 (.inr h2))
              · exact .inr h2
            · rintro ⟨h1, h2⟩
              refine ⟨h1, ?_⟩
              rcases h2 with h2 | h2
              · rcases (hu h1).2 h2 with h3 | h3
                · exact .inl h3
                · exact .inr (.inl h3)
              · exact .inr (.inr h2))
          rw [hmx]
          exact fin _ _ hO
        · rw [if_neg hs]
          have hM : okR a (A ++ ⟨s0, s1⟩ :: B) = true := by
            rw [okR_append, g3]
            simp only [okR, g5, Bool.and_true, Bool.true_and, Bool.and_eq_true, decide_eq_true_eq]
            refine ⟨?_, g1⟩
            by_cases hA : A = []
            · subst hA; simp only [lastR]; omega
            · obtain ⟨y, hy, e⟩ := lastR_mem a A hA
              rw [e]; exact g4 y hy
          have hO := last_is O (A ++ ⟨s0, s1⟩ :: B) a gO hM ha0 (fun n => by rw [gI, hcm])
          exact fin _ _ hO
      · rw [if_neg hlt]
        have hO := last_is O l a gO hok ha0 (fun n => by
          rw [gI]
          simp only [In_append, In_cons, In_nil, or_false]
          constructor
          · rintro ⟨h1, h2 | h2 | h2⟩
            · exact ⟨h1, .inl h2⟩
            · exact ⟨h1, .inr h2⟩
            · omega
          · rintro ⟨h1, h2 | h2⟩
            · exact ⟨h1, .inl h2⟩
            · exact ⟨h1, .inr (.inl h2)⟩)
        exact fin _ _ hO
end Go.Proofs.Ytjhmjgcebijmiaa.Pure
