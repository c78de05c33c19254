/- delta.Delta answers what its reference answers, at every two slices of bytes; no further condition. -/
import Derived.Test.YtjhmjgcebijmiaaHDeltaDeltasx
import Derived.Test.YtjhmjgcebijmiaaHelp
namespace Go.Proofs.Ytjhmjgcebijmiaa.Pure
open Go.RowKit Go.Proofs.Ytjhmjgcebijmiaa.HDeltaDeltas Go.Proofs.YtjhmjgcebijmiaaW.PrintWords Go.Proofs.YtjhmjgcebijmiaaW.PrintLast Go.Proofs.Ytjhmjgcebijmiaa.Help
set_option linter.unusedSimpArgs false
set_option linter.unusedVariables false

theorem same_loop (l : List Int) (hl : l.length ≤ 9223372036854775806) (d : Nat) : ∀ (k i : Nat), l.length - i = d → i ≤ l.length → d < k → packthreadlaw_sameBytes.l0 k l l (i : Int) = some true := by
  induction d with
  | zero =>
    intro k i hd hi hk
    obtain ⟨k, rfl⟩ : ∃ m, k = m + 1 := ⟨k - 1, by omega⟩
    simp only [packthreadlaw_sameBytes.l0]
    rw [if_neg (by omega)]
  | succ d ih =>
    intro k i hd hi hk
    obtain ⟨k, rfl⟩ : ∃ m, k = m + 1 := ⟨k - 1, by omega⟩
    simp only [packthreadlaw_sameBytes.l0]
    rw [if_pos (by omega), if_pos (by omega), if_pos (by omega), if_pos trivial, w64 (by omega) (by omega)]
    exact ih k (i + 1) (by omega) (by omega) (by omega)
theorem same_all (l : List Int) (hl : l.length ≤ 9223372036854775806) (k : Nat) (hk : l.length < k) : packthreadlaw_sameBytes.f k l l = some true := by
  simp only [packthreadlaw_sameBytes.f]
  rw [if_pos trivial]
  exact same_loop l hl l.length k 0 (by omega) (by omega) hk

abbrev Pc := S96
/-- How far two lists are alike from their starts. -/
def cpl : List Int → List Int → Nat
  | a :: ta, b :: tb => if a = b then cpl ta tb + 1 else 0
  | _, _ => 0
theorem cpl_le (a b : List Int) : cpl a b ≤ a.length ∧ cpl a b ≤ b.length := by
  induction a generalizing b with
  | nil => simp [cpl]
  | cons x ta ih =>
    cases b with
    | nil => simp [cpl]
    | cons y tb =>
      have := ih tb
      unfold cpl
      split <;> simp only [List.length_cons] <;> omega
theorem cpl_eq (a b : List Int) (n : Nat) (h : n < cpl a b) : a.getD n 0 = b.getD n 0 := by
  induction a generalizing b n with
  | nil => simp [cpl] at h
  | cons x ta ih =>
    cases b with
    | nil => simp [cpl] at h
    | cons y tb =>
      unfold cpl at h
      split at h
      · rename_i e
        subst e
        cases n with
        | zero => rfl
        | succ n =>
          have := ih tb n (by omega)
          simpa using this
      · omega
theorem cpl_ne (a b : List Int) (ha : cpl a b < a.length) (hb : cpl a b < b.length) : ¬ a.getD (cpl a b) 0 = b.getD (cpl a b) 0 := by
  induction a generalizing b with
  | nil => simp at ha
  | cons x ta ih =>
    cases b with
    | nil => simp at hb
    | cons y tb =>
      by_cases e : x = y
      · subst e
        have hc : cpl (x :: ta) (x :: tb) = cpl ta tb + 1 := by rw [cpl, if_pos rfl]
        rw [hc] at ha hb ⊢
        simp only [List.length_cons] at ha hb
        have := ih tb (by omega) (by omega)
        simpa using this
      · have hc : cpl (x :: ta) (y :: tb) = 0 := by rw [cpl, if_neg e]
        rw [hc]
        simpa using e
theorem cpl_take (n : Nat) : ∀ (a b : List Int), n ≤ a.length → n ≤ b.length → (a.take n = b.take n ↔ n ≤ cpl a b) := by
  induction n with
  | zero => intro a b _ _; simp
  | succ n ih =>
    intro a b ha hb
    cases a with
    | nil => simp at ha
    | cons x ta =>
      cases b with
      | nil => simp at hb
      | cons y tb =>
        simp only [List.length_cons] at ha hb
        have := ih ta tb (by omega) (by omega)
        simp only [List.take_succ_cons, List.cons.injEq]
        unfold cpl
        split
        · rename_i e
          rw [this]
          exact ⟨fun h => by omega, fun h => ⟨e, by omega⟩⟩
        · rename_i e
          exact ⟨fun h => absurd h.1 e, fun h => by omega⟩
theorem rd_drop (l : List Int) (i n : Nat) : rd l ((i + n : Nat) : Int) = (l.drop i).getD n 0 := by
  unfold rd
  rw [Int.toNat_natCast, List.getD_eq_getElem?_getD, List.getD_eq_getElem?_getD, List.getElem?_drop]
theorem rd_0 (l : List Int) (n : Nat) : rd l (n : Int) = l.getD n 0 := by
  unfold rd
  rw [Int.toNat_natCast]
theorem alike_loop (a b : List Int) (ha : a.length ≤ 2048) (d : Nat) : ∀ (k n : Nat), cpl a b - n = d → n ≤ cpl a b → d < k → delta_alike.l0 k a b (n : Int) = some ((cpl a b : Nat) : Int) := by
  have hc := cpl_le a b
  induction d with
  | zero =>
    intro k n hd hn hk
    obtain ⟨k, rfl⟩ : ∃ m, k = m + 1 := ⟨k - 1, by omega⟩
    have e : n = cpl a b := by omega
    subst e
    rw [delta_alike.l0]
    by_cases h1 : ((cpl a b : Nat) : Int) < (a.length : Int)
    · rw [if_pos h1]
      by_cases h2 : ((cpl a b : Nat) : Int) < (b.length : Int)
      · rw [if_pos h2, if_pos (by omega), if_neg (by rw [rd_0, rd_0]; exact cpl_ne a b (by omega) (by omega))]
      · rw [if_neg h2]
    · rw [if_neg h1]
  | succ d ih =>
    intro k n hd hn hk
    obtain ⟨k, rfl⟩ : ∃ m, k = m + 1 := ⟨k - 1, by omega⟩
    rw [delta_alike.l0, if_pos (by omega), if_pos (by omega), if_pos (by omega), if_pos (by rw [rd_0, rd_0]; exact cpl_eq a b n (by omega)), w64 (by omega) (by omega)]
    exact ih k (n + 1) (by omega) (by omega) (by omega)
theorem alike_is (a b : List Int) (ha : a.length ≤ 2048) (k : Nat) (hk : 2049 ≤ k) : delta_alike.f k a b = some ((cpl a b : Nat) : Int) := by
  have := cpl_le a b
  exact alike_loop a b ha (cpl a b) k 0 (by omega) (by omega) (by omega)
def far (l0 l1 : List Int) (j i : Nat) : Nat := cpl (l0.drop i) (l1.drop j)
theorem far_le (l0 l1 : List Int) (j i : Nat) : far l0 l1 j i ≤ l0.length - i ∧ far l0 l1 j i ≤ l1.length - j := by
  have := cpl_le (l0.drop i) (l1.drop j)
  rw [List.length_drop, List.length_drop] at this
  exact this
def step (l0 l1 : List Int) (j : Nat) (s : Int × Int) (z : Int) : Int × Int := if ((far l0 l1 j z.toNat : Nat) : Int) > s.2 then (z, ((far l0 l1 j z.toNat : Nat) : Int)) else s
theorem best_is (l0 l1 : List Int) (h0 : l0.length ≤ 2048) (j k : Nat) (hk : 2049 ≤ k) (zs : List Int) : ∀ s, best k l0 l1 j zs s = some (zs.foldl (step l0 l1 j) s) := by
  induction zs with
  | nil => intro s; rfl
  | cons z zs ih =>
    intro s
    rw [best, alike_is _ _ (by rw [List.length_drop]; omega) k hk, Option.bind_some, ih, List.foldl_cons]
    rfl
def Rel (s t : Int × Int) : Prop := (s.2 < 8 ∧ t = (0, 0)) ∨ (8 ≤ s.2 ∧ t = s)
def whole (l0 l1 : List Int) (j n : Nat) : Int × Int := ((List.range n).map (fun i : Nat => (i : Int))).foldl (step l0 l1 j) (0, 0)
theorem whole_succ (l0 l1 : List Int) (j n : Nat) : whole l0 l1 j (n + 1) = step l0 l1 j (whole l0 l1 j n) (n : Int) := by
  unfold whole
  rw [List.range_succ, List.map_append, List.foldl_append]
  rfl
theorem whole_bd (l0 l1 : List Int) (j n : Nat) : 0 ≤ (whole l0 l1 j n).2 ∧ (whole l0 l1 j n).2 ≤ ((l1.length - j : Nat) : Int) ∧ 0 ≤ (whole l0 l1 j n).1 := by
  induction n with
  | zero => exact ⟨Int.le_refl _, by show (0 : Int) ≤ _; omega, Int.le_refl _⟩
  | succ n ih =>
    rw [whole_succ]
    unfold step
    have := far_le l0 l1 j (n : Int).toNat
    split
    · exact ⟨by show (0 : Int) ≤ ((far _ _ _ _ : Nat) : Int); omega, by show ((far _ _ _ _ : Nat) : Int) ≤ _; omega, by show (0 : Int) ≤ (n : Int); omega⟩
    · exact ih
theorem run_iff (l0 l1 : List Int) (i j : Nat) (hi : i + 8 ≤ l0.length) (hj : j + 8 ≤ l1.length) : run8 l0 i = run8 l1 j ↔ 8 ≤ far l0 l1 j i := by
  have e : ∀ (l : List Int) (i : Nat), run8 l i = (l.drop i).take 8 := by
    intro l i
    unfold run8
    rw [List.drop_take]
    congr 1
    omega
  rw [e, e]
  exact cpl_take 8 _ _ (by rw [List.length_drop]; omega) (by rw [List.length_drop]; omega)
theorem rel_small (s t : Int × Int) (l0 l1 : List Int) (j i : Nat) (h : Rel s t) (hf : far l0 l1 j i < 8) : Rel (step l0 l1 j s (i : Int)) t := by
  unfold step
  rw [Int.toNat_natCast]
  split
  · rename_i hc
    rcases h with ⟨h1, h2⟩ | ⟨h1, h2⟩
    · exact .inl ⟨by show ((far _ _ _ _ : Nat) : Int) < 8; omega, h2⟩
    · omega
  · exact h
theorem rel_great (s t : Int × Int) (l0 l1 : List Int) (j i : Nat) (h : Rel s t) (hf : 8 ≤ far l0 l1 j i) : Rel (step l0 l1 j s (i : Int)) (step l0 l1 j t (i : Int)) := by
  unfold step
  rw [Int.toNat_natCast]
  rcases h with ⟨h1, rfl⟩ | ⟨h1, rfl⟩
  · rw [if_pos (by omega), if_pos (by show _ > (0 : Int); omega)]
    exact .inr ⟨by show (8 : Int) ≤ ((far _ _ _ _ : Nat) : Int); omega, rfl⟩
  · split
    · exact .inr ⟨by show (8 : Int) ≤ ((far _ _ _ _ : Nat) : Int); omega, rfl⟩
    · exact .inr ⟨h1, rfl⟩
theorem rel_idx (l0 l1 : List Int) (j : Nat) (hj : j + 8 ≤ l1.length) (n : Nat) : n ≤ l0.length - 7 → Rel (whole l0 l1 j n) ((idx l0 (run8 l1 j) n).foldl (step l0 l1 j) (0, 0)) := by
  induction n with
  | zero => intro _; exact .inl ⟨by show (0 : Int) < 8; decide, rfl⟩
  | succ n ih =>
    intro hn
    rw [whole_succ]
    by_cases hr : run8 l0 n = run8 l1 j
    · rw [idx_hit _ _ _ hr, List.foldl_append]
      exact rel_great _ _ _ _ _ _ (ih (by omega)) ((run_iff l0 l1 n j (by omega) hj).1 hr)
    · rw [idx_miss _ _ _ hr]
      refine rel_small _ _ _ _ _ _ (ih (by omega)) ?_
      have := mt (run_iff l0 l1 n j (by omega) hj).2 hr
      omega
theorem rel_more (l0 l1 : List Int) (j m d : Nat) (t : Int × Int) (hm : l0.length ≤ m + 7) (h : Rel (whole l0 l1 j m) t) : Rel (whole l0 l1 j (m + d)) t := by
  induction d with
  | zero => exact h
  | succ d ih =>
    rw [show m + (d + 1) = m + d + 1 by omega, whole_succ]
    refine rel_small _ _ _ _ _ _ ih ?_
    have := far_le l0 l1 j (m + d)
    omega
theorem rel_all (l0 l1 : List Int) (j : Nat) (hj : j + 8 ≤ l1.length) : Rel (whole l0 l1 j l0.length) ((idx l0 (run8 l1 j) (l0.length - 7)).foldl (step l0 l1 j) (0, 0)) := by
  have h := rel_more l0 l1 j (l0.length - 7) (l0.length - (l0.length - 7)) _ (by omega) (rel_idx l0 l1 j hj (l0.length - 7) (Nat.le_refl _))
  rwa [show l0.length - 7 + (l0.length - (l0.length - 7)) = l0.length by omega] at h
theorem rel_end (l0 l1 : List Int) (j : Nat) (hj : ¬ j + 8 ≤ l1.length) (n : Nat) : Rel (whole l0 l1 j n) (0, 0) := by
  have := whole_bd l0 l1 j n
  exact .inl ⟨by omega, rfl⟩
/-! ### the reference -/
theorem ref_l2 (l0 l1 : List Int) (h0 : l0.length ≤ 2048) (h1 : l1.length ≤ 2048) (R : List Pc × Int) (o : List Pc) (fl : Bool) (j i : Nat) (hi : i < l0.length) (hj : j < l1.length) (s : Int × Int) (d : Nat) : ∀ n : Nat, far l0 l1 j i - n = d → n ≤ far l0 l1 j i → (∃ k, packthreadref_DeltaOf.l1 k l0 l1 o fl (j : Int) (step l0 l1 j s (i : Int)).1 (step l0 l1 j s (i : Int)).2 ((i + 1 : Nat) : Int) = some R) → ∃ k, packthreadref_DeltaOf.l2 k l0 l1 o fl (j : Int) s.1 s.2 (i : Int) (n : Int) = some R := by
  have hf := far_le l0 l1 j i
  induction d with
  | zero =>
    intro n hd hn hk
    obtain ⟨k, hk⟩ := hk
    refine ⟨k + 1, ?_⟩
    have e : n = far l0 l1 j i := by omega
    rw [packthreadref_DeltaOf.l2, show wrap64 ((i : Int) + (n : Int)) = ((i + n : Nat) : Int) by rw [w64 (by omega) (by omega)]; omega, show wrap64 ((j : Int) + (n : Int)) = ((j + n : Nat) : Int) by rw [w64 (by omega) (by omega)]; omega, show wrap64 ((i : Int) + 1) = ((i + 1 : Nat) : Int) by rw [w64 (by omega) (by omega)]; omega]
    have hEnd : (if (n : Int) > s.2 then packthreadref_DeltaOf.l1 k l0 l1 o fl (j : Int) (i : Int) (n : Int) ((i + 1 : Nat) : Int) else packthreadref_DeltaOf.l1 k l0 l1 o fl (j : Int) s.1 s.2 ((i + 1 : Nat) : Int)) = some R := by
      rw [← hk]
      unfold step
      rw [Int.toNat_natCast, ← e]
      split <;> rfl
    by_cases c1 : ((i + n : Nat) : Int) < (l0.length : Int)
    · rw [if_pos c1]
      by_cases c2 : ((j + n : Nat) : Int) < (l1.length : Int)
      · rw [if_pos c2, if_pos (by omega), if_pos (by omega), if_neg (by
          rw [rd_drop, rd_drop, e]
          exact cpl_ne (l0.drop i) (l1.drop j) (by rw [List.length_drop]; show far l0 l1 j i < _; omega) (by rw [List.length_drop]; show far l0 l1 j i < _; omega))]
        exact hEnd
      · rw [if_neg c2]
        exact hEnd
    · rw [if_neg c1]
      exact hEnd
  | succ d ih =>
    intro n hd hn hk
    obtain ⟨k, hk⟩ := ih (n + 1) (by omega) (by omega) hk
    refine ⟨k + 1, ?_⟩
    rw [packthreadref_DeltaOf.l2, show wrap64 ((i : Int) + (n : Int)) = ((i + n : Nat) : Int) by rw [w64 (by omega) (by omega)]; omega, show wrap64 ((j : Int) + (n : Int)) = ((j + n : Nat) : Int) by rw [w64 (by omega) (by omega)]; omega, show wrap64 ((n : Int) + 1) = ((n + 1 : Nat) : Int) by rw [w64 (by omega) (by omega)]; omega]
    rw [if_pos (by omega), if_pos (by omega), if_pos (by omega), if_pos (by omega), if_pos (by rw [rd_drop, rd_drop]; exact cpl_eq (l0.drop i) (l1.drop j) n (by show n < far l0 l1 j i; omega))]
    exact hk
theorem ref_l1 (l0 l1 : List Int) (h0 : l0.length ≤ 2048) (h1 : l1.length ≤ 2048) (R : List Pc × Int) (o : List Pc) (fl : Bool) (j : Nat) (hj : j < l1.length) (hEnd : ∃ k, packthreadref_DeltaOf.l1 k l0 l1 o fl (j : Int) (whole l0 l1 j l0.length).1 (whole l0 l1 j l0.length).2 (l0.length : Int) = some R) (d : Nat) : ∀ i : Nat, l0.length - i = d → i ≤ l0.length → ∃ k, packthreadref_DeltaOf.l1 k l0 l1 o fl (j : Int) (whole l0 l1 j i).1 (whole l0 l1 j i).2 (i : Int) = some R := by
  induction d with
  | zero =>
    intro i hd hi
    have e : i = l0.length := by omega
    subst e
    exact hEnd
  | succ d ih =>
    intro i hd hi
    have hk := ih (i + 1) (by omega) (by omega)
    rw [whole_succ] at hk
    obtain ⟨k, hk⟩ := ref_l2 l0 l1 h0 h1 R o fl j i (by omega) hj (whole l0 l1 j i) (far l0 l1 j i) 0 (by omega) (by omega) hk
    refine ⟨k + 1, ?_⟩
    rw [packthreadref_DeltaOf.l1, if_pos (by omega)]
    exact hk
theorem ref_l0 (l0 l1 : List Int) (h0 : l0.length ≤ 2048) (h1 : l1.length ≤ 2048) (R : List Pc × Int) (o : List Pc) (fl : Bool) (j : Nat) (hj : j < l1.length) (hEnd : ∃ k, packthreadref_DeltaOf.l1 k l0 l1 o fl (j : Int) (whole l0 l1 j l0.length).1 (whole l0 l1 j l0.length).2 (l0.length : Int) = some R) : ∃ k, packthreadref_DeltaOf.l0 k l0 l1 o fl (j : Int) = some R := by
  obtain ⟨k, hk⟩ := ref_l1 l0 l1 h0 h1 R o fl j hj hEnd l0.length 0 (by omega) (by omega)
  refine ⟨k + 1, ?_⟩
  rw [packthreadref_DeltaOf.l0, if_pos (by omega)]
  exact hk
/-- What is put behind a list of pieces. -/
theorem push_eq (y : List Pc) (x : Int) (hp : 0 < y.length) : y.set ((y.length : Int) - 1).toNat (⟨(rd_T96 y ((y.length : Int) - 1)).f0, (rd_T96 y ((y.length : Int) - 1)).f1, (rd_T96 y ((y.length : Int) - 1)).f2, (rd_T96 y ((y.length : Int) - 1)).f3 ++ [x]⟩ : Pc) = push y x := by
  unfold push
  rw [show ((y.length : Int) - 1).toNat = y.length - 1 by omega]
theorem last_mem (y : List Pc) (hp : 0 < y.length) : rd_T96 y ((y.length : Int) - 1) ∈ y := by
  unfold rd_T96
  rw [show ((y.length : Int) - 1).toNat = y.length - 1 by omega, List.getD_eq_getElem?_getD, List.getElem?_eq_getElem (by omega)]
  exact List.getElem_mem _
theorem fresh_inv (o : List Pc) (j : Nat) (h : o.length ≤ j) (hf : ∀ p ∈ o, p.f3.length ≤ j) : (fresh o).length ≤ j + 1 ∧ ∀ p ∈ fresh o, p.f3.length ≤ j := by
  unfold fresh
  split
  · refine ⟨by rw [List.length_append]; simp only [List.length_cons, List.length_nil]; omega, ?_⟩
    intro p hp
    rcases List.mem_append.1 hp with hp | hp
    · exact hf p hp
    · rw [List.mem_singleton.1 hp]; simp
  · exact ⟨by omega, hf⟩
theorem fresh_last (o : List Pc) : (rd_T96 (fresh o) (((fresh o).length : Int) - 1)).f0 = false := by
  unfold fresh
  split
  · rw [List.length_append]
    unfold rd_T96
    rw [show ((o.length + [(⟨false, 0, 0, []⟩ : Pc)].length : Nat) : Int) - 1 = (o.length : Int) by simp only [List.length_cons, List.length_nil]; omega, Int.toNat_natCast, List.getD_eq_getElem?_getD, List.getElem?_append_right (Nat.le_refl _), Nat.sub_self]
    rfl
  · rename_i h
    unfold lastCopy at h
    simp only [Bool.or_eq_true, not_or] at h
    exact Bool.eq_false_iff.2 h.2
theorem push_inv (o : List Pc) (x : Int) (j : Nat) (h : o.length ≤ j) (hf : ∀ p ∈ o, p.f3.length ≤ j) : (push (fresh o) x).length ≤ j + 1 ∧ (∀ p ∈ push (fresh o) x, p.f3.length ≤ j + 1) ∧ lastCopy (push (fresh o) x) = false := by
  obtain ⟨h1, h2⟩ := fresh_inv o j h hf
  have hp := fresh_pos o
  refine ⟨by unfold push; rw [List.length_set]; exact h1, ?_, ?_⟩
  · intro p hq
    unfold push at hq
    rcases List.mem_or_eq_of_mem_set hq with hq | rfl
    · have := h2 p hq; omega
    · have := h2 _ (last_mem (fresh o) hp)
      simp only [List.length_append, List.length_cons, List.length_nil]
      omega
  · have hl : (push (fresh o) x).length = (fresh o).length := by unfold push; rw [List.length_set]
    unfold lastCopy
    rw [hl]
    simp only [Bool.or_eq_false_iff]
    refine ⟨beq_eq_false_iff_ne.2 (by omega), ?_⟩
    have e : rd_T96 (push (fresh o) x) (((fresh o).length : Int) - 1) = ⟨(rd_T96 (fresh o) (((fresh o).length : Int) - 1)).f0, (rd_T96 (fresh o) (((fresh o).length : Int) - 1)).f1, (rd_T96 (fresh o) (((fresh o).length : Int) - 1)).f2, (rd_T96 (fresh o) (((fresh o).length : Int) - 1)).f3 ++ [x]⟩ := by
      conv => lhs; unfold rd_T96 push
      rw [show (((fresh o).length : Int) - 1).toNat = (fresh o).length - 1 by omega, List.getD_eq_getElem?_getD, List.getElem?_set_self (by omega)]
      rfl
    rw [e]
    exact fresh_last o
theorem copy_last (o : List Pc) (p : Pc) (hp : p.f0 = true) : lastCopy (o ++ [p]) = true := by
  unfold lastCopy rd_T96
  rw [List.length_append, show ((o.length + [p].length : Nat) : Int) - 1 = (o.length : Int) by simp only [List.length_cons, List.length_nil]; omega, Int.toNat_natCast, List.getD_eq_getElem?_getD, List.getElem?_append_right (Nat.le_refl _), Nat.sub_self]
  simp [hp]
theorem more (l0 l1 : List Int) (o : List Pc) (x : Int) (R : List Pc × Int) (k : Nat) (h : delta_Delta.l0 k l0 l1 o x = some R) (m : Nat) : delta_Delta.l0 (k + m) l0 l1 o x = some R := by
  induction m with
  | zero => exact h
  | succ m ih => exact delta_Delta.mono_l _ _ _ _ _ _ ih
theorem both (l0 l1 : List Int) (h0 : l0.length ≤ 2048) (h1 : l1.length ≤ 2048) (d : Nat) : ∀ (j : Nat) (o : List Pc), l1.length - j = d → j ≤ l1.length → o.length ≤ j → (∀ p ∈ o, p.f3.length ≤ j) →
    ∃ R : List Pc, R.length ≤ 2048 ∧ (∀ p ∈ R, p.f3.length ≤ 2048) ∧ (∃ k, delta_Delta.l0 k l0 l1 o (j : Int) = some (R, 0)) ∧ ∃ k, packthreadref_DeltaOf.l0 k l0 l1 o (lastCopy o) (j : Int) = some (R, 0) := by
  induction d using Nat.strongRecOn with
  | ind d ih =>
    intro j o hd hj ho hof
    by_cases hlt : j < l1.length
    case neg =>
      refine ⟨o, by omega, fun p hp => Nat.le_trans (hof p hp) (by omega), ⟨1, ?_⟩, ⟨1, ?_⟩⟩
      · rw [delta_Delta.l0, if_neg (by omega)]
      · rw [packthreadref_DeltaOf.l0, if_neg (by omega)]
    have hbd := whole_bd l0 l1 j l0.length
    obtain ⟨M, hM⟩ : ∃ M : Nat, 2049 ≤ M := ⟨2049, Nat.le_refl _⟩
    have hj1 : (j : Int) + 1 = ((j + 1 : Nat) : Int) := by omega
    have hcode : ∃ t : Int × Int, Rel (whole l0 l1 j l0.length) t ∧ ∀ k, 2049 ≤ k → (if (j : Int) + 8 ≤ (l1.length : Int) then best k l0 l1 ((j : Int)).toNat (idx l0 (run8 l1 ((j : Int)).toNat) (l0.length - 7)) (0, 0) else some (0, 0)) = some t := by
      by_cases h8 : j + 8 ≤ l1.length
      · refine ⟨_, rel_all l0 l1 j h8, fun k hk => ?_⟩
        rw [if_pos (by omega), Int.toNat_natCast, best_is l0 l1 h0 j k hk]
      · refine ⟨_, rel_end l0 l1 j h8 _, fun k hk => ?_⟩
        rw [if_neg (by omega)]
    obtain ⟨t, hrel, hbest⟩ := hcode
    rcases hrel with ⟨hs, rfl⟩ | ⟨hs, rfl⟩
    · obtain ⟨i1, i2, i3⟩ := push_inv o (rd l1 (j : Int)) j ho hof
      obtain ⟨R, hR1, hR2, ⟨k, hk⟩, ⟨k', hk'⟩⟩ := ih (l1.length - (j + 1)) (by omega) (j + 1) (push (fresh o) (rd l1 (j : Int))) rfl (by omega) i1 i2
      rw [i3] at hk'
      obtain ⟨f1, f2⟩ := fresh_inv o j ho hof
      have fp := fresh_pos o
      have fl := f2 _ (last_mem (fresh o) fp)
      refine ⟨R, hR1, hR2, ⟨k + M + 1, ?_⟩, ?_⟩
      · rw [delta_Delta.l0, if_pos (by omega), if_pos (by omega), hbest (k + M) (by omega), Option.bind_some, if_neg (by simp), if_pos (by omega), if_pos (by omega), hj1]
        exact more _ _ _ _ _ _ hk _
      · refine ref_l0 l0 l1 h0 h1 _ o _ j hlt ⟨k' + 1, ?_⟩
        rw [packthreadref_DeltaOf.l1, if_neg (by omega), if_neg (by omega)]
        have hw := Aside0.mk (show wrap64 ((j : Int) + 1) = ((j + 1 : Nat) : Int) by rw [w64 (by omega) (by omega)]; omega)
        by_cases hc : lastCopy o = true
        · have hfr : fresh o = o ++ [(⟨false, 0, 0, []⟩ : Pc)] := by unfold fresh; rw [if_pos hc]
          rw [if_pos hc, if_pos (by omega), Option.bind_some]
          rw [hfr] at f1 fp fl hk'
          have hwl : wrap64 (((o ++ [(⟨false, 0, 0, []⟩ : Pc)]).length : Int) - 1) = ((o ++ [(⟨false, 0, 0, []⟩ : Pc)]).length : Int) - 1 := w64 (by omega) (by omega)
          rw [hwl]
          clear hwl
          rw [if_pos (by omega), if_pos (by omega), if_pos (by omega), if_pos (by omega), if_pos (by omega), push_eq _ _ fp, hw.out]
          exact hk'
        · have hfr : fresh o = o := by unfold fresh; rw [if_neg hc]
          rw [if_neg hc]
          rw [hfr] at f1 fp fl hk'
          have hwl : wrap64 ((o.length : Int) - 1) = (o.length : Int) - 1 := w64 (by omega) (by omega)
          rw [hwl]
          clear hwl
          rw [if_pos (by omega), if_pos (by omega), if_pos (by omega), if_pos (by omega), if_pos (by omega), push_eq _ _ fp, hw.out, Bool.eq_false_iff.2 hc]
          exact hk'
    · obtain ⟨s, hsd⟩ : ∃ s, whole l0 l1 j l0.length = s := ⟨_, rfl⟩
      rw [hsd] at hs hbest hbd
      obtain ⟨n, hn⟩ : ∃ n : Nat, s.2 = (n : Int) := ⟨_, (Int.toNat_of_nonneg hbd.1).symm⟩
      have hw := Aside0.mk (show wrap64 ((j : Int) + s.2) = ((j + n : Nat) : Int) by rw [hn, w64 (by omega) (by omega)]; omega)
      obtain ⟨R, hR1, hR2, ⟨k, hk⟩, ⟨k', hk'⟩⟩ := ih (l1.length - (j + n)) (by omega) (j + n) (o ++ [(⟨true, s.1, s.2, []⟩ : Pc)]) rfl (by omega) (by rw [List.length_append]; simp only [List.length_cons, List.length_nil]; omega) (fun p hp => by
        rcases List.mem_append.1 hp with hp | hp
        · have := hof p hp; omega
        · rw [List.mem_singleton.1 hp]; simp)
      rw [copy_last _ _ rfl] at hk'
      refine ⟨R, hR1, hR2, ⟨k + M + 1, ?_⟩, ?_⟩
      · rw [delta_Delta.l0, if_pos (by omega), if_pos (by omega), hbest (k + M) (by omega), Option.bind_some, if_pos (by omega), if_pos (by omega), hw.out]
        exact more _ _ _ _ _ _ hk _
      · refine ref_l0 l0 l1 h0 h1 _ o _ j hlt ⟨k' + 1, ?_⟩
        rw [hsd, packthreadref_DeltaOf.l1, if_neg (by omega), if_pos (by omega), if_pos (by omega), hw.out]
        exact hk'
theorem pieces_loop (l : List Pc) (hl : l.length ≤ 2048) (hd : ∀ p ∈ l, p.f3.length ≤ 2048) (d : Nat) : ∀ (k i : Nat), l.length - i = d → i ≤ l.length → d + 2050 < k → packthreadlaw_samePieces.l0 k l l (i : Int) = some true := by
  induction d with
  | zero =>
    intro k i hd hi hk
    obtain ⟨k, rfl⟩ : ∃ m, k = m + 1 := ⟨k - 1, by omega⟩
    rw [packthreadlaw_samePieces.l0, if_neg (by omega)]
  | succ d ih =>
    intro k i hdd hi hk
    obtain ⟨k, rfl⟩ : ∃ m, k = m + 1 := ⟨k - 1, by omega⟩
    have hm : rd_T96 l (i : Int) ∈ l := by
      unfold rd_T96
      rw [Int.toNat_natCast, List.getD_eq_getElem?_getD, List.getElem?_eq_getElem (by omega)]
      exact List.getElem_mem _
    have hf := hd _ hm
    rw [packthreadlaw_samePieces.l0, if_pos (by omega), if_pos (by omega), if_pos (by omega), if_neg (by simp), if_pos rfl, if_pos rfl, same_all _ (by omega) _ (by omega), Option.bind_some, if_pos rfl, w64 (by omega) (by omega)]
    exact ih k (i + 1) (by omega) (by omega) (by omega)
theorem pieces_all (l : List Pc) (hl : l.length ≤ 2048) (hd : ∀ p ∈ l, p.f3.length ≤ 2048) (k : Nat) (hk : 4100 < k) : packthreadlaw_samePieces.f k l l = some true := by
  unfold packthreadlaw_samePieces.f
  rw [if_pos rfl]
  exact pieces_loop l hl hd l.length k 0 (by omega) (by omega) (by omega)
theorem up {α : Type} {F : Nat → Option α} (hm : ∀ k, LeO (F k) (F (k + 1))) {k : Nat} {r : α} (h : F k = some r) (m : Nat) : F (k + m) = some r := by
  induction m with
  | zero => exact h
  | succ m ih => exact hm _ _ ih
theorem byte_all {l : List Int} (h : ∀ x ∈ l, (Lit.int .u8 x).wf = true) : byteB l = true := by
  unfold byteB
  rw [List.all_eq_true]
  intro x hx
  have := wf8 (h x hx)
  simp only [Bool.and_eq_true, decide_eq_true_eq]
  exact this
theorem join (a b : List Int) (R : List Pc × Int) (k1 k2 k3 : Nat) (e1 : delta_Delta.f k1 a b = some R) (e2 : packthreadref_DeltaOf.f k2 a b = some R) (e3 : packthreadlaw_samePieces.f k3 R.1 R.1 = some true) : ∃ k, packthreadlaw_DeltaDeltas.f k a b = some true := by
  refine ⟨k1 + k2 + k3, ?_⟩
  have f1 := up (F := fun k => delta_Delta.f k a b) (fun k => delta_Delta.mono _ _ k) e1 (k2 + k3)
  have f2 := up (F := fun k => packthreadref_DeltaOf.f k a b) (fun k => packthreadref_DeltaOf.mono _ _ k) e2 (k1 + k3)
  have f3 := up (F := fun k => packthreadlaw_samePieces.f k R.1 R.1) (fun k => packthreadlaw_samePieces.mono _ _ k) e3 (k1 + k2)
  replace f1 : delta_Delta.f (k1 + (k2 + k3)) a b = some R := f1
  replace f2 : packthreadref_DeltaOf.f (k2 + (k1 + k3)) a b = some R := f2
  replace f3 : packthreadlaw_samePieces.f (k3 + (k1 + k2)) R.1 R.1 = some true := f3
  rw [show k1 + (k2 + k3) = k1 + k2 + k3 by omega] at f1
  rw [show k2 + (k1 + k3) = k1 + k2 + k3 by omega] at f2
  rw [show k3 + (k1 + k2) = k1 + k2 + k3 by omega] at f3
  unfold packthreadlaw_DeltaDeltas.f
  rw [f1, Option.bind_some, f2, Option.bind_some, f3, Option.bind_some, if_pos rfl]
  simp
theorem DeltaDeltas (a b : List Int) (ha : a.length * 1 ≤ 140737488351232 ∧ ∀ x ∈ a, (Lit.int .u8 x).wf = true) (hb : b.length * 1 ≤ 140737488351232 ∧ ∀ x ∈ b, (Lit.int .u8 x).wf = true) : ∃ k, packthreadlaw_DeltaDeltas.f k a b = some true := by
  obtain ⟨K, hK⟩ : ∃ K : Nat, 4100 < K := ⟨4101, by omega⟩
  have hbb : byteB a = true ∧ byteB b = true := ⟨byte_all ha.2, byte_all hb.2⟩
  by_cases h0 : (a.length : Int) > 2048
  · refine join a b ([], 1) 1 1 K ?_ ?_ (pieces_all [] (by simp) (by simp) K hK)
    · unfold delta_Delta.f; rw [if_pos hbb, if_pos h0]
    · unfold packthreadref_DeltaOf.f; rw [if_pos h0, packthreadref_DeltaOf.j0, if_pos rfl]
  · by_cases h1 : (b.length : Int) > 2048
    · refine join a b ([], 1) 1 1 K ?_ ?_ (pieces_all [] (by simp) (by simp) K hK)
      · unfold delta_Delta.f; rw [if_pos hbb, if_neg h0, if_pos h1]
      · unfold packthreadref_DeltaOf.f; rw [if_neg h0, packthreadref_DeltaOf.j0, if_pos (decide_eq_true h1)]
    · obtain ⟨R, hR1, hR2, ⟨k, hk⟩, ⟨k', hk'⟩⟩ := both a b (by omega) (by omega) b.length 0 [] (by omega) (by omega) (by simp) (by simp)
      refine join a b (R, 0) k (k' + 1) K ?_ ?_ (pieces_all R hR1 hR2 K hK)
      · unfold delta_Delta.f; rw [if_pos hbb, if_neg h0, if_neg h1]; exact hk
      · unfold packthreadref_DeltaOf.f; rw [if_neg h0, packthreadref_DeltaOf.j0, if_neg (by rw [decide_eq_false h1]; simp)]; exact hk'
end Go.Proofs.Ytjhmjgcebijmiaa.Pure
