/- hole.Sacks answers what its reference answers, at every three whole numbers of 64 bits and every slice of ranges; no further condition. -/
import Derived.Test.YtbbohccnhcfmnabHHoleSacksx
import Derived.Test.YtbbohccnhcfmnabHelp
namespace Go.Proofs.Ytbbohccnhcfmnab.Pure
open Go.RowKit Go.Proofs.Ytbbohccnhcfmnab.HHoleSacks Go.Proofs.YtbbohccnhcfmnabW.PrintWords Go.Proofs.YtbbohccnhcfmnabW.PrintLast Go.Proofs.Ytbbohccnhcfmnab.Help
set_option linter.unusedSimpArgs false
set_option linter.unusedVariables false

/-- Ranges that may be, from a place on. -/
def okR : Int → List S108 → Bool
  | _, [] => true
  | low, r :: l => decide (low < r.f0) && decide (r.f0 < r.f1) && okR r.f1 l
def lastR : Int → List S108 → Int
  | low, [] => low
  | _, r :: l => lastR r.f1 l
theorem okR_last (low : Int) (l : List S108) (h : okR low l = true) : low ≤ lastR low l := by
  induction l generalizing low with
  | nil => simp [lastR]
  | cons r l ih =>
    simp only [okR, Bool.and_eq_true, decide_eq_true_eq] at h
    have := ih r.f1 h.2
    simp only [lastR]
    omega
def mayB (a : Int) (l : List S108) : Bool := okR a l && decide (a ≥ 0) && decide (lastR a l ≤ 1048576) && decide (a ≤ 1048576) && decide (l.length ≤ 16)
theorem rdT (l : List S108) (i : Nat) (x : S108) (t : List S108) (h : l.drop i = x :: t) : rd_T108 l (i : Int) = x ∧ l.drop (i + 1) = t ∧ i < l.length := by
  have hl : i < l.length := by
    rcases Nat.lt_or_ge i l.length with h1 | h1
    · exact h1
    · rw [List.drop_eq_nil_of_le h1] at h; cases h
  have h2 := List.drop_eq_getElem_cons hl
  rw [h] at h2
  injection h2 with h3 h4
  exact ⟨by simp [rd_T108, List.getD_eq_getElem?_getD, List.getElem?_eq_getElem hl, h3], h4.symm, hl⟩
theorem own_loop (a : Int) (l : List S108) (hl : l.length ≤ 140737488351232) (t : List S108) : ∀ (k i : Nat) (low : Int), l.drop i = t → i ≤ l.length → t.length < k →
    hole_May.l0 k a l low l (l.length : Int) (i : Int) = some (okR low t && decide (a ≥ 0) && decide (lastR low t ≤ 1048576) && decide (a ≤ 1048576) && decide (l.length ≤ 16)) := by
  induction t with
  | nil =>
    intro k i low ht hi hk
    obtain ⟨k, rfl⟩ : ∃ m, k = m + 1 := ⟨k - 1, by omega⟩
    have : l.length ≤ i := by simpa using ht
    simp only [hole_May.l0]
    rw [if_neg (by omega)]
    by_cases h1 : a ≥ 0
    · by_cases h2 : low ≤ 1048576
      · by_cases h3 : a ≤ 1048576
        · simp [h1, h2, h3, okR, lastR]
          omega
        · simp [h1, h2, h3, okR, lastR]
      · simp [h1, h2, okR, lastR]
    · simp [h1, okR, lastR]
  | cons x t ih =>
    intro k i low ht hi hk
    obtain ⟨k, rfl⟩ : ∃ m, k = m + 1 := ⟨k - 1, by omega⟩
    obtain ⟨h1, h2, h3⟩ := rdT l i x t ht
    have hn := ih k (i + 1) x.f1 h2 (by omega) (by simpa using hk)
    simp only [hole_May.l0]
    rw [if_pos (by omega), if_pos (by omega), if_pos (by omega), h1, w64 (by omega) (by omega), show ((i : Int) + 1) = ((i + 1 : Nat) : Int) by omega, hn]
    rw [show okR low (x :: t) = (decide (low < x.f0) && decide (x.f0 < x.f1) && okR x.f1 t) from rfl, show lastR low (x :: t) = lastR x.f1 t from rfl]
    by_cases h4 : x.f0 ≤ low
    · simp [h4, show ¬ low < x.f0 by omega]
    · by_cases h5 : x.f0 ≥ x.f1
      · simp [h4, h5, show ¬ x.f0 < x.f1 by omega]
      · simp [h4, h5, show low < x.f0 by omega, show x.f0 < x.f1 by omega]
theorem may_own (a : Int) (l : List S108) (hl : l.length ≤ 140737488351232) (k : Nat) (hk : l.length < k) : hole_May.f k a l = some (mayB a l) := by
  have := own_loop a l hl l k 0 a rfl (by omega) hk
  simpa [hole_May.f, mayB] using this
theorem ref_loop (a : Int) (l : List S108) (hl : l.length ≤ 140737488351232) (t : List S108) : ∀ (k i : Nat) (low : Int), l.drop i = t → i ≤ l.length → low ≤ 1048576 → low = (if 0 < i then (rd_T108 l ((i : Int) - 1)).f1 else a) → t.length < k →
    packthreadref_HoleMay.l0 k a l l (l.length : Int) (i : Int) = some (okR low t && decide (lastR low t ≤ 1048576)) := by
  induction t with
  | nil =>
    intro k i low ht hi hlow he hk
    obtain ⟨k, rfl⟩ : ∃ m, k = m + 1 := ⟨k - 1, by omega⟩
    have : l.length ≤ i := by simpa using ht
    simp only [packthreadref_HoleMay.l0]
    rw [if_neg (by omega)]
    simp [okR, lastR, hlow]
  | cons x t ih =>
    intro k i low ht hi hlow he hk
    obtain ⟨k, rfl⟩ : ∃ m, k = m + 1 := ⟨k - 1, by omega⟩
    obtain ⟨h1, h2, h3⟩ := rdT l i x t ht
    simp only [packthreadref_HoleMay.l0]
    rw [if_pos (by omega), if_pos (by omega), if_pos (by omega), h1, w64 (x := (i : Int) + 1) (by omega) (by omega), w64 (x := (i : Int) - 1) (by omega) (by omega)]
    have key : (if x.f0 ≤ low then some false else if x.f1 ≤ x.f0 then some false else if x.f1 > 1048576 then some false else packthreadref_HoleMay.l0 k a l l (l.length : Int) ((i : Int) + 1)) = some (okR low (x :: t) && decide (lastR low (x :: t) ≤ 1048576)) := by
      rw [show okR low (x :: t) = (decide (low < x.f0) && decide (x.f0 < x.f1) && okR x.f1 t) from rfl, show lastR low (x :: t) = lastR x.f1 t from rfl]
      by_cases h4 : x.f0 ≤ low
      · simp [h4, show ¬ low < x.f0 by omega]
      · by_cases h5 : x.f1 ≤ x.f0
        · simp [h4, h5, show ¬ x.f0 < x.f1 by omega]
        · by_cases h6 : x.f1 > 1048576
          · rw [if_neg h4, if_neg h5, if_pos h6]
            cases hO : okR x.f1 t with
            | false => simp
            | true =>
              have := okR_last x.f1 t hO
              rw [decide_eq_false (show ¬ lastR x.f1 t ≤ 1048576 by omega), Bool.and_false]
          · have hn := ih k (i + 1) x.f1 h2 (by omega) (by omega) (by rw [if_pos (by omega), show ((i + 1 : Nat) : Int) - 1 = i by omega, h1]) (by simpa using hk)
            rw [if_neg h4, if_neg h5, if_neg h6, show ((i : Int) + 1) = ((i + 1 : Nat) : Int) by omega, hn]
            simp [show low < x.f0 by omega, show x.f0 < x.f1 by omega]
    by_cases h0 : 0 < i
    · rw [if_pos (by omega), if_pos (by omega), if_pos (by omega)]
      rw [if_pos h0] at he
      rw [← he]
      exact key
    · rw [if_neg (by omega)]
      rw [if_neg h0] at he
      subst he
      exact key
theorem may_ref (a : Int) (l : List S108) (hl : l.length ≤ 140737488351232) (k : Nat) (hk : l.length + 1 < k) : packthreadref_HoleMay.f k a l = some (mayB a l) := by
  obtain ⟨k, rfl⟩ : ∃ m, k = m + 1 := ⟨k - 1, by omega⟩
  simp only [packthreadref_HoleMay.f, packthreadref_HoleMay.j0, mayB]
  by_cases h1 : a < 0
  · simp [h1, show ¬ 0 ≤ a by omega]
  · by_cases h2 : a > 1048576
    · simp [h1, h2]
      omega
    · by_cases h3 : l.length > 16
      · simp [h1, h2, show ((l.length : Int) > 16) by omega]
        omega
      · have := ref_loop a l hl l k 0 a rfl (by omega) (by omega) (by simp) (by omega)
        rw [if_neg h1, if_neg h2, if_neg (by simp; omega)]
        simp only [Int.ofNat_zero] at this
        rw [this]
        simp [show 0 ≤ a by omega, show a ≤ 1048576 by omega, show l.length ≤ 16 by omega]

theorem same_loop (l : List S108) (hl : l.length ≤ 9223372036854775806) (d : Nat) : ∀ (k i : Nat), l.length - i = d → i ≤ l.length → d < k → packthreadlaw_sameRanges.l0 k l l (i : Int) = some true := by
  induction d with
  | zero =>
    intro k i hd hi hk
    obtain ⟨k, rfl⟩ : ∃ m, k = m + 1 := ⟨k - 1, by omega⟩
    simp only [packthreadlaw_sameRanges.l0]
    rw [if_neg (by omega)]
  | succ d ih =>
    intro k i hd hi hk
    obtain ⟨k, rfl⟩ : ∃ m, k = m + 1 := ⟨k - 1, by omega⟩
    simp only [packthreadlaw_sameRanges.l0]
    rw [if_pos (by omega), if_pos (by omega), if_pos (by omega), if_neg (by simp), w64 (by omega) (by omega)]
    exact ih k (i + 1) (by omega) (by omega) (by omega)
theorem same_all (l : List S108) (hl : l.length ≤ 9223372036854775806) (k : Nat) (hk : l.length < k) : packthreadlaw_sameRanges.f k l l = some true := by
  simp only [packthreadlaw_sameRanges.f]
  rw [if_pos trivial]
  exact same_loop l hl l.length k 0 (by omega) (by omega) hk

abbrev RG := S108
theorem okR_above {low : Int} {l : List RG} (h : okR low l = true) : ∀ y ∈ l, low < y.f0 := by
  induction l generalizing low with
  | nil => intro y hy; simp at hy
  | cons x t ih =>
    simp only [okR, Bool.and_eq_true, decide_eq_true_eq] at h
    intro y hy
    rcases List.mem_cons.1 hy with rfl | hy
    · omega
    · have := ih h.2 y hy
      omega
theorem one_in {low a : Int} {l : List RG} (h : okR low l = true) : l.filter (inn a) = [] ∨ ∃ x, l.filter (inn a) = [x] := by
  induction l generalizing low with
  | nil => exact .inl rfl
  | cons x t ih =>
    have h' := h
    simp only [okR, Bool.and_eq_true, decide_eq_true_eq] at h
    cases hx : inn a x with
    | false =>
      rw [List.filter_cons, if_neg (by simp [hx])]
      exact ih h.2
    | true =>
      rw [List.filter_cons, if_pos hx]
      have hab := okR_above (l := t) (low := x.f1) h.2
      have he : t.filter (inn a) = [] := by
        rw [List.filter_eq_nil_iff]
        intro y hy hy'
        have := hab y hy
        simp only [inn, Bool.and_eq_true, decide_eq_true_eq] at hx hy'
        omega
      exact .inr ⟨x, by rw [he]⟩
theorem upto_rev (l : List RG) : (upto l l.length).map (·.2) = l.reverse := by
  apply List.ext_getElem
  · simp [upto]
  · intro i h1 h2
    have hi : i < l.length := by simpa using h2
    rw [List.getElem_reverse]
    simp only [upto, List.map_map, List.getElem_map, List.getElem_range, Function.comp]
    unfold rd_T108
    rw [show ((l.length : Int) - 1 - (i : Int)).toNat = l.length - 1 - i by omega, List.getD_eq_getElem?_getD, List.getElem?_eq_getElem (by omega)]
    rfl
theorem ref_in (a n : Int) (l : List RG) (hl : l.length ≤ 16) (t : List RG) : ∀ (k i : Nat) (o : List RG), l.drop i = t → i ≤ l.length → o.length ≤ i → t.length < k →
    packthreadref_HoleSacks.l0 k l a n o l (l.length : Int) (i : Int) = packthreadref_HoleSacks.l1 (k - t.length - 1) l a n (o ++ t.filter (inn a)) ((l.length : Int) - 1) := by
  induction t with
  | nil =>
    intro k i o ht hi ho hk
    obtain ⟨k, rfl⟩ : ∃ m, k = m + 1 := ⟨k - 1, by omega⟩
    have : l.length ≤ i := by simpa using ht
    rw [packthreadref_HoleSacks.l0, if_neg (by omega), w64 (by omega) (by omega)]
    simp
  | cons x t ih =>
    intro k i o ht hi ho hk
    obtain ⟨k, rfl⟩ : ∃ m, k = m + 1 := ⟨k - 1, by omega⟩
    obtain ⟨h1, h2, h3⟩ := rdT l i x t ht
    have hn := fun o' ho' => ih k (i + 1) o' h2 (by omega) ho' (by simpa using hk)
    rw [packthreadref_HoleSacks.l0, if_pos (by omega), if_pos (by omega), if_pos (by omega), h1, w64 (by omega) (by omega), show ((i : Int) + 1) = ((i + 1 : Nat) : Int) by omega, hn o (by omega), hn (o ++ [(⟨x.f0, x.f1⟩ : RG)]) (by simp; omega)]
    have e : k + 1 - (x :: t).length - 1 = k - t.length - 1 := by simp only [List.length_cons]; omega
    rw [e]
    by_cases c1 : x.f0 ≤ a
    · rw [if_pos c1]
      by_cases c2 : a < x.f1
      · rw [if_pos c2, if_pos (by omega), List.filter_cons, if_pos (by simp [inn, c1, c2])]
        simp
      · rw [if_neg c2, List.filter_cons, if_neg (by simp [inn, c2])]
    · rw [if_neg c1, List.filter_cons, if_neg (by simp [inn, c1])]
theorem ref_out (a n : Int) (hn0 : 0 ≤ n) (l : List RG) (hl : l.length ≤ 16) (h1 : l.filter (inn a) = [] ∨ ∃ x, l.filter (inn a) = [x]) (i : Nat) : ∀ (k : Nat), i ≤ l.length → i < k →
    packthreadref_HoleSacks.l1 k l a n (l.filter (inn a) ++ (l.drop i).reverse.filter (fun x => !inn a x)) ((i : Int) - 1) = some ((l.filter (inn a) ++ l.reverse.filter (fun x => !inn a x)).take n.toNat, 0) := by
  have hF : (l.filter (inn a)).length ≤ l.length := List.length_filter_le _ _
  have hR : ∀ t : List RG, t.length ≤ l.length → (t.reverse.filter (fun x => !inn a x)).length ≤ l.length := fun t ht => by
    have := List.length_filter_le (fun x => !inn a x) t.reverse
    rw [List.length_reverse] at this
    omega
  induction i with
  | zero =>
    intro k hi hk
    obtain ⟨k, rfl⟩ : ∃ m, k = m + 1 := ⟨k - 1, by omega⟩
    rw [packthreadref_HoleSacks.l1, if_neg (by omega), List.drop_zero]
    by_cases hm : ((l.filter (inn a) ++ l.reverse.filter (fun x => !inn a x)).length : Int) > n
    · rw [if_pos hm, if_pos hn0, if_pos (by omega)]
    · rw [if_neg hm, List.take_of_length_le (by omega)]
  | succ i ih =>
    intro k hi hk
    obtain ⟨k, rfl⟩ : ∃ m, k = m + 1 := ⟨k - 1, by omega⟩
    have hlt : i < l.length := by omega
    have hd := List.drop_eq_getElem_cons hlt
    have hx : rd_T108 l (((i + 1 : Nat) : Int) - 1) = l[i] := by
      rw [show ((i + 1 : Nat) : Int) - 1 = (i : Int) by omega]
      unfold rd_T108
      rw [Int.toNat_natCast, List.getD_eq_getElem?_getD, List.getElem?_eq_getElem hlt]
      rfl
    have hm : l[i] ∈ l := List.getElem_mem hlt
    have hn := ih k (by omega) (by omega)
    rw [hd, List.reverse_cons, List.filter_append] at hn
    have hle := hR (l.drop (i + 1)) (by rw [List.length_drop]; omega)
    generalize l[i] = x at *
    rw [packthreadref_HoleSacks.l1, if_pos (by omega), hx, w64 (by omega) (by omega), show ((i + 1 : Nat) : Int) - 1 - 1 = (i : Int) - 1 by omega]
    have hA : (if (l.filter (inn a) ++ (l.drop (i + 1)).reverse.filter (fun x => !inn a x)).length < 8796093022208 then (packthreadref_HoleSacks.l1 k l a n ((l.filter (inn a) ++ (l.drop (i + 1)).reverse.filter (fun x => !inn a x)) ++ [(⟨x.f0, x.f1⟩ : RG)]) ((i : Int) - 1)) else none) =
        packthreadref_HoleSacks.l1 k l a n ((l.filter (inn a) ++ (l.drop (i + 1)).reverse.filter (fun x => !inn a x)) ++ [x]) ((i : Int) - 1) := by
      rw [if_pos (by rw [List.length_append]; omega)]
    cases hin : inn a x with
    | true =>
      have hin' := hin
      simp only [inn, Bool.and_eq_true, decide_eq_true_eq] at hin'
      rw [List.filter_cons, if_neg (by simp [hin]), List.filter_nil, List.append_nil] at hn
      have hxf : x ∈ l.filter (inn a) := List.mem_filter.2 ⟨hm, hin⟩
      have hf : l.filter (inn a) = [x] := by
        rcases h1 with h1 | ⟨y, h1⟩
        · rw [h1] at hxf; simp at hxf
        · rw [h1] at hxf ⊢; rw [List.mem_singleton.1 hxf]
      rw [hf] at hn ⊢
      have h0 : rd_T108 ([x] ++ (l.drop (i + 1)).reverse.filter (fun x => !inn a x)) 0 = x := rfl
      rw [if_neg (by simp; omega), if_pos (by omega), if_pos (by omega), if_pos (by simp), h0, if_neg (by simp), if_pos hin'.1, if_pos hin'.2]
      exact hn
    | false =>
      rw [List.filter_cons, if_pos (by simp [hin]), List.filter_nil, ← List.append_assoc] at hn
      rw [hA]
      have hA' := hn
      generalize l.filter (inn a) ++ (l.drop (i + 1)).reverse.filter (fun x => !inn a x) = o at *
      by_cases c0 : (o.length : Int) = 0
      · rw [if_pos c0, if_pos (by omega), if_pos (by omega)]
        exact hn
      · rw [if_neg c0, if_pos (by omega), if_pos (by omega), if_pos (by omega)]
        split
        · exact hn
        · split
          · split
            · rename_i c1 c2
              simp [inn, c1, c2] at hin
            · exact hn
          · exact hn
theorem HoleSacks (a : Int) (l : List S108) (b c : Int) (ha : (Lit.int .i64 a).wf = true) (hl : l.length * 16 ≤ 140737488351232 ∧ ∀ x ∈ l, (Lit.int .i64 x.f0).wf = true ∧ (Lit.int .i64 x.f1).wf = true) (hb : (Lit.int .i64 b).wf = true) (hc : (Lit.int .i64 c).wf = true) : ∃ k, packthreadlaw_HoleSacks.f k a l b c = some true := by
  refine ⟨2 * l.length + 100, ?_⟩
  unfold packthreadlaw_HoleSacks.f hole_Sacks.f packthreadref_HoleSacks.f
  rw [may_own a l (by omega) _ (by omega), may_ref a l (by omega) _ (by omega)]
  simp only [Option.bind_some]
  have hnil : ∀ e : Int, ((packthreadlaw_sameRanges.f (2 * l.length + 100) [] []).bind fun t => if t = true then some (e == e) else some false) = some true := fun e => by
    rw [same_all [] (by simp) _ (by simp)]
    simp
  cases hm : mayB a l with
  | false =>
    rw [if_neg (by simp), if_neg (by simp)]
    simp only [Option.bind_some]
    exact hnil 4
  | true =>
    rw [if_pos rfl, if_pos rfl]
    have hk : 2 * l.length + 100 = (2 * l.length + 99) + 1 := by omega
    by_cases h0 : c < 0
    · rw [if_pos h0, if_pos h0]
      rw [hk, packthreadref_HoleSacks.j0, if_pos rfl, ← hk]
      simp only [Option.bind_some]
      exact hnil 2
    · rw [if_neg h0, if_neg h0]
      by_cases h1 : c > 16
      · rw [if_pos h1]
        rw [hk, packthreadref_HoleSacks.j0, if_pos (decide_eq_true h1), ← hk]
        simp only [Option.bind_some]
        exact hnil 2
      · have hl16 : l.length ≤ 16 := by
          simp only [mayB, Bool.and_eq_true, decide_eq_true_eq] at hm
          omega
        have hok : okR a l = true := by
          simp only [mayB, Bool.and_eq_true, decide_eq_true_eq] at hm
          exact hm.1.1.1.1
        rw [if_neg h1, if_pos (by omega)]
        have h1f := one_in (a := b) hok
        have e1 := ref_in b c l hl16 l (2 * l.length + 99) 0 [] rfl (by omega) (by simp) (by omega)
        have e2 := ref_out b c (by omega) l hl16 h1f l.length (2 * l.length + 99 - l.length - 1) (by omega) (by omega)
        rw [List.drop_length, List.reverse_nil, List.filter_nil, List.append_nil] at e2
        rw [List.nil_append, e2] at e1
        rw [hk, packthreadref_HoleSacks.j0, if_neg (by simp; omega), ← hk]
        rw [show ((0 : Nat) : Int) = 0 from rfl] at e1
        rw [e1]
        have ho : outs b (upto l l.length) = l.filter (inn b) := by
          unfold outs
          rw [upto_rev, List.filter_reverse]
          rcases h1f with h | ⟨x, h⟩ <;> rw [h] <;> rfl
        have hr : rests b (upto l l.length) = l.reverse.filter (fun x => !inn b x) := by
          unfold rests
          rw [upto_rev]
        rw [ho, hr]
        simp only [Option.bind_some]
        have hlen : ((l.filter (inn b) ++ l.reverse.filter (fun x => !inn b x)).take c.toNat).length ≤ 16 := by rw [List.length_take]; omega
        rw [same_all _ (by omega) _ (by omega)]
        simp
end Go.Proofs.Ytbbohccnhcfmnab.Pure
