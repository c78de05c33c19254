/- lz.Expand answers what its reference answers, at every slice of tokens; no further condition. -/
import Derived.Test.YtbbohccnhcfmnabPLzExpandsx
import Derived.Test.YtbbohccnhcfmnabHelp
namespace Go.Proofs.Ytbbohccnhcfmnab.Pure
open Go.RowKit Go.Proofs.Ytbbohccnhcfmnab.PLzExpands Go.Proofs.YtbbohccnhcfmnabW.PrintWords Go.Proofs.YtbbohccnhcfmnabW.PrintLast Go.Proofs.Ytbbohccnhcfmnab.Help
set_option linter.unusedSimpArgs false
set_option linter.unusedVariables false

theorem same_loop (l : List Int) (hl : l.length ≤ 9223372036854775806) (d : Nat) : ∀ (k i : Nat), l.length - i = d → i ≤ l.length → d < k → packthreadlaw_sameBytes.l0 k l l (i : Int) = some true := by
  induction d with
  | zero =>
    intro k i hd hi hk
    obtain ⟨k, rfl⟩ : ∃ m, k = m + 1 := ⟨k - 1, by omega⟩
    simp only [packthreadlaw_sameBytes.l0]
    rw [if_neg (by omega)]
  | succ d ih =>
    intro k i hd hi hk
    obtain ⟨k, rfl⟩ : ∃ m, k = m + 1 := ⟨k - 1, by omega⟩
    simp only [packthreadlaw_sameBytes.l0]
    rw [if_pos (by omega), if_pos (by omega), if_pos (by omega), if_pos trivial, w64 (by omega) (by omega)]
    exact ih k (i + 1) (by omega) (by omega) (by omega)
theorem same_all (l : List Int) (hl : l.length ≤ 9223372036854775806) (k : Nat) (hk : l.length < k) : packthreadlaw_sameBytes.f k l l = some true := by
  simp only [packthreadlaw_sameBytes.f]
  rw [if_pos trivial]
  exact same_loop l hl l.length k 0 (by omega) (by omega) hk

/-- So many bytes more, each from so far back. -/
def copied : Nat → Int → List Int → List Int
  | 0, _, o => o
  | n + 1, d, o => copied n d (o ++ [rd o ((o.length : Int) - d)])
theorem copied_length (n : Nat) (d : Int) (o : List Int) : (copied n d o).length = o.length + n := by
  induction n generalizing o with
  | zero => rfl
  | succ n ih => rw [copied, ih]; simp; omega
/-- What tokens come to behind bytes that stand. -/
def told : List S110 → List Int → List Int × Int
  | [], o => (o, 0)
  | t :: ts, o =>
    if t.f2 > 0 then
      (if t.f0 = 0 then (if t.f2 > 200 ∨ t.f1 < 1 ∨ t.f1 > 255 ∨ t.f1 > (o.length : Int) then ([], 2)
        else (if ((copied t.f2.toNat t.f1 o).length : Int) > 4096 then ([], 11) else told ts (copied t.f2.toNat t.f1 o))) else ([], 4))
    else (if t.f1 = 0 then (if t.f2 < 0 then ([], 2) else (if ((o ++ [t.f0]).length : Int) > 4096 then ([], 11) else told ts (o ++ [t.f0]))) else ([], 4))
theorem told_length (ts : List S110) (o : List Int) (h : o.length ≤ 4096) : (told ts o).1.length ≤ 4096 := by
  induction ts generalizing o with
  | nil => exact h
  | cons t ts ih =>
    unfold told
    repeat' split
    all_goals first | (simp; done) | (apply ih; omega)
theorem rdT (l : List S110) (i : Nat) (x : S110) (t : List S110) (h : l.drop i = x :: t) : rd_T110 l (i : Int) = x ∧ l.drop (i + 1) = t ∧ i < l.length := by
  have hl : i < l.length := by
    rcases Nat.lt_or_ge i l.length with h1 | h1
    · exact h1
    · rw [List.drop_eq_nil_of_le h1] at h; cases h
  have h2 := List.drop_eq_getElem_cons hl
  rw [h] at h2
  injection h2 with h3 h4
  exact ⟨by simp [rd_T110, List.getD_eq_getElem?_getD, List.getElem?_eq_getElem hl, h3], h4.symm, hl⟩
theorem own_copy (l : List S110) (n c i : Int) (x0 x1 x2 : Int) (h1 : 1 ≤ x1) (k : Nat) (m : Nat) : ∀ (o : List Int) (j : Int), x1 ≤ o.length → o.length + m ≤ 10000 → 0 ≤ j → n - j = m → n ≤ 200 →
    lz_Expand.l1 (k + m + 1) o l c i n j x0 x1 x2 = if ((copied m x1 o).length : Int) > 4096 then some ([], 11) else lz_Expand.l0 k (copied m x1 o) l c (wrap64 (i + 1)) := by
  induction m with
  | zero =>
    intro o j ho hm hj0 hj hn
    simp only [lz_Expand.l1]
    rw [if_neg (by omega)]
    rfl
  | succ m ih =>
    intro o j ho hm hj0 hj hn
    rw [show k + (m + 1) + 1 = (k + m + 1) + 1 by omega]
    simp only [lz_Expand.l1, copied]
    rw [if_pos (by omega), w64 (x := (o.length : Int) - x1) (by omega) (by omega), if_pos (by omega), if_pos (by omega), if_pos (by omega), w64 (x := j + 1) (by omega) (by omega)]
    exact ih _ _ (by simp; omega) (by simp; omega) (by omega) (by omega) hn
theorem ref_copy (l : List S110) (n c i : Int) (x0 x1 : Int) (h1 : 1 ≤ x1) (k : Nat) (m : Nat) : ∀ (o : List Int) (j : Int), x1 ≤ o.length → o.length + m ≤ 10000 → 0 ≤ j → n - j = m → n ≤ 200 →
    packthreadref_LzExpanded.l1 (k + m + 1) o j l c i x0 x1 n = if ((copied m x1 o).length : Int) > 4096 then some ([], 11) else packthreadref_LzExpanded.l0 k (copied m x1 o) l c (wrap64 (i + 1)) := by
  induction m with
  | zero =>
    intro o j ho hm hj0 hj hn
    simp only [packthreadref_LzExpanded.l1]
    rw [if_neg (by omega)]
    rfl
  | succ m ih =>
    intro o j ho hm hj0 hj hn
    rw [show k + (m + 1) + 1 = (k + m + 1) + 1 by omega]
    simp only [packthreadref_LzExpanded.l1, copied]
    rw [if_pos (by omega), w64 (x := (o.length : Int) - x1) (by omega) (by omega), if_pos (by omega), if_pos (by omega), if_pos (by omega), w64 (x := j + 1) (by omega) (by omega)]
    exact ih _ _ (by simp; omega) (by simp; omega) (by omega) (by omega) hn
theorem own_all (l : List S110) (hl : l.length ≤ 4096) (t : List S110) : ∀ (k i : Nat) (o : List Int), l.drop i = t → i ≤ l.length → o.length ≤ 4096 → 300 * t.length < k →
    lz_Expand.l0 k o l (l.length : Int) (i : Int) = some (told t o) := by
  induction t with
  | nil =>
    intro k i o ht hi ho hk
    obtain ⟨k, rfl⟩ : ∃ m, k = m + 1 := ⟨k - 1, by omega⟩
    have : l.length ≤ i := by simpa using ht
    simp only [lz_Expand.l0, told]
    rw [if_neg (by omega)]
  | cons x t ih =>
    intro k i o ht hi ho hk
    simp only [List.length_cons] at hk
    obtain ⟨k, rfl⟩ : ∃ m, k = m + 7 := ⟨k - 7, by omega⟩
    obtain ⟨h1, h2, h3⟩ := rdT l i x t ht
    have hn := fun k' o' (ho' : o'.length ≤ 4096) hk' => ih k' (i + 1) o' h2 (by omega) ho' hk'
    have hw : wrap64 ((i : Int) + 1) = ((i + 1 : Nat) : Int) := by rw [w64 (by omega) (by omega)]; omega
    rw [told]
    simp only [lz_Expand.l0]
    rw [if_pos (by omega), if_pos (by omega), if_pos (by omega), h1]
    by_cases c1 : x.f2 > 0
    · rw [if_pos c1, if_pos c1]
      by_cases c2 : x.f0 = 0
      · rw [if_pos c2]
        by_cases c3 : x.f2 > 200
        · simp [lz_Expand.j1, lz_Expand.j2, lz_Expand.j3, c1, c2, c3, show ¬ x.f2 ≤ 0 by omega, show ¬ x.f2 < 0 by omega]
        · by_cases c4 : x.f1 < 1
          · simp [lz_Expand.j1, lz_Expand.j2, lz_Expand.j3, c1, c2, c3, c4, show ¬ x.f2 ≤ 0 by omega, show ¬ x.f2 < 0 by omega]
          · by_cases c5 : x.f1 > 255
            · simp [lz_Expand.j1, lz_Expand.j2, lz_Expand.j3, c1, c2, c3, c4, c5, show ¬ x.f2 ≤ 0 by omega, show ¬ x.f2 < 0 by omega]
            · by_cases c6 : x.f1 > (o.length : Int)
              · simp [lz_Expand.j1, lz_Expand.j2, lz_Expand.j3, c1, c2, c3, c4, c5, c6, show ¬ x.f2 ≤ 0 by omega, show ¬ x.f2 < 0 by omega]
              · have hc := own_copy l x.f2 (l.length : Int) (i : Int) x.f0 x.f1 x.f2 (by omega) (k + 1 - x.f2.toNat - 1) x.f2.toNat o 0 (by omega) (by omega) (by omega) (by omega) (by omega)
                rw [show k + 1 - x.f2.toNat - 1 + x.f2.toNat + 1 = k + 1 by omega, hw] at hc
                have e : lz_Expand.j1 (k + 6) o l (l.length : Int) (i : Int) (x.f0 != 0) x.f0 x.f1 x.f2 = lz_Expand.l1 (k + 1) o l (l.length : Int) (i : Int) x.f2 0 x.f0 x.f1 x.f2 := by
                  simp [lz_Expand.j1, lz_Expand.j2, lz_Expand.j3, lz_Expand.j4, lz_Expand.j5, c1, c2, c3, c4, c5, c6, show ¬ x.f2 ≤ 0 by omega, show ¬ x.f2 < 0 by omega, show ¬ x.f2 = 0 by omega]
                rw [e, hc, if_neg (show ¬ (x.f2 > 200 ∨ x.f1 < 1 ∨ x.f1 > 255 ∨ x.f1 > (o.length : Int)) by omega)]
                by_cases c7 : ((copied x.f2.toNat x.f1 o).length : Int) > 4096
                · rw [if_pos c7, if_pos c7]
                · rw [if_neg c7, if_neg c7, hn _ _ (by omega) (by omega)]
      · rw [if_neg c2]
        simp [lz_Expand.j1, lz_Expand.j2, c1, c2]
    · rw [if_neg c1, if_neg c1]
      by_cases c2 : x.f1 = 0
      · rw [if_pos c2]
        by_cases c3 : x.f2 < 0
        · simp [lz_Expand.j1, lz_Expand.j2, lz_Expand.j3, c2, c3, show x.f2 ≤ 0 by omega]
        · have e : lz_Expand.j1 (k + 6) o l (l.length : Int) (i : Int) false x.f0 x.f1 x.f2 = lz_Expand.l1 (k + 1) (o ++ [x.f0]) l (l.length : Int) (i : Int) x.f2 0 x.f0 x.f1 x.f2 := by
            simp [lz_Expand.j1, lz_Expand.j2, lz_Expand.j3, lz_Expand.j4, lz_Expand.j5, c2, c3, show x.f2 ≤ 0 by omega, show ¬ x.f2 > 200 by omega, show ¬ x.f2 > 0 by omega, show x.f2 = 0 by omega, show o.length < 140737488355328 by omega]
          rw [e, if_neg c3]
          simp only [lz_Expand.l1]
          rw [if_neg (by omega), hw]
          by_cases c7 : ((o ++ [x.f0]).length : Int) > 4096
          · rw [if_pos c7, if_pos c7]
          · rw [if_neg c7, if_neg c7, hn _ _ (by omega) (by omega)]
      · rw [if_neg c2]
        simp [lz_Expand.j1, lz_Expand.j2, c2, show x.f2 ≤ 0 by omega]
theorem ref_all (l : List S110) (hl : l.length ≤ 4096) (t : List S110) : ∀ (k i : Nat) (o : List Int), l.drop i = t → i ≤ l.length → o.length ≤ 4096 → 300 * t.length < k →
    packthreadref_LzExpanded.l0 k o l (l.length : Int) (i : Int) = some (told t o) := by
  induction t with
  | nil =>
    intro k i o ht hi ho hk
    obtain ⟨k, rfl⟩ : ∃ m, k = m + 1 := ⟨k - 1, by omega⟩
    have : l.length ≤ i := by simpa using ht
    simp only [packthreadref_LzExpanded.l0, told]
    rw [if_neg (by omega)]
  | cons x t ih =>
    intro k i o ht hi ho hk
    simp only [List.length_cons] at hk
    obtain ⟨k, rfl⟩ : ∃ m, k = m + 1 := ⟨k - 1, by omega⟩
    obtain ⟨h1, h2, h3⟩ := rdT l i x t ht
    have hn := fun k' o' (ho' : o'.length ≤ 4096) hk' => ih k' (i + 1) o' h2 (by omega) ho' hk'
    have hw : wrap64 ((i : Int) + 1) = ((i + 1 : Nat) : Int) := by rw [w64 (by omega) (by omega)]; omega
    rw [told]
    simp only [packthreadref_LzExpanded.l0]
    rw [if_pos (by omega), if_pos (by omega), if_pos (by omega), h1]
    obtain ⟨k, rfl⟩ : ∃ m, k = m + 2 := ⟨k - 2, by omega⟩
    by_cases c1 : x.f2 > 0
    · rw [if_pos c1, if_pos c1]
      by_cases c2 : x.f0 = 0
      · rw [if_pos c2, if_pos c2]
        by_cases c3 : x.f2 > 200
        · simp [packthreadref_LzExpanded.j1, c3]
        · by_cases c4 : x.f1 < 1
          · simp [packthreadref_LzExpanded.j1, c3, c4]
          · by_cases c5 : x.f1 > 255
            · simp [packthreadref_LzExpanded.j1, c3, c4, c5]
            · by_cases c6 : x.f1 > (o.length : Int)
              · simp [packthreadref_LzExpanded.j1, c3, c4, c5, c6]
              · have hc := ref_copy l x.f2 (l.length : Int) (i : Int) x.f0 x.f1 (by omega) (k + 1 - x.f2.toNat - 1) x.f2.toNat o 0 (by omega) (by omega) (by omega) (by omega) (by omega)
                rw [show k + 1 - x.f2.toNat - 1 + x.f2.toNat + 1 = k + 1 by omega, hw] at hc
                rw [if_neg c3, if_neg c4, if_neg c5, decide_eq_false c6]
                simp only [packthreadref_LzExpanded.j1]
                rw [if_neg (show ¬ (false = true) by simp), hc, if_neg (show ¬ (x.f2 > 200 ∨ x.f1 < 1 ∨ x.f1 > 255 ∨ x.f1 > (o.length : Int)) by omega)]
                by_cases c7 : ((copied x.f2.toNat x.f1 o).length : Int) > 4096
                · rw [if_pos c7, if_pos c7]
                · rw [if_neg c7, if_neg c7, hn _ _ (by omega) (by omega)]
      · rw [if_neg c2, if_neg c2]
    · rw [if_neg c1, if_neg c1]
      by_cases c2 : x.f1 = 0
      · rw [if_pos c2, if_pos c2]
        by_cases c3 : x.f2 < 0
        · rw [if_pos c3, if_pos c3]
        · rw [if_neg c3, if_neg c3, if_pos (by omega)]
          simp only [Option.bind_some]
          by_cases c7 : ((o ++ [x.f0]).length : Int) > 4096
          · rw [if_pos c7, if_pos c7]
          · rw [if_neg c7, if_neg c7, hw, hn _ _ (by omega) (by omega)]
      · rw [if_neg c2, if_neg c2]

theorem LzExpands (l : List S110) (_ : l.length * 24 ≤ 140737488351232 ∧ ∀ x ∈ l, (Lit.int .u8 x.f0).wf = true ∧ (Lit.int .i64 x.f1).wf = true ∧ (Lit.int .i64 x.f2).wf = true) : ∃ k, packthreadlaw_LzExpands.f k l = some true := by
  refine ⟨300 * l.length + 5000, ?_⟩
  simp only [packthreadlaw_LzExpands.f, lz_Expand.f, packthreadref_LzExpanded.f]
  by_cases h : (l.length : Int) > 4096
  · rw [if_pos h, if_pos h]
    simp only [Option.bind_some]
    rw [same_all [] (by simp) _ (by simp)]
    simp
  · have e1 := own_all l (by omega) l (300 * l.length + 5000) 0 [] rfl (by omega) (by simp) (by omega)
    have e2 := ref_all l (by omega) l (300 * l.length + 5000) 0 [] rfl (by omega) (by simp) (by omega)
    simp only [Int.ofNat_zero] at e1 e2
    have hb := told_length l [] (by simp)
    rw [if_neg h, if_neg h, e1, e2]
    simp only [Option.bind_some]
    rw [same_all _ (by omega) _ (by omega)]
    simp
end Go.Proofs.Ytbbohccnhcfmnab.Pure
