/- delta.Patch answers what its reference answers, at every slice of bytes and every slice of pieces; no further condition. -/
import Derived.Test.YtbbohccnhcfmnabHDeltaPatchesx
import Derived.Test.YtbbohccnhcfmnabHelp
namespace Go.Proofs.Ytbbohccnhcfmnab.Pure
open Go.RowKit Go.Proofs.Ytbbohccnhcfmnab.HDeltaPatches Go.Proofs.YtbbohccnhcfmnabW.PrintWords Go.Proofs.YtbbohccnhcfmnabW.PrintLast Go.Proofs.Ytbbohccnhcfmnab.Help
set_option linter.unusedSimpArgs false
set_option linter.unusedVariables false

theorem same_loop (l : List Int) (hl : l.length ≤ 9223372036854775806) (d : Nat) : ∀ (k i : Nat), l.length - i = d → i ≤ l.length → d < k → packthreadlaw_sameBytes.l0 k l l (i : Int) = some true := by
  induction d with
  | zero =>
    intro k i hd hi hk
    obtain ⟨k, rfl⟩ : ∃ m, k = m + 1 := ⟨k - 1, by omega⟩
    simp only [packthreadlaw_sameBytes.l0]
    rw [if_neg (by omega)]
  | succ d ih =>
    intro k i hd hi hk
    obtain ⟨k, rfl⟩ : ∃ m, k = m + 1 := ⟨k - 1, by omega⟩
    simp only [packthreadlaw_sameBytes.l0]
    rw [if_pos (by omega), if_pos (by omega), if_pos (by omega), if_pos trivial, w64 (by omega) (by omega)]
    exact ih k (i + 1) (by omega) (by omega) (by omega)
theorem same_all (l : List Int) (hl : l.length ≤ 9223372036854775806) (k : Nat) (hk : l.length < k) : packthreadlaw_sameBytes.f k l l = some true := by
  simp only [packthreadlaw_sameBytes.f]
  rw [if_pos trivial]
  exact same_loop l hl l.length k 0 (by omega) (by omega) hk

abbrev Pc := S114
theorem rdT (l : List Pc) (i : Nat) (x : Pc) (t : List Pc) (h : l.drop i = x :: t) : rd_T114 l (i : Int) = x ∧ l.drop (i + 1) = t ∧ i < l.length := by
  have hl : i < l.length := by
    rcases Nat.lt_or_ge i l.length with h1 | h1
    · exact h1
    · rw [List.drop_eq_nil_of_le h1] at h; cases h
  have h2 := List.drop_eq_getElem_cons hl
  rw [h] at h2
  injection h2 with h3 h4
  exact ⟨by simp [rd_T114, List.getD_eq_getElem?_getD, List.getElem?_eq_getElem hl, h3], h4.symm, hl⟩
/-- So many bytes of old from a place on. -/
def cut (old : List Int) (f n : Int) : List Int := (old.drop f.toNat).take n.toNat
def over (o : List Int) (r : List Int × Int) : List Int × Int := if (o.length : Int) > 2048 then ([], 11) else r
/-- What pieces come to behind bytes that stand. -/
def told (old : List Int) : List Pc → List Int → List Int × Int
  | [], o => (o, 0)
  | p :: t, o =>
    bif p.f0 then
      (if p.f3.length = 0 then (if p.f1 < 0 ∨ p.f2 < 0 ∨ p.f1 > (old.length : Int) ∨ p.f2 > (old.length : Int) - p.f1 then ([], 2) else over (o ++ cut old p.f1 p.f2) (told old t (o ++ cut old p.f1 p.f2))) else ([], 4))
    else (if p.f1 = 0 ∧ p.f2 = 0 then over (o ++ p.f3) (told old t (o ++ p.f3)) else ([], 4))
theorem told_length (old : List Int) (t : List Pc) (o : List Int) (h : o.length ≤ 2048) : (told old t o).1.length ≤ 2048 := by
  induction t generalizing o with
  | nil => exact h
  | cons p t ih =>
    unfold told over
    cases p.f0 <;> simp only [cond_true, cond_false] <;> repeat' split
    all_goals first | (simp; done) | (apply ih; omega)
theorem cut_length {old : List Int} {f n : Int} (h0 : 0 ≤ f) (h1 : 0 ≤ n) (h2 : f + n ≤ old.length) : ((cut old f n).length : Int) = n := by
  unfold cut
  rw [List.length_take, List.length_drop]
  omega
theorem cut_eq {old : List Int} {f n : Int} (h0 : 0 ≤ f) (h1 : 0 ≤ n) : (old.take (f + n).toNat).drop f.toNat = cut old f n := by
  unfold cut
  rw [List.drop_take]
  congr 1
  omega
theorem own_all (old : List Int) (hold : old.length ≤ 2048) (l : List Pc) (hl : l.length ≤ 2048) (hd : ∀ x ∈ l, x.f3.length ≤ 140737488351232) (t : List Pc) : ∀ (k i : Nat) (o : List Int), l.drop i = t → i ≤ l.length → o.length ≤ 2048 → 4 * t.length < k →
    (∀ p ∈ t, p.f1 ≤ 9223372036854775807 ∧ -9223372036854775808 ≤ p.f1 ∧ p.f2 ≤ 9223372036854775807 ∧ -9223372036854775808 ≤ p.f2) →
    delta_Patch.l0 k old o l (l.length : Int) (i : Int) = some (told old t o) := by
  induction t with
  | nil =>
    intro k i o ht hi ho hk _
    obtain ⟨k, rfl⟩ : ∃ m, k = m + 1 := ⟨k - 1, by omega⟩
    have : l.length ≤ i := by simpa using ht
    simp only [delta_Patch.l0, told, slices_Clone_byte_byte.f]
    rw [if_neg (by omega), if_pos (by omega)]
    rfl
  | cons x t ih =>
    intro k i o ht hi ho hk hb
    simp only [List.length_cons] at hk
    obtain ⟨k, rfl⟩ : ∃ m, k = m + 1 := ⟨k - 1, by omega⟩
    obtain ⟨h1, h2, h3⟩ := rdT l i x t ht
    have hxb := hb x (by simp)
    have hxd : x.f3.length ≤ 140737488351232 := hd x (by
      have : x ∈ l.drop i := by rw [ht]; simp
      exact List.mem_of_mem_drop this)
    have hn := fun k' o' (ho' : o'.length ≤ 2048) hk' => ih k' (i + 1) o' h2 (by omega) ho' hk' (fun p hp => hb p (by simp [hp]))
    have hw : wrap64 ((i : Int) + 1) = ((i + 1 : Nat) : Int) := by rw [w64 (by omega) (by omega)]; omega
    rw [told]
    simp only [delta_Patch.l0]
    rw [if_pos (by omega), if_pos (by omega), if_pos (by omega), h1]
    obtain ⟨k, rfl⟩ : ∃ m, k = m + 3 := ⟨k - 3, by omega⟩
    clear hb ih
    obtain ⟨c, f, n, dt⟩ := x
    simp only at hxb hxd ⊢
    have fin : 0 ≤ f → 0 ≤ n → f + n ≤ old.length → ((cut old f n).length = 0 ∨ dt.length = 0) → delta_Patch.j4 (k + 1) old o l (l.length : Int) (i : Int) false c f n dt = some (over (o ++ cut old f n ++ dt) (told old t (o ++ cut old f n ++ dt))) := by
      intro g1 g2 g3 g4
      have hcl := cut_length g1 g2 g3
      simp only [delta_Patch.j4]
      rw [if_neg (show ¬ (false = true) by simp), w64 (x := f + n) (by omega) (by omega), if_pos g1, if_pos (by omega), if_pos (by omega), cut_eq g1 g2, if_pos (by omega)]
      simp only [Option.bind_some]
      rw [if_pos (by rw [List.length_append]; omega)]
      try simp only [Option.bind_some]
      unfold over
      by_cases g5 : ((o ++ cut old f n ++ dt).length : Int) > 2048
      · rw [if_pos g5, if_pos g5]
      · rw [if_neg g5, if_neg g5, hw, hn _ _ (by omega) (by omega)]
    cases c with
    | true =>
      simp only [cond_true, if_true]
      by_cases g1 : dt.length = 0
      · have hdt : dt = [] := List.eq_nil_of_length_eq_zero g1
        rw [if_pos g1, decide_eq_false (by omega)]
        simp only [delta_Patch.j2, delta_Patch.j3]
        rw [if_neg (show ¬ (false = true) by simp), if_pos trivial, if_neg (show ¬ (false = true) by simp)]
        by_cases g2 : f < 0
        · simp [g2, delta_Patch.j4]
        · by_cases g3 : n < 0
          · simp [g2, g3, delta_Patch.j4]
          · by_cases g4 : f > (old.length : Int)
            · simp [g2, g3, g4, delta_Patch.j4]
            · rw [if_neg g2, if_neg g3, if_neg g4, w64 (by omega) (by omega)]
              by_cases g5 : n > (old.length : Int) - f
              · simp [g2, g3, g4, g5, delta_Patch.j4]
              · rw [decide_eq_false g5, fin (by omega) (by omega) (by omega) (by omega), if_neg (show ¬ (f < 0 ∨ n < 0 ∨ f > (old.length : Int) ∨ n > (old.length : Int) - f) by omega), hdt, List.append_nil]
      · rw [if_neg g1, decide_eq_true (show ((dt.length : Int) > 0) by omega)]
        simp [delta_Patch.j2, delta_Patch.j3]
    | false =>
      simp only [cond_false]
      rw [if_neg (show ¬ (false = true) by simp)]
      simp only [delta_Patch.j2]
      rw [if_neg (show ¬ (false = true) by simp), if_neg (show ¬ (false = true) by simp)]
      by_cases g1 : f = 0
      · by_cases g2 : n = 0
        · subst g1 g2
          have hc : cut old 0 0 = [] := by simp [cut]
          have := fin (by omega) (by omega) (by omega) (by rw [hc]; simp)
          rw [hc, List.append_nil] at this
          simp only [delta_Patch.j3]
          rw [if_pos trivial, if_neg (by simp), if_neg (by omega), if_neg (by omega), if_neg (by omega), w64 (by omega) (by omega), decide_eq_false (by omega), this]
          simp
        · simp [g1, g2, delta_Patch.j3]
      · simp [g1, delta_Patch.j3]
theorem ref_copy (old : List Int) (l : List Pc) (c : Bool) (f n : Int) (dt : List Int) (i ln : Int) (hold : old.length ≤ 2048) (h0 : 0 ≤ f) (h1 : 0 ≤ n) (h2 : f + n ≤ old.length) (k : Nat) (m : Nat) : ∀ (o : List Int) (j : Int), o.length ≤ 4096 + j → 0 ≤ j → n - j = m →
    packthreadref_DeltaPatch.l1 (k + m + 1) old o j l ln i c f n dt = (let o' := o ++ cut old (f + j) (n - j); if (o'.length : Int) > 2048 then some ([], 11) else packthreadref_DeltaPatch.l0 k old o' l ln (wrap64 (i + 1))) := by
  induction m with
  | zero =>
    intro o j ho hj hm
    rw [packthreadref_DeltaPatch.l1, if_neg (by omega)]
    have : cut old (f + j) (n - j) = [] := by simp [cut, show (n - j).toNat = 0 by omega]
    simp only [this, List.append_nil]
  | succ m ih =>
    intro o j ho hj hm
    rw [show k + (m + 1) + 1 = (k + m + 1) + 1 by omega, packthreadref_DeltaPatch.l1, if_pos (by omega), w64 (x := f + j) (by omega) (by omega), if_pos (by omega), if_pos (by omega), if_pos (by omega), w64 (x := j + 1) (by omega) (by omega), ih _ _ (by simp; omega) (by omega) (by omega)]
    have e : cut old (f + j) (n - j) = rd old (f + j) :: cut old (f + (j + 1)) (n - (j + 1)) := by
      unfold cut
      have hlt : (f + j).toNat < old.length := by omega
      rw [List.drop_eq_getElem_cons hlt, show (n - j).toNat = (n - (j + 1)).toNat + 1 by omega, List.take_succ_cons, show (f + (j + 1)).toNat = (f + j).toNat + 1 by omega]
      congr 1
      have := rd_nat old (f + j).toNat hlt
      rw [← this]
      congr 1
      omega
    rw [e]
    simp
theorem ref_all (old : List Int) (hold : old.length ≤ 2048) (l : List Pc) (hl : l.length ≤ 2048) (hd : ∀ x ∈ l, x.f3.length ≤ 140737488351232) (t : List Pc) : ∀ (k i : Nat) (o : List Int), l.drop i = t → i ≤ l.length → o.length ≤ 2048 → 3000 * t.length < k →
    (∀ p ∈ t, p.f1 ≤ 9223372036854775807 ∧ -9223372036854775808 ≤ p.f1 ∧ p.f2 ≤ 9223372036854775807 ∧ -9223372036854775808 ≤ p.f2) →
    packthreadref_DeltaPatch.l0 k old o l (l.length : Int) (i : Int) = some (told old t o) := by
  induction t with
  | nil =>
    intro k i o ht hi ho hk _
    obtain ⟨k, rfl⟩ : ∃ m, k = m + 1 := ⟨k - 1, by omega⟩
    have : l.length ≤ i := by simpa using ht
    simp only [packthreadref_DeltaPatch.l0, told]
    rw [if_neg (by omega)]
  | cons x t ih =>
    intro k i o ht hi ho hk hb
    simp only [List.length_cons] at hk
    obtain ⟨k, rfl⟩ : ∃ m, k = m + 1 := ⟨k - 1, by omega⟩
    obtain ⟨h1, h2, h3⟩ := rdT l i x t ht
    have hxb := hb x (by simp)
    have hxd : x.f3.length ≤ 140737488351232 := hd x (by
      have : x ∈ l.drop i := by rw [ht]; simp
      exact List.mem_of_mem_drop this)
    have hn := fun k' o' (ho' : o'.length ≤ 2048) hk' => ih k' (i + 1) o' h2 (by omega) ho' hk' (fun p hp => hb p (by simp [hp]))
    have hw : wrap64 ((i : Int) + 1) = ((i + 1 : Nat) : Int) := by rw [w64 (by omega) (by omega)]; omega
    rw [told]
    simp only [packthreadref_DeltaPatch.l0]
    rw [if_pos (by omega), if_pos (by omega), if_pos (by omega), h1]
    obtain ⟨k, rfl⟩ : ∃ m, k = m + 1 := ⟨k - 1, by omega⟩
    clear hb ih
    obtain ⟨c, f, n, dt⟩ := x
    simp only at hxb hxd ⊢
    cases c with
    | true =>
      simp only [cond_true, if_true]
      by_cases g1 : dt.length = 0
      · rw [if_pos (by omega), if_pos g1]
        by_cases g2 : f < 0
        · simp [g2, packthreadref_DeltaPatch.j2]
        · by_cases g3 : n < 0
          · simp [g2, g3, packthreadref_DeltaPatch.j2]
          · by_cases g4 : f > (old.length : Int)
            · simp [g2, g3, g4, packthreadref_DeltaPatch.j2]
            · by_cases g5 : n > (old.length : Int) - f
              · by_cases g6 : n > (old.length : Int)
                · simp [g2, g3, g4, g5, g6, packthreadref_DeltaPatch.j2]
                · rw [if_neg g2, if_neg g3, if_neg g4, if_neg g6, w64 (by omega) (by omega)]
                  simp [g2, g3, g4, g5, packthreadref_DeltaPatch.j2]
                  omega
              · rw [if_neg g2, if_neg g3, if_neg g4, if_neg (by omega), w64 (by omega) (by omega), decide_eq_false (by omega)]
                simp only [packthreadref_DeltaPatch.j2]
                have hc := ref_copy old l true f n dt (i : Int) (l.length : Int) hold (by omega) (by omega) (by omega) (k - n.toNat - 1) n.toNat o 0 (by omega) (by omega) (by omega)
                rw [show k - n.toNat - 1 + n.toNat + 1 = k by omega, Int.add_zero, Int.sub_zero, hw] at hc
                rw [if_neg (show ¬ (false = true) by simp), hc, if_neg (show ¬ (f < 0 ∨ n < 0 ∨ f > (old.length : Int) ∨ n > (old.length : Int) - f) by omega)]
                simp only
                unfold over
                by_cases g7 : ((o ++ cut old f n).length : Int) > 2048
                · rw [if_pos g7, if_pos g7]
                · rw [if_neg g7, if_neg g7, hn _ _ (by omega) (by omega)]
      · rw [if_neg (by omega), if_neg g1]
    | false =>
      simp only [cond_false]
      rw [if_neg (show ¬ (false = true) by simp)]
      by_cases g1 : f = 0
      · by_cases g2 : n = 0
        · subst g1 g2
          simp only [packthreadref_DeltaPatch.j4]
          rw [if_pos trivial, if_neg (by simp), if_pos (by omega)]
          simp only [Option.bind_some, and_self, if_true]
          unfold over
          by_cases g7 : ((o ++ dt).length : Int) > 2048
          · rw [if_pos g7, if_pos g7]
          · rw [if_neg g7, if_neg g7, hw, hn _ _ (by omega) (by omega)]
        · simp [g1, g2, packthreadref_DeltaPatch.j4]
      · simp [g1, packthreadref_DeltaPatch.j4]

theorem DeltaPatches (old : List Int) (l : List Pc) (ho : old.length * 1 ≤ 140737488351232 ∧ ∀ x ∈ old, (Lit.int .u8 x).wf = true)
    (hl : l.length * 48 ≤ 140737488351232 ∧ ∀ x ∈ l, True ∧ (Lit.int .i64 x.f1).wf = true ∧ (Lit.int .i64 x.f2).wf = true ∧ (x.f3.length * 1 ≤ 140737488351232 ∧ ∀ y ∈ x.f3, (Lit.int .u8 y).wf = true)) : ∃ k, packthreadlaw_DeltaPatches.f k old l = some true := by
  refine ⟨3000 * l.length + 6000, ?_⟩
  simp only [packthreadlaw_DeltaPatches.f, delta_Patch.f, packthreadref_DeltaPatch.f]
  by_cases h1 : (old.length : Int) > 2048
  · rw [if_pos h1, if_pos h1]
    simp only [delta_Patch.j0, packthreadref_DeltaPatch.j0]
    simp only [if_true, Option.bind_some]
    rw [same_all [] (by simp) _ (by simp)]
    simp
  · rw [if_neg h1, if_neg h1]
    by_cases h2 : (l.length : Int) > 2048
    · rw [decide_eq_true h2]
      simp only [delta_Patch.j0, packthreadref_DeltaPatch.j0]
      simp only [if_true, Option.bind_some]
      rw [same_all [] (by simp) _ (by simp)]
      simp
    · have hb : ∀ p ∈ l, p.f1 ≤ 9223372036854775807 ∧ -9223372036854775808 ≤ p.f1 ∧ p.f2 ≤ 9223372036854775807 ∧ -9223372036854775808 ≤ p.f2 := fun p hp => by
        have h := hl.2 p hp
        have := wf64 h.2.1
        have := wf64 h.2.2.1
        omega
      have hd : ∀ x ∈ l, x.f3.length ≤ 140737488351232 := fun p hp => by
        have h := (hl.2 p hp).2.2.2.1
        omega
      have e1 := own_all old (by omega) l (by omega) hd l (3000 * l.length + 5999) 0 [] rfl (by omega) (by simp) (by omega) hb
      have e2 := ref_all old (by omega) l (by omega) hd l (3000 * l.length + 5999) 0 [] rfl (by omega) (by simp) (by omega) hb
      simp only [Int.ofNat_zero] at e1 e2
      have ht := told_length old l [] (by simp)
      rw [decide_eq_false h2]
      simp only [delta_Patch.j0, packthreadref_DeltaPatch.j0]
      rw [if_neg (show ¬ (false = true) by simp), if_neg (show ¬ (false = true) by simp), e1, e2]
      simp only [Option.bind_some]
      rw [same_all _ (by omega) _ (by omega)]
      simp
end Go.Proofs.Ytbbohccnhcfmnab.Pure
