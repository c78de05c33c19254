/- Patterns of names: what Match and Pick answer. -/
import Derived.Test.YtkghoodhgihokaaXGlobM
namespace Go.Proofs.Ytkghoodhgihokaa.Glob
open Go.RowKit Go.Lib Go.Proofs.YtkghoodhgihokaaW.PrintWords Go.Proofs.YtkghoodhgihokaaW.PrintLast Go.Proofs.YtkghoodhgihokaaW.PrintMore
set_option linter.unusedVariables false
theorem rangesR_len : ∀ (n : Nat) (l : List UInt8), l.length ≤ n → ∀ rs r, rangesR l rs = some r → r.1.length ≤ rs.length + l.length ∧ r.2.length ≤ l.length := by
  intro n
  induction n with
  | zero =>
    intro l hl rs r h
    cases l with
    | nil => rw [rangesR_out rfl] at h; cases h; exact ⟨by simp, Nat.le_refl _⟩
    | cons c t => simp at hl
  | succ n ih =>
    intro l hl rs r h
    cases hp : plainB l with
    | false => rw [rangesR_out hp] at h; cases h; exact ⟨by simp, Nat.le_refl _⟩
    | true =>
      cases l with
      | nil => cases hp
      | cons c t =>
        rw [rangesR_in hp] at h
        have hs := stepT_len c t
        simp only [List.length_cons] at hl ⊢
        split at h
        · cases h
        · have := ih _ (by omega) _ _ h
          rw [List.length_append, List.length_singleton] at this
          omega
theorem setR_len {t : List UInt8} {r : It × List UInt8} (h : setR t = some r) : r.1.2.2.1.length ≤ t.length ∧ r.2.length ≤ t.length := by
  unfold setR at h
  obtain ⟨q, hq, h⟩ := Option.bind_eq_some_iff.1 h
  have h1 := rangesR_len _ _ (Nat.le_refl _) _ _ hq
  have h2 : (if t.head? = some 94 then t.drop 1 else t).length ≤ t.length := by split <;> (try rw [List.length_drop]) <;> omega
  simp only [List.length_nil] at h1
  split at h
  · cases h
  · cases h
    simp only [List.length_drop]
    omega
theorem items_le : ∀ (k : Nat) (l : List UInt8) (o r : List It), l.length ≤ 40 → (∀ it ∈ o, it.2.2.1.length ≤ 40) → itemsK k l o = some r → r.length ≤ o.length + k ∧ ∀ it ∈ r, it.2.2.1.length ≤ 40
  | 0, _, _, _, _, _, h => by cases h
  | k + 1, [], o, r, _, ho, h => by cases h; exact ⟨by omega, ho⟩
  | k + 1, c :: t, o, r, hl, ho, h => by
    rw [itemsK_cons] at h
    simp only [List.length_cons] at hl
    have go : ∀ (u : List UInt8) (it : It), u.length ≤ 40 → it.2.2.1.length ≤ 40 → itemsK k u (o ++ [it]) = some r → r.length ≤ o.length + (k + 1) ∧ ∀ it ∈ r, it.2.2.1.length ≤ 40 := by
      intro u it hu hit h
      have := items_le k u _ r hu (by
        intro x hx
        rcases List.mem_append.1 hx with hx | hx
        · exact ho x hx
        · rw [List.mem_singleton.1 hx]; exact hit) h
      rw [List.length_append, List.length_singleton] at this
      exact ⟨by omega, this.2⟩
    split at h
    · cases hs : setR t with
      | none => rw [hs] at h; cases h
      | some q =>
        rw [hs] at h
        have := setR_len hs
        exact go _ _ (by omega) (by omega) h
    · split at h
      · cases t with
        | nil => cases h
        | cons d u => simp only [List.length_cons] at hl; exact go _ _ (by omega) (Nat.zero_le _) h
      · split at h
        · exact go _ _ (by omega) (Nat.zero_le _) h
        · split at h
          · exact go _ _ (by omega) (Nat.zero_le _) h
          · exact go _ _ (by omega) (Nat.zero_le _) h
theorem itemsF_le {l : List UInt8} {r : List It} (h : itemsF l = some r) : r.length ≤ 1000 ∧ ∀ it ∈ r, it.2.2.1.length ≤ 1000 := by
  unfold itemsF at h
  split at h
  · cases h
  · have := items_le 41 l [] r (by omega) (by intro _ h; cases h) h
    simp only [List.length_nil] at this
    exact ⟨by omega, fun it hi => Nat.le_trans (this.2 it hi) (by decide)⟩
theorem partsF_le {l : List UInt8} {r : List Pt} (h : partsF l = some r) : r.length ≤ 1000 := by
  rw [partsF_items] at h
  cases hi : itemsF l with
  | none => rw [hi] at h; cases h
  | some its =>
    rw [hi] at h
    cases h
    rw [List.length_map]
    exact (itemsF_le hi).1
theorem info9 : (Try.prog.info? 9).map (fun i => (i.zero, i.size, i.bytes)) = some (some (.string ⟨#[]⟩), 1, 16) := by kernel_rfl
/-- What a pattern's Match answers. -/
def matchF (p s : ByteArray) : Bool × Int := match partsF p.data.toList with | none => (false, 4) | some ps => if 200 < s.size then (false, 1) else (gB ps s.data.toList, 0)
/-- What a pattern's Pick answers. -/
def pickF (p : ByteArray) (l : List ByteArray) : List ByteArray × Int := match partsF p.data.toList with
  | none => ([], 4)
  | some ps => if 64 < l.length then ([], 1) else if l.any (fun s => decide (200 < s.size)) then ([], 1) else (l.filter fun s => gB ps s.data.toList, 0)
end Go.Proofs.Ytkghoodhgihokaa.Glob
