/- Patterns of names: what a pattern means, as a bool; the table; how long a walk over a text is. -/
import Derived.Test.YtkghoodhgihokaaXGlobJ
namespace Go.Proofs.Ytkghoodhgihokaa.Glob
open Go.RowKit Go.Lib Go.Proofs.YtkghoodhgihokaaW.PrintWords Go.Proofs.YtkghoodhgihokaaW.PrintLast Go.Proofs.YtkghoodhgihokaaW.PrintMore
set_option linter.unusedVariables false
set_option linter.unusedSimpArgs false
/-- Does a pattern take a text? As a bool. -/
def gB : List Pt → List UInt8 → Bool
  | [], s => s.isEmpty
  | p :: q, s => if p.1 = true then (List.range (s.length + 1)).any fun j => gB q (s.drop j) else (match s with | [] => false | c :: t => p.2 c.toNat && gB q t)
theorem gB_cons (p : Pt) (q : List Pt) (s : List UInt8) : gB (p :: q) s = if p.1 = true then (List.range (s.length + 1)).any fun j => gB q (s.drop j) else (match s with | [] => false | c :: t => p.2 c.toNat && gB q t) := by cases s <;> rfl
theorem gB_iff : ∀ (ps : List Pt) (s : List UInt8), gB ps s = true ↔ G ps s
  | [], s => by rw [G.none_]; show s.isEmpty = true ↔ _; rw [List.isEmpty_iff]
  | p :: q, s => by
    rw [gB_cons]
    by_cases hp : p.1 = true
    · rw [if_pos hp, G.star hp, List.any_eq_true]
      constructor
      · rintro ⟨j, _, h⟩; exact ⟨j, (gB_iff q _).1 h⟩
      · rintro ⟨j, h⟩
        by_cases hj : j ≤ s.length
        · exact ⟨j, List.mem_range.2 (by omega), (gB_iff q _).2 h⟩
        · refine ⟨s.length, List.mem_range.2 (by omega), (gB_iff q _).2 ?_⟩
          rw [List.drop_length, ← List.drop_eq_nil_of_le (show s.length ≤ j by omega)]
          exact h
    · have hp' : p.1 = false := Bool.eq_false_iff.2 hp
      rw [if_neg hp, G.single hp']
      cases s with
      | nil => simp
      | cons c t =>
        show (p.2 c.toNat && gB q t) = true ↔ _
        rw [Bool.and_eq_true, gB_iff q t]
        constructor
        · rintro ⟨h1, h2⟩; exact ⟨c, t, rfl, h1, h2⟩
        · rintro ⟨c', t', e, h1, h2⟩
          injection e with e1 e2
          subst e1
          subst e2
          exact ⟨h1, h2⟩
theorem gB_eq {ps : List Pt} {s : List UInt8} {b : Bool} (h : b = true ↔ G ps s) : gB ps s = b := by
  rw [Bool.eq_iff_iff, gB_iff, h]
theorem tab_nil (s : List UInt8) (k : Nat) (hk : k ≤ s.length) : gB [] (s.take k) = decide (k = 0) := by
  apply gB_eq
  rw [G.none_, decide_eq_true_eq, List.take_eq_nil_iff]
  constructor
  · exact Or.inl
  · rintro (h | h)
    · exact h
    · rw [h] at hk; simpa using hk
theorem tab_zero_one {ps : List Pt} {p : Pt} (hp : p.1 = false) (s : List UInt8) : gB (ps ++ [p]) (s.take 0) = false := by
  apply gB_eq
  rw [G.snocOne hp]
  constructor
  · intro h; cases h
  · rintro ⟨a, c, e, _⟩; simp at e
theorem tab_one {ps : List Pt} {p : Pt} (hp : p.1 = false) (s : List UInt8) (k : Nat) (hk : k < s.length) : gB (ps ++ [p]) (s.take (k + 1)) = (gB ps (s.take k) && p.2 s[k].toNat) := by
  apply gB_eq
  rw [G.snocOne hp, List.take_succ_eq_append_getElem hk, Bool.and_eq_true, gB_iff]
  constructor
  · rintro ⟨h1, h2⟩; exact ⟨_, _, rfl, h2, h1⟩
  · rintro ⟨a, c, e, h2, h1⟩
    have e2 := List.append_inj' e rfl
    have e3 : s[k] = c := by simpa using e2.2
    rw [e2.1, e3]
    exact ⟨h1, h2⟩
theorem tab_zero_star {ps : List Pt} {p : Pt} (hp : p.1 = true) (s : List UInt8) : gB (ps ++ [p]) (s.take 0) = gB ps (s.take 0) := by
  apply gB_eq
  rw [G.snocStar hp, gB_iff]
  constructor
  · exact Or.inl
  · rintro (h | ⟨a, c, e, _⟩)
    · exact h
    · simp at e
theorem tab_star {ps : List Pt} {p : Pt} (hp : p.1 = true) (s : List UInt8) (k : Nat) (hk : k < s.length) : gB (ps ++ [p]) (s.take (k + 1)) = (gB ps (s.take (k + 1)) || gB (ps ++ [p]) (s.take k)) := by
  apply gB_eq
  rw [G.snocStar hp, Bool.or_eq_true, gB_iff, gB_iff]
  constructor
  · rintro (h | h)
    · exact Or.inl h
    · exact Or.inr ⟨_, _, List.take_succ_eq_append_getElem hk, h⟩
  · rintro (h | ⟨a, c, e, h⟩)
    · exact Or.inl h
    · rw [List.take_succ_eq_append_getElem hk] at e
      have e2 := List.append_inj' e rfl
      rw [e2.1]
      exact Or.inr h
/-- How many steps the walk over a text may take still. -/
def mM (L N i rr from_ : Nat) : Nat := (L - rr) * ((N + 1) * (L + 1)) + (N - from_) * (L + 1) + (L - i)
theorem mM_take {L N i rr from_ : Nat} (hi : i < L) : mM L N (i + 1) rr from_ < mM L N i rr from_ := by
  unfold mM
  omega
theorem mM_run {L N i rr from_ at_ : Nat} (hi : i < L) (hr : rr ≤ i) : mM L N (i + 1) (i + 1) at_ < mM L N i rr from_ := by
  unfold mM
  have h1 : L - rr = (L - (i + 1)) + (i - rr) + 1 := by omega
  have h2 : (N - at_) * (L + 1) ≤ N * (L + 1) := Nat.mul_le_mul_right _ (by omega)
  have h3 : (L - rr) * ((N + 1) * (L + 1)) = (L - (i + 1)) * ((N + 1) * (L + 1)) + (i - rr) * ((N + 1) * (L + 1)) + (N * (L + 1) + (L + 1)) := by
    rw [h1, Nat.add_mul, Nat.add_mul, Nat.one_mul, Nat.add_mul N 1, Nat.one_mul]
  rw [h3]
  omega
theorem mM_back {L N i rr from_ : Nat} (hr : rr ≤ L) (hf : from_ < N) : mM L N rr rr (from_ + 1) < mM L N i rr from_ := by
  unfold mM
  have h1 : (N - from_) * (L + 1) = (N - (from_ + 1)) * (L + 1) + (L + 1) := by
    rw [show N - from_ = (N - (from_ + 1)) + 1 by omega, Nat.add_mul, Nat.one_mul]
  omega
end Go.Proofs.Ytkghoodhgihokaa.Glob
