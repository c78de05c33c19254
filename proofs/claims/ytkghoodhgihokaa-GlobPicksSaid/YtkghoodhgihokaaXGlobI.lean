/- Patterns of names: what a pattern means. -/
import Derived.Test.YtkghoodhgihokaaXGlobH
namespace Go.Proofs.Ytkghoodhgihokaa.Glob
open Go.RowKit Go.Lib Go.Proofs.YtkghoodhgihokaaW.PrintWords Go.Proofs.YtkghoodhgihokaaW.PrintLast Go.Proofs.YtkghoodhgihokaaW.PrintMore
set_option linter.unusedVariables false
/-- Is a byte in one of the ranges? -/
def inR (rs : List (Nat × Nat)) (b : Nat) : Bool := rs.any fun r => decide (r.1 ≤ b) && decide (b ≤ r.2)
/-- Does an item take a byte? -/
def takesI (it : It) (b : Nat) : Bool := if it.1 = 63 then true else if it.1 = 61 then b == it.2.1 else inR it.2.2.1 b != it.2.2.2
def toPt (it : It) : Pt := (it.1 == 42, takesI it)
theorem inR_snoc (rs : List (Nat × Nat)) (c d : Nat) : addR (inR rs) c d = inR (rs ++ [(c, d)]) := by
  funext j
  simp [addR, inR]
theorem ranges_eq : ∀ (n : Nat) (l : List UInt8), l.length ≤ n → ∀ (rs : List (Nat × Nat)) (e : Bool), e = decide (rs = []) → rangesL l (inR rs) e = (rangesR l rs).map fun r => (inR r.1, r.2, decide (r.1 = [])) := by
  intro n
  induction n with
  | zero =>
    intro l hl rs e he
    cases l with
    | nil => rw [rangesL_out rfl, rangesR_out rfl, he]; rfl
    | cons c t => simp at hl
  | succ n ih =>
    intro l hl rs e he
    cases hp : plainB l with
    | false => rw [rangesL_out hp, rangesR_out hp, he]; rfl
    | true =>
      cases l with
      | nil => cases hp
      | cons c t =>
        rw [rangesL_in hp, rangesR_in hp]
        have hs := stepT_len c t
        simp only [List.length_cons] at hl
        by_cases h : (stepT c t).1.toNat < c.toNat
        · rw [if_pos h, if_pos h]; rfl
        · rw [if_neg h, if_neg h, inR_snoc]
          exact ih _ (by omega) _ _ (by simp)
theorem set_eq (t : List UInt8) : setF t = (setR t).map fun r => ((toPt r.1).2, r.2) := by
  unfold setF setR
  have h := ranges_eq _ (if t.head? = some 94 then t.drop 1 else t) (Nat.le_refl _) [] true rfl
  rw [show inR [] = (fun _ => false) from rfl] at h
  rw [h]
  cases rangesR (if t.head? = some 94 then t.drop 1 else t) [] with
  | none => rfl
  | some r =>
    simp only [Option.map_some, Option.bind_some]
    by_cases hb : r.1 = [] ∨ r.2.head? ≠ some 93
    · rw [if_pos hb, if_pos (by simpa using hb)]; rfl
    · rw [if_neg hb, if_neg (by simpa using hb)]; rfl
theorem parts_eq : ∀ (k : Nat) (l : List UInt8) (o : List It), partsK k l (o.map toPt) = (itemsK k l o).map (List.map toPt)
  | 0, _, _ => rfl
  | _ + 1, [], _ => rfl
  | k + 1, c :: t, o => by
    rw [partsK_cons, itemsK_cons]
    by_cases h1 : c = 63
    · subst h1
      rw [if_pos rfl, if_neg (by decide), if_neg (by decide), if_neg (by decide), if_pos rfl, ← parts_eq k, List.map_append]
      rfl
    rw [if_neg h1]
    by_cases h2 : c = 42
    · subst h2
      rw [if_pos rfl, if_neg (by decide), if_neg (by decide), if_pos rfl, ← parts_eq k, List.map_append]
      rfl
    rw [if_neg h2]
    by_cases h3 : c = 91
    · rw [if_pos h3, if_pos h3, set_eq]
      cases hs : setR t with
      | none => rfl
      | some r =>
        have hr : toPt r.1 = (false, (toPt r.1).2) := by
          unfold setR at hs
          cases hq : rangesR (if t.head? = some 94 then t.drop 1 else t) [] with
          | none => rw [hq] at hs; cases hs
          | some q =>
            rw [hq, Option.bind_some] at hs
            split at hs
            · cases hs
            · injection hs with hs
              rw [← hs]
              rfl
        show partsK k r.2 (o.map toPt ++ [(false, (toPt r.1).2)]) = _
        rw [← hr, show o.map toPt ++ [toPt r.1] = (o ++ [r.1]).map toPt by simp]
        exact parts_eq k _ _
    rw [if_neg h3, if_neg h3]
    by_cases h4 : c = 92
    · rw [if_pos h4, if_pos h4]
      cases t with
      | nil => rfl
      | cons d u =>
        show partsK k u _ = Option.map _ (itemsK k u _)
        rw [← parts_eq k, List.map_append]
        congr 1
    rw [if_neg h4, if_neg h4, if_neg h2, if_neg h1, ← parts_eq k, List.map_append]
    congr 1
theorem partsF_items (l : List UInt8) : partsF l = (itemsF l).map (List.map toPt) := by
  unfold partsF itemsF
  by_cases h : 40 < l.length
  · rw [if_pos h, if_pos h]; rfl
  · rw [if_neg h, if_neg h]
    exact parts_eq 41 l []
/-- Does a pattern take a text? -/
inductive G : List Pt → List UInt8 → Prop
  | nil : G [] []
  | skip {p : Pt} {q : List Pt} {s : List UInt8} : p.1 = true → G q s → G (p :: q) s
  | more {p : Pt} {q : List Pt} {c : UInt8} {s : List UInt8} : p.1 = true → G (p :: q) s → G (p :: q) (c :: s)
  | one {p : Pt} {q : List Pt} {c : UInt8} {s : List UInt8} : p.1 = false → p.2 c.toNat = true → G q s → G (p :: q) (c :: s)
theorem G.none_ {s : List UInt8} : G [] s ↔ s = [] := ⟨fun h => by cases h; rfl, fun h => h ▸ .nil⟩
theorem G.single {p : Pt} {q : List Pt} {s : List UInt8} (hp : p.1 = false) : G (p :: q) s ↔ ∃ c t, s = c :: t ∧ p.2 c.toNat = true ∧ G q t := by
  constructor
  · intro h
    cases h with
    | skip h1 _ => rw [hp] at h1; cases h1
    | more h1 _ => rw [hp] at h1; cases h1
    | one _ h2 h3 => exact ⟨_, _, rfl, h2, h3⟩
  · rintro ⟨c, t, rfl, h2, h3⟩
    exact .one hp h2 h3
theorem G.star {p : Pt} {q : List Pt} (hp : p.1 = true) : ∀ {s : List UInt8}, G (p :: q) s ↔ ∃ j, G q (s.drop j) := by
  intro s
  constructor
  · intro h
    generalize hl : p :: q = l at h
    induction h with
    | nil => cases hl
    | skip h1 h2 _ => injection hl with h3 h4; subst h4; exact ⟨0, h2⟩
    | more h1 h2 ih => obtain ⟨j, hj⟩ := ih hl; exact ⟨j + 1, hj⟩
    | one h1 h2 h3 _ => injection hl with h4 h5; subst h4; rw [hp] at h1; cases h1
  · rintro ⟨j, hj⟩
    induction j generalizing s with
    | zero => exact .skip hp hj
    | succ j ih =>
      cases s with
      | nil => exact .skip hp (by simpa using hj)
      | cons c t => exact .more hp (ih hj)
theorem G.starAt {p : Pt} {q : List Pt} (hp : p.1 = true) (s : List UInt8) (i : Nat) : G (p :: q) (s.drop i) ↔ ∃ j, i ≤ j ∧ G q (s.drop j) := by
  rw [G.star hp]
  constructor
  · rintro ⟨j, hj⟩; exact ⟨i + j, by omega, by rw [List.drop_drop] at hj; exact hj⟩
  · rintro ⟨j, hj, h⟩; exact ⟨j - i, by rw [List.drop_drop, show i + (j - i) = j by omega]; exact h⟩
/-- What the walk over a text keeps: rr is one more than the place of the last run that was met (0: none). -/
structure GJ2 (ps : List Pt) (s : List UInt8) (i at_ rr from_ : Nat) : Prop where
  r0 : rr = 0 → (G ps s ↔ G (ps.drop i) (s.drop at_))
  r1 : 0 < rr → (G ps s ↔ G (ps.drop i) (s.drop at_) ∨ ∃ j, from_ < j ∧ G (ps.drop rr) (s.drop j))
  r2 : 0 < rr → ∀ j, from_ < j → G (ps.drop rr) (s.drop j) → ∃ j', at_ < j' ∧ G (ps.drop i) (s.drop j')
theorem GJ2.start (ps : List Pt) (s : List UInt8) : GJ2 ps s 0 0 0 0 := ⟨fun _ => Iff.rfl, fun h => absurd h (by omega), fun h => absurd h (by omega)⟩
theorem GJ2.run {ps : List Pt} {s : List UInt8} {i at_ rr from_ : Nat} (h : GJ2 ps s i at_ rr from_) {p : Pt} (hi : ps[i]? = some p) (hp : p.1 = true) : GJ2 ps s (i + 1) at_ (i + 1) at_ := by
  have hd : ps.drop i = p :: ps.drop (i + 1) := by
    obtain ⟨hlt, e⟩ := List.getElem?_eq_some_iff.1 hi
    rw [List.drop_eq_getElem_cons hlt, e]
  have hs := G.starAt hp (q := ps.drop (i + 1)) s
  have key : G ps s ↔ ∃ j, at_ ≤ j ∧ G (ps.drop (i + 1)) (s.drop j) := by
    rw [← hs, ← hd]
    rcases Nat.eq_zero_or_pos rr with h0 | h0
    · exact h.r0 h0
    · rw [h.r1 h0]
      constructor
      · rintro (h1 | ⟨j, hj, h1⟩)
        · exact h1
        · obtain ⟨j', hj', h2⟩ := h.r2 h0 j hj h1
          rw [hd, hs] at h2
          obtain ⟨j2, hj2, h3⟩ := h2
          rw [hd, hs]
          exact ⟨j2, by omega, h3⟩
      · exact Or.inl
  refine ⟨fun h0 => absurd h0 (by omega), fun _ => ?_, fun _ j hj h1 => ⟨j, hj, h1⟩⟩
  rw [key]
  constructor
  · rintro ⟨j, hj, h1⟩
    rcases Nat.eq_or_lt_of_le hj with e | e
    · exact Or.inl (e ▸ h1)
    · exact Or.inr ⟨j, e, h1⟩
  · rintro (h1 | ⟨j, hj, h1⟩)
    · exact ⟨at_, Nat.le_refl _, h1⟩
    · exact ⟨j, Nat.le_of_lt hj, h1⟩
theorem GJ2.take {ps : List Pt} {s : List UInt8} {i at_ rr from_ : Nat} (h : GJ2 ps s i at_ rr from_) {p : Pt} (hi : ps[i]? = some p) (hp : p.1 = false) {c : UInt8} (hc : s[at_]? = some c) (ht : p.2 c.toNat = true) : GJ2 ps s (i + 1) (at_ + 1) rr from_ := by
  have hd : ps.drop i = p :: ps.drop (i + 1) := by
    obtain ⟨hlt, e⟩ := List.getElem?_eq_some_iff.1 hi
    rw [List.drop_eq_getElem_cons hlt, e]
  have hsd : s.drop at_ = c :: s.drop (at_ + 1) := by
    obtain ⟨hlt, e⟩ := List.getElem?_eq_some_iff.1 hc
    rw [List.drop_eq_getElem_cons hlt, e]
  have key : G (ps.drop i) (s.drop at_) ↔ G (ps.drop (i + 1)) (s.drop (at_ + 1)) := by
    rw [hd, G.single hp, hsd]
    constructor
    · rintro ⟨c', t, e, _, h2⟩
      injection e with e1 e2
      rw [e2]; exact h2
    · intro h2; exact ⟨_, _, rfl, ht, h2⟩
  refine ⟨fun h0 => (h.r0 h0).trans key, fun h0 => by rw [h.r1 h0, key], fun h0 j hj h1 => ?_⟩
  obtain ⟨j', hj', h2⟩ := h.r2 h0 j hj h1
  rw [hd, G.single hp] at h2
  obtain ⟨c', t, e, _, h3⟩ := h2
  refine ⟨j' + 1, by omega, ?_⟩
  have : t = s.drop (j' + 1) := by
    have := congrArg (List.drop 1) e
    rw [List.drop_drop] at this
    exact this.symm
  rw [← this]; exact h3
/-- A byte that the part at hand does not take. -/
theorem GJ2.no {ps : List Pt} {s : List UInt8} {i at_ : Nat} {c : UInt8} (hc : s[at_]? = some c) (h : ∀ p, ps[i]? = some p → p.1 = false ∧ p.2 c.toNat = false) : ¬ G (ps.drop i) (s.drop at_) := by
  have hsd : s.drop at_ = c :: s.drop (at_ + 1) := by
    obtain ⟨hlt, e⟩ := List.getElem?_eq_some_iff.1 hc
    rw [List.drop_eq_getElem_cons hlt, e]
  intro hg
  rw [hsd] at hg
  cases hi : ps[i]? with
  | none =>
    rw [List.drop_eq_nil_of_le (List.getElem?_eq_none_iff.1 hi), G.none_] at hg
    cases hg
  | some p =>
    obtain ⟨h1, h2⟩ := h p hi
    have hd : ps.drop i = p :: ps.drop (i + 1) := by
      obtain ⟨hlt, e⟩ := List.getElem?_eq_some_iff.1 hi
      rw [List.drop_eq_getElem_cons hlt, e]
    rw [hd, G.single h1] at hg
    obtain ⟨c', t, e, h3, _⟩ := hg
    injection e with e1 e2
    rw [← e1, h2] at h3
    cases h3
theorem GJ2.back {ps : List Pt} {s : List UInt8} {i at_ rr from_ : Nat} (h : GJ2 ps s i at_ rr from_) (hr : 0 < rr) (hn : ¬ G (ps.drop i) (s.drop at_)) : GJ2 ps s rr (from_ + 1) rr (from_ + 1) := by
  refine ⟨fun h0 => absurd h0 (by omega), fun _ => ?_, fun _ j hj h1 => ⟨j, hj, h1⟩⟩
  rw [h.r1 hr]
  constructor
  · rintro (h1 | ⟨j, hj, h1⟩)
    · exact absurd h1 hn
    · rcases Nat.eq_or_lt_of_le (Nat.succ_le_of_lt hj) with e | e
      · exact Or.inl (by rw [show from_ + 1 = j from e]; exact h1)
      · exact Or.inr ⟨j, e, h1⟩
  · rintro (h1 | ⟨j, hj, h1⟩)
    · exact Or.inr ⟨_, by omega, h1⟩
    · exact Or.inr ⟨j, by omega, h1⟩
theorem GJ2.fail {ps : List Pt} {s : List UInt8} {i at_ from_ : Nat} (h : GJ2 ps s i at_ 0 from_) (hn : ¬ G (ps.drop i) (s.drop at_)) : ¬ G ps s := fun hg => hn ((h.r0 rfl).1 hg)
theorem GJ2.end_ {ps : List Pt} {s : List UInt8} {i at_ rr from_ : Nat} (h : GJ2 ps s i at_ rr from_) (ha : s.length ≤ at_) : G ps s ↔ G (ps.drop i) [] := by
  have e : ∀ j, at_ ≤ j → s.drop j = [] := fun j hj => List.drop_eq_nil_of_le (by omega)
  rcases Nat.eq_zero_or_pos rr with h0 | h0
  · rw [h.r0 h0, e _ (Nat.le_refl _)]
  · rw [h.r1 h0, e _ (Nat.le_refl _)]
    constructor
    · rintro (h1 | ⟨j, hj, h1⟩)
      · exact h1
      · obtain ⟨j', hj', h2⟩ := h.r2 h0 j hj h1
        rw [e _ (Nat.le_of_lt hj')] at h2
        exact h2
    · exact Or.inl
theorem G.skipEnd {ps : List Pt} {i : Nat} {p : Pt} (hi : ps[i]? = some p) (hp : p.1 = true) : G (ps.drop i) [] ↔ G (ps.drop (i + 1)) [] := by
  have hd : ps.drop i = p :: ps.drop (i + 1) := by
    obtain ⟨hlt, e⟩ := List.getElem?_eq_some_iff.1 hi
    rw [List.drop_eq_getElem_cons hlt, e]
  rw [hd, G.star hp]
  exact ⟨fun ⟨j, h⟩ => by simpa using h, fun h => ⟨0, h⟩⟩
theorem G.stopEnd {ps : List Pt} {i : Nat} {p : Pt} (hi : ps[i]? = some p) (hp : p.1 = false) : ¬ G (ps.drop i) [] := by
  have hd : ps.drop i = p :: ps.drop (i + 1) := by
    obtain ⟨hlt, e⟩ := List.getElem?_eq_some_iff.1 hi
    rw [List.drop_eq_getElem_cons hlt, e]
  rw [hd, G.single hp]
  rintro ⟨c, t, e, _⟩
  cases e
/-- A pattern that is made longer at its end. -/
theorem G.snocNil {q : List Pt} {p : Pt} : ∀ {ps : List Pt} {s : List UInt8}, G (ps ++ p :: q) s → ∃ a b, s = a ++ b ∧ G ps a ∧ G (p :: q) b := by
  intro ps
  induction ps with
  | nil => intro s h; exact ⟨[], s, rfl, .nil, h⟩
  | cons x t ih =>
    intro s h
    generalize hl : x :: t ++ p :: q = l at h
    induction h with
    | nil => cases hl
    | skip h1 h2 _ =>
      injection hl with h3 h4
      subst h3
      subst h4
      obtain ⟨a, b, e, h5, h6⟩ := ih h2
      exact ⟨a, b, e, .skip h1 h5, h6⟩
    | @more p' q' c s' h1 h2 ih2 =>
      obtain ⟨a, b, e, h5, h6⟩ := ih2 hl
      injection hl with h3 h4
      subst h3
      exact ⟨c :: a, b, by rw [e]; rfl, .more h1 h5, h6⟩
    | @one p' q' c s' h1 h2 h3 _ =>
      injection hl with h4 h5
      subst h4
      subst h5
      obtain ⟨a, b, e, h6, h7⟩ := ih h3
      exact ⟨c :: a, b, by rw [e]; rfl, .one h1 h2 h6, h7⟩
theorem G.append {q : List Pt} : ∀ {ps : List Pt} {a b : List UInt8}, G ps a → G q b → G (ps ++ q) (a ++ b) := by
  intro ps a b h hq
  induction h with
  | nil => exact hq
  | skip h1 _ ih => exact .skip h1 ih
  | more h1 _ ih => exact .more h1 ih
  | one h1 h2 _ ih => exact .one h1 h2 ih
theorem G.snocOne {ps : List Pt} {p : Pt} (hp : p.1 = false) {s : List UInt8} : G (ps ++ [p]) s ↔ ∃ a c, s = a ++ [c] ∧ p.2 c.toNat = true ∧ G ps a := by
  constructor
  · intro h
    obtain ⟨a, b, e, h1, h2⟩ := G.snocNil h
    rw [G.single hp] at h2
    obtain ⟨c, t, e2, h3, h4⟩ := h2
    rw [G.none_] at h4
    subst h4
    exact ⟨a, c, by rw [e, e2], h3, h1⟩
  · rintro ⟨a, c, rfl, h3, h1⟩
    exact G.append h1 (.one hp h3 .nil)
theorem G.snocStar {ps : List Pt} {p : Pt} (hp : p.1 = true) {s : List UInt8} : G (ps ++ [p]) s ↔ G ps s ∨ ∃ a c, s = a ++ [c] ∧ G (ps ++ [p]) a := by
  constructor
  · intro h
    obtain ⟨a, b, e, h1, h2⟩ := G.snocNil h
    rcases List.eq_nil_or_concat b with hb | ⟨b', c, hb⟩
    · subst hb
      left
      rw [e, List.append_nil]; exact h1
    · right
      refine ⟨a ++ b', c, by rw [e, hb]; simp, G.append h1 ?_⟩
      rw [G.star hp]
      exact ⟨b'.length, by simp [G.none_]⟩
  · rintro (h | ⟨a, c, rfl, h⟩)
    · have := G.append h (G.skip (p := p) hp .nil)
      rw [List.append_nil] at this
      exact this
    · obtain ⟨x, b, e, h1, h2⟩ := G.snocNil h
      rw [e, List.append_assoc]
      refine G.append h1 ?_
      rw [G.star hp]
      exact ⟨(b ++ [c]).length, by simp [G.none_]⟩
end Go.Proofs.Ytkghoodhgihokaa.Glob
