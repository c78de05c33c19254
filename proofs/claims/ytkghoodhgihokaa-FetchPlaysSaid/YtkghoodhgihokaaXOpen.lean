/- What a law's argument that came in reads as, for arguments of every kind that the printed words know: numbers, bools, strings, structs and slices, nested. -/
import Derived.Deep.Slices
import Derived.SizedLaws
import Derived.Lib.SmallJoins
import Derived.Test.YtkghoodhgihokaaWWords
set_option linter.unusedVariables false
set_option linter.unusedSimpArgs false
namespace Go.Proofs.Ytkghoodhgihokaa.Open
open Go.RowKit Go.Proofs.YtkghoodhgihokaaW.PrintWords Go.ChangeShapes Go.WideShapes Go.Deep

/-- A value of type t that came in reads as kind d; G: what is known of it. -/
structure Opens {α : Type} (P : Program) (t : TypeId) (d : Kd α) (G : α → Prop) : Prop where
  sz : P.cellsOf t = d.sz
  op : ∀ {H : Type} {enc : TypeId × Value → H} {W : World} {fuel : Nat} {cs : List Value} {x : DataW H × List MemPlace}, DataW.trod enc P W 0 (fun _ => true) true fuel t cs = some x →
    (∀ n ∈ x.1.weights P t, n ≤ reachBytes) → ∃ y, d.K W y cs ∧ G y
/-- The fields of a struct from the one at offset o on. -/
structure OpensFs {α : Type} (P : Program) (fs : List Field) (o : Nat) (d : Kd α) (G : α → Prop) : Prop where
  op : ∀ {H : Type} {enc : TypeId × Value → H} {W : World} {fuel : Nat} {cs : List Value} {xs : List (DataW H × List MemPlace)}, cs.length = o + d.sz → xs.length = fs.length →
    (∀ (i : Nat) (f : Field), fs[i]? = some f → DataW.trod enc P W 0 (fun _ => true) true fuel f.type ((cs.drop f.offset).take (P.cellsOf f.type)) = xs[i]?) →
    (∀ n ∈ DataW.weightsEach P (fs.map (·.type)) (xs.map (·.1)), n ≤ reachBytes) → ∃ y, d.K W y (cs.drop o) ∧ G y

section
variable {P : Program} {α β : Type}

theorem opens_int {t : TypeId} {k : IntKind} (ht : P.underlying t = some (.int k)) (hc : P.cellsOf t = 1) : Opens P t (Kd.int k) (fun x => (Lit.int k x).wf = true) :=
  ⟨hc, fun h _ => by
    obtain ⟨n, rfl, _, hw⟩ := DataW.trod_int ht h
    exact ⟨n, rfl, hw⟩⟩
theorem opens_bool {t : TypeId} (ht : P.underlying t = some .bool) (hc : P.cellsOf t = 1) : Opens P t Kd.bool (fun _ => True) :=
  ⟨hc, fun h _ => by
    obtain ⟨b, rfl, _⟩ := DataW.trod_bool ht h
    exact ⟨b, rfl, trivial⟩⟩
theorem opens_string {t : TypeId} (ht : P.underlying t = some .string) (hc : P.cellsOf t = 1) : Opens P t Kd.string (fun s => s.size ≤ 140737488351232) :=
  ⟨hc, fun h hw => by
    obtain ⟨s, rfl, rfl, _⟩ := DataW.trod_string ht h
    refine ⟨s, rfl, ?_⟩
    have := hw s.data.toList.length (by simp [DataW.weights])
    simpa [reachBytes] using this⟩
theorem weights_all {H : Type} {e : TypeId} {l : List (DataW H)} {i : Nat} {x : DataW H} (hi : l[i]? = some x) {n : Nat} (hn : n ∈ x.weights P e) : n ∈ DataW.weightsAll P e l := by
  induction l generalizing i with
  | nil => simp at hi
  | cons a l ih =>
    simp only [DataW.weightsAll, List.mem_append]
    cases i with
    | zero =>
      simp only [List.getElem?_cons_zero, Option.some.injEq] at hi
      subst hi
      exact .inl hn
    | succ i =>
      simp only [List.getElem?_cons_succ] at hi
      exact .inr (ih hi)
theorem choose_list {β : Type} {p : Nat → β → Prop} : ∀ {n : Nat}, (∀ i, i < n → ∃ y, p i y) → ∃ l : List β, l.length = n ∧ ∀ i y, l[i]? = some y → p i y
  | 0, _ => ⟨[], rfl, fun i y h => by simp at h⟩
  | n + 1, h => by
    obtain ⟨l, hl, hp⟩ := choose_list (n := n) (fun i hi => h i (by omega))
    obtain ⟨y, hy⟩ := h n (by omega)
    refine ⟨l ++ [y], by simp [hl], fun i z hz => ?_⟩
    rcases Nat.lt_or_ge i n with hi | hi
    · rw [List.getElem?_append_left (by omega)] at hz
      exact hp i z hz
    · have hi' : i = n := by
        have := (List.getElem?_eq_some_iff.1 hz).1
        simp [hl] at this
        omega
      subst hi'
      rw [List.getElem?_append_right (by omega), hl, Nat.sub_self] at hz
      simp at hz
      subst hz
      exact hy
theorem opens_slice {t e : TypeId} {d : Kd α} {G : α → Prop} {B : Nat} (ht : P.underlying t = some (.slice e)) (hc : P.cellsOf t = 1) (hB : P.bytesOf e = B) (he : Opens P e d G) :
    Opens P t (Kd.slice e d) (fun l => l.length * B ≤ 140737488351232 ∧ ∀ x ∈ l, G x) :=
  ⟨hc, fun {H enc W fuel cs x} h hw => by
    rcases open_slice ht h with ⟨rfl, _⟩ | ⟨a, len, cap, m, n, D, Pl, rfl, hb, hl, hm, hmm, rfl, hx⟩
    · exact ⟨[], ⟨none, 0, rfl, Nat.le_refl _, rfl, by simp, fun h => absurd h (by simp)⟩, by simp⟩
    · have hm' : m = cap := by simpa using hmm
      subst hm'
      have hlen : ∀ i, i < len → (((List.range len).map D)[i]? = some (D i)) := fun i hi => by simp [hi]
      have hel : ∀ i, i < len → ∃ y, (∃ c, c.length = d.sz ∧ d.K W y c ∧ ∀ j u, c[j]? = some u → W.cell? (a.add (i * d.sz + j)) = some u) ∧ G y := fun i hi => by
        obtain ⟨cs', h1, h2⟩ := hx i (by omega)
        obtain ⟨_, hcl, hcc⟩ := World.cells?_some h1
        obtain ⟨y, hK, hG⟩ := he.op h2 (fun k hk => hw k (by
          simp only [DataW.weights, ht, List.mem_cons, List.mem_append]
          exact .inr (.inl (weights_all (hlen i hi) hk))))
        refine ⟨y, ⟨cs', by rw [hcl, he.sz], hK, fun j u hu => ?_⟩, hG⟩
        have hj := (List.getElem?_eq_some_iff.1 hu).1
        rw [← hu, ← hcc j (by omega), he.sz, Go.Deep.add_add]
      obtain ⟨l, hll, hp⟩ := choose_list hel
      have h0 := hw ((((List.range len).map D).length + ((List.range (m - len)).map fun j => D (len + j)).length) * P.bytesOf e) (by simp [DataW.weights, ht])
      refine ⟨l, ⟨some a, m, by rw [hll], by omega, rfl, ?_, fun _ => ⟨a, rfl, fun j p hj => ?_⟩⟩, ?_, fun x hx => ?_⟩
      · rw [hll]
        unfold maxLen at hm
        omega
      · exact (hp j p hj).1
      · rw [hB] at h0
        simp only [List.length_map, List.length_range, reachBytes] at h0
        rw [hll]
        have : len * B ≤ (len + (m - len)) * B := Nat.mul_le_mul_right _ (by omega)
        omega
      · obtain ⟨i, hi⟩ := List.mem_iff_getElem?.1 hx
        exact (hp i x hi).2⟩
theorem opens_last {f : Field} {o : Nat} {d : Kd α} {G : α → Prop} (ho : f.offset = o) (hf : Opens P f.type d G) : OpensFs P [f] o d G := by
  refine ⟨?_⟩
  intro H enc W fuel cs xs hl hx h hw
  obtain ⟨x, rfl⟩ : ∃ x, xs = [x] := by
    match xs, hx with
    | [x], _ => exact ⟨x, rfl⟩
  have h1 := h 0 f rfl
  have e : (cs.drop f.offset).take (P.cellsOf f.type) = cs.drop o := by
    rw [ho, List.take_of_length_le]
    rw [hf.sz, List.length_drop, hl]
    omega
  rw [e] at h1
  exact hf.op h1 (fun n hn => hw n (by simpa [DataW.weightsEach] using hn))
theorem opens_more {f : Field} {fs : List Field} {o : Nat} {d : Kd α} {d' : Kd β} {G : α → Prop} {G' : β → Prop} (ho : f.offset = o) (hf : Opens P f.type d G) (hfs : OpensFs P fs (o + d.sz) d' G') :
    OpensFs P (f :: fs) o (Kd.pair d d') (fun x => G x.1 ∧ G' x.2) := by
  refine ⟨?_⟩
  intro H enc W fuel cs xs hl hx h hw
  obtain ⟨x, xs, rfl⟩ : ∃ x xs', xs = x :: xs' := by
    match xs, hx with
    | x :: xs', _ => exact ⟨x, xs', rfl⟩
  have h1 := h 0 f rfl
  rw [ho, hf.sz] at h1
  have hl' : cs.length = o + (d.sz + d'.sz) := hl
  obtain ⟨y, hK, hG⟩ := hf.op h1 (fun n hn => hw n (by simp only [List.map_cons, DataW.weightsEach, List.mem_append]; exact .inl hn))
  obtain ⟨z, hK', hG'⟩ := hfs.op (enc := enc) (W := W) (fuel := fuel) (cs := cs) (xs := xs) (by omega) (by simpa using hx) (fun i g hg => by
    have := h (i + 1) g (by simpa using hg)
    simpa using this) (fun n hn => hw n (by simp only [List.map_cons, DataW.weightsEach, List.mem_append]; exact .inr hn))
  refine ⟨(y, z), ⟨_, _, ?_, hK, hK'⟩, hG, hG'⟩
  rw [← List.drop_drop, List.take_append_drop]
theorem opens_struct {t : TypeId} {fs : List Field} {d : Kd α} {G : α → Prop} {f : β → α} {g : α → β} (ht : P.underlying t = some (.struct fs.toArray)) (hc : P.cellsOf t = d.sz) (hfs : OpensFs P fs 0 d G) (hg : ∀ y, f (g y) = y) :
    Opens P t (Kd.iso d f) (fun s => G (f s)) :=
  ⟨hc, fun h hw => by
    obtain ⟨xs, n, rfl, rfl, hl, hxl, hx⟩ := DataW.trod_struct ht h
    obtain ⟨y, hK, hG⟩ := hfs.op (by rw [hl, hc]; omega) (by simpa using hxl) (fun i f hf => hx i f (by simpa using hf)) (fun k hk => hw k (by simpa [DataW.weights, ht] using hk))
    refine ⟨g y, ?_, ?_⟩
    · show d.K _ (f (g y)) _
      rw [hg]
      simpa using hK
    · show G (f (g y))
      rw [hg]
      exact hG⟩
theorem Opens.imp_ {t : TypeId} {d : Kd α} {G G' : α → Prop} (h : Opens P t d G) (hG : ∀ x, G x → G' x) : Opens P t d G' :=
  ⟨h.sz, fun h1 h2 => by
    obtain ⟨y, hK, hy⟩ := h.op h1 h2
    exact ⟨y, hK, hG y hy⟩⟩
/-- Behind a row's preamble: argument j. -/
theorem opened {H : Type} {enc : TypeId × Value → H} {W : World} {t : TypeId} {d : Kd α} {G : α → Prop} (ho : Opens P t d G) {v : Value} {x : DataW H} {ps : List MemPlace} {ts : List TypeId} {ds : List (DataW H)} {j : Nat}
    (hsz : (DataW.weightsEach P ts ds).all (· ≤ reachBytes) = true) (ht : ts[j]? = some t) (hd : ds[j]? = some x) (h : DataW.Trod enc P W 0 (fun _ => true) true t v x ps) : ∃ y, d.K W y v.cells.toList ∧ G y := by
  obtain ⟨fuel, hf⟩ := h
  exact ho.op hf (fun n hn => by
    have := List.all_eq_true.1 hsz n (DataW.weights_mem_each ht hd n hn)
    simpa using this)
/-- A slice that came in, as the printed contracts ask for it. -/
theorem opened_slice {H : Type} {enc : TypeId × Value → H} {W : World} {t e : TypeId} {d : Kd α} {G : List α → Prop} (ho : Opens P t (Kd.slice e d) G) {v : Value} {x : DataW H} {ps : List MemPlace} {ts : List TypeId} {ds : List (DataW H)} {j : Nat}
    (hsz : (DataW.weightsEach P ts ds).all (· ≤ reachBytes) = true) (ht : ts[j]? = some t) (hd : ds[j]? = some x) (hv : ∃ a n c, v = .slice a n c) (h : DataW.Trod enc P W 0 (fun _ => true) true t v x ps) :
    ∃ A c l, v = .slice A l.length c ∧ Kd.C d W A l.length l ∧ l.length ≤ c ∧ G l := by
  obtain ⟨y, ⟨A, c, hcs, hl, hC⟩, hG⟩ := opened ho hsz ht hd h
  obtain ⟨a, n, c', rfl⟩ := hv
  simp [Value.cells] at hcs
  obtain ⟨rfl, rfl, rfl⟩ := hcs
  exact ⟨a, c', y, rfl, hC, hl, hG⟩
end
end Go.Proofs.Ytkghoodhgihokaa.Open
