/- lz.Parse answers what its reference answers, at every slice of bytes; no further condition. -/
import Derived.Test.YtjhmjgcebijmiaaHLzParsesx
import Derived.Test.YtjhmjgcebijmiaaHelp
namespace Go.Proofs.Ytjhmjgcebijmiaa.Pure
open Go.RowKit Go.Proofs.Ytjhmjgcebijmiaa.HLzParses Go.Proofs.YtjhmjgcebijmiaaW.PrintWords Go.Proofs.YtjhmjgcebijmiaaW.PrintLast Go.Proofs.Ytjhmjgcebijmiaa.Help
set_option linter.unusedSimpArgs false
set_option linter.unusedVariables false

abbrev Tk := S40
/-- How far two lists are alike from their starts. -/
def cpl : List Int → List Int → Nat
  | a :: ta, b :: tb => if a = b then cpl ta tb + 1 else 0
  | _, _ => 0
theorem cpl_le (a b : List Int) : cpl a b ≤ a.length ∧ cpl a b ≤ b.length := by
  induction a generalizing b with
  | nil => simp [cpl]
  | cons x ta ih =>
    cases b with
    | nil => simp [cpl]
    | cons y tb =>
      have := ih tb
      unfold cpl
      split <;> simp only [List.length_cons] <;> omega
theorem cpl_eq (a b : List Int) (n : Nat) (h : n < cpl a b) : a.getD n 0 = b.getD n 0 := by
  induction a generalizing b n with
  | nil => simp [cpl] at h
  | cons x ta ih =>
    cases b with
    | nil => simp [cpl] at h
    | cons y tb =>
      unfold cpl at h
      split at h
      · rename_i e
        subst e
        cases n with
        | zero => rfl
        | succ n =>
          have := ih tb n (by omega)
          simpa using this
      · omega
theorem cpl_ne (a b : List Int) (ha : cpl a b < a.length) (hb : cpl a b < b.length) : ¬ a.getD (cpl a b) 0 = b.getD (cpl a b) 0 := by
  induction a generalizing b with
  | nil => simp at ha
  | cons x ta ih =>
    cases b with
    | nil => simp at hb
    | cons y tb =>
      by_cases e : x = y
      · subst e
        have hc : cpl (x :: ta) (x :: tb) = cpl ta tb + 1 := by rw [cpl, if_pos rfl]
        rw [hc] at ha hb ⊢
        simp only [List.length_cons] at ha hb
        have := ih tb (by omega) (by omega)
        simpa using this
      · have hc : cpl (x :: ta) (y :: tb) = 0 := by rw [cpl, if_neg e]
        rw [hc]
        simpa using e
theorem cpl_take (n : Nat) : ∀ (a b : List Int), n ≤ a.length → n ≤ b.length → (a.take n = b.take n ↔ n ≤ cpl a b) := by
  induction n with
  | zero => intro a b _ _; simp
  | succ n ih =>
    intro a b ha hb
    cases a with
    | nil => simp at ha
    | cons x ta =>
      cases b with
      | nil => simp at hb
      | cons y tb =>
        simp only [List.length_cons] at ha hb
        have := ih ta tb (by omega) (by omega)
        simp only [List.take_succ_cons, List.cons.injEq]
        unfold cpl
        split
        · rename_i e
          rw [this]
          exact ⟨fun h => by omega, fun h => ⟨e, by omega⟩⟩
        · rename_i e
          exact ⟨fun h => absurd h.1 e, fun h => by omega⟩
theorem rd_drop (l : List Int) (i n : Nat) : rd l ((i + n : Nat) : Int) = (l.drop i).getD n 0 := by
  unfold rd
  rw [Int.toNat_natCast, List.getD_eq_getElem?_getD, List.getD_eq_getElem?_getD, List.getElem?_drop]
theorem rd_0 (l : List Int) (n : Nat) : rd l (n : Int) = l.getD n 0 := by
  unfold rd
  rw [Int.toNat_natCast]
/-- How long what stands from p on stands from n on, too: at most two hundred. -/
def far (l : List Int) (p n : Nat) : Nat := min 200 (cpl (l.drop p) (l.drop n))
theorem far_le (l : List Int) (p n : Nat) : far l p n ≤ 200 ∧ far l p n ≤ l.length - n ∧ far l p n ≤ cpl (l.drop p) (l.drop n) := by
  have := cpl_le (l.drop p) (l.drop n)
  rw [List.length_drop, List.length_drop] at this
  unfold far
  omega
theorem run_loop (l : List Int) (hl : l.length ≤ 4096) (p n : Nat) (hp : p < n) (hn : n < l.length) (d : Nat) : ∀ (k x : Nat), far l p n - x = d → x ≤ far l p n → d < k → lz_run.l0 k l (p : Int) (n : Int) (x : Int) = some ((far l p n : Nat) : Int) := by
  obtain ⟨f1, f2, f3⟩ := far_le l p n
  induction d with
  | zero =>
    intro k x hd hx hk
    obtain ⟨k, rfl⟩ : ∃ m, k = m + 1 := ⟨k - 1, by omega⟩
    have e : x = far l p n := by omega
    rw [lz_run.l0, show wrap64 ((n : Int) + (x : Int)) = ((n + x : Nat) : Int) by rw [w64 (by omega) (by omega)]; omega, show wrap64 ((p : Int) + (x : Int)) = ((p + x : Nat) : Int) by rw [w64 (by omega) (by omega)]; omega]
    by_cases c1 : (x : Int) < 200
    · rw [if_pos c1]
      by_cases c2 : ((n + x : Nat) : Int) < (l.length : Int)
      · rw [if_pos c2, if_pos (by omega), if_pos (by omega), if_pos (by omega), if_neg (by
          have e2 : x = cpl (l.drop p) (l.drop n) := by unfold far at e; omega
          rw [rd_drop, rd_drop, e2]
          exact cpl_ne (l.drop p) (l.drop n) (by rw [List.length_drop]; omega) (by rw [List.length_drop]; omega)), e]
      · rw [if_neg c2, e]
    · rw [if_neg c1, e]
  | succ d ih =>
    intro k x hd hx hk
    obtain ⟨k, rfl⟩ : ∃ m, k = m + 1 := ⟨k - 1, by omega⟩
    rw [lz_run.l0, show wrap64 ((n : Int) + (x : Int)) = ((n + x : Nat) : Int) by rw [w64 (by omega) (by omega)]; omega, show wrap64 ((p : Int) + (x : Int)) = ((p + x : Nat) : Int) by rw [w64 (by omega) (by omega)]; omega, show wrap64 ((x : Int) + 1) = ((x + 1 : Nat) : Int) by rw [w64 (by omega) (by omega)]; omega]
    rw [if_pos (by omega), if_pos (by omega), if_pos (by omega), if_pos (by omega), if_pos (by omega), if_pos (by rw [rd_drop, rd_drop]; exact cpl_eq (l.drop p) (l.drop n) x (by omega))]
    exact ih k (x + 1) (by omega) (by omega) (by omega)
theorem run_is (l : List Int) (hl : l.length ≤ 4096) (p n : Nat) (hp : p < n) (hn : n < l.length) (k : Nat) (hk : 300 ≤ k) : lz_run.f k l (p : Int) (n : Int) = some ((far l p n : Nat) : Int) := by
  have := (far_le l p n).1
  exact run_loop l hl p n hp hn (far l p n) k 0 (by omega) (by omega) (by omega)
/-- The longest of the runs, the nearest place first, of p places. -/
def pk (l : List Int) (n : Nat) : Nat → Int × Int → Int × Int
  | 0, s => s
  | q + 1, s => if n - q ≤ 255 then pk l n q (if ((far l q n : Nat) : Int) > s.2 then (((n - q : Nat) : Int), ((far l q n : Nat) : Int)) else s) else s
def Rel (r c : Int × Int) : Prop := (r = (0, 2) ∧ c = (0, 0)) ∨ (3 ≤ r.2 ∧ 1 ≤ r.1 ∧ c = r)
theorem pk_bd (l : List Int) (n : Nat) (p : Nat) : ∀ s : Int × Int, (s.2 ≤ 2 ∨ s.2 ≤ ((l.length - n : Nat) : Int)) → (pk l n p s).2 ≤ 2 ∨ (pk l n p s).2 ≤ ((l.length - n : Nat) : Int) := by
  induction p with
  | zero => intro s h; exact h
  | succ q ih =>
    intro s h
    unfold pk
    split
    · refine ih _ ?_
      have := (far_le l q n).2.1
      split
      · exact .inr (by show ((far l q n : Nat) : Int) ≤ _; omega)
      · exact h
    · exact h
theorem run_iff (l : List Int) (q n : Nat) (hq : q < n) (hn : n + 3 ≤ l.length) : run3 l q = run3 l n ↔ 3 ≤ far l q n := by
  have e : ∀ (i : Nat), run3 l i = (l.drop i).take 3 := by
    intro i
    unfold run3
    rw [List.drop_take]
    congr 1
    omega
  rw [e, e, cpl_take 3 _ _ (by rw [List.length_drop]; omega) (by rw [List.length_drop]; omega)]
  unfold far
  omega
theorem pick_far (k : Nat) (l : List Int) (n q : Nat) (x : List Int) (t : Int × Int) (h : 255 < n - q) (hq : q ≤ n) : pickB k l n (idx3 l x q).reverse t = some t := by
  cases hz : (idx3 l x q).reverse with
  | nil => rfl
  | cons z zs =>
    have hm : z ∈ idx3 l x q := by
      have : z ∈ (idx3 l x q).reverse := by rw [hz]; exact List.mem_cons_self
      exact List.mem_reverse.1 this
    obtain ⟨i, rfl, hi⟩ := idx3_bd hm
    rw [pickB, if_neg (by omega)]
theorem pick_rel (l : List Int) (hl : l.length ≤ 4096) (n : Nat) (hn : n + 3 ≤ l.length) (k : Nat) (hk : 300 ≤ k) (p : Nat) : p ≤ n → ∀ r t : Int × Int, Rel r t → ∃ t', pickB k l n (idx3 l (run3 l n) p).reverse t = some t' ∧ Rel (pk l n p r) t' := by
  induction p with
  | zero => intro _ r t h; exact ⟨t, rfl, h⟩
  | succ q ih =>
    intro hq r t h
    have hr2 : 2 ≤ r.2 := by rcases h with ⟨rfl, _⟩ | ⟨h1, _, _⟩ <;> first | exact Int.le_refl _ | omega
    by_cases hit : run3 l q = run3 l n
    · have hf := (run_iff l q n (by omega) hn).1 hit
      rw [idx3_hit l _ q hit, List.reverse_append, List.reverse_singleton, List.singleton_append, pickB, pk]
      by_cases h255 : n - q ≤ 255
      · rw [if_pos (by omega), if_pos h255, run_is l hl q n (by omega) (by omega) k hk, Option.bind_some]
        refine ih (by omega) _ _ ?_
        have e : (n : Int) - (q : Int) = ((n - q : Nat) : Int) := by omega
        rw [e]
        rcases h with ⟨rfl, rfl⟩ | ⟨h1, h2, rfl⟩
        · rw [if_pos (by show ((far l q n : Nat) : Int) > 2; omega), if_pos (by show ((far l q n : Nat) : Int) > 0; omega)]
          exact .inr ⟨by show (3 : Int) ≤ ((far l q n : Nat) : Int); omega, by show (1 : Int) ≤ ((n - q : Nat) : Int); omega, rfl⟩
        · split
          · exact .inr ⟨by show (3 : Int) ≤ ((far l q n : Nat) : Int); omega, by show (1 : Int) ≤ ((n - q : Nat) : Int); omega, rfl⟩
          · exact .inr ⟨h1, h2, rfl⟩
      · rw [if_neg (by omega), if_neg h255]
        exact ⟨t, rfl, h⟩
    · have hf := mt (run_iff l q n (by omega) hn).2 hit
      rw [idx3_miss l _ q hit, pk]
      by_cases h255 : n - q ≤ 255
      · rw [if_pos h255, if_neg (by omega)]
        exact ih (by omega) r t h
      · rw [if_neg h255]
        exact ⟨t, pick_far k l n q _ t (by omega) (by omega), h⟩
theorem pk_small (l : List Int) (n : Nat) (hn : ¬ n + 3 ≤ l.length) (p : Nat) : pk l n p (0, 2) = (0, 2) := by
  induction p with
  | zero => rfl
  | succ q ih =>
    have := (far_le l q n).2.1
    unfold pk
    split
    · rw [if_neg (by show ¬ ((far l q n : Nat) : Int) > 2; omega)]
      exact ih
    · rfl
theorem best_is (l : List Int) (hl : l.length ≤ 4096) (n : Nat) (hn : n < l.length) (k : Nat) (hk : 300 ≤ k) : ∃ t, finder_best.f k l n = some t ∧ Rel (pk l n n (0, 2)) t := by
  unfold finder_best.f
  by_cases h3 : n + 3 ≤ l.length
  · rw [if_pos h3]
    exact pick_rel l hl n h3 k hk n (Nat.le_refl _) _ _ (.inl ⟨rfl, rfl⟩)
  · rw [if_neg h3]
    exact ⟨_, rfl, .inl ⟨pk_small l n h3 n, rfl⟩⟩
/-! ### the reference -/
theorem ref_l2 (l : List Int) (hl : l.length ≤ 4096) (R : List Tk × Int) (o : List Tk) (n q : Nat) (hq : q < n) (hn : n < l.length) (s : Int × Int) (d : Nat) : ∀ x : Nat, far l q n - x = d → x ≤ far l q n → (∃ k, packthreadref_LzParsed.l1 k l o (n : Int) (if ((far l q n : Nat) : Int) > s.2 then (((n - q : Nat) : Int), ((far l q n : Nat) : Int)) else s).1 (if ((far l q n : Nat) : Int) > s.2 then (((n - q : Nat) : Int), ((far l q n : Nat) : Int)) else s).2 ((n - q + 1 : Nat) : Int) = some R) → ∃ k, packthreadref_LzParsed.l2 k l o (n : Int) s.1 s.2 ((n - q : Nat) : Int) (x : Int) = some R := by
  obtain ⟨f1, f2, f3⟩ := far_le l q n
  induction d with
  | zero =>
    intro x hd hx hk
    obtain ⟨k, hk⟩ := hk
    refine ⟨k + 1, ?_⟩
    have e : x = far l q n := by omega
    rw [packthreadref_LzParsed.l2, show wrap64 ((n : Int) + (x : Int)) = ((n + x : Nat) : Int) by rw [w64 (by omega) (by omega)]; omega, show wrap64 (((n + x : Nat) : Int) - ((n - q : Nat) : Int)) = ((q + x : Nat) : Int) by rw [w64 (by omega) (by omega)]; omega, show wrap64 (((n - q : Nat) : Int) + 1) = ((n - q + 1 : Nat) : Int) by rw [w64 (by omega) (by omega)]; omega]
    have hEnd : (if (x : Int) > s.2 then packthreadref_LzParsed.l1 k l o (n : Int) ((n - q : Nat) : Int) (x : Int) ((n - q + 1 : Nat) : Int) else packthreadref_LzParsed.l1 k l o (n : Int) s.1 s.2 ((n - q + 1 : Nat) : Int)) = some R := by
      rw [← hk, e]
      split <;> rfl
    by_cases c1 : (x : Int) < 200
    · rw [if_pos c1]
      by_cases c2 : ((n + x : Nat) : Int) < (l.length : Int)
      · rw [if_pos c2, if_pos (by omega), if_pos (by omega), if_pos (by omega), if_neg (by
          have e2 : x = cpl (l.drop q) (l.drop n) := by unfold far at e; omega
          rw [rd_drop, rd_drop, e2]
          exact cpl_ne (l.drop q) (l.drop n) (by rw [List.length_drop]; omega) (by rw [List.length_drop]; omega))]
        exact hEnd
      · rw [if_neg c2]
        exact hEnd
    · rw [if_neg c1]
      exact hEnd
  | succ d ih =>
    intro x hd hx hk
    obtain ⟨k, hk⟩ := ih (x + 1) (by omega) (by omega) hk
    refine ⟨k + 1, ?_⟩
    rw [packthreadref_LzParsed.l2, show wrap64 ((n : Int) + (x : Int)) = ((n + x : Nat) : Int) by rw [w64 (by omega) (by omega)]; omega, show wrap64 (((n + x : Nat) : Int) - ((n - q : Nat) : Int)) = ((q + x : Nat) : Int) by rw [w64 (by omega) (by omega)]; omega, show wrap64 ((x : Int) + 1) = ((x + 1 : Nat) : Int) by rw [w64 (by omega) (by omega)]; omega]
    rw [if_pos (by omega), if_pos (by omega), if_pos (by omega), if_pos (by omega), if_pos (by omega), if_pos (by rw [rd_drop, rd_drop]; exact cpl_eq (l.drop q) (l.drop n) x (by omega))]
    exact hk
theorem ref_l1 (l : List Int) (hl : l.length ≤ 4096) (R : List Tk × Int) (o : List Tk) (n : Nat) (hn : n < l.length) (p : Nat) : p ≤ n → ∀ s : Int × Int, (∃ k, ∀ d' : Int, packthreadref_LzParsed.j2 k l o (n : Int) (pk l n p s).1 (pk l n p s).2 d' false = some R) → ∃ k, packthreadref_LzParsed.l1 k l o (n : Int) s.1 s.2 ((n - p + 1 : Nat) : Int) = some R := by
  induction p with
  | zero =>
    intro _ s hk
    obtain ⟨k, hk⟩ := hk
    refine ⟨k + 1, ?_⟩
    rw [packthreadref_LzParsed.l1]
    split
    · rw [decide_eq_false (by omega)]
      exact hk _
    · exact hk _
  | succ q ih =>
    intro hq s hk
    by_cases h255 : n - q ≤ 255
    · rw [pk, if_pos h255] at hk
      have h1 := ih (by omega) _ hk
      obtain ⟨k, h2⟩ := ref_l2 l hl R o n q (by omega) hn s (far l q n) 0 (by omega) (by omega) h1
      refine ⟨k + 1 + 1, ?_⟩
      rw [packthreadref_LzParsed.l1, show n - (q + 1) + 1 = n - q by omega, if_pos (by omega), decide_eq_true (by omega), packthreadref_LzParsed.j2, if_pos rfl]
      exact h2
    · rw [pk, if_neg h255] at hk
      obtain ⟨k, hk⟩ := hk
      refine ⟨k + 1, ?_⟩
      rw [packthreadref_LzParsed.l1, if_neg (by omega)]
      exact hk _
theorem ref_l0 (l : List Int) (hl : l.length ≤ 4096) (R : List Tk × Int) (o : List Tk) (n : Nat) (hn : n < l.length) (hk : ∃ k, ∀ d' : Int, packthreadref_LzParsed.j2 k l o (n : Int) (pk l n n (0, 2)).1 (pk l n n (0, 2)).2 d' false = some R) : ∃ k, packthreadref_LzParsed.l0 k l o (n : Int) = some R := by
  obtain ⟨k, h⟩ := ref_l1 l hl R o n hn n (Nat.le_refl _) (0, 2) hk
  refine ⟨k + 1, ?_⟩
  rw [packthreadref_LzParsed.l0, if_pos (by omega)]
  rw [show n - n + 1 = 1 by omega] at h
  exact h
theorem more (l : List Int) (o : List Tk) (n : Nat) (R : List Tk × Int) (k : Nat) (h : lz_Parse.l0 k l o n = some R) (m : Nat) : lz_Parse.l0 (k + m) l o n = some R := by
  induction m with
  | zero => exact h
  | succ m ih => exact lz_Parse.mono_l _ _ _ _ _ ih
theorem both (l : List Int) (hl : l.length ≤ 4096) (d : Nat) : ∀ (n : Nat) (o : List Tk), l.length - n = d → n ≤ l.length → o.length ≤ n →
    ∃ R : List Tk, R.length ≤ 4096 ∧ (∃ k, lz_Parse.l0 k l o n = some (R, 0)) ∧ ∃ k, packthreadref_LzParsed.l0 k l o (n : Int) = some (R, 0) := by
  induction d using Nat.strongRecOn with
  | ind d ih =>
    intro n o hd hn ho
    by_cases hlt : n < l.length
    case neg =>
      refine ⟨o, by omega, ⟨1, ?_⟩, ⟨1, ?_⟩⟩
      · rw [lz_Parse.l0, if_neg hlt]
      · rw [packthreadref_LzParsed.l0, if_neg (by omega)]
    obtain ⟨M, hM⟩ : ∃ M : Nat, 300 ≤ M := ⟨300, Nat.le_refl _⟩
    have hb := pk_bd l n n (0, 2) (.inl (Int.le_refl _))
    obtain ⟨s, hs⟩ : ∃ s, pk l n n (0, 2) = s := ⟨_, rfl⟩
    rw [hs] at hb
    have hlen : ∀ x : Tk, (o ++ [x]).length = o.length + 1 := fun x => by rw [List.length_append]; rfl
    by_cases hz : s = (0, 2)
    · obtain ⟨R, hR, ⟨k, hk⟩, ⟨k', hk'⟩⟩ := ih (l.length - (n + 1)) (by omega) (n + 1) (o ++ [(⟨rd l (n : Int), 0, 0⟩ : Tk)]) rfl (by omega) (by rw [hlen]; omega)
      refine ⟨R, hR, ⟨k + M + 1, ?_⟩, ?_⟩
      · obtain ⟨t, ht, hrel⟩ := best_is l hl n hlt (k + M) (by omega)
        rw [hs, hz] at hrel
        have e : t = (0, 0) := by
          rcases hrel with ⟨_, h⟩ | ⟨h, _⟩
          · exact h
          · exact absurd h (by decide)
        rw [lz_Parse.l0, if_pos hlt, ht, Option.bind_some, e, if_pos ⟨by decide, by show (n : Int) + 0 ≤ _; omega, by omega⟩, if_pos rfl]
        exact more _ _ _ _ _ hk _
      · refine ref_l0 l hl _ o n hlt ⟨k' + 1, fun d' => ?_⟩
        have hw := Aside0.mk (show wrap64 ((n : Int) + 1) = ((n + 1 : Nat) : Int) by rw [w64 (by omega) (by omega)]; omega)
        rw [hs, hz, packthreadref_LzParsed.j2, if_neg (by simp), if_pos rfl, if_pos (by omega), if_pos (by omega), if_pos (by omega), hw.out]
        exact hk'
    · have hsp : 3 ≤ s.2 ∧ 1 ≤ s.1 := by
        obtain ⟨t, ht, hrel⟩ := best_is l hl n hlt M hM
        rw [hs] at hrel
        rcases hrel with ⟨h, _⟩ | ⟨h1, h2, _⟩
        · exact absurd h hz
        · exact ⟨h1, h2⟩
      obtain ⟨m, hm⟩ : ∃ m : Nat, s.2 = (m : Int) := ⟨s.2.toNat, by omega⟩
      have hmn : m ≤ l.length - n := by omega
      obtain ⟨R, hR, ⟨k, hk⟩, ⟨k', hk'⟩⟩ := ih (l.length - (n + m)) (by omega) (n + m) (o ++ [(⟨0, s.1, s.2⟩ : Tk)]) rfl (by omega) (by rw [hlen]; omega)
      refine ⟨R, hR, ⟨k + M + 1, ?_⟩, ?_⟩
      · obtain ⟨t, ht, hrel⟩ := best_is l hl n hlt (k + M) (by omega)
        rw [hs] at hrel
        have e : t = s := by
          rcases hrel with ⟨h, _⟩ | ⟨_, _, h⟩
          · exact absurd h hz
          · exact h
        rw [lz_Parse.l0, if_pos hlt, ht, Option.bind_some, e, if_pos ⟨by omega, by omega, by omega⟩, if_neg (by omega), show n + s.2.toNat = n + m by omega]
        exact more _ _ _ _ _ hk _
      · refine ref_l0 l hl _ o n hlt ⟨k' + 1, fun d' => ?_⟩
        have hw := Aside0.mk (show wrap64 ((n : Int) + s.2) = ((n + m : Nat) : Int) by rw [hm, w64 (by omega) (by omega)]; omega)
        rw [hs, packthreadref_LzParsed.j2, if_neg (by simp), if_neg (by omega), if_pos (by omega), hw.out]
        exact hk'
theorem toks_loop (l : List Tk) (hl : l.length ≤ 4096) (d : Nat) : ∀ (k i : Nat), l.length - i = d → i ≤ l.length → d < k → packthreadlaw_LzParses.l0 k l l (i : Int) = some true := by
  induction d with
  | zero =>
    intro k i hd hi hk
    obtain ⟨k, rfl⟩ : ∃ m, k = m + 1 := ⟨k - 1, by omega⟩
    rw [packthreadlaw_LzParses.l0, if_neg (by omega)]
  | succ d ih =>
    intro k i hd hi hk
    obtain ⟨k, rfl⟩ : ∃ m, k = m + 1 := ⟨k - 1, by omega⟩
    rw [packthreadlaw_LzParses.l0, if_pos (by omega), if_pos (by omega), if_pos (by omega), if_neg (by simp), w64 (by omega) (by omega)]
    exact ih k (i + 1) (by omega) (by omega) (by omega)
theorem up {α : Type} {F : Nat → Option α} (hm : ∀ k, LeO (F k) (F (k + 1))) {k : Nat} {r : α} (h : F k = some r) (m : Nat) : F (k + m) = some r := by
  induction m with
  | zero => exact h
  | succ m ih => exact hm _ _ ih
theorem byte_all {l : List Int} (h : ∀ x ∈ l, (Lit.int .u8 x).wf = true) : byteB l = true := by
  unfold byteB
  rw [List.all_eq_true]
  intro x hx
  have := wf8 (h x hx)
  simp only [Bool.and_eq_true, decide_eq_true_eq]
  exact this
theorem join (a : List Int) (R : List Tk × Int) (hR : R.1.length ≤ 4096) (k1 k2 : Nat) (e1 : lz_Parse.f k1 a = some R) (e2 : packthreadref_LzParsed.f k2 a = some R) : ∃ k, packthreadlaw_LzParses.f k a = some true := by
  obtain ⟨K, hK⟩ : ∃ K : Nat, 4100 < K := ⟨4101, by omega⟩
  refine ⟨k1 + k2 + (K + 1), ?_⟩
  have f1 := up (F := fun k => lz_Parse.f k a) (fun k => lz_Parse.mono _ k) e1 (k2 + (K + 1))
  have f2 := up (F := fun k => packthreadref_LzParsed.f k a) (fun k => packthreadref_LzParsed.mono _ k) e2 (k1 + (K + 1))
  replace f1 : lz_Parse.f (k1 + (k2 + (K + 1))) a = some R := f1
  replace f2 : packthreadref_LzParsed.f (k2 + (k1 + (K + 1))) a = some R := f2
  rw [show k1 + (k2 + (K + 1)) = k1 + k2 + (K + 1) by omega] at f1
  rw [show k2 + (k1 + (K + 1)) = k1 + k2 + (K + 1) by omega] at f2
  unfold packthreadlaw_LzParses.f
  rw [f1, Option.bind_some, f2, Option.bind_some, if_pos rfl, show k1 + k2 + (K + 1) = k1 + k2 + K + 1 by omega, packthreadlaw_LzParses.j0, if_neg (by simp)]
  exact toks_loop R.1 hR R.1.length (k1 + k2 + K) 0 (by omega) (by omega) (by omega)
theorem LzParses (a : List Int) (ha : a.length * 1 ≤ 140737488351232 ∧ ∀ x ∈ a, (Lit.int .u8 x).wf = true) : ∃ k, packthreadlaw_LzParses.f k a = some true := by
  have hbb : byteB a = true := byte_all ha.2
  by_cases h0 : (a.length : Int) > 4096
  · refine join a ([], 1) (by simp) 1 1 ?_ ?_
    · unfold lz_Parse.f; rw [if_pos hbb, if_pos h0]
    · unfold packthreadref_LzParsed.f; rw [if_pos h0]
  · obtain ⟨R, hR, ⟨k, hk⟩, ⟨k', hk'⟩⟩ := both a (by omega) a.length 0 [] (by omega) (by omega) (by simp)
    refine join a (R, 0) hR k k' ?_ ?_
    · unfold lz_Parse.f; rw [if_pos hbb, if_neg h0]; exact hk
    · unfold packthreadref_LzParsed.f; rw [if_neg h0]; exact hk'
end Go.Proofs.Ytjhmjgcebijmiaa.Pure
