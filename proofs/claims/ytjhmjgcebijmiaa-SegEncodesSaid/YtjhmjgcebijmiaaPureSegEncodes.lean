/- seg.Encode answers what its reference answers, at every segment; no further condition. -/
import Derived.Test.YtjhmjgcebijmiaaHSegEncodesx
import Derived.Test.YtjhmjgcebijmiaaHelp
import Derived.WalkArith
namespace Go.Proofs.Ytjhmjgcebijmiaa.Pure
open Go.RowKit Go.Proofs.Ytjhmjgcebijmiaa.HSegEncodes Go.Proofs.YtjhmjgcebijmiaaW.PrintWords Go.Proofs.YtjhmjgcebijmiaaW.PrintLast Go.Proofs.Ytjhmjgcebijmiaa.Help
set_option linter.unusedSimpArgs false
set_option linter.unusedVariables false

/-- What a number comes to where 65536 is 1: 0 alone is 0. -/
def red (n : Int) : Int := if n = 0 then 0 else (n - 1) % 65535 + 1
theorem red_small {n : Int} (h : 0 ≤ n) (h' : n ≤ 65535) : red n = n := by unfold red; split <;> omega
theorem red_bd {n : Int} (h : 0 ≤ n) : 0 ≤ red n ∧ red n ≤ 65535 := by unfold red; split <;> omega
theorem red_step {n : Int} (h : 65535 < n) : red (n / 65536 + n % 65536) = red n := by
  unfold red
  rw [if_neg (by omega), if_neg (by omega)]
  omega
theorem red_add {n w : Int} (h : 0 ≤ n) (hw : 0 ≤ w) : red (red n + w) = red (n + w) := by
  unfold red
  by_cases h0 : n = 0
  · subst h0; simp
  · rw [if_neg h0, if_neg (by omega), if_neg (by omega)]
    omega
theorem red_sub {n : Int} (h : 65535 < n) (h' : n ≤ 131070) : red n = n - 65535 := by unfold red; rw [if_neg (by omega)]; omega
theorem and_low {x : Int} (h₀ : 0 ≤ x) (h₁ : x < 9223372036854775808) : Go.bits .and .i64 x 65535 = x % 65536 := i64_mask 16 (by decide) x h₀ h₁
theorem fold_any (d : Nat) : ∀ (k : Nat) (x : Int), 0 ≤ x → x ≤ 9223372036854775807 → x.toNat ≤ d → d < k → inet_fold.l0 k x = some (red x) := by
  induction d with
  | zero =>
    intro k x h0 h1 hd hk
    obtain ⟨k, rfl⟩ : ∃ m, k = m + 1 := ⟨k - 1, by omega⟩
    simp only [inet_fold.l0]
    rw [if_neg (by omega), red_small h0 (by omega)]
  | succ d ih =>
    intro k x h0 h1 hd hk
    obtain ⟨k, rfl⟩ : ∃ m, k = m + 1 := ⟨k - 1, by omega⟩
    simp only [inet_fold.l0]
    by_cases h : x > 65535
    · rw [if_pos h, and_low h0 (by omega), w64 (by omega) (by omega), ih k _ (by omega) (by omega) (by omega) (by omega), red_step h]
    · rw [if_neg h, red_small h0 (by omega)]
/-- The rounds that are enough, whatever came. -/
def foldRounds : Nat := 9223372036854775808
theorem fold_all {k : Nat} (hk : foldRounds ≤ k) {x : Int} (h0 : 0 ≤ x) (h1 : x ≤ 9223372036854775807) : inet_fold.f k x = some (red x) :=
  fold_any x.toNat k x h0 h1 (Nat.le_refl _) (by unfold foldRounds at hk; omega)

/-- The words of bytes from a place on, added up. -/
def tot (l : List Int) : Nat → Int
  | 0 => 0
  | i + 1 => tot l i + (if i % 2 = 0 then 256 * rd l (i : Int) else rd l (i : Int))
theorem tot_bd {l : List Int} (h : ∀ x ∈ l, (Lit.int .u8 x).wf = true) (i : Nat) : 0 ≤ tot l i ∧ tot l i ≤ 65280 * i := by
  induction i with
  | zero => simp [tot]
  | succ i ih =>
    have hr := rd_bd h (i : Int)
    unfold tot
    split <;> omega
theorem Fold_loop {l : List Int} (hl : l.length * 1 ≤ 140737488351232) (h : ∀ x ∈ l, (Lit.int .u8 x).wf = true) (d : Nat) : ∀ (k i : Nat), l.length - i = d → i ≤ l.length → d + foldRounds < k →
    inet_Fold.l0 k (tot l i) l (l.length : Int) (i : Int) = some (red (tot l l.length)) := by
  induction d with
  | zero =>
    intro k i hd hi hk
    obtain ⟨k, rfl⟩ : ∃ m, k = m + 1 := ⟨k - 1, by omega⟩
    obtain rfl : i = l.length := by omega
    have hb := tot_bd h l.length
    simp only [inet_Fold.l0]
    rw [if_neg (by omega), fold_all (by omega) hb.1 (by omega)]
    rfl
  | succ d ih =>
    intro k i hd hi hk
    obtain ⟨k, rfl⟩ : ∃ m, k = m + 1 := ⟨k - 1, by omega⟩
    have hb := tot_bd h i
    have hr := rd_bd h (i : Int)
    have hn := ih k (i + 1) (by omega) (by omega) (by omega)
    simp only [inet_Fold.l0]
    rw [if_pos (by omega), if_pos (by omega), if_pos (by omega), tmod_nn (by omega), w64 (x := rd l (i : Int)) (by omega) (by omega), w64 (x := (i : Int) + 1) (by omega) (by omega), w64 (x := rd l (i : Int) * 256) (by omega) (by omega)]
    by_cases hp : i % 2 = 0
    · rw [if_pos (by omega), w64 (by omega) (by omega)]
      have e : tot l (i + 1) = tot l i + rd l (i : Int) * 256 := by rw [tot, if_pos hp]; omega
      rw [← e, show ((i : Int) + 1) = ((i + 1 : Nat) : Int) by omega]
      exact hn
    · rw [if_neg (by omega), w64 (by omega) (by omega)]
      have e : tot l (i + 1) = tot l i + rd l (i : Int) := by rw [tot, if_neg hp]
      rw [← e, show ((i : Int) + 1) = ((i + 1 : Nat) : Int) by omega]
      exact hn
theorem Fold_all {l : List Int} (hl : l.length * 1 ≤ 140737488351232) (h : ∀ x ∈ l, (Lit.int .u8 x).wf = true) (k : Nat) (hk : l.length + foldRounds < k) : inet_Fold.f k l = some (red (tot l l.length)) := by
  have := Fold_loop hl h l.length k 0 (by omega) (by omega) (by omega)
  simpa [inet_Fold.f, tot] using this
theorem ref_loop {l : List Int} (hl : l.length * 1 ≤ 140737488351232) (h : ∀ x ∈ l, (Lit.int .u8 x).wf = true) (d : Nat) : ∀ (k i : Nat), l.length - i ≤ d → i ≤ l.length + 1 → i % 2 = 0 → d < k →
    packthreadref_InetFold.l0 k l (red (tot l (min i l.length))) (i : Int) = some (red (tot l l.length)) := by
  induction d with
  | zero =>
    intro k i hd hi hp hk
    obtain ⟨k, rfl⟩ : ∃ m, k = m + 1 := ⟨k - 1, by omega⟩
    simp only [packthreadref_InetFold.l0]
    rw [if_neg (by omega), show min i l.length = l.length by omega]
  | succ d ih =>
    intro k i hd hi hp hk
    obtain ⟨k, rfl⟩ : ∃ m, k = m + 1 := ⟨k - 1, by omega⟩
    by_cases hlt : i < l.length
    · have hb := tot_bd h i
      have hr := rd_bd h (i : Int)
      have hr1 := rd_bd h ((i : Int) + 1)
      have hd0 := red_bd hb.1
      have hn := ih k (i + 2) (by omega) (by omega) (by omega) (by omega)
      have hm : min i l.length = i := by omega
      simp only [packthreadref_InetFold.l0]
      rw [hm, if_pos (by omega), if_pos (by omega), w64 (x := (i : Int) + 1) (by omega) (by omega), w64 (x := (i : Int) + 2) (by omega) (by omega), w64 (x := rd l (i : Int)) (by omega) (by omega), w64 (x := rd l ((i : Int) + 1)) (by omega) (by omega),
        w64 (x := 256 * rd l (i : Int)) (by omega) (by omega), w64 (x := 256 * rd l (i : Int) + rd l ((i : Int) + 1)) (by omega) (by omega)]
      rw [w64 (x := red (tot l i) + (256 * rd l (i : Int) + rd l ((i : Int) + 1))) (by omega) (by omega), w64 (x := red (tot l i) + 256 * rd l (i : Int)) (by omega) (by omega)]
      rw [w64 (x := red (tot l i) + (256 * rd l (i : Int) + rd l ((i : Int) + 1)) - 65535) (by omega) (by omega), w64 (x := red (tot l i) + 256 * rd l (i : Int) - 65535) (by omega) (by omega)]
      rw [show ((i : Int) + 2) = ((i + 2 : Nat) : Int) by omega]
      by_cases h2 : i + 1 < l.length
      · rw [if_pos (by omega), if_pos (by omega)]
        have e : red (tot l (min (i + 2) l.length)) = red (red (tot l i) + (256 * rd l (i : Int) + rd l ((i : Int) + 1))) := by
          rw [show min (i + 2) l.length = i + 2 by omega, red_add hb.1 (by omega), tot, tot, if_pos hp, if_neg (by omega), show ((i + 1 : Nat) : Int) = (i : Int) + 1 by omega]
          congr 1; omega
        by_cases h3 : red (tot l i) + (256 * rd l (i : Int) + rd l ((i : Int) + 1)) > 65535
        · rw [if_pos h3, ← red_sub h3 (by omega), ← e]
          exact hn
        · rw [if_neg h3]
          rw [red_small (n := red (tot l i) + _) (by omega) (by omega)] at e
          rw [← e]
          exact hn
      · rw [if_neg (by omega)]
        have e : red (tot l (min (i + 2) l.length)) = red (red (tot l i) + 256 * rd l (i : Int)) := by
          rw [show min (i + 2) l.length = i + 1 by omega, red_add hb.1 (by omega), tot, if_pos hp]
        by_cases h3 : red (tot l i) + 256 * rd l (i : Int) > 65535
        · rw [if_pos h3, ← red_sub h3 (by omega), ← e]
          exact hn
        · rw [if_neg h3]
          rw [red_small (n := red (tot l i) + _) (by omega) (by omega)] at e
          rw [← e]
          exact hn
    · simp only [packthreadref_InetFold.l0]
      rw [if_neg (by omega), show min i l.length = l.length by omega]
theorem ref_all {l : List Int} (hl : l.length * 1 ≤ 140737488351232) (h : ∀ x ∈ l, (Lit.int .u8 x).wf = true) (k : Nat) (hk : l.length < k) : packthreadref_InetFold.f k l = some (red (tot l l.length)) := by
  have := ref_loop hl h l.length k 0 (by omega) (by omega) rfl hk
  simpa [packthreadref_InetFold.f, tot, red] using this

theorem same_loop (l : List Int) (hl : l.length ≤ 9223372036854775806) (d : Nat) : ∀ (k i : Nat), l.length - i = d → i ≤ l.length → d < k → packthreadlaw_sameBytes.l0 k l l (i : Int) = some true := by
  induction d with
  | zero =>
    intro k i hd hi hk
    obtain ⟨k, rfl⟩ : ∃ m, k = m + 1 := ⟨k - 1, by omega⟩
    simp only [packthreadlaw_sameBytes.l0]
    rw [if_neg (by omega)]
  | succ d ih =>
    intro k i hd hi hk
    obtain ⟨k, rfl⟩ : ∃ m, k = m + 1 := ⟨k - 1, by omega⟩
    simp only [packthreadlaw_sameBytes.l0]
    rw [if_pos (by omega), if_pos (by omega), if_pos (by omega), if_pos trivial, w64 (by omega) (by omega)]
    exact ih k (i + 1) (by omega) (by omega) (by omega)
theorem same_all (l : List Int) (hl : l.length ≤ 9223372036854775806) (k : Nat) (hk : l.length < k) : packthreadlaw_sameBytes.f k l l = some true := by
  simp only [packthreadlaw_sameBytes.f]
  rw [if_pos trivial]
  exact same_loop l hl l.length k 0 (by omega) (by omega) hk

abbrev Rg := S54
theorem may_is (a : Int) : packthreadref_serialMay.f a = some (ser a) := by
  unfold packthreadref_serialMay.f ser
  by_cases h : 0 ≤ a
  · rw [if_pos h]
    congr 1
    exact decide_eq_decide.2 (by omega)
  · rw [if_neg h]
    congr 1
    exact (decide_eq_false (by omega)).symm
def tail4 (a1 a2 : Int) (a6 : Bool) (n : Int) : Int := if a6 = true then 0 else (if a1 = 0 then (if a2 = 0 then (if n = 0 then 0 else 4) else 4) else 4)
theorem fault_loop (a0 a1 a2 : Int) (a3 a4 a5 a6 : Bool) (l7 : List Rg) (l8 : List Int) (hl : l7.length ≤ 3) (d : Nat) : ∀ (k i : Nat), l7.length - i = d → i ≤ l7.length → d < k → packthreadref_segFault.l0 k l7 (l7.length : Int) (i : Int) a0 a1 a2 a3 a4 a5 a6 l7 l8 = some (if (l7.drop i).any odd = true then 2 else tail4 a1 a2 a6 (l7.length : Int)) := by
  induction d with
  | zero =>
    intro k i hd hi hk
    obtain ⟨k, rfl⟩ : ∃ m, k = m + 1 := ⟨k - 1, by omega⟩
    rw [packthreadref_segFault.l0, if_neg (by omega), List.drop_eq_nil_of_le (by omega)]
    unfold tail4
    simp only [List.any_nil, Bool.false_eq_true, if_false]
    repeat' split
    all_goals rfl
  | succ d ih =>
    intro k i hd hi hk
    obtain ⟨k, rfl⟩ : ∃ m, k = m + 1 := ⟨k - 1, by omega⟩
    have hil : i < l7.length := by omega
    have hm : rd_T54 l7 (i : Int) = l7[i] := by
      unfold rd_T54
      rw [Int.toNat_natCast, List.getD_eq_getElem?_getD, List.getElem?_eq_getElem hil]
      rfl
    have hx := ih k (i + 1) (by omega) (by omega) (by omega)
    rw [packthreadref_segFault.l0, if_pos (by omega), if_pos (by omega), if_pos (by omega), hm, may_is, Option.bind_some, may_is, Option.bind_some, w64 (by omega) (by omega), show (i : Int) + 1 = ((i + 1 : Nat) : Int) by omega, hx, List.drop_eq_getElem_cons hil, List.any_cons]
    unfold odd
    cases ser l7[i].f0 <;> cases ser l7[i].f1 <;> simp
theorem fault_is (a0 a1 a2 : Int) (a3 a4 a5 a6 : Bool) (l7 : List Rg) (l8 : List Int) (k : Nat) (hk : 10 ≤ k) : packthreadref_segFault.f k a0 a1 a2 a3 a4 a5 a6 l7 l8 = some (seg_fault.f a0 a1 a2 a6 l7 l8) := by
  obtain ⟨k, rfl⟩ : ∃ m, k = m + 1 + 1 := ⟨k - 2, by omega⟩
  have j2 : packthreadref_segFault.j0 (k + 1 + 1) true a0 a1 a2 a3 a4 a5 a6 l7 l8 = some 2 := by rw [packthreadref_segFault.j0, if_pos rfl]
  unfold packthreadref_segFault.f seg_fault.f
  rw [may_is, Option.bind_some, may_is, Option.bind_some]
  cases h0 : ser a0 with
  | false =>
    rw [if_neg (by simp), if_neg (by simp)]
    exact j2
  | true =>
    rw [if_pos rfl]
    cases h1 : ser a1 with
    | false =>
      rw [if_neg (by simp), if_neg (by simp)]
      exact j2
    | true =>
      rw [if_pos rfl]
      by_cases h2 : a2 < 0
      · rw [if_pos h2, if_neg (by omega)]
        exact j2
      · rw [if_neg h2]
        by_cases h3 : a2 > 65535
        · rw [decide_eq_true h3, if_neg (by omega)]
          exact j2
        · rw [decide_eq_false h3, if_pos ⟨rfl, rfl, by omega, by omega⟩, packthreadref_segFault.j0, if_neg (by simp)]
          by_cases h7 : (l7.length : Int) > 3
          · rw [if_pos h7, if_pos (.inl (by omega)), packthreadref_segFault.j1, if_pos rfl]
          · rw [if_neg h7, packthreadref_segFault.j1]
            by_cases h8 : (l8.length : Int) > 64
            · rw [decide_eq_true h8, if_pos rfl, if_pos (.inr (by omega))]
            · rw [decide_eq_false h8, if_neg (by simp), if_neg (by omega)]
              have hx := fault_loop a0 a1 a2 a3 a4 a5 a6 l7 l8 (by omega) l7.length k 0 (by omega) (by omega) (by omega)
              rw [List.drop_zero] at hx
              refine Eq.trans hx ?_
              congr 1
              split
              · rfl
              · unfold tail4
                cases a6 with
                | true => simp
                | false =>
                  simp only [Bool.false_eq_true, if_false, true_and]
                  by_cases e1 : a1 = 0
                  · rw [if_pos e1]
                    by_cases e2 : a2 = 0
                    · rw [if_pos e2]
                      by_cases e3 : (l7.length : Int) = 0
                      · rw [if_pos e3, if_neg (by omega)]
                      · rw [if_neg e3, if_pos (.inr (.inr (by omega)))]
                    · rw [if_neg e2, if_pos (.inr (.inl e2))]
                  · rw [if_neg e1, if_pos (.inl e1)]
theorem ser_rng {a : Int} (h : ser a = true) : 0 ≤ a ∧ a < 65536 := of_decide_eq_true h
theorem ok_of {a0 a1 a2 : Int} {a6 : Bool} {l7 : List Rg} {l8 : List Int} (h : seg_fault.f a0 a1 a2 a6 l7 l8 = 0) : okR a0 a1 a2 l7 l8 := by
  unfold seg_fault.f at h
  split at h
  case isFalse => cases h
  rename_i h1
  split at h
  · cases h
  rename_i h2
  split at h
  · cases h
  rename_i h3
  refine ⟨ser_rng h1.1, ser_rng h1.2.1, ⟨h1.2.2.1, by omega⟩, ?_, by omega, by omega⟩
  intro r hr
  have hno : odd r = false := by
    cases ho : odd r with
    | false => rfl
    | true => exact absurd (List.any_eq_true.2 ⟨r, hr, ho⟩) h3
  unfold odd at hno
  simp only [Bool.or_eq_false_iff, Bool.not_eq_false'] at hno
  exact ⟨ser_rng hno.1, ser_rng hno.2⟩
theorem sacks_eq (l : List Rg) (h : ∀ r ∈ l, (0 ≤ r.f0 ∧ r.f0 < 65536) ∧ 0 ≤ r.f1 ∧ r.f1 < 65536) : sacksB l = sacksR l := by
  induction l with
  | nil => rfl
  | cons r t ih =>
    have hr := h r List.mem_cons_self
    unfold sacksB sacksR
    rw [ih (fun x hx => h x (List.mem_cons_of_mem _ hx)), show r.f0 / 256 % 256 = r.f0 / 256 by omega, show r.f1 / 256 % 256 = r.f1 / 256 by omega]
    rfl
theorem flags_eq (a3 a4 a5 a6 : Bool) : flagsB a3 a4 a5 a6 = flagsR a3 a4 a5 a6 := by
  cases a3 <;> cases a4 <;> cases a5 <;> cases a6 <;> decide
theorem enc_eq {a0 a1 a2 : Int} (a3 a4 a5 a6 : Bool) {l7 : List Rg} {l8 : List Int} (h : okR a0 a1 a2 l7 l8) : encB a0 a1 a2 a3 a4 a5 a6 l7 l8 = refB a0 a1 a2 a3 a4 a5 a6 l7 l8 := by
  obtain ⟨h0, h1, h2, h3, _, _⟩ := h
  unfold encB refB
  rw [sacks_eq l7 h3, flags_eq]
  unfold headB headR
  rw [show a0 / 256 % 256 = a0 / 256 by omega, show a1 / 256 % 256 = a1 / 256 by omega, show a2 / 256 % 256 = a2 / 256 by omega]
  rfl
theorem flags_bd (a3 a4 a5 a6 : Bool) : 0 ≤ flagsR a3 a4 a5 a6 ∧ flagsR a3 a4 a5 a6 ≤ 255 := by
  cases a3 <;> cases a4 <;> cases a5 <;> cases a6 <;> decide
theorem sacks_bd (l : List Rg) (h : ∀ r ∈ l, (0 ≤ r.f0 ∧ r.f0 < 65536) ∧ 0 ≤ r.f1 ∧ r.f1 < 65536) : ∀ x ∈ sacksR l, 0 ≤ x ∧ x ≤ 255 := by
  induction l with
  | nil => intro x hx; simp [sacksR] at hx
  | cons r t ih =>
    intro x hx
    have hr := h r List.mem_cons_self
    unfold sacksR at hx
    rcases List.mem_append.1 hx with hx | hx
    · simp only [List.mem_append, List.mem_cons, List.not_mem_nil, or_false] at hx
      rcases hx with (rfl | rfl) | rfl | rfl <;> omega
    · exact ih (fun y hy => h y (List.mem_cons_of_mem _ hy)) x hx
theorem ref_bd {a0 a1 a2 : Int} (a3 a4 a5 a6 : Bool) {l7 : List Rg} {l8 : List Int} (h : okR a0 a1 a2 l7 l8) (h8 : ∀ x ∈ l8, (Lit.int .u8 x).wf = true) : ∀ x ∈ refB a0 a1 a2 a3 a4 a5 a6 l7 l8, (Lit.int .u8 x).wf = true := by
  obtain ⟨h0, h1, h2, h3, h73, _⟩ := h
  intro x hx
  have hf := flags_bd a3 a4 a5 a6
  unfold refB headR at hx
  rcases List.mem_append.1 hx with hx | hx
  · refine Go.WalkArith.wf_u8 ?_
    rcases List.mem_append.1 hx with hx | hx
    · simp only [List.mem_append, List.mem_cons, List.not_mem_nil, or_false] at hx
      rcases hx with (((rfl | rfl) | rfl | rfl) | rfl | rfl) | rfl | rfl | rfl | rfl <;> omega
    · exact sacks_bd l7 h3 x hx
  · exact h8 x hx
theorem SegEncodes (a0 a1 a2 : Int) (a3 a4 a5 a6 : Bool) (l7 : List Rg) (l8 : List Int) (hh : (Lit.int .i64 a0).wf = true ∧ (Lit.int .i64 a1).wf = true ∧ (Lit.int .i64 a2).wf = true ∧ True ∧ True ∧ True ∧ True ∧ (l7.length * 16 ≤ 140737488351232 ∧ ∀ x ∈ l7, (Lit.int .i64 x.f0).wf = true ∧ (Lit.int .i64 x.f1).wf = true) ∧ (l8.length * 1 ≤ 140737488351232 ∧ ∀ x ∈ l8, (Lit.int .u8 x).wf = true)) : ∃ k, packthreadlaw_SegEncodes.f k a0 a1 a2 a3 a4 a5 a6 l7 l8 = some true := by
  have h8 := hh.2.2.2.2.2.2.2.2.2
  clear hh
  obtain ⟨K, hK⟩ : ∃ K : Nat, 1000 + foldRounds < K := ⟨1001 + foldRounds, by omega⟩
  refine ⟨K, ?_⟩
  obtain ⟨e, he⟩ : ∃ e, seg_fault.f a0 a1 a2 a6 l7 l8 = e := ⟨_, rfl⟩
  unfold packthreadlaw_SegEncodes.f seg_Encode.f packthreadref_SegEncoded.f
  rw [fault_is a0 a1 a2 a3 a4 a5 a6 l7 l8 K (by omega), Option.bind_some, he]
  by_cases hz : e = 0
  · have hok := ok_of (he.trans hz)
    have hbd := ref_bd a3 a4 a5 a6 hok h8
    have hlen : (refB a0 a1 a2 a3 a4 a5 a6 l7 l8).length ≤ 100 := by
      unfold refB
      rw [List.length_append, List.length_append, sacksR_length]
      simp only [headR, List.length_append, List.length_cons, List.length_nil]
      have := hok.2.2.2.2
      omega
    rw [if_pos hz, if_pos hz, if_pos hok, enc_eq a3 a4 a5 a6 hok]
    unfold inet_Sum.f
    generalize refB a0 a1 a2 a3 a4 a5 a6 l7 l8 = B at hbd hlen ⊢
    have hr := red_bd (tot_bd hbd B.length).1
    rw [Fold_all (by omega) hbd K (by omega), ref_all (by omega) hbd K (by omega)]
    generalize red (tot B B.length) = R at hr ⊢
    rw [Option.bind_some, Option.bind_some, Option.bind_some, Option.bind_some, if_pos hr, Option.bind_some, w64 (by omega) (by omega), show (65535 - R) / 256 % 256 = (65535 - R) / 256 by omega, same_all _ (by rw [List.length_set, List.length_set]; omega) K (by rw [List.length_set, List.length_set]; omega), Option.bind_some, if_pos rfl]
    rfl
  · rw [if_neg hz, if_neg hz, Option.bind_some, Option.bind_some, same_all [] (by simp) K (by simp; omega), Option.bind_some, if_pos rfl]
    simp
end Go.Proofs.Ytjhmjgcebijmiaa.Pure
