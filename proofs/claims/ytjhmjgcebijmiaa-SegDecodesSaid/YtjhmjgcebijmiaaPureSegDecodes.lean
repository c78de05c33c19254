/- seg.Decode answers what its reference answers, at every slice of bytes; no further condition. -/
import Derived.Test.YtjhmjgcebijmiaaHSegDecodesx
import Derived.Test.YtjhmjgcebijmiaaHelp
import Derived.WalkArith
namespace Go.Proofs.Ytjhmjgcebijmiaa.Pure
open Go.RowKit Go.Proofs.Ytjhmjgcebijmiaa.HSegDecodes Go.Proofs.YtjhmjgcebijmiaaW.PrintWords Go.Proofs.YtjhmjgcebijmiaaW.PrintLast Go.Proofs.Ytjhmjgcebijmiaa.Help
set_option linter.unusedSimpArgs false
set_option linter.unusedVariables false

/-- What a number comes to where 65536 is 1: 0 alone is 0. -/
def red (n : Int) : Int := if n = 0 then 0 else (n - 1) % 65535 + 1
theorem red_small {n : Int} (h : 0 ≤ n) (h' : n ≤ 65535) : red n = n := by unfold red; split <;> omega
theorem red_bd {n : Int} (h : 0 ≤ n) : 0 ≤ red n ∧ red n ≤ 65535 := by unfold red; split <;> omega
theorem red_step {n : Int} (h : 65535 < n) : red (n / 65536 + n % 65536) = red n := by
  unfold red
  rw [if_neg (by omega), if_neg (by omega)]
  omega
theorem red_add {n w : Int} (h : 0 ≤ n) (hw : 0 ≤ w) : red (red n + w) = red (n + w) := by
  unfold red
  by_cases h0 : n = 0
  · subst h0; simp
  · rw [if_neg h0, if_neg (by omega), if_neg (by omega)]
    omega
theorem red_sub {n : Int} (h : 65535 < n) (h' : n ≤ 131070) : red n = n - 65535 := by unfold red; rw [if_neg (by omega)]; omega
theorem and_low {x : Int} (h₀ : 0 ≤ x) (h₁ : x < 9223372036854775808) : Go.bits .and .i64 x 65535 = x % 65536 := i64_mask 16 (by decide) x h₀ h₁
theorem fold_any (d : Nat) : ∀ (k : Nat) (x : Int), 0 ≤ x → x ≤ 9223372036854775807 → x.toNat ≤ d → d < k → inet_fold.l0 k x = some (red x) := by
  induction d with
  | zero =>
    intro k x h0 h1 hd hk
    obtain ⟨k, rfl⟩ : ∃ m, k = m + 1 := ⟨k - 1, by omega⟩
    simp only [inet_fold.l0]
    rw [if_neg (by omega), red_small h0 (by omega)]
  | succ d ih =>
    intro k x h0 h1 hd hk
    obtain ⟨k, rfl⟩ : ∃ m, k = m + 1 := ⟨k - 1, by omega⟩
    simp only [inet_fold.l0]
    by_cases h : x > 65535
    · rw [if_pos h, and_low h0 (by omega), w64 (by omega) (by omega), ih k _ (by omega) (by omega) (by omega) (by omega), red_step h]
    · rw [if_neg h, red_small h0 (by omega)]
/-- The rounds that are enough, whatever came. -/
def foldRounds : Nat := 9223372036854775808
theorem fold_all {k : Nat} (hk : foldRounds ≤ k) {x : Int} (h0 : 0 ≤ x) (h1 : x ≤ 9223372036854775807) : inet_fold.f k x = some (red x) :=
  fold_any x.toNat k x h0 h1 (Nat.le_refl _) (by unfold foldRounds at hk; omega)

/-- The words of bytes from a place on, added up. -/
def tot (l : List Int) : Nat → Int
  | 0 => 0
  | i + 1 => tot l i + (if i % 2 = 0 then 256 * rd l (i : Int) else rd l (i : Int))
theorem tot_bd {l : List Int} (h : ∀ x ∈ l, (Lit.int .u8 x).wf = true) (i : Nat) : 0 ≤ tot l i ∧ tot l i ≤ 65280 * i := by
  induction i with
  | zero => simp [tot]
  | succ i ih =>
    have hr := rd_bd h (i : Int)
    unfold tot
    split <;> omega
theorem Fold_loop {l : List Int} (hl : l.length * 1 ≤ 140737488351232) (h : ∀ x ∈ l, (Lit.int .u8 x).wf = true) (d : Nat) : ∀ (k i : Nat), l.length - i = d → i ≤ l.length → d + foldRounds < k →
    inet_Fold.l0 k (tot l i) l (l.length : Int) (i : Int) = some (red (tot l l.length)) := by
  induction d with
  | zero =>
    intro k i hd hi hk
    obtain ⟨k, rfl⟩ : ∃ m, k = m + 1 := ⟨k - 1, by omega⟩
    obtain rfl : i = l.length := by omega
    have hb := tot_bd h l.length
    simp only [inet_Fold.l0]
    rw [if_neg (by omega), fold_all (by omega) hb.1 (by omega)]
    rfl
  | succ d ih =>
    intro k i hd hi hk
    obtain ⟨k, rfl⟩ : ∃ m, k = m + 1 := ⟨k - 1, by omega⟩
    have hb := tot_bd h i
    have hr := rd_bd h (i : Int)
    have hn := ih k (i + 1) (by omega) (by omega) (by omega)
    simp only [inet_Fold.l0]
    rw [if_pos (by omega), if_pos (by omega), if_pos (by omega), tmod_nn (by omega), w64 (x := rd l (i : Int)) (by omega) (by omega), w64 (x := (i : Int) + 1) (by omega) (by omega), w64 (x := rd l (i : Int) * 256) (by omega) (by omega)]
    by_cases hp : i % 2 = 0
    · rw [if_pos (by omega), w64 (by omega) (by omega)]
      have e : tot l (i + 1) = tot l i + rd l (i : Int) * 256 := by rw [tot, if_pos hp]; omega
      rw [← e, show ((i : Int) + 1) = ((i + 1 : Nat) : Int) by omega]
      exact hn
    · rw [if_neg (by omega), w64 (by omega) (by omega)]
      have e : tot l (i + 1) = tot l i + rd l (i : Int) := by rw [tot, if_neg hp]
      rw [← e, show ((i : Int) + 1) = ((i + 1 : Nat) : Int) by omega]
      exact hn
theorem Fold_all {l : List Int} (hl : l.length * 1 ≤ 140737488351232) (h : ∀ x ∈ l, (Lit.int .u8 x).wf = true) (k : Nat) (hk : l.length + foldRounds < k) : inet_Fold.f k l = some (red (tot l l.length)) := by
  have := Fold_loop hl h l.length k 0 (by omega) (by omega) (by omega)
  simpa [inet_Fold.f, tot] using this
theorem ref_loop {l : List Int} (hl : l.length * 1 ≤ 140737488351232) (h : ∀ x ∈ l, (Lit.int .u8 x).wf = true) (d : Nat) : ∀ (k i : Nat), l.length - i ≤ d → i ≤ l.length + 1 → i % 2 = 0 → d < k →
    packthreadref_InetFold.l0 k l (red (tot l (min i l.length))) (i : Int) = some (red (tot l l.length)) := by
  induction d with
  | zero =>
    intro k i hd hi hp hk
    obtain ⟨k, rfl⟩ : ∃ m, k = m + 1 := ⟨k - 1, by omega⟩
    simp only [packthreadref_InetFold.l0]
    rw [if_neg (by omega), show min i l.length = l.length by omega]
  | succ d ih =>
    intro k i hd hi hp hk
    obtain ⟨k, rfl⟩ : ∃ m, k = m + 1 := ⟨k - 1, by omega⟩
    by_cases hlt : i < l.length
    · have hb := tot_bd h i
      have hr := rd_bd h (i : Int)
      have hr1 := rd_bd h ((i : Int) + 1)
      have hd0 := red_bd hb.1
      have hn := ih k (i + 2) (by omega) (by omega) (by omega) (by omega)
      have hm : min i l.length = i := by omega
      simp only [packthreadref_InetFold.l0]
      rw [hm, if_pos (by omega), if_pos (by omega), w64 (x := (i : Int) + 1) (by omega) (by omega), w64 (x := (i : Int) + 2) (by omega) (by omega), w64 (x := rd l (i : Int)) (by omega) (by omega), w64 (x := rd l ((i : Int) + 1)) (by omega) (by omega),
        w64 (x := 256 * rd l (i : Int)) (by omega) (by omega), w64 (x := 256 * rd l (i : Int) + rd l ((i : Int) + 1)) (by omega) (by omega)]
      rw [w64 (x := red (tot l i) + (256 * rd l (i : Int) + rd l ((i : Int) + 1))) (by omega) (by omega), w64 (x := red (tot l i) + 256 * rd l (i : Int)) (by omega) (by omega)]
      rw [w64 (x := red (tot l i) + (256 * rd l (i : Int) + rd l ((i : Int) + 1)) - 65535) (by omega) (by omega), w64 (x := red (tot l i) + 256 * rd l (i : Int) - 65535) (by omega) (by omega)]
      rw [show ((i : Int) + 2) = ((i + 2 : Nat) : Int) by omega]
      by_cases h2 : i + 1 < l.length
      · rw [if_pos (by omega), if_pos (by omega)]
        have e : red (tot l (min (i + 2) l.length)) = red (red (tot l i) + (256 * rd l (i : Int) + rd l ((i : Int) + 1))) := by
          rw [show min (i + 2) l.length = i + 2 by omega, red_add hb.1 (by omega), tot, tot, if_pos hp, if_neg (by omega), show ((i + 1 : Nat) : Int) = (i : Int) + 1 by omega]
          congr 1; omega
        by_cases h3 : red (tot l i) + (256 * rd l (i : Int) + rd l ((i : Int) + 1)) > 65535
        · rw [if_pos h3, ← red_sub h3 (by omega), ← e]
          exact hn
        · rw [if_neg h3]
          rw [red_small (n := red (tot l i) + _) (by omega) (by omega)] at e
          rw [← e]
          exact hn
      · rw [if_neg (by omega)]
        have e : red (tot l (min (i + 2) l.length)) = red (red (tot l i) + 256 * rd l (i : Int)) := by
          rw [show min (i + 2) l.length = i + 1 by omega, red_add hb.1 (by omega), tot, if_pos hp]
        by_cases h3 : red (tot l i) + 256 * rd l (i : Int) > 65535
        · rw [if_pos h3, ← red_sub h3 (by omega), ← e]
          exact hn
        · rw [if_neg h3]
          rw [red_small (n := red (tot l i) + _) (by omega) (by omega)] at e
          rw [← e]
          exact hn
    · simp only [packthreadref_InetFold.l0]
      rw [if_neg (by omega), show min i l.length = l.length by omega]
theorem ref_all {l : List Int} (hl : l.length * 1 ≤ 140737488351232) (h : ∀ x ∈ l, (Lit.int .u8 x).wf = true) (k : Nat) (hk : l.length < k) : packthreadref_InetFold.f k l = some (red (tot l l.length)) := by
  have := ref_loop hl h l.length k 0 (by omega) (by omega) rfl hk
  simpa [packthreadref_InetFold.f, tot, red] using this

theorem same_loop (l : List Int) (hl : l.length ≤ 9223372036854775806) (d : Nat) : ∀ (k i : Nat), l.length - i = d → i ≤ l.length → d < k → packthreadlaw_sameBytes.l0 k l l (i : Int) = some true := by
  induction d with
  | zero =>
    intro k i hd hi hk
    obtain ⟨k, rfl⟩ : ∃ m, k = m + 1 := ⟨k - 1, by omega⟩
    simp only [packthreadlaw_sameBytes.l0]
    rw [if_neg (by omega)]
  | succ d ih =>
    intro k i hd hi hk
    obtain ⟨k, rfl⟩ : ∃ m, k = m + 1 := ⟨k - 1, by omega⟩
    simp only [packthreadlaw_sameBytes.l0]
    rw [if_pos (by omega), if_pos (by omega), if_pos (by omega), if_pos trivial, w64 (by omega) (by omega)]
    exact ih k (i + 1) (by omega) (by omega) (by omega)
theorem same_all (l : List Int) (hl : l.length ≤ 9223372036854775806) (k : Nat) (hk : l.length < k) : packthreadlaw_sameBytes.f k l l = some true := by
  simp only [packthreadlaw_sameBytes.f]
  rw [if_pos trivial]
  exact same_loop l hl l.length k 0 (by omega) (by omega) hk

abbrev Rg := S54
abbrev Sg := S48
abbrev zS : Sg := z48
theorem may_is (a : Int) : packthreadref_serialMay.f a = some (ser a) := by
  unfold packthreadref_serialMay.f ser
  by_cases h : 0 ≤ a
  · rw [if_pos h]
    congr 1
    exact decide_eq_decide.2 (by omega)
  · rw [if_neg h]
    congr 1
    exact (decide_eq_false (by omega)).symm
def tail4 (a1 a2 : Int) (a6 : Bool) (n : Int) : Int := if a6 = true then 0 else (if a1 = 0 then (if a2 = 0 then (if n = 0 then 0 else 4) else 4) else 4)
theorem fault_loop (a0 a1 a2 : Int) (a3 a4 a5 a6 : Bool) (l7 : List Rg) (l8 : List Int) (hl : l7.length ≤ 3) (d : Nat) : ∀ (k i : Nat), l7.length - i = d → i ≤ l7.length → d < k → packthreadref_segFault.l0 k l7 (l7.length : Int) (i : Int) a0 a1 a2 a3 a4 a5 a6 l7 l8 = some (if (l7.drop i).any odd = true then 2 else tail4 a1 a2 a6 (l7.length : Int)) := by
  induction d with
  | zero =>
    intro k i hd hi hk
    obtain ⟨k, rfl⟩ : ∃ m, k = m + 1 := ⟨k - 1, by omega⟩
    rw [packthreadref_segFault.l0, if_neg (by omega), List.drop_eq_nil_of_le (by omega)]
    unfold tail4
    simp only [List.any_nil, Bool.false_eq_true, if_false]
    repeat' split
    all_goals rfl
  | succ d ih =>
    intro k i hd hi hk
    obtain ⟨k, rfl⟩ : ∃ m, k = m + 1 := ⟨k - 1, by omega⟩
    have hil : i < l7.length := by omega
    have hm : rd_T54 l7 (i : Int) = l7[i] := by
      unfold rd_T54
      rw [Int.toNat_natCast, List.getD_eq_getElem?_getD, List.getElem?_eq_getElem hil]
      rfl
    have hx := ih k (i + 1) (by omega) (by omega) (by omega)
    rw [packthreadref_segFault.l0, if_pos (by omega), if_pos (by omega), if_pos (by omega), hm, may_is, Option.bind_some, may_is, Option.bind_some, w64 (by omega) (by omega), show (i : Int) + 1 = ((i + 1 : Nat) : Int) by omega, hx, List.drop_eq_getElem_cons hil, List.any_cons]
    unfold odd
    cases ser l7[i].f0 <;> cases ser l7[i].f1 <;> simp
theorem fault_is (a0 a1 a2 : Int) (a3 a4 a5 a6 : Bool) (l7 : List Rg) (l8 : List Int) (k : Nat) (hk : 10 ≤ k) : packthreadref_segFault.f k a0 a1 a2 a3 a4 a5 a6 l7 l8 = some (seg_fault.f a0 a1 a2 a6 l7 l8) := by
  obtain ⟨k, rfl⟩ : ∃ m, k = m + 1 + 1 := ⟨k - 2, by omega⟩
  have j2 : packthreadref_segFault.j0 (k + 1 + 1) true a0 a1 a2 a3 a4 a5 a6 l7 l8 = some 2 := by rw [packthreadref_segFault.j0, if_pos rfl]
  unfold packthreadref_segFault.f seg_fault.f
  rw [may_is, Option.bind_some, may_is, Option.bind_some]
  cases h0 : ser a0 with
  | false =>
    rw [if_neg (by simp), if_neg (by simp)]
    exact j2
  | true =>
    rw [if_pos rfl]
    cases h1 : ser a1 with
    | false =>
      rw [if_neg (by simp), if_neg (by simp)]
      exact j2
    | true =>
      rw [if_pos rfl]
      by_cases h2 : a2 < 0
      · rw [if_pos h2, if_neg (by omega)]
        exact j2
      · rw [if_neg h2]
        by_cases h3 : a2 > 65535
        · rw [decide_eq_true h3, if_neg (by omega)]
          exact j2
        · rw [decide_eq_false h3, if_pos ⟨rfl, rfl, by omega, by omega⟩, packthreadref_segFault.j0, if_neg (by simp)]
          by_cases h7 : (l7.length : Int) > 3
          · rw [if_pos h7, if_pos (.inl (by omega)), packthreadref_segFault.j1, if_pos rfl]
          · rw [if_neg h7, packthreadref_segFault.j1]
            by_cases h8 : (l8.length : Int) > 64
            · rw [decide_eq_true h8, if_pos rfl, if_pos (.inr (by omega))]
            · rw [decide_eq_false h8, if_neg (by simp), if_neg (by omega)]
              have hx := fault_loop a0 a1 a2 a3 a4 a5 a6 l7 l8 (by omega) l7.length k 0 (by omega) (by omega) (by omega)
              rw [List.drop_zero] at hx
              refine Eq.trans hx ?_
              congr 1
              split
              · rfl
              · unfold tail4
                cases a6 with
                | true => simp
                | false =>
                  simp only [Bool.false_eq_true, if_false, true_and]
                  by_cases e1 : a1 = 0
                  · rw [if_pos e1]
                    by_cases e2 : a2 = 0
                    · rw [if_pos e2]
                      by_cases e3 : (l7.length : Int) = 0
                      · rw [if_pos e3, if_neg (by omega)]
                      · rw [if_neg e3, if_pos (.inr (.inr (by omega)))]
                    · rw [if_neg e2, if_pos (.inr (.inl e2))]
                  · rw [if_neg e1, if_pos (.inl e1)]
theorem ser_rng {a : Int} (h : ser a = true) : 0 ≤ a ∧ a < 65536 := of_decide_eq_true h
theorem ok_of {a0 a1 a2 : Int} {a6 : Bool} {l7 : List Rg} {l8 : List Int} (h : seg_fault.f a0 a1 a2 a6 l7 l8 = 0) : okR a0 a1 a2 l7 l8 := by
  unfold seg_fault.f at h
  split at h
  case isFalse => cases h
  rename_i h1
  split at h
  · cases h
  rename_i h2
  split at h
  · cases h
  rename_i h3
  refine ⟨ser_rng h1.1, ser_rng h1.2.1, ⟨h1.2.2.1, by omega⟩, ?_, by omega, by omega⟩
  intro r hr
  have hno : odd r = false := by
    cases ho : odd r with
    | false => rfl
    | true => exact absurd (List.any_eq_true.2 ⟨r, hr, ho⟩) h3
  unfold odd at hno
  simp only [Bool.or_eq_false_iff, Bool.not_eq_false'] at hno
  exact ⟨ser_rng hno.1, ser_rng hno.2⟩
theorem flags_bd (a3 a4 a5 a6 : Bool) : 0 ≤ flagsR a3 a4 a5 a6 ∧ flagsR a3 a4 a5 a6 ≤ 255 := by
  cases a3 <;> cases a4 <;> cases a5 <;> cases a6 <;> decide
theorem sacks_bd (l : List Rg) (h : ∀ r ∈ l, (0 ≤ r.f0 ∧ r.f0 < 65536) ∧ 0 ≤ r.f1 ∧ r.f1 < 65536) : ∀ x ∈ sacksR l, 0 ≤ x ∧ x ≤ 255 := by
  induction l with
  | nil => intro x hx; simp [sacksR] at hx
  | cons r t ih =>
    intro x hx
    have hr := h r List.mem_cons_self
    unfold sacksR at hx
    rcases List.mem_append.1 hx with hx | hx
    · simp only [List.mem_append, List.mem_cons, List.not_mem_nil, or_false] at hx
      rcases hx with (rfl | rfl) | rfl | rfl <;> omega
    · exact ih (fun y hy => h y (List.mem_cons_of_mem _ hy)) x hx
theorem ref_bd {a0 a1 a2 : Int} (a3 a4 a5 a6 : Bool) {l7 : List Rg} {l8 : List Int} (h : okR a0 a1 a2 l7 l8) (h8 : ∀ x ∈ l8, (Lit.int .u8 x).wf = true) : ∀ x ∈ refB a0 a1 a2 a3 a4 a5 a6 l7 l8, (Lit.int .u8 x).wf = true := by
  obtain ⟨h0, h1, h2, h3, h73, _⟩ := h
  intro x hx
  have hf := flags_bd a3 a4 a5 a6
  unfold refB headR at hx
  rcases List.mem_append.1 hx with hx | hx
  · refine Go.WalkArith.wf_u8 ?_
    rcases List.mem_append.1 hx with hx | hx
    · simp only [List.mem_append, List.mem_cons, List.not_mem_nil, or_false] at hx
      rcases hx with (((rfl | rfl) | rfl | rfl) | rfl | rfl) | rfl | rfl | rfl | rfl <;> omega
    · exact sacks_bd l7 h3 x hx
  · exact h8 x hx

namespace RR
theorem same_loop (l : List Rg) (hl : l.length ≤ 9223372036854775806) (d : Nat) : ∀ (k i : Nat), l.length - i = d → i ≤ l.length → d < k → packthreadlaw_sameRanges.l0 k l l (i : Int) = some true := by
  induction d with
  | zero =>
    intro k i hd hi hk
    obtain ⟨k, rfl⟩ : ∃ m, k = m + 1 := ⟨k - 1, by omega⟩
    simp only [packthreadlaw_sameRanges.l0]
    rw [if_neg (by omega)]
  | succ d ih =>
    intro k i hd hi hk
    obtain ⟨k, rfl⟩ : ∃ m, k = m + 1 := ⟨k - 1, by omega⟩
    simp only [packthreadlaw_sameRanges.l0]
    rw [if_pos (by omega), if_pos (by omega), if_pos (by omega), if_neg (by simp), w64 (by omega) (by omega)]
    exact ih k (i + 1) (by omega) (by omega) (by omega)
theorem same_all (l : List Rg) (hl : l.length ≤ 9223372036854775806) (k : Nat) (hk : l.length < k) : packthreadlaw_sameRanges.f k l l = some true := by
  simp only [packthreadlaw_sameRanges.f]
  rw [if_pos trivial]
  exact same_loop l hl l.length k 0 (by omega) (by omega) hk
end RR
theorem same_seg (x : Sg) (k : Nat) (h7 : x.f7.length ≤ 140737488351232) (h8 : x.f8.length ≤ 140737488351232) (hk : x.f7.length < k) (hk8 : x.f8.length < k) : packthreadlaw_sameSegment.f k x.f0 x.f1 x.f2 x.f3 x.f4 x.f5 x.f6 x.f7 x.f8 x.f0 x.f1 x.f2 x.f3 x.f4 x.f5 x.f6 x.f7 x.f8 = some true := by
  unfold packthreadlaw_sameSegment.f
  rw [if_pos rfl, if_pos rfl, if_pos rfl, if_pos (by simp), if_pos (by simp), if_pos (by simp), if_pos (by simp), RR.same_all _ (by omega) k hk, Option.bind_some, if_pos rfl, same_all _ (by omega) k hk8, Option.bind_some]
theorem flags_of (x : Int) (h0 : 0 ≤ x) (h1 : x < 16) : flagsR (bitB x 0) (bitB x 1) (bitB x 2) (bitB x 3) = x := by
  have hx : x = 0 ∨ x = 1 ∨ x = 2 ∨ x = 3 ∨ x = 4 ∨ x = 5 ∨ x = 6 ∨ x = 7 ∨ x = 8 ∨ x = 9 ∨ x = 10 ∨ x = 11 ∨ x = 12 ∨ x = 13 ∨ x = 14 ∨ x = 15 := by omega
  rcases hx with rfl | rfl | rfl | rfl | rfl | rfl | rfl | rfl | rfl | rfl | rfl | rfl | rfl | rfl | rfl | rfl <;> decide
theorem flags_lt (a3 a4 a5 a6 : Bool) : flagsR a3 a4 a5 a6 < 16 := by cases a3 <;> cases a4 <;> cases a5 <;> cases a6 <;> decide
theorem rd_at (l : List Int) (i : Nat) (h : i < l.length) : rd l (i : Int) = l[i] := rd_nat l i h
theorem sacks_of (l : List Int) (hb : bytesB l = true) : ∀ n : Nat, 10 + 4 * n ≤ l.length → sacksR (sacksW l n) = (l.drop 10).take (4 * n) := by
  intro n
  induction n with
  | zero => intro _; simp [sacksW, sacksR]
  | succ n ih =>
    intro hn
    rw [sacksW, sacksR_append, ih (by omega)]
    have e : (l.drop 10).take (4 * (n + 1)) = (l.drop 10).take (4 * n) ++ [l[10 + 4 * n], l[10 + 4 * n + 1], l[10 + 4 * n + 2], l[10 + 4 * n + 3]] := by
      rw [show 4 * (n + 1) = 4 * n + 1 + 1 + 1 + 1 by omega]
      rw [List.take_succ_eq_append_getElem (by rw [List.length_drop]; omega), List.take_succ_eq_append_getElem (by rw [List.length_drop]; omega), List.take_succ_eq_append_getElem (by rw [List.length_drop]; omega), List.take_succ_eq_append_getElem (by rw [List.length_drop]; omega)]
      simp only [List.getElem_drop, List.append_assoc, List.cons_append, List.nil_append]
      congr 1
    rw [e]
    congr 1
    have h0 := bytesB_rd hb ((10 + 4 * n : Nat) : Int)
    have h1 := bytesB_rd hb ((10 + 4 * n + 1 : Nat) : Int)
    have h2 := bytesB_rd hb ((10 + 4 * n + 2 : Nat) : Int)
    have h3 := bytesB_rd hb ((10 + 4 * n + 3 : Nat) : Int)
    simp only [sacksR, word]
    rw [show rd l ((10 + 4 * n + 2 + 1 : Nat) : Int) = rd l ((10 + 4 * n + 3 : Nat) : Int) from rfl]
    rw [rd_at l _ (by omega)] at h0 h1 h2 h3
    rw [rd_at l (10 + 4 * n) (by omega), rd_at l (10 + 4 * n + 1) (by omega), rd_at l (10 + 4 * n + 2) (by omega), rd_at l (10 + 4 * n + 3) (by omega)]
    generalize l[10 + 4 * n] = a at *
    generalize l[10 + 4 * n + 1] = b at *
    generalize l[10 + 4 * n + 2] = c at *
    generalize l[10 + 4 * n + 3] = d at *
    rw [show (a * 256 + b) / 256 = a by omega, show (a * 256 + b) % 256 = b by omega, show (c * 256 + d) / 256 = c by omega, show (c * 256 + d) % 256 = d by omega]
    rfl
theorem ten {l : List Int} (h : ¬ l.length < 10) : ∃ a0 a1 a2 a3 a4 a5 a6 a7 a8 a9 t, l = a0 :: a1 :: a2 :: a3 :: a4 :: a5 :: a6 :: a7 :: a8 :: a9 :: t := by
  match l, h with
  | a0 :: a1 :: a2 :: a3 :: a4 :: a5 :: a6 :: a7 :: a8 :: a9 :: t, _ => exact ⟨a0, a1, a2, a3, a4, a5, a6, a7, a8, a9, t, rfl⟩
  | [], h => simp at h
  | [_], h => simp at h
  | [_, _], h => simp at h
  | [_, _, _], h => simp at h
  | [_, _, _, _], h => simp at h
  | [_, _, _, _, _], h => simp at h
  | [_, _, _, _, _, _], h => simp at h
  | [_, _, _, _, _, _, _], h => simp at h
  | [_, _, _, _, _, _, _, _], h => simp at h
  | [_, _, _, _, _, _, _, _, _], h => simp at h
theorem ref_of (l : List Int) (hb : bytesB l = true) (h10 : ¬ l.length < 10) (h16 : rd l 6 < 16) (hD : ¬ l.length < 10 + 4 * (rd l 7).toNat) :
    refB (segOf l).f0 (segOf l).f1 (segOf l).f2 (segOf l).f3 (segOf l).f4 (segOf l).f5 (segOf l).f6 (segOf l).f7 (segOf l).f8 = (l.set 8 0).set 9 0 := by
  have h7 := bytesB_rd hb 7
  have h6 := bytesB_rd hb 6
  obtain ⟨n, hn⟩ : ∃ n : Nat, rd l 7 = (n : Int) := ⟨(rd l 7).toNat, by omega⟩
  have hs := sacks_of l hb n (by rw [hn, Int.toNat_natCast] at hD; omega)
  have hf := flags_of (rd l 6) h6.1 h16
  have q0 := bytesB_rd hb 0
  have q1 := bytesB_rd hb 1
  have q2 := bytesB_rd hb 2
  have q3 := bytesB_rd hb 3
  have q4 := bytesB_rd hb 4
  have q5 := bytesB_rd hb 5
  simp only [segOf, refB]
  rw [hf, hn, Int.toNat_natCast, hs, sacksW_length, ← hn]
  have hd : (l.drop 10).take (4 * n) ++ l.drop (10 + 4 * n) = l.drop 10 := by
    rw [← List.drop_drop, List.take_append_drop]
  rw [List.append_assoc, hd]
  obtain ⟨a0, a1, a2, a3, a4, a5, a6, a7, a8, a9, t, rfl⟩ := ten h10
  simp only [headR, word]
  have r0 : rd (a0 :: a1 :: a2 :: a3 :: a4 :: a5 :: a6 :: a7 :: a8 :: a9 :: t) 0 = a0 := rfl
  have r1 : rd (a0 :: a1 :: a2 :: a3 :: a4 :: a5 :: a6 :: a7 :: a8 :: a9 :: t) 1 = a1 := rfl
  have r2 : rd (a0 :: a1 :: a2 :: a3 :: a4 :: a5 :: a6 :: a7 :: a8 :: a9 :: t) 2 = a2 := rfl
  have r3 : rd (a0 :: a1 :: a2 :: a3 :: a4 :: a5 :: a6 :: a7 :: a8 :: a9 :: t) 3 = a3 := rfl
  have r4 : rd (a0 :: a1 :: a2 :: a3 :: a4 :: a5 :: a6 :: a7 :: a8 :: a9 :: t) 4 = a4 := rfl
  have r5 : rd (a0 :: a1 :: a2 :: a3 :: a4 :: a5 :: a6 :: a7 :: a8 :: a9 :: t) 5 = a5 := rfl
  rw [r0] at q0
  rw [r1] at q1
  rw [r2] at q2
  rw [r3] at q3
  rw [r4] at q4
  rw [r5] at q5
  rw [show ((0 : Nat) : Int) = 0 from rfl, show ((0 + 1 : Nat) : Int) = 1 from rfl, show ((2 : Nat) : Int) = 2 from rfl, show ((2 + 1 : Nat) : Int) = 3 from rfl, show ((4 : Nat) : Int) = 4 from rfl, show ((4 + 1 : Nat) : Int) = 5 from rfl, r0, r1, r2, r3, r4, r5]
  rw [show (a0 * 256 + a1) / 256 = a0 by omega, show (a0 * 256 + a1) % 256 = a1 by omega, show (a2 * 256 + a3) / 256 = a2 by omega, show (a2 * 256 + a3) % 256 = a3 by omega, show (a4 * 256 + a5) / 256 = a4 by omega, show (a4 * 256 + a5) % 256 = a5 by omega]
  rfl
theorem bytes_of {l : List Int} (h : ∀ x ∈ l, (Lit.int .u8 x).wf = true) : bytesB l = true := by
  unfold bytesB
  rw [List.all_eq_true]
  intro x hx
  have := wf8 (h x hx)
  simp [this]
theorem wf_of {l : List Int} (h : bytesB l = true) : ∀ x ∈ l, (Lit.int .u8 x).wf = true := by
  intro x hx
  have := (List.all_eq_true.1 h) x hx
  simp only [decide_eq_true_eq] at this
  exact Go.WalkArith.wf_u8 (by omega)
theorem set_bytes {l : List Int} (h : bytesB l = true) (i : Nat) {x : Int} (hx : 0 ≤ x ∧ x ≤ 255) : bytesB (l.set i x) = true := by
  unfold bytesB at h ⊢
  rw [List.all_eq_true] at h ⊢
  intro y hy
  rcases List.mem_or_eq_of_mem_set hy with hy | rfl
  · exact h y hy
  · simp [hx]
theorem SegDecodes (l : List Int) (hh : l.length * 1 ≤ 140737488351232 ∧ ∀ x ∈ l, (Lit.int .u8 x).wf = true) : ∃ k, packthreadlaw_SegDecodes.f k l = some true := by
  obtain ⟨K, hK⟩ : ∃ K : Nat, l.length + 3000 + foldRounds < K := ⟨l.length + 3001 + foldRounds, by omega⟩
  refine ⟨K, ?_⟩
  have hb := bytes_of hh.2
  have hfin : ∀ (x : Sg) (e : Int), x.f7.length ≤ 2000 → x.f8.length ≤ l.length → ((packthreadlaw_sameSegment.f K x.f0 x.f1 x.f2 x.f3 x.f4 x.f5 x.f6 x.f7 x.f8 x.f0 x.f1 x.f2 x.f3 x.f4 x.f5 x.f6 x.f7 x.f8).bind fun t => (if t = true then some (e == e) else some false)) = some true := by
    intro x e h7 h8
    rw [same_seg x K (by omega) (by omega) (by omega) (by omega), Option.bind_some, if_pos rfl]
    simp
  have hz : ∀ e : Int, _ := fun e => hfin zS e (Nat.zero_le 2000) (Nat.zero_le l.length)
  unfold packthreadlaw_SegDecodes.f seg_Decode.f packthreadref_SegDecoded.f
  have hg : bytesB l = true ∧ l.length < 140737488351233 := ⟨hb, by omega⟩
  rw [if_pos hg, if_pos hg]
  by_cases h10 : l.length < 10
  · rw [if_pos h10, if_pos h10]
    exact hz 5
  rw [if_neg h10, if_neg h10]
  have hbB : bytesB ((l.set 8 0).set 9 0) = true := set_bytes (set_bytes hb 8 (by omega)) 9 (by omega)
  have hbd := wf_of hbB
  have hlB : ((l.set 8 0).set 9 0).length = l.length := by rw [List.length_set, List.length_set]
  obtain ⟨B, hB⟩ : ∃ B, (l.set 8 0).set 9 0 = B := ⟨_, rfl⟩
  rw [hB] at hbB hbd hlB ⊢
  have hr := red_bd (tot_bd hbd B.length).1
  have hFo := ref_all (by omega) hbd K (by omega)
  unfold inet_Sum.f
  rw [Fold_all (by omega) hbd K (by omega), hFo]
  obtain ⟨R, hR⟩ : ∃ R, red (tot B B.length) = R := ⟨_, rfl⟩
  rw [hR] at hr hFo ⊢
  rw [Option.bind_some, Option.bind_some, Option.bind_some, if_pos hr, w64 (by omega) (by omega)]
  by_cases hs : word l 8 = 65535 - R
  case neg =>
    rw [if_neg (fun h => hs h.symm), if_neg hs]
    exact hz 6
  rw [if_pos hs.symm, if_pos hs]
  by_cases hD : l.length < 10 + 4 * (rd l 7).toNat
  · rw [if_pos (.inr hD), if_pos hD]
    exact hz 4
  rw [if_neg hD]
  have h6 := bytesB_rd hb 6
  have h7 := bytesB_rd hb 7
  unfold packthreadref_SegEncoded.f
  rw [fault_is _ _ _ _ _ _ _ _ _ K (by omega), Option.bind_some]
  obtain ⟨fe, hfe⟩ : ∃ x, seg_fault.f (segOf l).f0 (segOf l).f1 (segOf l).f2 (segOf l).f6 (segOf l).f7 (segOf l).f8 = x := ⟨_, rfl⟩
  rw [hfe]
  by_cases hf : fe = 0
  case neg =>
    have hb0 : bytesB (([], fe) : List Int × Int).1 = true := rfl
    rw [if_neg hf, if_neg hf, Option.bind_some, if_pos hb0, if_neg (show ¬ ((([], fe) : List Int × Int).2 = 0 ∧ (([], fe) : List Int × Int).1 = l) from fun h => hf h.1)]
    split <;> exact hz 4
  rw [if_pos hf, if_pos hf]
  have hok := ok_of (hfe.trans hf)
  rw [if_pos hok]
  have hdw : ∀ x ∈ (segOf l).f8, (Lit.int .u8 x).wf = true := fun x hx => hh.2 x (List.mem_of_mem_drop hx)
  have hrb := ref_bd (segOf l).f3 (segOf l).f4 (segOf l).f5 (segOf l).f6 hok hdw
  have hrl : (refB (segOf l).f0 (segOf l).f1 (segOf l).f2 (segOf l).f3 (segOf l).f4 (segOf l).f5 (segOf l).f6 (segOf l).f7 (segOf l).f8).length ≤ 100 := by
    unfold refB
    rw [List.length_append, List.length_append, sacksR_length]
    simp only [headR, List.length_append, List.length_cons, List.length_nil]
    have := hok.2.2.2.2
    omega
  by_cases h16 : 16 ≤ rd l 6
  · rw [if_pos (.inl h16)]
    have h6e : rd (refB (segOf l).f0 (segOf l).f1 (segOf l).f2 (segOf l).f3 (segOf l).f4 (segOf l).f5 (segOf l).f6 (segOf l).f7 (segOf l).f8) 6 = flagsR (segOf l).f3 (segOf l).f4 (segOf l).f5 (segOf l).f6 := rfl
    have hfl := flags_lt (segOf l).f3 (segOf l).f4 (segOf l).f5 (segOf l).f6
    generalize refB (segOf l).f0 (segOf l).f1 (segOf l).f2 (segOf l).f3 (segOf l).f4 (segOf l).f5 (segOf l).f6 (segOf l).f7 (segOf l).f8 = RB at hrb hrl h6e ⊢
    have hr2 := red_bd (tot_bd hrb RB.length).1
    rw [ref_all (by omega) hrb K (by omega)]
    generalize red (tot RB RB.length) = Q at hr2 ⊢
    rw [Option.bind_some, Option.bind_some, if_pos hr2, Option.bind_some, if_pos (set_bytes (set_bytes (bytes_of hrb) 8 (by omega)) 9 (by omega)), if_neg]
    · exact hz 4
    · rintro ⟨_, he⟩
      have : rd l 6 = rd RB 6 := by
        rw [← he]
        unfold rd
        simp
      omega
  · rw [if_neg (fun h => h.elim h16 hD)]
    have hRB := ref_of l hb h10 (by omega) hD
    rw [hRB, hB, hFo, Option.bind_some, Option.bind_some, if_pos hr, Option.bind_some]
    have hback : (B.set 8 ((65535 - R) / 256)).set 9 ((65535 - R) % 256) = l := by
      rw [← hB]
      obtain ⟨a0, a1, a2, a3, a4, a5, a6, a7, a8, a9, t, rfl⟩ := ten h10
      have q8 := bytesB_rd hb 8
      have q9 := bytesB_rd hb 9
      have hw : word (a0 :: a1 :: a2 :: a3 :: a4 :: a5 :: a6 :: a7 :: a8 :: a9 :: t) 8 = a8 * 256 + a9 := rfl
      have r8 : rd (a0 :: a1 :: a2 :: a3 :: a4 :: a5 :: a6 :: a7 :: a8 :: a9 :: t) 8 = a8 := rfl
      have r9 : rd (a0 :: a1 :: a2 :: a3 :: a4 :: a5 :: a6 :: a7 :: a8 :: a9 :: t) 9 = a9 := rfl
      rw [r8] at q8
      rw [r9] at q9
      rw [hw] at hs
      rw [← hs, show (a8 * 256 + a9) / 256 = a8 by omega, show (a8 * 256 + a9) % 256 = a9 by omega]
      rfl
    rw [hback, if_pos hb, if_pos ⟨rfl, rfl⟩]
    refine hfin (segOf l) 0 ?_ ?_
    · simp only [segOf]
      rw [sacksW_length]
      omega
    · simp only [segOf]
      rw [List.length_drop]
      omega
end Go.Proofs.Ytjhmjgcebijmiaa.Pure
