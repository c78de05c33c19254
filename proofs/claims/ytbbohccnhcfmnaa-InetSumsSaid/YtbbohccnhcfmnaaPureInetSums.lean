/- The statement on inet over bytes holds at every slice of bytes; no further condition. -/
import Derived.Test.YtbbohccnhcfmnaaPInetSumsx
import Derived.Test.YtbbohccnhcfmnaaHelp
namespace Go.Proofs.Ytbbohccnhcfmnaa.Pure
open Go.RowKit Go.Proofs.Ytbbohccnhcfmnaa.PInetSums Go.Proofs.YtbbohccnhcfmnaaW.PrintWords Go.Proofs.YtbbohccnhcfmnaaW.PrintLast Go.Proofs.Ytbbohccnhcfmnaa.Help
set_option linter.unusedSimpArgs false
set_option linter.unusedVariables false

/-- What a number comes to where 65536 is 1: 0 alone is 0. -/
def red (n : Int) : Int := if n = 0 then 0 else (n - 1) % 65535 + 1
theorem red_small {n : Int} (h : 0 ≤ n) (h' : n ≤ 65535) : red n = n := by unfold red; split <;> omega
theorem red_bd {n : Int} (h : 0 ≤ n) : 0 ≤ red n ∧ red n ≤ 65535 := by unfold red; split <;> omega
theorem red_step {n : Int} (h : 65535 < n) : red (n / 65536 + n % 65536) = red n := by
  unfold red
  rw [if_neg (by omega), if_neg (by omega)]
  omega
theorem red_add {n w : Int} (h : 0 ≤ n) (hw : 0 ≤ w) : red (red n + w) = red (n + w) := by
  unfold red
  by_cases h0 : n = 0
  · subst h0; simp
  · rw [if_neg h0, if_neg (by omega), if_neg (by omega)]
    omega
theorem red_sub {n : Int} (h : 65535 < n) (h' : n ≤ 131070) : red n = n - 65535 := by unfold red; rw [if_neg (by omega)]; omega
theorem and_low {x : Int} (h₀ : 0 ≤ x) (h₁ : x < 9223372036854775808) : Go.bits .and .i64 x 65535 = x % 65536 := i64_mask 16 (by decide) x h₀ h₁
theorem fold_any (d : Nat) : ∀ (k : Nat) (x : Int), 0 ≤ x → x ≤ 9223372036854775807 → x.toNat ≤ d → d < k → inet_fold.l0 k x = some (red x) := by
  induction d with
  | zero =>
    intro k x h0 h1 hd hk
    obtain ⟨k, rfl⟩ : ∃ m, k = m + 1 := ⟨k - 1, by omega⟩
    simp only [inet_fold.l0]
    rw [if_neg (by omega), red_small h0 (by omega)]
  | succ d ih =>
    intro k x h0 h1 hd hk
    obtain ⟨k, rfl⟩ : ∃ m, k = m + 1 := ⟨k - 1, by omega⟩
    simp only [inet_fold.l0]
    by_cases h : x > 65535
    · rw [if_pos h, and_low h0 (by omega), w64 (by omega) (by omega), ih k _ (by omega) (by omega) (by omega) (by omega), red_step h]
    · rw [if_neg h, red_small h0 (by omega)]
/-- The rounds that are enough, whatever came. -/
def foldRounds : Nat := 9223372036854775808
theorem fold_all {k : Nat} (hk : foldRounds ≤ k) {x : Int} (h0 : 0 ≤ x) (h1 : x ≤ 9223372036854775807) : inet_fold.f k x = some (red x) :=
  fold_any x.toNat k x h0 h1 (Nat.le_refl _) (by unfold foldRounds at hk; omega)

/-- The words of bytes from a place on, added up. -/
def tot (l : List Int) : Nat → Int
  | 0 => 0
  | i + 1 => tot l i + (if i % 2 = 0 then 256 * rd l (i : Int) else rd l (i : Int))
theorem tot_bd {l : List Int} (h : ∀ x ∈ l, (Lit.int .u8 x).wf = true) (i : Nat) : 0 ≤ tot l i ∧ tot l i ≤ 65280 * i := by
  induction i with
  | zero => simp [tot]
  | succ i ih =>
    have hr := rd_bd h (i : Int)
    unfold tot
    split <;> omega
theorem Fold_loop {l : List Int} (hl : l.length * 1 ≤ 140737488351232) (h : ∀ x ∈ l, (Lit.int .u8 x).wf = true) (d : Nat) : ∀ (k i : Nat), l.length - i = d → i ≤ l.length → d + foldRounds < k →
    inet_Fold.l0 k (tot l i) l (l.length : Int) (i : Int) = some (red (tot l l.length)) := by
  induction d with
  | zero =>
    intro k i hd hi hk
    obtain ⟨k, rfl⟩ : ∃ m, k = m + 1 := ⟨k - 1, by omega⟩
    obtain rfl : i = l.length := by omega
    have hb := tot_bd h l.length
    simp only [inet_Fold.l0]
    rw [if_neg (by omega), fold_all (by omega) hb.1 (by omega)]
    rfl
  | succ d ih =>
    intro k i hd hi hk
    obtain ⟨k, rfl⟩ : ∃ m, k = m + 1 := ⟨k - 1, by omega⟩
    have hb := tot_bd h i
    have hr := rd_bd h (i : Int)
    have hn := ih k (i + 1) (by omega) (by omega) (by omega)
    simp only [inet_Fold.l0]
    rw [if_pos (by omega), if_pos (by omega), if_pos (by omega), tmod_nn (by omega), w64 (x := rd l (i : Int)) (by omega) (by omega), w64 (x := (i : Int) + 1) (by omega) (by omega), w64 (x := rd l (i : Int) * 256) (by omega) (by omega)]
    by_cases hp : i % 2 = 0
    · rw [if_pos (by omega), w64 (by omega) (by omega)]
      have e : tot l (i + 1) = tot l i + rd l (i : Int) * 256 := by rw [tot, if_pos hp]; omega
      rw [← e, show ((i : Int) + 1) = ((i + 1 : Nat) : Int) by omega]
      exact hn
    · rw [if_neg (by omega), w64 (by omega) (by omega)]
      have e : tot l (i + 1) = tot l i + rd l (i : Int) := by rw [tot, if_neg hp]
      rw [← e, show ((i : Int) + 1) = ((i + 1 : Nat) : Int) by omega]
      exact hn
theorem Fold_all {l : List Int} (hl : l.length * 1 ≤ 140737488351232) (h : ∀ x ∈ l, (Lit.int .u8 x).wf = true) (k : Nat) (hk : l.length + foldRounds < k) : inet_Fold.f k l = some (red (tot l l.length)) := by
  have := Fold_loop hl h l.length k 0 (by omega) (by omega) (by omega)
  simpa [inet_Fold.f, tot] using this
theorem ref_loop {l : List Int} (hl : l.length * 1 ≤ 140737488351232) (h : ∀ x ∈ l, (Lit.int .u8 x).wf = true) (d : Nat) : ∀ (k i : Nat), l.length - i ≤ d → i ≤ l.length + 1 → i % 2 = 0 → d < k →
    packthreadref_InetFold.l0 k l (red (tot l (min i l.length))) (i : Int) = some (red (tot l l.length)) := by
  induction d with
  | zero =>
    intro k i hd hi hp hk
    obtain ⟨k, rfl⟩ : ∃ m, k = m + 1 := ⟨k - 1, by omega⟩
    simp only [packthreadref_InetFold.l0]
    rw [if_neg (by omega), show min i l.length = l.length by omega]
  | succ d ih =>
    intro k i hd hi hp hk
    obtain ⟨k, rfl⟩ : ∃ m, k = m + 1 := ⟨k - 1, by omega⟩
    by_cases hlt : i < l.length
    · have hb := tot_bd h i
      have hr := rd_bd h (i : Int)
      have hr1 := rd_bd h ((i : Int) + 1)
      have hd0 := red_bd hb.1
      have hn := ih k (i + 2) (by omega) (by omega) (by omega) (by omega)
      have hm : min i l.length = i := by omega
      simp only [packthreadref_InetFold.l0]
      rw [hm, if_pos (by omega), if_pos (by omega), w64 (x := (i : Int) + 1) (by omega) (by omega), w64 (x := (i : Int) + 2) (by omega) (by omega), w64 (x := rd l (i : Int)) (by omega) (by omega), w64 (x := rd l ((i : Int) + 1)) (by omega) (by omega),
        w64 (x := 256 * rd l (i : Int)) (by omega) (by omega), w64 (x := 256 * rd l (i : Int) + rd l ((i : Int) + 1)) (by omega) (by omega)]
      rw [w64 (x := red (tot l i) + (256 * rd l (i : Int) + rd l ((i : Int) + 1))) (by omega) (by omega), w64 (x := red (tot l i) + 256 * rd l (i : Int)) (by omega) (by omega)]
      rw [w64 (x := red (tot l i) + (256 * rd l (i : Int) + rd l ((i : Int) + 1)) - 65535) (by omega) (by omega), w64 (x := red (tot l i) + 256 * rd l (i : Int) - 65535) (by omega) (by omega)]
      rw [show ((i : Int) + 2) = ((i + 2 : Nat) : Int) by omega]
      by_cases h2 : i + 1 < l.length
      · rw [if_pos (by omega), if_pos (by omega)]
        have e : red (tot l (min (i + 2) l.length)) = red (red (tot l i) + (256 * rd l (i : Int) + rd l ((i : Int) + 1))) := by
          rw [show min (i + 2) l.length = i + 2 by omega, red_add hb.1 (by omega), tot, tot, if_pos hp, if_neg (by omega), show ((i + 1 : Nat) : Int) = (i : Int) + 1 by omega]
          congr 1; omega
        by_cases h3 : red (tot l i) + (256 * rd l (i : Int) + rd l ((i : Int) + 1)) > 65535
        · rw [if_pos h3, ← red_sub h3 (by omega), ← e]
          exact hn
        · rw [if_neg h3]
          rw [red_small (n := red (tot l i) + _) (by omega) (by omega)] at e
          rw [← e]
          exact hn
      · rw [if_neg (by omega)]
        have e : red (tot l (min (i + 2) l.length)) = red (red (tot l i) + 256 * rd l (i : Int)) := by
          rw [show min (i + 2) l.length = i + 1 by omega, red_add hb.1 (by omega), tot, if_pos hp]
        by_cases h3 : red (tot l i) + 256 * rd l (i : Int) > 65535
        · rw [if_pos h3, ← red_sub h3 (by omega), ← e]
          exact hn
        · rw [if_neg h3]
          rw [red_small (n := red (tot l i) + _) (by omega) (by omega)] at e
          rw [← e]
          exact hn
    · simp only [packthreadref_InetFold.l0]
      rw [if_neg (by omega), show min i l.length = l.length by omega]
theorem ref_all {l : List Int} (hl : l.length * 1 ≤ 140737488351232) (h : ∀ x ∈ l, (Lit.int .u8 x).wf = true) (k : Nat) (hk : l.length < k) : packthreadref_InetFold.f k l = some (red (tot l l.length)) := by
  have := ref_loop hl h l.length k 0 (by omega) (by omega) rfl hk
  simpa [packthreadref_InetFold.f, tot, red] using this


theorem InetSums (l : List Int) (hh : l.length * 1 ≤ 140737488351232 ∧ ∀ x ∈ l, (Lit.int .u8 x).wf = true) : ∃ k, packthreadlaw_InetSums.f k l = some true := by
  obtain ⟨hl, h⟩ := hh
  refine ⟨l.length + foldRounds + 1, ?_⟩
  simp only [packthreadlaw_InetSums.f, inet_Sum.f]
  rw [Fold_all hl h _ (by omega), ref_all hl h _ (by omega)]
  simp

end Go.Proofs.Ytbbohccnhcfmnaa.Pure
