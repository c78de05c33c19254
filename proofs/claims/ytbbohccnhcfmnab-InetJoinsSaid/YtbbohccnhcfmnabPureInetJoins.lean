/- inet.Join answers what its reference answers, at every two whole numbers of 64 bits and either bool; no further condition. -/
import Derived.Test.YtbbohccnhcfmnabPInetJoinsx
import Derived.Test.YtbbohccnhcfmnabHelp
import Derived.Laws.BitsAllLaws
namespace Go.Proofs.Ytbbohccnhcfmnab.Pure
open Go.RowKit Go.Proofs.Ytbbohccnhcfmnab.PInetJoins Go.Proofs.YtbbohccnhcfmnabW.PrintWords Go.Proofs.YtbbohccnhcfmnabW.PrintLast Go.Proofs.Ytbbohccnhcfmnab.Help
set_option linter.unusedSimpArgs false
set_option linter.unusedVariables false

/-- What a number comes to where 65536 is 1: 0 alone is 0. -/
def red (n : Int) : Int := if n = 0 then 0 else (n - 1) % 65535 + 1
theorem red_small {n : Int} (h : 0 ≤ n) (h' : n ≤ 65535) : red n = n := by unfold red; split <;> omega
theorem red_bd {n : Int} (h : 0 ≤ n) : 0 ≤ red n ∧ red n ≤ 65535 := by unfold red; split <;> omega
theorem red_step {n : Int} (h : 65535 < n) : red (n / 65536 + n % 65536) = red n := by
  unfold red
  rw [if_neg (by omega), if_neg (by omega)]
  omega
theorem red_add {n w : Int} (h : 0 ≤ n) (hw : 0 ≤ w) : red (red n + w) = red (n + w) := by
  unfold red
  by_cases h0 : n = 0
  · subst h0; simp
  · rw [if_neg h0, if_neg (by omega), if_neg (by omega)]
    omega
theorem red_sub {n : Int} (h : 65535 < n) (h' : n ≤ 131070) : red n = n - 65535 := by unfold red; rw [if_neg (by omega)]; omega
theorem and_low {x : Int} (h₀ : 0 ≤ x) (h₁ : x < 9223372036854775808) : Go.bits .and .i64 x 65535 = x % 65536 := i64_mask 16 (by decide) x h₀ h₁
theorem fold_any (d : Nat) : ∀ (k : Nat) (x : Int), 0 ≤ x → x ≤ 9223372036854775807 → x.toNat ≤ d → d < k → inet_fold.l0 k x = some (red x) := by
  induction d with
  | zero =>
    intro k x h0 h1 hd hk
    obtain ⟨k, rfl⟩ : ∃ m, k = m + 1 := ⟨k - 1, by omega⟩
    simp only [inet_fold.l0]
    rw [if_neg (by omega), red_small h0 (by omega)]
  | succ d ih =>
    intro k x h0 h1 hd hk
    obtain ⟨k, rfl⟩ : ∃ m, k = m + 1 := ⟨k - 1, by omega⟩
    simp only [inet_fold.l0]
    by_cases h : x > 65535
    · rw [if_pos h, and_low h0 (by omega), w64 (by omega) (by omega), ih k _ (by omega) (by omega) (by omega) (by omega), red_step h]
    · rw [if_neg h, red_small h0 (by omega)]
/-- The rounds that are enough, whatever came. -/
def foldRounds : Nat := 9223372036854775808
theorem fold_all {k : Nat} (hk : foldRounds ≤ k) {x : Int} (h0 : 0 ≤ x) (h1 : x ≤ 9223372036854775807) : inet_fold.f k x = some (red x) :=
  fold_any x.toNat k x h0 h1 (Nat.le_refl _) (by unfold foldRounds at hk; omega)

theorem words_from (l : List Int) (hl : l.length ≤ 1000) (h : ∀ x ∈ l, 0 ≤ x ∧ x ≤ 65535) (d : Nat) : ∀ (k i : Nat) (n : Int), l.length - i = d → i ≤ l.length → 0 ≤ n → n ≤ 65535 → d < k →
    packthreadref_addWords.l0 k n l (l.length : Int) (i : Int) = some (red (n + (l.drop i).sum)) := by
  induction d with
  | zero =>
    intro k i n hd hi h0 h1 hk
    obtain ⟨k, rfl⟩ : ∃ m, k = m + 1 := ⟨k - 1, by omega⟩
    simp only [packthreadref_addWords.l0]
    rw [if_neg (by omega), List.drop_eq_nil_of_le (by omega), List.sum_nil, Int.add_zero, red_small h0 h1]
  | succ d ih =>
    intro k i n hd hi h0 h1 hk
    obtain ⟨k, rfl⟩ : ∃ m, k = m + 1 := ⟨k - 1, by omega⟩
    have hlt : i < l.length := by omega
    have hx := h l[i] (List.getElem_mem hlt)
    have hs : ∀ t : List Int, (∀ x ∈ t, 0 ≤ x ∧ x ≤ 65535) → 0 ≤ t.sum := by
      intro t ht
      induction t with
      | nil => simp
      | cons a t ih2 =>
        have := ht a (by simp)
        have := ih2 (fun x hx => ht x (by simp [hx]))
        simp only [List.sum_cons]
        omega
    have hs' := hs (l.drop (i + 1)) (fun x hx => h x (List.mem_of_mem_drop hx))
    simp only [packthreadref_addWords.l0]
    rw [if_pos (by omega), if_pos (by omega), if_pos (by omega), rd_nat l i hlt, w64 (x := (i : Int) + 1) (by omega) (by omega), w64 (x := n + l[i]) (by omega) (by omega), w64 (x := n + l[i] - 65535) (by omega) (by omega), List.drop_eq_getElem_cons hlt, List.sum_cons,
      show ((i : Int) + 1) = ((i + 1 : Nat) : Int) by omega]
    by_cases hc : n + l[i] > 65535
    · rw [if_pos hc, ih k (i + 1) _ (by omega) (by omega) (by omega) (by omega) (by omega), ← red_sub hc (by omega), red_add (by omega) hs', Int.add_assoc]
    · rw [if_neg hc, ih k (i + 1) _ (by omega) (by omega) (by omega) (by omega) (by omega), Int.add_assoc]
theorem words_all (l : List Int) (hl : l.length ≤ 1000) (h : ∀ x ∈ l, 0 ≤ x ∧ x ≤ 65535) (k : Nat) (hk : l.length < k) : packthreadref_addWords.f k l = some (red l.sum) := by
  have := words_from l hl h l.length k 0 0 (by omega) (by omega) (by omega) (by omega) hk
  simpa [packthreadref_addWords.f] using this
theorem word_may (a : Int) : packthreadref_wordMay.f a = some (decide (0 ≤ a ∧ a ≤ 65535)) := by
  simp only [packthreadref_wordMay.f]
  by_cases h : a ≥ 0
  · simp [h]
  · simp [h]

theorem bad2 (k : Nat) (a b : Int) : inet_bad.f (k + 3) [a, b] = some (decide (¬ ((0 ≤ a ∧ a ≤ 65535) ∧ (0 ≤ b ∧ b ≤ 65535)))) := by
  simp only [inet_bad.f, inet_bad.l0, List.length_cons, List.length_nil]
  simp only [w01, w11, rd]
  by_cases h1 : a < 0
  · simp [h1] <;> omega
  · by_cases h2 : a > 65535
    · simp [h1, h2] <;> omega
    · by_cases h3 : b < 0
      · simp [h1, h2, h3] <;> omega
      · by_cases h4 : b > 65535
        · simp [h1, h2, h3, h4] <;> omega
        · simp [h1, h2, h3, h4] <;> omega
theorem turned {b : Int} (h0 : 0 ≤ b) (h1 : b ≤ 65535) : bits_ReverseBytes16.f b = some (b % 256 * 256 + b / 256) := by
  simp only [bits_ReverseBytes16.f]
  rw [IntKind.wrap_u16, show b * 256 % 65536 = b % 256 * 256 by omega]
  rw [Go.u16_or _ _ (by omega) (by omega) (by omega) (by omega), Nat.or_comm, ← Go.u16_or _ _ (by omega) (by omega) (by omega) (by omega),
    bits_join .u16 16 (by decide) (fun n h0 h1 => by rw [IntKind.wrap_u16]; omega) 8 (b % 256 * 256) (b / 256) (by omega) (by omega) (by omega) (by omega) (by omega) (by omega)]

theorem InetJoins : packthreadlaw_InetJoins.Pure := by
  intro a b o ha hb
  have ha := wf64 ha
  have hb := wf64 hb
  refine ⟨foldRounds + 3 + 1, ?_⟩
  simp only [packthreadlaw_InetJoins.f, inet_Join.f, packthreadref_InetJoin.f, show foldRounds + 3 + 1 = (foldRounds + 1) + 3 by omega, bad2, word_may, Option.bind_some]
  by_cases h1 : 0 ≤ a ∧ a ≤ 65535
  · by_cases h2 : 0 ≤ b ∧ b ≤ 65535
    · simp only [h1, h2, and_self, not_true_eq_false, decide_false, decide_true, if_true, Bool.not_true, packthreadref_InetJoin.j0]
      rw [if_neg (show ¬ (false = true) by simp), if_neg (show ¬ (false = true) by simp), IntKind.wrap_u16, show b % 65536 = b by omega, turned h2.1 h2.2, tmod_nn h2.1, tdiv_nn h2.1]
      simp only [Option.bind_some]
      rw [w64 (x := b / 256) (by omega) (by omega), w64 (x := b % 256 * 256) (by omega) (by omega), w64 (x := b % 256 * 256 + b / 256) (by omega) (by omega), w64 (x := a + (b % 256 * 256 + b / 256)) (by omega) (by omega), w64 (x := a + b) (by omega) (by omega),
        fold_all (by omega) (by omega) (by omega), fold_all (by omega) (by omega) (by omega),
        words_all [a, b] (by simp) (by simp; omega) _ (by simp [foldRounds]), words_all [a, b % 256 * 256 + b / 256] (by simp) (by simp; omega) _ (by simp [foldRounds])]
      cases o <;> simp
    · simp [h1, h2, packthreadref_InetJoin.j0]
  · simp [h1, packthreadref_InetJoin.j0]

end Go.Proofs.Ytbbohccnhcfmnab.Pure
