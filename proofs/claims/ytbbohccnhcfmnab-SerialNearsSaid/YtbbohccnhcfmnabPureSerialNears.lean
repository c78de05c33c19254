/- serial.Near answers what its reference answers, at every two whole numbers of 64 bits; no further condition. -/
import Derived.Test.YtbbohccnhcfmnabPSerialNearsx
import Derived.Test.YtbbohccnhcfmnabHelp
namespace Go.Proofs.Ytbbohccnhcfmnab.Pure
open Go.RowKit Go.Proofs.Ytbbohccnhcfmnab.PSerialNears Go.Proofs.YtbbohccnhcfmnabW.PrintWords Go.Proofs.YtbbohccnhcfmnabW.PrintLast Go.Proofs.Ytbbohccnhcfmnab.Help
set_option linter.unusedSimpArgs false
set_option linter.unusedVariables false

theorem bad1 (k : Nat) (a : Int) : serial_bad.f (k + 3) [a] = some (decide (¬ (0 ≤ a ∧ a ≤ 65535))) := by
  simp only [serial_bad.f, serial_bad.l0, List.length_singleton]
  simp only [w01, rd]
  by_cases h1 : a < 0
  · simp [h1] <;> omega
  · by_cases h2 : a ≥ 65536
    · simp [h1, h2] <;> omega
    · simp [h1, h2] <;> omega

/-- Behind the nearest place nothing is nearer. -/
theorem behind {s p q best least : Int} (hs : 0 ≤ s) (hs' : s ≤ 65535) (hp : 0 ≤ p) (hp' : p ≤ 1048576) (h1 : -32768 ≤ 65536 * q + s - p) (h2 : 65536 * q + s - p < 32768) (hl : least ≤ 32768) (hq : -3 ≤ q) (d : Nat) :
    ∀ (k : Nat) (i : Int), q < i → 20 - i ≤ d → d < k → packthreadref_SerialNear.l0 k s p best least i = some (best, 0) := by
  induction d with
  | zero =>
    intro k i hi hd hk
    obtain ⟨k, rfl⟩ : ∃ m, k = m + 1 := ⟨k - 1, by omega⟩
    simp only [packthreadref_SerialNear.l0]
    rw [if_neg (by omega)]
  | succ d ih =>
    intro k i hi hd hk
    obtain ⟨k, rfl⟩ : ∃ m, k = m + 1 := ⟨k - 1, by omega⟩
    simp only [packthreadref_SerialNear.l0]
    by_cases h : i < 20
    · rw [if_pos h, w64 (x := 65536 * i) (by omega) (by omega), w64 (x := 65536 * i + s) (by omega) (by omega), w64 (x := 65536 * i + s - p) (by omega) (by omega), if_neg (by omega), if_neg (by omega), w64 (x := i + 1) (by omega) (by omega)]
      exact ih k (i + 1) (by omega) (by omega) (by omega)
    · rw [if_neg h]
theorem ahead {s p q : Int} (hs : 0 ≤ s) (hs' : s ≤ 65535) (hp : 0 ≤ p) (hp' : p ≤ 1048576) (h1 : -32768 ≤ 65536 * q + s - p) (h2 : 65536 * q + s - p < 32768) (d : Nat) :
    ∀ (k : Nat) (i best least : Int), -2 ≤ i → i ≤ q → q - i ≤ d → d + 30 < k → (least > 65536 * q + s - p ∧ least > -(65536 * q + s - p)) → packthreadref_SerialNear.l0 k s p best least i = some (65536 * q + s, 0) := by
  induction d with
  | zero =>
    intro k i best least h0 hi hd hk hl
    obtain ⟨k, rfl⟩ : ∃ m, k = m + 1 := ⟨k - 1, by omega⟩
    obtain rfl : i = q := by omega
    simp only [packthreadref_SerialNear.l0]
    rw [if_pos (by omega), w64 (x := 65536 * i) (by omega) (by omega), w64 (x := 65536 * i + s) (by omega) (by omega), w64 (x := 65536 * i + s - p) (by omega) (by omega), w64 (x := -(65536 * i + s - p)) (by omega) (by omega), w64 (x := i + 1) (by omega) (by omega)]
    by_cases h : 65536 * i + s - p < 0
    · rw [if_pos h, if_pos (by omega)]
      exact behind hs hs' hp hp' h1 h2 (by omega) (by omega) 29 k (i + 1) (by omega) (by omega) (by omega)
    · rw [if_neg h, if_pos (by omega)]
      exact behind hs hs' hp hp' h1 h2 (by omega) (by omega) 29 k (i + 1) (by omega) (by omega) (by omega)
  | succ d ih =>
    intro k i best least h0 hi hd hk hl
    by_cases he : i = q
    · subst he
      obtain ⟨k, rfl⟩ : ∃ m, k = m + 1 := ⟨k - 1, by omega⟩
      simp only [packthreadref_SerialNear.l0]
      rw [if_pos (by omega), w64 (x := 65536 * i) (by omega) (by omega), w64 (x := 65536 * i + s) (by omega) (by omega), w64 (x := 65536 * i + s - p) (by omega) (by omega), w64 (x := -(65536 * i + s - p)) (by omega) (by omega), w64 (x := i + 1) (by omega) (by omega)]
      by_cases h : 65536 * i + s - p < 0
      · rw [if_pos h, if_pos (by omega)]
        exact behind hs hs' hp hp' h1 h2 (by omega) (by omega) 29 k (i + 1) (by omega) (by omega) (by omega)
      · rw [if_neg h, if_pos (by omega)]
        exact behind hs hs' hp hp' h1 h2 (by omega) (by omega) 29 k (i + 1) (by omega) (by omega) (by omega)
    · obtain ⟨k, rfl⟩ : ∃ m, k = m + 1 := ⟨k - 1, by omega⟩
      simp only [packthreadref_SerialNear.l0]
      rw [if_pos (by omega), w64 (x := 65536 * i) (by omega) (by omega), w64 (x := 65536 * i + s) (by omega) (by omega), w64 (x := 65536 * i + s - p) (by omega) (by omega), w64 (x := -(65536 * i + s - p)) (by omega) (by omega), w64 (x := i + 1) (by omega) (by omega), if_pos (by omega)]
      by_cases h : -(65536 * i + s - p) < least
      · rw [if_pos h]
        exact ih k (i + 1) _ _ (by omega) (by omega) (by omega) (by omega) (by omega)
      · rw [if_neg h]
        exact ih k (i + 1) _ _ (by omega) (by omega) (by omega) (by omega) hl

theorem SerialNears : packthreadlaw_SerialNears.Pure := by
  intro s p hs hp
  have hs := wf64 hs
  have hp := wf64 hp
  refine ⟨100, ?_⟩
  simp only [packthreadlaw_SerialNears.f, serial_Near.f, show (100 : Nat) = 97 + 3 from rfl, bad1, packthreadref_SerialNear.f, packthreadref_serialMay.f, Option.bind_some]
  by_cases h1 : 0 ≤ s
  · by_cases h2 : s ≤ 65535
    · by_cases h3 : 0 ≤ p
      · by_cases h4 : p ≤ 1048576
        · have e1 : Int.tmod p 65536 = p % 65536 := tmod_nn h3
          have key : ∃ q : Int, -32768 ≤ 65536 * q + s - p ∧ 65536 * q + s - p < 32768 ∧ serial_Near.j0 100 s p false = some (65536 * q + s, 0) := by
            simp only [serial_Near.j0, serial_far.f, Option.bind_some, e1]
            rw [w64 (x := s - p % 65536) (by omega) (by omega), w64 (x := s - p % 65536 + 65536) (by omega) (by omega), tmod_nn (by omega)]
            by_cases h5 : (s - p % 65536 + 65536) % 65536 ≥ 32768
            · refine ⟨(p + (s - p % 65536 + 65536) % 65536 - 65536 - s) / 65536, by omega, by omega, ?_⟩
              rw [if_neg (by simp), if_pos h5, w64 (x := (s - p % 65536 + 65536) % 65536 - 65536) (by omega) (by omega), w64 (by omega) (by omega)]
              congr 2
              omega
            · refine ⟨(p + (s - p % 65536 + 65536) % 65536 - s) / 65536, by omega, by omega, ?_⟩
              rw [if_neg (by simp), if_neg h5, w64 (by omega) (by omega)]
              congr 2
              omega
          obtain ⟨q, hq1, hq2, hq3⟩ := key
          have hr : packthreadref_SerialNear.j0 100 s p false = some (65536 * q + s, 0) := by
            simp only [packthreadref_SerialNear.j0]
            rw [if_neg (by simp)]
            exact ahead h1 h2 h3 h4 hq1 hq2 30 _ (-2) 0 _ (by omega) (by omega) (by omega) (by omega) (by omega)
          simp [h1, h2, hq3, hr, show ¬ p < 0 by omega, show ¬ p > 1048576 by omega]
        · simp [h1, h2, serial_Near.j0, packthreadref_SerialNear.j0, show ¬ p < 0 by omega, show p > 1048576 by omega]
      · simp [h1, h2, serial_Near.j0, packthreadref_SerialNear.j0, show p < 0 by omega]
    · simp [h1, h2, serial_Near.j0, packthreadref_SerialNear.j0]
  · simp [h1, serial_Near.j0, packthreadref_SerialNear.j0]

end Go.Proofs.Ytbbohccnhcfmnab.Pure
