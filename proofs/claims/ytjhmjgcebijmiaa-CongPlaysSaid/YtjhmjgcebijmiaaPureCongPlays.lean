/- cong.Play answers what its reference answers, at every slice of signals; no further condition. -/
import Derived.Test.YtjhmjgcebijmiaaHCongPlaysx
import Derived.Test.YtjhmjgcebijmiaaHelp
namespace Go.Proofs.Ytjhmjgcebijmiaa.Pure
open Go.RowKit Go.Proofs.Ytjhmjgcebijmiaa.HCongPlays Go.Proofs.YtjhmjgcebijmiaaW.PrintWords Go.Proofs.YtjhmjgcebijmiaaW.PrintLast Go.Proofs.YtjhmjgcebijmiaaW.PrintMore Go.Proofs.Ytjhmjgcebijmiaa.Help
set_option linter.unusedSimpArgs false
set_option linter.unusedVariables false

abbrev Wd := S28
abbrev Sg := S89
def Inv (w : Wd) : Prop := 1 ≤ w.f0 ∧ w.f0 ≤ 64 ∧ 0 ≤ w.f1 ∧ w.f1 ≤ 64 ∧ 0 ≤ w.f2 ∧ w.f2 ≤ 64
/-- One that came. -/
def one (w : Wd) : Wd := if w.f0 < w.f1 then ⟨if w.f0 < 64 then w.f0 + 1 else w.f0, w.f1, w.f2⟩ else if w.f2 + 1 ≥ w.f0 then ⟨if w.f0 < 64 then w.f0 + 1 else w.f0, w.f1, 0⟩ else ⟨w.f0, w.f1, w.f2 + 1⟩
theorem one_inv {w : Wd} (h : Inv w) : Inv (one w) := by
  obtain ⟨h1, h2, h3, h4, h5, h6⟩ := h
  unfold one
  repeat' split
  all_goals (unfold Inv; simp only; omega)
theorem acked_one {w : Wd} (h : Inv w) : cong_acked.f w.f0 w.f1 w.f2 = some ((one w).f0, (one w).f1, (one w).f2) := by
  obtain ⟨h1, h2, h3, h4, h5, h6⟩ := h
  simp only [cong_acked.f, cong_wider.f, one]
  rw [w64 (x := w.f0 + 1) (by omega) (by omega), w64 (x := w.f2 + 1) (by omega) (by omega), mn_eq]
  by_cases g1 : w.f0 < w.f1
  · rw [if_pos g1, if_pos g1]
    simp
    split <;> omega
  · rw [if_neg g1, if_neg g1]
    by_cases g2 : w.f2 + 1 ≥ w.f0
    · rw [if_pos g2, if_pos g2]
      simp
      split <;> omega
    · rw [if_neg g2, if_neg g2]
theorem ref_many (l : List Sg) (n : Int) (o : List Wd) (x : Int) (i : Int) (ho : o.length ≤ 300) (hn : n ≤ 64) (k : Nat) (m : Nat) : ∀ (w : Wd) (j : Int), Inv w → 0 ≤ j → n - j = m →
    ∃ w1, cong_Play.acks m w = some w1 ∧ Inv w1 ∧ packthreadref_CongPlayed.l1 (k + m + 1) w.f0 w.f1 w.f2 o j l (l.length : Int) i x n = packthreadref_CongPlayed.l0 k w1.f0 w1.f1 w1.f2 (o ++ [w1]) l (l.length : Int) (wrap64 (i + 1)) := by
  induction m with
  | zero =>
    intro w j hw hj hm
    refine ⟨w, rfl, hw, ?_⟩
    rw [packthreadref_CongPlayed.l1, if_neg (by omega), if_pos (by omega)]
  | succ m ih =>
    intro w j hw hj hm
    obtain ⟨w1, h1, h2, h3⟩ := ih (one w) (j + 1) (one_inv hw) (by omega) (by omega)
    refine ⟨w1, ?_, h2, ?_⟩
    · rw [cong_Play.acks, acked_one hw]
      exact h1
    · rw [← h3, show k + (m + 1) + 1 = (k + m + 1) + 1 by omega, packthreadref_CongPlayed.l1, if_pos (by omega)]
      obtain ⟨g1, g2, g3, g4, g5, g6⟩ := hw
      rw [w64 (x := j + 1) (by omega) (by omega), w64 (x := w.f0 + 1) (by omega) (by omega), w64 (x := w.f2 + 1) (by omega) (by omega)]
      unfold one
      by_cases c1 : w.f0 < w.f1
      · rw [if_pos c1, if_pos c1]
        by_cases c2 : w.f0 < 64
        · rw [if_pos c2, if_pos c2]
        · rw [if_neg c2, if_neg c2]
      · rw [if_neg c1, if_neg c1]
        by_cases c3 : w.f2 + 1 ≥ w.f0
        · rw [if_pos c3, if_pos c3]
          by_cases c2 : w.f0 < 64
          · rw [if_pos c2, if_pos c2]
          · rw [if_neg c2, if_neg c2]
        · rw [if_neg c3, if_neg c3]
theorem rdT (l : List Sg) (i : Nat) (x : Sg) (t : List Sg) (h : l.drop i = x :: t) : rd_T89 l (i : Int) = x ∧ l.drop (i + 1) = t ∧ i < l.length := cong_Play.drop_at h
theorem lost_late {w : Wd} (h : Inv w) : cong_lost.f w.f0 w.f1 w.f2 true = some (1, if w.f0 / 2 < 2 then 2 else w.f0 / 2, 0) := by
  obtain ⟨h1, h2, _⟩ := h
  simp only [cong_lost.f]
  rw [if_pos trivial, tdiv_nn (by omega), w64 (by omega) (by omega)]
  rfl
theorem lost_again {w : Wd} (h : Inv w) : cong_lost.f w.f0 w.f1 w.f2 false = some (if w.f0 / 2 < 2 then 2 else w.f0 / 2, if w.f0 / 2 < 2 then 2 else w.f0 / 2, 0) := by
  obtain ⟨h1, h2, _⟩ := h
  simp only [cong_lost.f]
  rw [if_neg (by simp), tdiv_nn (by omega), w64 (by omega) (by omega)]
  rfl
theorem ref_all (l : List Sg) (hl : l.length ≤ 300) (t : List Sg) : ∀ (k i : Nat) (w : Wd) (o : List Wd), l.drop i = t → i ≤ l.length → Inv w → o.length = i → 100 * t.length < k →
    ∃ r, cong_Play.run t w o = some r ∧ r.1.length ≤ 300 ∧ packthreadref_CongPlayed.l0 k w.f0 w.f1 w.f2 o l (l.length : Int) (i : Int) = some r := by
  induction t with
  | nil =>
    intro k i w o ht hi hw ho hk
    obtain ⟨k, rfl⟩ : ∃ m, k = m + 1 := ⟨k - 1, by omega⟩
    have : l.length ≤ i := by simpa using ht
    refine ⟨(o, 0), rfl, by simp only; omega, ?_⟩
    rw [packthreadref_CongPlayed.l0, if_neg (by omega)]
  | cons x t ih =>
    intro k i w o ht hi hw ho hk
    simp only [List.length_cons] at hk
    obtain ⟨k, rfl⟩ : ∃ m, k = m + 1 := ⟨k - 1, by omega⟩
    obtain ⟨h1, h2, h3⟩ := rdT l i x t ht
    rw [packthreadref_CongPlayed.l0, if_pos (by omega), if_pos (by omega), if_pos (by omega), h1]
    obtain ⟨k, rfl⟩ : ∃ m, k = m + 1 := ⟨k - 1, by omega⟩
    have hwr : wrap64 ((i : Int) + 1) = ((i + 1 : Nat) : Int) := by rw [w64 (by omega) (by omega)]; omega
    have bad : ∀ b, b = true → packthreadref_CongPlayed.j1 (k + 1) w.f0 w.f1 w.f2 o l (l.length : Int) (i : Int) b x.f0 x.f1 = some ([], 3) := by
      intro b hb
      rw [packthreadref_CongPlayed.j1, if_pos hb]
    have hin := hw
    obtain ⟨g1, g2, g3, g4, g5, g6⟩ := hin
    by_cases c0 : x.f0 < 1
    · refine ⟨([], 3), ?_, by simp, by rw [if_pos c0]; exact bad _ rfl⟩
      rw [cong_Play.run, if_neg (by omega), if_neg (by omega), if_neg (by omega)]
    · rw [if_neg c0]
      by_cases c9 : x.f0 > 3
      · refine ⟨([], 3), ?_, by simp, bad _ (decide_eq_true c9)⟩
        rw [cong_Play.run, if_neg (by omega), if_neg (by omega), if_neg (by omega)]
      · rw [decide_eq_false c9, packthreadref_CongPlayed.j1, if_neg (by simp)]
        by_cases c1 : x.f0 = 1
        · rw [if_pos c1]
          obtain ⟨k, rfl⟩ : ∃ m, k = m + 1 := ⟨k - 1, by omega⟩
          by_cases c2 : x.f1 < 1
          · refine ⟨([], 2), ?_, by simp, by rw [if_pos c2, packthreadref_CongPlayed.j2, if_pos rfl]⟩
            rw [cong_Play.run, if_pos c1, if_pos c2]
          · rw [if_neg c2]
            by_cases c3 : x.f1 > 64
            · refine ⟨([], 2), ?_, by simp, by rw [decide_eq_true c3, packthreadref_CongPlayed.j2, if_pos rfl]⟩
              rw [cong_Play.run, if_pos c1, if_neg c2, if_pos c3]
            · rw [decide_eq_false c3, packthreadref_CongPlayed.j2, if_neg (by simp)]
              obtain ⟨w1, e1, e2, e3⟩ := ref_many l x.f1 o x.f0 (i : Int) (by omega) (by omega) (k - x.f1.toNat - 1) x.f1.toNat w 0 hw (by omega) (by omega)
              rw [show k - x.f1.toNat - 1 + x.f1.toNat + 1 = k by omega, hwr] at e3
              obtain ⟨r, f1, f2, f3⟩ := ih (k - x.f1.toNat - 1) (i + 1) w1 (o ++ [w1]) h2 (by omega) e2 (by simp [ho]) (by omega)
              refine ⟨r, ?_, f2, by rw [e3, f3]⟩
              rw [cong_Play.run, if_pos c1, if_neg c2, if_neg c3, e1]
              exact f1
        · rw [if_neg c1, tdiv_nn (by omega), w64 (x := w.f0 / 2) (by omega) (by omega), hwr]
          have hio : Inv (⟨if w.f0 / 2 < 2 then 2 else w.f0 / 2, if w.f0 / 2 < 2 then 2 else w.f0 / 2, 0⟩ : Wd) := by unfold Inv; simp only; split <;> omega
          have hil : Inv (⟨1, if w.f0 / 2 < 2 then 2 else w.f0 / 2, 0⟩ : Wd) := by unfold Inv; simp only; split <;> omega
          by_cases c2 : x.f0 = 2
          · have c3 : ¬ x.f0 = 3 := by omega
            obtain ⟨r, f1, f2, f3⟩ := ih k (i + 1) _ (o ++ [⟨if w.f0 / 2 < 2 then 2 else w.f0 / 2, if w.f0 / 2 < 2 then 2 else w.f0 / 2, 0⟩]) h2 (by omega) hio (by simp [ho]) (by omega)
            refine ⟨r, ?_, f2, ?_⟩
            · rw [cong_Play.run, if_neg c1, if_pos c2, lost_again hw]
              exact f1
            · simp only at f3
              by_cases c4 : w.f0 / 2 < 2
              · rw [if_pos c4, if_neg c3, if_pos (by omega)]
                rw [if_pos c4] at f3
                exact f3
              · rw [if_neg c4, if_neg c3, if_pos (by omega)]
                rw [if_neg c4] at f3
                exact f3
          · have c3 : x.f0 = 3 := by omega
            obtain ⟨r, f1, f2, f3⟩ := ih k (i + 1) _ (o ++ [⟨1, if w.f0 / 2 < 2 then 2 else w.f0 / 2, 0⟩]) h2 (by omega) hil (by simp [ho]) (by omega)
            refine ⟨r, ?_, f2, ?_⟩
            · rw [cong_Play.run, if_neg c1, if_neg c2, if_pos c3, lost_late hw]
              exact f1
            · simp only at f3
              by_cases c4 : w.f0 / 2 < 2
              · rw [if_pos c4, if_pos c3, if_pos (by omega)]
                rw [if_pos c4] at f3
                exact f3
              · rw [if_neg c4, if_pos c3, if_pos (by omega)]
                rw [if_neg c4] at f3
                exact f3
theorem same_loop (l : List Wd) (hl : l.length ≤ 9223372036854775806) (d : Nat) : ∀ (k i : Nat), l.length - i = d → i ≤ l.length → d < k → packthreadlaw_CongPlays.l0 k l l (i : Int) = some true := by
  induction d with
  | zero =>
    intro k i hd hi hk
    obtain ⟨k, rfl⟩ : ∃ m, k = m + 1 := ⟨k - 1, by omega⟩
    rw [packthreadlaw_CongPlays.l0, if_neg (by omega)]
  | succ d ih =>
    intro k i hd hi hk
    obtain ⟨k, rfl⟩ : ∃ m, k = m + 1 := ⟨k - 1, by omega⟩
    rw [packthreadlaw_CongPlays.l0, if_pos (by omega), if_pos (by omega), if_pos (by omega), if_neg (by simp), w64 (by omega) (by omega)]
    exact ih k (i + 1) (by omega) (by omega) (by omega)
theorem law_of {k : Nat} {l : List Sg} {x : List Wd × Int} (h1 : cong_Play.f l = some x) (h2 : packthreadref_CongPlayed.f (k + 1) l = some x) (hx : x.1.length ≤ 300) (hk : 300 < k) : packthreadlaw_CongPlays.f (k + 1) l = some true := by
  simp only [packthreadlaw_CongPlays.f, h1, h2, Option.bind_some]
  rw [if_pos trivial, packthreadlaw_CongPlays.j0, if_neg (by simp)]
  exact same_loop x.1 (by omega) x.1.length k 0 (by omega) (by omega) (by omega)

theorem CongPlays (l : List Sg) (_ : l.length * 16 ≤ 140737488351232 ∧ ∀ x ∈ l, (Lit.int .i64 x.f0).wf = true ∧ (Lit.int .i64 x.f1).wf = true) : ∃ k, packthreadlaw_CongPlays.f k l = some true := by
  refine ⟨100000 + 1, ?_⟩
  by_cases h : l.length > 300
  · refine law_of (x := ([], 1)) ?_ ?_ (by simp) (by omega)
    · rw [cong_Play.f, if_pos h]
    · rw [packthreadref_CongPlayed.f, if_pos (by omega)]
  · obtain ⟨r, e1, e2, e3⟩ := ref_all l (by omega) l 100001 0 ⟨1, 64, 0⟩ [] rfl (by omega) (by unfold Inv; simp) rfl (by omega)
    refine law_of (x := r) ?_ ?_ e2 (by omega)
    · rw [cong_Play.f, if_neg h, e1]
    · rw [packthreadref_CongPlayed.f, if_neg (by omega)]
      exact e3
end Go.Proofs.Ytjhmjgcebijmiaa.Pure
