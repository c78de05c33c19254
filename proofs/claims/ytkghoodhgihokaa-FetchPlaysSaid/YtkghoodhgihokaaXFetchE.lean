/- Fetch: what got does. -/
import Derived.Test.YtkghoodhgihokaaXFetchD
namespace Go.Proofs.Ytkghoodhgihokaa.Fetch
open Go.RowKit Go.Lib Go.Proofs.YtkghoodhgihokaaW.PrintWords Go.Proofs.YtkghoodhgihokaaW.PrintLast Go.Proofs.YtkghoodhgihokaaW.PrintMore Go.Proofs.Ytkghoodhgihokaa.HFetchPlays
set_option linter.unusedVariables false
set_option linter.unusedSimpArgs false
/-- A fetcher at f; its rows lie in blocks of M. -/
structure FM (M : Nat → Prop) (w0 w : World) (f : Nat) (F : Fs) (vo vd : Value) : Prop where
  hf : w.heap[f]? = some (.cells #[vo, .int .i64 F.front, .int .i64 F.fin, vd] 106 (0, 0))
  ho : Kd.R k61 61 w w0.heap.size M vo F.out
  hd : Kd.R (Kd.int .u8) 5 w w0.heap.size M vd F.data
  lf : w0.heap.size ≤ f
  hb : Below w0.heap.size w0 w
/-- No Next yet. -/
def zeroN : Nx := ⟨0, [], false, []⟩
theorem FN.fm {M : Nat → Prop} {w0 w : World} {f n : Nat} {F : Fs} {N : Nx} {vo vd vw vD : Value} (h : FN M w0 w f n F N vo vd vw vD) : FM M w0 w f F vo vd := ⟨h.hf, h.ho, h.hd, h.lf, h.hb⟩
theorem FM.withN {M : Nat → Prop} {w0 w : World} {f : Nat} {F : Fs} {vo vd : Value} (h : FM M w0 w f F vo vd) {n : Nat} (hn : w.heap[n]? = some (.cells #[.int .i64 0, .slice none 0 0, .bool false, .slice none 0 0] 59 (0, 0))) (ln : w0.heap.size ≤ n) : FN M w0 w f n F zeroN vo vd (.slice none 0 0) (.slice none 0 0) :=
  ⟨h.hf, hn, h.ho, h.hd, Kd.R_nil _ _ _ _ _, Kd.R_nil _ _ _ _ _, fun _ _ e => (by simp [Value.ownBlock] at e), fun _ _ e => (by simp [Value.ownBlock] at e), h.lf, ln, h.hb⟩
theorem FM.below {M : Nat → Prop} {w0 w : World} {f : Nat} {F : Fs} {vo vd : Value} {w' : World} (h : FM M w0 w f F vo vd) (hb : Below w.heap.size w w') : FM M w0 w' f F vo vd :=
  ⟨(hb.block _ (blk_ltn h.hf)).trans h.hf, Kd.R_below h.ho hb, Kd.R_below h.hd hb, h.lf, h.hb.trans (hb.mono h.hb.size)⟩
/-- The data's row grows, its place too. -/
theorem FN.grows {M : Nat → Prop} {w0 w : World} {f n : Nat} {F : Fs} {N : Nx} {vo vd vw vD : Value} {w' : World} {v' : Value} {d' : List Int} (h : FN M w0 w f n F N vo vd vw vD) (hg : w.grownBy w' vd.ownBlock) (hb : Below w0.heap.size w0 w') (hd : Kd.R (Kd.int .u8) 5 w' w0.heap.size M v' d') (hat : v'.ownBlock = vd.ownBlock ∨ ∃ b, v'.ownBlock = some b ∧ w.heap.size ≤ b) :
    FN M w0 (w'.setCell ⟨f, 3, none⟩ v') f n { F with data := d' } N vo v' vw vD := by
  have n1 : ∀ {j : Nat} {cells : Array Value} {t : TypeId} {fr : Nat × Nat}, w.heap[j]? = some (.cells cells t fr) → t ≠ 5 → w'.heap[j]? = some (.cells cells t fr) := fun hj ht => (hg.block _ (blk_ltn hj) (own_ne h.hd hj ht)).trans hj
  have hf1 := n1 h.hf (by decide)
  have hn1 := n1 h.hn (by decide)
  have hfn : n ≠ f := by rintro rfl; have h1 := h.hn; rw [h.hf] at h1; cases h1
  have tys : ∀ k, vd.ownBlock = some k → ∃ cells, w.heap[k]? = some (.cells cells 5 (0, 0)) := Kd.R_typed h.hd
  refine ⟨(blk_set hf1 3 v').trans rfl, (Below.heap_setCell _ _ _ _ hfn).trans hn1, Kd.R_set (Kd.R_over' h.ho tys (k61_not (by decide)) hg) hf1 (k61_not (by decide)) 3 _, Kd.R_set hd hf1 (u8_not (by decide)) 3 _, Kd.R_set (Kd.R_over' h.hw tys (k61_not (by decide)) hg) hf1 (k61_not (by decide)) 3 _, Kd.R_set (Kd.R_grown2 h.hD u8_E hg h.ne2) hf1 (u8_not (by decide)) 3 _, h.ne1, ?_, h.lf, h.ln, hb.setCell (p := ⟨f, 3, none⟩) h.lf _⟩
  intro k hk e
  rcases hat with h1 | ⟨b, h1, h2⟩
  · exact h.ne2 k (h1.symm.trans hk) e
  · rw [h1] at hk
    cases hk
    have := own_lt h.hD e.symm
    omega
/-- The data's row is written in place. -/
theorem FN.writes {M : Nat → Prop} {w0 w : World} {f n : Nat} {F : Fs} {N : Nx} {vo vd vw vD : Value} {w' : World} {d' : List Int} (h : FN M w0 w f n F N vo vd vw vD) (hg : w.grownBy w' vd.ownBlock) (hb : Below w0.heap.size w0 w') (hd : Kd.R (Kd.int .u8) 5 w' w0.heap.size M vd d') : FN M w0 w' f n { F with data := d' } N vo vd vw vD := by
  have n1 : ∀ {j : Nat} {cells : Array Value} {t : TypeId} {fr : Nat × Nat}, w.heap[j]? = some (.cells cells t fr) → t ≠ 5 → w'.heap[j]? = some (.cells cells t fr) := fun hj ht => (hg.block _ (blk_ltn hj) (own_ne h.hd hj ht)).trans hj
  have tys : ∀ k, vd.ownBlock = some k → ∃ cells, w.heap[k]? = some (.cells cells 5 (0, 0)) := Kd.R_typed h.hd
  exact ⟨n1 h.hf (by decide), n1 h.hn (by decide), Kd.R_over' h.ho tys (k61_not (by decide)) hg, hd, Kd.R_over' h.hw tys (k61_not (by decide)) hg, Kd.R_grown2 h.hD u8_E hg h.ne2, h.ne1, h.ne2, h.lf, h.ln, hb⟩
/-- The end is known. -/
theorem FN.setFin {M : Nat → Prop} {w0 w : World} {f n : Nat} {F : Fs} {N : Nx} {vo vd vw vD : Value} (h : FN M w0 w f n F N vo vd vw vD) (i : Int) : FN M w0 (w.setCell ⟨f, 2, none⟩ (.int .i64 i)) f n { F with fin := i } N vo vd vw vD := by
  have hfn : n ≠ f := by rintro rfl; have h1 := h.hn; rw [h.hf] at h1; cases h1
  exact ⟨(blk_set h.hf 2 _).trans rfl, (Below.heap_setCell _ _ _ _ hfn).trans h.hn, Kd.R_set h.ho h.hf (k61_not (by decide)) 2 _, Kd.R_set h.hd h.hf (u8_not (by decide)) 2 _, Kd.R_set h.hw h.hf (k61_not (by decide)) 2 _, Kd.R_set h.hD h.hf (u8_not (by decide)) 2 _, h.ne1, h.ne2, h.lf, h.ln, h.hb.setCell (p := ⟨f, 2, none⟩) h.lf _⟩
/-- The index of a want. -/
def idxW : List S61 → Int → Int → Nat → Option Nat
  | [], _, _, _ => none
  | x :: t, a, c, i => if (a == x.f0 && (c == x.f1)) = true then some i else idxW t a c (i + 1)
/-- What a fetcher does with what it got. -/
def gotF (F : Fs) (a c : Int) (d : List Int) : Fs × Nx :=
  match idxW F.out a c 0 with
  | none => (F, { zeroN with code := 7 })
  | some i =>
    if c < (d.length : Int) then (F, { zeroN with code := 1 }) else
    let d1 := if 0 < a + (d.length : Int) - (F.data.length : Int) then F.data ++ List.replicate (a + (d.length : Int) - (F.data.length : Int)).toNat 0 else F.data
    let o := min a.toNat d1.length
    let d2 := d1.take o ++ d.take (d1.length - o) ++ d1.drop (o + d.length)
    let F1 : Fs := { F with out := F.out.eraseIdx i, data := d2 }
    if d.length = 0 ∧ (F.fin < 0 ∨ a < F.fin) then onF { F1 with fin := a } zeroN
    else if 0 < d.length ∧ (d.length : Int) < c then onF { F1 with out := F1.out ++ [⟨a + (d.length : Int), c - (d.length : Int)⟩] } { zeroN with wants := [⟨a + (d.length : Int), c - (d.length : Int)⟩] }
    else onF F1 zeroN
theorem idx_l0 (l : List S61) (a c : Int) (hl : l.length ≤ 100000) : ∀ (d k i : Nat), l.length - i = d → i ≤ l.length → d < k → api_Want_93.l0 k l (l.length : Int) (i : Int) a c = some (match idxW (l.drop i) a c i with | none => -1 | some j => (j : Int)) := by
  intro d
  induction d with
  | zero =>
    intro k i hd hi hk
    obtain ⟨k, rfl⟩ : ∃ m, k = m + 1 := ⟨k - 1, by omega⟩
    rw [api_Want_93.l0, if_neg (by omega), show i = l.length by omega, List.drop_length]
    rfl
  | succ d ih =>
    intro k i hd hi hk
    obtain ⟨k, rfl⟩ : ∃ m, k = m + 1 := ⟨k - 1, by omega⟩
    have hlt : i < l.length := by omega
    have hr : rd_T61 l (i : Int) = l[i] := by unfold rd_T61; rw [Int.toNat_natCast, List.getD_eq_getElem?_getD, List.getElem?_eq_getElem hlt]; rfl
    rw [api_Want_93.l0, if_pos (by omega), if_pos (by omega), if_pos (by omega), hr, List.drop_eq_getElem_cons hlt]
    show _ = some (match (if (a == l[i].f0 && (c == l[i].f1)) = true then some i else idxW (l.drop (i + 1)) a c (i + 1)) with | none => -1 | some j => (j : Int))
    by_cases h : (a == l[i].f0 && (c == l[i].f1)) = true
    · rw [if_pos h, if_pos h]
    · rw [if_neg h, if_neg h, show wrap64 ((i : Int) + 1) = ((i + 1 : Nat) : Int) by unfold wrap64; omega]
      exact ih k (i + 1) (by omega) (by omega) (by omega)
theorem idx_is (l : List S61) (a c : Int) (hl : l.length ≤ 100000) (k : Nat) (hk : l.length < k) : api_Want_93.f k l a c = some (match idxW l a c 0 with | none => -1 | some j => (j : Int)) := by
  unfold api_Want_93.f
  exact idx_l0 l a c hl l.length k 0 (by omega) (by omega) hk
theorem idxW_lt : ∀ (l : List S61) (a c : Int) (i j : Nat), idxW l a c i = some j → i ≤ j ∧ j < i + l.length ∧ ∃ x, l[j - i]? = some x ∧ x.f0 = a ∧ x.f1 = c
  | [], _, _, _, _, h => by cases h
  | x :: t, a, c, i, j, h => by
    have h : (if (a == x.f0 && (c == x.f1)) = true then some i else idxW t a c (i + 1)) = some j := h
    by_cases hx : (a == x.f0 && (c == x.f1)) = true
    · rw [if_pos hx] at h
      cases h
      simp only [Bool.and_eq_true, beq_iff_eq] at hx
      exact ⟨Nat.le_refl _, by rw [List.length_cons]; omega, x, by rw [Nat.sub_self]; rfl, hx.1.symm, hx.2.symm⟩
    · rw [if_neg hx] at h
      obtain ⟨h1, h2, y, h3, h4⟩ := idxW_lt t a c (i + 1) j h
      refine ⟨by omega, by rw [List.length_cons]; omega, y, ?_, h4⟩
      rw [show j - i = (j - (i + 1)) + 1 by omega, List.getElem?_cons_succ]
      exact h3
end Go.Proofs.Ytkghoodhgihokaa.Fetch
