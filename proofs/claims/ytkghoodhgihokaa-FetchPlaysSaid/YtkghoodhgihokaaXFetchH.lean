/- Fetch: a fetcher between calls. -/
import Derived.Test.YtkghoodhgihokaaXFetchG
namespace Go.Proofs.Ytkghoodhgihokaa.Fetch
open Go.RowKit Go.Lib Go.Proofs.YtkghoodhgihokaaW.PrintWords Go.Proofs.YtkghoodhgihokaaW.PrintLast Go.Proofs.YtkghoodhgihokaaW.PrintMore Go.Proofs.Ytkghoodhgihokaa.HFetchPlays
set_option linter.unusedVariables false
set_option linter.unusedSimpArgs false
/-- What a fetcher is between calls. -/
structure PInv (F : Fs) : Prop where
  out : F.out.length ≤ 6
  front : 0 ≤ F.front ∧ F.front ≤ 2148
  fin : -1 ≤ F.fin ∧ F.fin ≤ (F.data.length : Int)
  data : F.data.length ≤ 2148
  wants : ∀ x ∈ F.out, 0 ≤ x.f0 ∧ 0 ≤ x.f1 ∧ x.f0 + x.f1 ≤ 2148
theorem PInv.onL : ∀ (k : Nat) {F : Fs} (N : Nx), PInv F → PInv (onL k F N).1
  | 0, F, N, h => h
  | k + 1, F, N, h => by
    show PInv (if goOn F = true then Fetch.onL k { F with out := F.out ++ [⟨F.front, 100⟩], front := F.front + 100 } { N with wants := N.wants ++ [⟨F.front, 100⟩] } else (F, N)).1
    by_cases hg : goOn F = true
    · rw [if_pos hg]
      have hg' := hg
      unfold goOn at hg'
      simp only [Bool.and_eq_true, Bool.or_eq_true, decide_eq_true_eq] at hg'
      have h1 := h.out
      have h2 := h.front
      refine PInv.onL k _ ⟨?_, ?_, h.fin, h.data, ?_⟩
      · show (F.out ++ [_]).length ≤ 6
        rw [List.length_append, List.length_singleton]; omega
      · show 0 ≤ F.front + 100 ∧ F.front + 100 ≤ 2148
        omega
      · intro x hx
        rcases List.mem_append.1 hx with hx | hx
        · exact h.wants x hx
        · rw [List.mem_singleton.1 hx]
          show 0 ≤ F.front ∧ (0 : Int) ≤ 100 ∧ F.front + 100 ≤ 2148
          omega
    · rw [if_neg hg]; exact h
theorem PInv.onF {F : Fs} (N : Nx) (h : PInv F) : PInv (onF F N).1 := by
  have h1 := PInv.onL 6 N h
  unfold Fetch.onF
  split
  · exact h1
  · exact h1
theorem PInv.swF {F : Fs} {a c : Int} {k : Nat} (h : PInv F) (ho : F.out.length ≤ 5) (ha : 0 ≤ a ∧ a + (k : Int) ≤ (F.data.length : Int)) (hc : (k : Int) ≤ c ∧ a + c ≤ 2148) : PInv (swF F a c k).1 := by
  unfold Fetch.swF
  by_cases h1 : k = 0 ∧ (F.fin < 0 ∨ a < F.fin)
  · rw [if_pos h1]
    exact ⟨h.out, h.front, ⟨by show -1 ≤ a; omega, by show a ≤ (F.data.length : Int); omega⟩, h.data, h.wants⟩
  · rw [if_neg h1]
    by_cases h2 : 0 < k ∧ (k : Int) < c
    · rw [if_pos h2]
      refine ⟨?_, h.front, h.fin, h.data, ?_⟩
      · show (F.out ++ [_]).length ≤ 6
        rw [List.length_append, List.length_singleton]; omega
      · intro x hx
        rcases List.mem_append.1 hx with hx | hx
        · exact h.wants x hx
        · rw [List.mem_singleton.1 hx]
          show 0 ≤ a + (k : Int) ∧ 0 ≤ c - (k : Int) ∧ a + (k : Int) + (c - (k : Int)) ≤ 2148
          omega
    · rw [if_neg h2]; exact h
theorem growD_le {D : List Int} {m : Int} (h : m ≤ 2148 - (D.length : Int)) (hD : D.length ≤ 2148) : (growD D m).length ≤ 2148 ∧ D.length ≤ (growD D m).length := by
  unfold growD
  by_cases h1 : 0 < m
  · rw [if_pos h1, List.length_append, List.length_replicate]; omega
  · rw [if_neg h1]; omega
theorem PInv.gotF {F : Fs} {a c : Int} {d : List Int} (h : PInv F) : PInv (gotF F a c d).1 := by
  cases hi : idxW F.out a c 0 with
  | none => unfold Fetch.gotF; rw [hi]; exact h
  | some i =>
    by_cases h5 : c < (d.length : Int)
    · have : Fetch.gotF F a c d = (F, { zeroN with code := 1 }) := by unfold Fetch.gotF; rw [hi]; exact if_pos h5
      rw [this]; exact h
    · rw [gotF_some hi h5]
      obtain ⟨_, hi2, x, hx, ea, ec⟩ := idxW_lt F.out a c 0 i hi
      have hw := h.wants x (List.mem_of_getElem? hx)
      rw [ea, ec] at hw
      have hil : i < F.out.length := by omega
      have hle : (F.out.eraseIdx i).length + 1 = F.out.length := by rw [List.length_eraseIdx_of_lt hil]; omega
      have hg := growD_length (D := F.data) (a := a) (k := d.length) hw.1
      have hg2 := growD_le (D := F.data) (m := a + (d.length : Int) - (F.data.length : Int)) (by omega) h.data
      obtain ⟨d1, hd1⟩ : ∃ d1, growD F.data (a + (d.length : Int) - (F.data.length : Int)) = d1 := ⟨_, rfl⟩
      rw [hd1] at hg hg2 ⊢
      have hl := lay_length d1 d (min a.toNat d1.length) (Nat.min_le_right _ _)
      have h6 := h.out
      have h7 := h.fin
      refine PInv.onF _ (PInv.swF ⟨?_, h.front, ?_, ?_, ?_⟩ ?_ ?_ ?_)
      · show (F.out.eraseIdx i).length ≤ 6
        omega
      · show -1 ≤ F.fin ∧ F.fin ≤ ((lay d1 d (min a.toNat d1.length)).length : Int)
        rw [hl]; omega
      · show (lay d1 d (min a.toNat d1.length)).length ≤ 2148
        rw [hl]; omega
      · intro y hy
        exact h.wants y (List.mem_of_mem_eraseIdx hy)
      · show (F.out.eraseIdx i).length ≤ 5
        omega
      · show 0 ≤ a ∧ a + (d.length : Int) ≤ ((lay d1 d (min a.toNat d1.length)).length : Int)
        rw [hl]; omega
      · omega
theorem R61_sub {w : World} {B : Nat} {M M' : Nat → Prop} {v : Value} {xs : List S61} (h : Kd.R k61 61 w B M v xs) (hs : ∀ k, v.ownBlock = some k → M' k) : Kd.R k61 61 w B M' v xs := by
  obtain ⟨h0, inner, ho, hr⟩ := h
  exact ⟨hs, inner, ho, hr.imp_ (fun x cs hp => by rw [k61_openM hp]; exact k61_mkM _ _ _ x)⟩
theorem Ru8_sub {w : World} {B : Nat} {M M' : Nat → Prop} {v : Value} {xs : List Int} (h : Kd.R (Kd.int .u8) 5 w B M v xs) (hs : ∀ k, v.ownBlock = some k → M' k) : Kd.R (Kd.int .u8) 5 w B M' v xs := by
  obtain ⟨h0, inner, ho, hr⟩ := h
  exact ⟨hs, inner, ho, hr.imp_ (fun x cs hp => hp)⟩
theorem FM.sub {M M' : Nat → Prop} {w0 w : World} {f : Nat} {F : Fs} {vo vd : Value} (h : FM M w0 w f F vo vd) (h1 : ∀ k, vo.ownBlock = some k → M' k) (h2 : ∀ k, vd.ownBlock = some k → M' k) : FM M' w0 w f F vo vd := ⟨h.hf, R61_sub h.ho h1, Ru8_sub h.hd h2, h.lf, h.hb⟩
theorem own_apart {α β : Type} {d1 : Kd α} {d2 : Kd β} {e1 e2 B1 B2 : Nat} {ok1 ok2 : Nat → Prop} {v1 v2 : Value} {xs : List α} {ys : List β} {w : World} (h1 : d1.R e1 w B1 ok1 v1 xs) (h2 : d2.R e2 w B2 ok2 v2 ys) (he : e1 ≠ e2) : ∀ k, v1.ownBlock = some k → some k ≠ v2.ownBlock := by
  intro k hk e
  obtain ⟨_, hc1⟩ := Kd.R_typed h1 k hk
  obtain ⟨_, hc2⟩ := Kd.R_typed h2 k e.symm
  rw [hc1] at hc2
  cases hc2
  exact he rfl
/-- The Next's rows are handed away. -/
theorem FN.shed {M : Nat → Prop} {w0 w : World} {f n : Nat} {F : Fs} {N : Nx} {vo vd vw vD : Value} (h : FN M w0 w f n F N vo vd vw vD) : FM (fun k => M k ∧ some k ≠ vw.ownBlock ∧ some k ≠ vD.ownBlock) w0 w f F vo vd :=
  FM.sub h.fm (fun k hk => ⟨h.ho.1 k hk, h.ne1 k hk, own_apart h.ho h.hD (by decide) k hk⟩) (fun k hk => ⟨h.hd.1 k hk, own_apart h.hd h.hw (by decide) k hk, h.ne2 k hk⟩)
theorem FM.other {M : Nat → Prop} {w0 w w' : World} {f : Nat} {F : Fs} {vo vd vr : Value} (h : FM M w0 w f F vo vd) (ht : ∀ k, vr.ownBlock = some k → ∃ cells, w.heap[k]? = some (.cells cells 59 (0, 0))) (hg : w.grownBy w' vr.ownBlock) (hb : Below w0.heap.size w0 w') : FM M w0 w' f F vo vd := by
  refine ⟨(hg.block _ (blk_ltn h.hf) ?_).trans h.hf, Kd.R_over' h.ho ht (k61_not (by decide)) hg, Kd.R_over' h.hd ht (u8_not (by decide)) hg, h.lf, hb⟩
  intro e
  obtain ⟨_, hc⟩ := ht f e.symm
  rw [h.hf] at hc
  cases hc
def toS (N : Nx) : S59 := ⟨N.code, N.wants, N.done, N.data⟩
/-- A fetcher, and the row of what was told. -/
inductive PI (w0 w : World) (f : Nat) (F : Fs) (vr : Value) (acc : List S59) : Prop
  | mk (M : Nat → Prop) (vo vd : Value) (h : FM M w0 w f F vo vd) (mf : M f) (hM : ∀ k, w.heap.size ≤ k → M k) (hr : Kd.R k59 59 w w0.heap.size (fun k => ¬ M k) vr acc)
/-- A Next goes to the row. -/
theorem PI.put {M : Nat → Prop} {w0 w w' : World} {f n : Nat} {F : Fs} {N : Nx} {vo vd vw vD : Value} {vr v1 : Value} {acc : List S59} (h : FN M w0 w f n F N vo vd vw vD) (mf : M f) (hM : ∀ k, w.heap.size ≤ k → M k)
    (ht : ∀ k, vr.ownBlock = some k → ∃ cells, w.heap[k]? = some (.cells cells 59 (0, 0))) (hg : w.grownBy w' vr.ownBlock) (hb : Below w0.heap.size w0 w')
    (hr : Kd.R k59 59 w' w0.heap.size (fun k => ¬ (M k ∧ some k ≠ vw.ownBlock ∧ some k ≠ vD.ownBlock) ∨ w.heap.size ≤ k) v1 acc) : PI w0 w' f F v1 acc := by
  have h1 := FM.other (FN.shed h) ht hg hb
  refine .mk (fun k => (M k ∧ some k ≠ vw.ownBlock ∧ some k ≠ vD.ownBlock) ∧ (k < w.heap.size ∨ w'.heap.size ≤ k)) vo vd (FM.sub h1 (fun k hk => ⟨h1.ho.1 k hk, .inl (own_lt h.ho hk)⟩) (fun k hk => ⟨h1.hd.1 k hk, .inl (own_lt h.hd hk)⟩)) ⟨⟨mf, own_ne h.hw h.hf (by decide), own_ne h.hD h.hf (by decide)⟩, .inl (blk_ltn h.hf)⟩ ?_ ?_
  · intro k hk
    have := hg.size
    exact ⟨⟨hM k (by omega), fun e => by have := own_lt h.hw e.symm; omega, fun e => by have := own_lt h.hD e.symm; omega⟩, .inr hk⟩
  · refine Kd.R_mono (Kd.R_bound hr) (fun k hk hM2 => ?_)
    obtain ⟨h3, _, h4, _⟩ := hk
    rcases h3 with h3 | h3
    · exact h3 hM2.1
    · rcases hM2.2 with h5 | h5
      · omega
      · omega
/-- A Next's cells. -/
theorem FN.cells {M : Nat → Prop} {w0 w : World} {f n : Nat} {F : Fs} {N : Nx} {vo vd vw vD : Value} (h : FN M w0 w f n F N vo vd vw vD) : k59.M w w0.heap.size (fun k => some k = vw.ownBlock ∨ some k = vD.ownBlock) (toS N) [.int .i64 N.code, vw, .bool N.done, vD] :=
  k59_mkM _ _ _ (toS N) (R61_sub h.hw (fun k hk => .inl hk.symm)) (Ru8_sub h.hD (fun k hk => .inr hk.symm))
def F00 : Fs := ⟨[], 0, -1, []⟩
theorem PInv00 : PInv F00 := ⟨by decide, by decide, by decide, by decide, fun x hx => by cases hx⟩
def playL : List S110 → Fs → List S59 → List S59
  | [], _, acc => acc
  | g :: t, F, acc => playL t (gotF F g.f0 g.f1 g.f2).1 (acc ++ [toS (gotF F g.f0 g.f1 g.f2).2])
/-- What Play does. -/
def playF (l : List S110) : List S59 × Int := if l.length > 300 then ([], 1) else (playL l (onF F00 zeroN).1 [toS (onF F00 zeroN).2], 0)
end Go.Proofs.Ytkghoodhgihokaa.Fetch
