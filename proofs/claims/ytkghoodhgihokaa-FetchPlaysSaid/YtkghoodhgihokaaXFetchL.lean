/- Fetch: what came. -/
import Derived.Test.YtkghoodhgihokaaXFetchK
namespace Go.Proofs.Ytkghoodhgihokaa.Fetch
open Go.RowKit Go.Lib Go.Maps Go.Proofs.YtkghoodhgihokaaW.PrintWords Go.Proofs.YtkghoodhgihokaaW.PrintLast Go.Proofs.YtkghoodhgihokaaW.PrintMore Go.Proofs.Ytkghoodhgihokaa.HFetchPlays
set_option linter.unusedVariables false
set_option linter.unusedSimpArgs false
section
variable {M : Nat → Prop} {w0 w w' : World} {o f e m b n k : Nat} {F : Fs} {N : Nx} {By : Int → Int} {vo vw vD v' : Value}
theorem RM.data (h : RM M w0 w o f e m b F By k vo) (D : List Int) : RM M w0 w o f e m b { F with data := D } By k vo := ⟨h.ho, h.hf, h.he, h.hm, h.hB, h.row, h.ne, h.lo, h.mo, h.hb⟩
theorem RM.other (h : RM M w0 w o f e m b F By k vo) {vr : Value} (ht : ∀ j, vr.ownBlock = some j → ∃ cells, w.heap[j]? = some (.cells cells 59 (0, 0))) (hg : w.grownBy w' vr.ownBlock) (hb : Below w0.heap.size w0 w') : RM M w0 w' o f e m b F By k vo := by
  refine h.move hb (fun j hj => hg.block j (h.lt hj) (fun e1 => ?_))
  obtain ⟨cs, hc⟩ := ht j e1.symm
  rcases hj with hj | hj
  · rcases hj with rfl | rfl | rfl | rfl | rfl
    · rw [h.ho] at hc; simp at hc
    · rw [h.hf] at hc; simp at hc
    · rw [h.he] at hc; simp at hc
    · rw [h.hm] at hc; simp at hc
    · obtain ⟨_, _, hb⟩ := h.hB.obj; rw [hb] at hc; cases hc
  · obtain ⟨_, h2⟩ := Kd.R_typed h.row j hj
    rw [h2] at hc
    simp at hc
/-- A new row of wants, in a block of its own. -/
theorem RM.out2 (h : RM M w0 w o f e m b F By k vo) (hg : w.grownBy w' none) (hb : Below w0.heap.size w0 w') {out' : List S61} (hr : Kd.R k61 61 w' w0.heap.size M v' out') : RM M w0 (w'.setCell ⟨o, 0, none⟩ v') o f e m b { F with out := out' } By k v' :=
  (h.move hb (fun j hj => hg.block j (h.lt hj) (by simp))).out ⟨rfl, rfl, rfl, Nat.le_refl _, fun _ _ _ => rfl⟩ hb hr
end
/-- The reference's memory, and the row of what was told. -/
inductive QI (w0 w : World) (o f e m b : Nat) (F : Fs) (By : Int → Int) (k : Nat) (vr : Value) (acc : List S59) : Prop
  | mk (M : Nat → Prop) (vo : Value) (h : RM M w0 w o f e m b F By k vo) (hM : ∀ j, w.heap.size ≤ j → M j) (hr : Kd.R k59 59 w w0.heap.size (fun j => ¬ M j) vr acc)
theorem QI.grow {M : Nat → Prop} {w0 w w' : World} {o f e m b k : Nat} {F : Fs} {By : Int → Int} {vo vr v1 : Value} {acc : List S59} (h : RM M w0 w o f e m b F By k vo) (hM : ∀ j, w.heap.size ≤ j → M j)
    (ht : ∀ j, vr.ownBlock = some j → ∃ cells, w.heap[j]? = some (.cells cells 59 (0, 0))) (hg : w.grownBy w' vr.ownBlock) (hb : Below w0.heap.size w0 w')
    (hr : Kd.R k59 59 w' w0.heap.size (fun j => ¬ M j ∨ w.heap.size ≤ j) v1 acc) : QI w0 w' o f e m b F By k v1 acc := by
  have h1 := h.other ht hg hb
  refine .mk (fun j => M j ∧ (j < w.heap.size ∨ w'.heap.size ≤ j)) vo (h1.sub (fun j hj hm => ⟨hm, .inl (h.lt hj)⟩)) (fun j hj => ⟨hM j (Nat.le_trans hg.size hj), .inr hj⟩) (Kd.R_mono (Kd.R_bound hr) (fun j hj hM2 => ?_))
  obtain ⟨h3, _, h4, _⟩ := hj
  rcases h3 with h3 | h3
  · exact h3 hM2.1
  · rcases hM2.2 with h5 | h5
    · omega
    · omega
/-- The Next's rows are handed away. -/
theorem RN.shed {M : Nat → Prop} {w0 w : World} {o f e m b n k : Nat} {F : Fs} {N : Nx} {By : Int → Int} {vo vw vD : Value} (h : RN M w0 w o f e m b n F By k N vo vw vD) : RM (fun j => M j ∧ some j ≠ vw.ownBlock ∧ some j ≠ vD.ownBlock) w0 w o f e m b F By k vo :=
  h.r.sub (fun j hj hm => ⟨hm, fun e1 => h.apart hj (.inr (.inl e1.symm)), fun e1 => h.apart hj (.inr (.inr e1.symm))⟩)
theorem NN.cells {M : Nat → Prop} {w0 w : World} {n : Nat} {N : Nx} {vw vD : Value} (h : NN M w0 w n N vw vD) : k59.M w w0.heap.size (fun j => some j = vw.ownBlock ∨ some j = vD.ownBlock) (toS N) [.int .i64 N.code, vw, .bool N.done, vD] :=
  k59_mkM _ _ _ (toS N) (R61_sub h.hw (fun j hj => .inl hj.symm)) (Ru8_sub h.hD (fun j hj => .inr hj.symm))
/-! ### What came -/
def Cpl (By : Int → Int) (D : List Int) : Prop := ∀ i : Nat, By (i : Int) = D.getD i 0
/-- The first j bytes of d came, for place a on. -/
def byJ (By : Int → Int) (a : Nat) (d : List Int) (j : Nat) : Int → Int := fun i => if (a : Int) ≤ i ∧ i < (a : Int) + (j : Int) then d.getD (i - (a : Int)).toNat 0 else By i
theorem byJ_zero (By : Int → Int) (a : Nat) (d : List Int) : byJ By a d 0 = By := by
  funext i
  unfold byJ
  rw [if_neg (by omega)]
theorem byJ_succ (By : Int → Int) (a : Nat) (d : List Int) (j : Nat) (i : Int) : byJ By a d (j + 1) i = if i = (a : Int) + (j : Int) then d.getD j 0 else byJ By a d j i := by
  unfold byJ
  by_cases h : i = (a : Int) + (j : Int)
  · rw [if_pos h, if_pos (by omega)]
    congr 1
    omega
  · rw [if_neg h]
    by_cases h2 : (a : Int) ≤ i ∧ i < (a : Int) + (j : Int)
    · rw [if_pos h2, if_pos (by omega)]
    · rw [if_neg h2, if_neg (by omega)]
theorem growD_get (D : List Int) (mo : Int) (i : Nat) : (growD D mo).getD i 0 = D.getD i 0 := by
  unfold growD
  by_cases h : 0 < mo
  · rw [if_pos h, List.getD_eq_getElem?_getD, List.getD_eq_getElem?_getD]
    by_cases h2 : i < D.length
    · rw [List.getElem?_append_left h2]
    · rw [List.getElem?_append_right (by omega), List.getElem?_eq_none (by omega : D.length ≤ i), List.getElem?_replicate]
      split <;> rfl
  · rw [if_neg h]
theorem lay_get {D d : List Int} {a i : Nat} (h : a + d.length ≤ D.length) : (lay D d a).getD i 0 = if a ≤ i ∧ i < a + d.length then d.getD (i - a) 0 else D.getD i 0 := by
  unfold lay
  rw [List.take_of_length_le (l := d) (by omega)]
  rw [List.getD_eq_getElem?_getD]
  by_cases h1 : i < a
  · rw [if_neg (by omega), List.append_assoc, List.getElem?_append_left (by rw [List.length_take]; omega), List.getElem?_take_of_lt h1, List.getD_eq_getElem?_getD]
  · by_cases h2 : i < a + d.length
    · rw [if_pos (by omega), List.append_assoc, List.getElem?_append_right (by rw [List.length_take]; omega), List.length_take, Nat.min_eq_left (by omega), List.getElem?_append_left (by omega), List.getD_eq_getElem?_getD]
    · rw [if_neg (by omega), List.getElem?_append_right (by rw [List.length_append, List.length_take]; omega), List.length_append, List.length_take, Nat.min_eq_left (by omega), List.getElem?_drop, List.getD_eq_getElem?_getD]
      congr 2
      omega
theorem Cpl.got {By : Int → Int} {D d : List Int} {a : Nat} (h : Cpl By D) : Cpl (byJ By a d d.length) (lay (growD D ((a : Int) + (d.length : Int) - (D.length : Int))) d (min a (growD D ((a : Int) + (d.length : Int) - (D.length : Int))).length)) := by
  intro i
  have h1 := growD_length (D := D) (a := (a : Int)) (k := d.length) (by omega)
  rw [Nat.min_eq_left (by omega), lay_get (by omega), growD_get, ← h i]
  unfold byJ
  by_cases h2 : a ≤ i ∧ i < a + d.length
  · rw [if_pos (by omega), if_pos h2]
    congr 1
    omega
  · rw [if_neg (by omega), if_neg h2]
theorem onF_data (F : Fs) (N : Nx) : (onF F N).1.data = F.data := by
  unfold onF
  split
  · exact (onL_data 6 F N).1
  · exact (onL_data 6 F N).1
theorem swF_data (F : Fs) (a c : Int) (k : Nat) : (swF F a c k).1.data = F.data := by
  unfold swF
  split
  · rfl
  · split <;> rfl
theorem MapIs.put {w' : World} {b k : Nat} {By : Int → Int} {D : DataW Unit} {a : Nat} {d : List Int} {j : Nat} (hD1 : IsMap D) (h3 : ∀ i, (Lit.int .i64 i).wf = true → D.atKey (.int .i64 i) (.lit (.int .u8 0)) = .lit (.int .u8 (byJ By a d j i)))
    (hown : w'.ownsMap Try.prog 3 (plainElem Try.prog 5) b (k + 1) (D.put (.int .i64 ((a : Int) + (j : Int))) (.lit (.int .u8 (d.getD j 0))))) : MapIs w' b (byJ By a d (j + 1)) (k + 1) := by
  refine ⟨_, hD1.put _ _, hown, fun i hi => ?_⟩
  rw [byJ_succ]
  by_cases h : i = (a : Int) + (j : Int)
  · rw [if_pos h, h, atKey_put_same hD1 (by exact trivial)]
  · rw [if_neg h, atKey_put_other (fun e1 => h (by injection e1)), h3 i hi]
/-- The index of a want, so far. -/
theorem idxW_snoc : ∀ (l : List S61) (x : S61) (a c : Int) (i : Nat), idxW (l ++ [x]) a c i = match idxW l a c i with | some r => some r | none => if (a == x.f0 && (c == x.f1)) = true then some (i + l.length) else none
  | [], x, a, c, i => rfl
  | y :: t, x, a, c, i => by
    show (if (a == y.f0 && (c == y.f1)) = true then some i else idxW (t ++ [x]) a c (i + 1)) = match (if (a == y.f0 && (c == y.f1)) = true then some i else idxW t a c (i + 1)) with | some r => some r | none => if (a == x.f0 && (c == x.f1)) = true then some (i + (t.length + 1)) else none
    by_cases h : (a == y.f0 && (c == y.f1)) = true
    · rw [if_pos h, if_pos h]
    · rw [if_neg h, if_neg h, idxW_snoc t x a c (i + 1), show i + 1 + t.length = i + (t.length + 1) by omega]
theorem idxW_succ {l : List S61} {j : Nat} (hj : j < l.length) (a c : Int) : idxW (l.take (j + 1)) a c 0 = match idxW (l.take j) a c 0 with | some r => some r | none => if (a == l[j].f0 && (c == l[j].f1)) = true then some j else none := by
  rw [List.take_add_one, List.getElem?_eq_getElem hj, Option.toList_some, idxW_snoc, List.length_take, Nat.min_eq_left (by omega), Nat.zero_add]
end Go.Proofs.Ytkghoodhgihokaa.Fetch
