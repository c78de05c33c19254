/- Patterns of names: the kind of a part; a row of parts is built. -/
import Derived.Test.YtkghoodhgihokaaXGlobC
namespace Go.Proofs.Ytkghoodhgihokaa.Glob
open Go.RowKit Go.Lib Go.Proofs.YtkghoodhgihokaaW.PrintWords Go.Proofs.YtkghoodhgihokaaW.PrintLast Go.Proofs.YtkghoodhgihokaaW.PrintMore
set_option linter.unusedVariables false
set_option linter.unusedSimpArgs false
abbrev Pt := Bool × (Nat → Bool)
/-- The kind of a part of a pattern. -/
def kpt : Kd Pt where
  sz := 257
  E := []
  K := fun _ p cs => cs = (cellsP p.1 p.2).toList
  M := fun _ _ _ p cs => cs = (cellsP p.1 p.2).toList
  K_len := fun h => by rw [h, Array.length_toList, cellsP_size]
  K_one := fun h u hu => by
    rw [h] at hu
    have := Array.all_eq_true_iff_forall_mem.1 (cellsP_one _ _) u (by simpa using hu)
    exact this
  K_below := fun _ h => h
  K_of_M := fun h => h
  M_mono := fun _ h => h
  M_bound := fun h => h
  M_move := fun _ h => h
  M_lower := fun _ h => h
theorem info133z : (Try.prog.info? 133).map (fun i => (i.zero, i.size, i.bytes)) = some (some (.agg Zp), 257, 257) := by
  have h : (Try.prog.info? 133).map (fun i => (i.zero, i.size, i.bytes)) = some (some (.agg Try.zeroCells133), 257, 257) := by kernel_rfl
  rw [h, Zp_eq]
theorem fold_at : ∀ (l : List Value) (i : Nat) (b : Array Value) (k : Nat), i + l.length ≤ b.size →
    ((l.zipIdx i).foldl (fun cs (p : Value × Nat) => cs.setIfInBounds (0 + p.2) p.1) b)[k]? = if i ≤ k ∧ k < i + l.length then l[k - i]? else b[k]?
  | [], i, b, k, _ => by rw [if_neg (by simp)]; rfl
  | x :: l, i, b, k, h => by
    simp only [List.length_cons] at h ⊢
    rw [List.zipIdx_cons, List.foldl_cons, fold_at l (i + 1) _ k (by rw [Array.size_setIfInBounds]; omega), Array.getElem?_setIfInBounds]
    dsimp only
    by_cases h1 : i + 1 ≤ k ∧ k < i + 1 + l.length
    · rw [if_pos h1, if_pos (by omega), show k - i = (k - (i + 1)) + 1 by omega, List.getElem?_cons_succ]
    · rw [if_neg h1]
      by_cases h2 : 0 + i = k
      · rw [if_pos h2, if_pos (by omega), if_pos (by omega), show k - i = 0 by omega]; rfl
      · rw [if_neg h2, if_neg (by omega)]
theorem fold_all (C b : Array Value) (h : b.size = C.size) : C.zipIdx.foldl (fun cs (p : Value × Nat) => cs.setIfInBounds (0 + p.2) p.1) b = C := by
  rw [← Array.foldl_toList, Array.toList_zipIdx]
  apply Array.ext_getElem?
  intro k
  have hf := fold_at C.toList 0 b k (by rw [Array.length_toList]; omega)
  rw [hf, Array.length_toList]
  by_cases h1 : k < C.size
  · rw [if_pos (by omega)]; simp
  · rw [if_neg (by omega), Array.getElem?_eq_none (by omega), Array.getElem?_eq_none (by omega)]
set_option maxRecDepth 100000 in
theorem run_build (C : Array Value) (hC : C.size = 257) (w : World) : (Instr.buildSlice 96 1 #[(0, .agg C)]).run Try.prog w = .ok (.slice (some ⟨w.heap.size, 0, none⟩) 1 1) (w.alloc (.cells C 133)) := by
  have hz : (zeroValue 133).run Try.prog w = .ok (.agg Zp) w := by rw [← Zp_eq]; exact Try.zeroValue133 w
  have hcs : (Value.agg C).cells = C := rfl
  obtain ⟨Y, hY⟩ : ∃ Y, (Array.range 257).map (fun i => Zp[i % Zp.size]!) = Y := ⟨_, rfl⟩
  have hYs : Y.size = 257 := by rw [← hY]; simp
  have hfill : Instr.fill (fun i => some (i * 257, 257)) Y [(0, .agg C)] = some C := by
    simp only [Instr.fill, hcs, hC, hYs, Nat.zero_mul, Nat.zero_add]
    rw [if_neg (by simp)]
    have := fold_all C Y (by omega)
    simp only [Nat.zero_add] at this
    rw [this]
  have hzc : (Value.agg Zp).cells = Zp := rfl
  unfold Instr.buildSlice
  simp [Sem.run_bind, run_underlying Try.underlying96, Result.andThen, Try.sizeOf133, hz, hzc, hY, hfill, newRow]
theorem wpList_build {ops : Array Oper} {rest : List Oper} {o : Oper} {a : Act} {w : World} {Q : Exit → Act → World → Prop} (hgd : o.guard = none) (x : Operand) (ho : o.op = .buildSlice 96 1 #[(0, x)])
    (C : Array Value) (hx : a.eval x = .agg C) (hC : C.size = 257) (h : wpList Try.prog ops Q rest (a.put o.dst (.slice (some ⟨w.heap.size, 0, none⟩) 1 1)) (w.alloc (.cells C 133))) : wpList Try.prog ops Q (o :: rest) a w :=
  wpList_plain hgd fun K hK => by
    unfold Oper.wp execOp
    simp only [ho, List.map_toArray, List.map_cons, List.map_nil, hx]
    rw [Sem.run_bind, run_build C hC w]
    exact hK _ _ h
end Go.Proofs.Ytkghoodhgihokaa.Glob
