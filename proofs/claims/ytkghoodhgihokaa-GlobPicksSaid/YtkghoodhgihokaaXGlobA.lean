/- Patterns of names: glob.any, and the cells of a part of a pattern. -/
import Derived.Test.YtkghoodhgihokaaXShelf
import Derived.Laws.RangeAny
import Derived.Laws.Runes
import Derived.WalkMore
import Derived.Lib.OthersKept
import Derived.Test.YtkghoodhgihokaaProg
import Derived.Deep.CutRange
import Derived.Below
import Derived.Deep.Draws
import Derived.Deep.AppendLies
import Derived.Maps.AppendAt
import Derived.OwnWalk
import Derived.Laws.BytesArg
import Derived.Laws.MakeOwn
import Derived.Laws.OwnMore
import Derived.Deep.OwnRows
import Derived.Tactics
import Derived.Lib.ConvBytes
import Derived.Laws.Slices
import Derived.WalkKit
import Derived.KernelRfl
import Derived.RowKit3
import Derived.Deep.LoopGhost
import Derived.Deep.QuietTactic
import Derived.BigQuiet
import Derived.WideLaws
import Derived.Deep.DeepCutAuto
import Derived.Deep.CutBlock
import Derived.Deep.RegionHeld3
import Derived.Laws.Rows
import Derived.Lib.AppendStr
import Derived.ArgAppend
import Derived.Laws.IdiomCopy
import Derived.OrdersHeld
import Derived.Laws.BitsLemmas
import Derived.RowKit
import Derived.WalkSpells
import Derived.Test.YtkghoodhgihokaaWWords
import Derived.Test.YtkghoodhgihokaaWLast
import Derived.Test.YtkghoodhgihokaaWTab
import Derived.Test.YtkghoodhgihokaaWFour
import Derived.Test.YtkghoodhgihokaaWQPut
import Derived.Test.YtkghoodhgihokaaWApart
import Derived.Test.YtkghoodhgihokaaWArr
import Derived.Test.YtkghoodhgihokaaWZeros
import Derived.Test.YtkghoodhgihokaaWFoot
import Derived.Test.YtkghoodhgihokaaWKept
import Derived.Test.YtkghoodhgihokaaWShare
import Derived.Test.YtkghoodhgihokaaWN
import Derived.Test.YtkghoodhgihokaaWFootNe
import Derived.Test.YtkghoodhgihokaaWAt
import Derived.Test.YtkghoodhgihokaaWEqStruct
import Derived.Test.YtkghoodhgihokaaWRepsOne
import Derived.Test.YtkghoodhgihokaaWInv
import Derived.Test.YtkghoodhgihokaaWInvWords
import Derived.Test.YtkghoodhgihokaaWGuard
import Derived.Test.YtkghoodhgihokaaWNEv
import Derived.Test.YtkghoodhgihokaaWMore
import Derived.Deep.WholeRow
import Derived.Laws.ResultCell
namespace Go.Proofs.Ytkghoodhgihokaa.Glob
open Go.RowKit Go.Lib Go.Proofs.YtkghoodhgihokaaW.PrintWords Go.Proofs.YtkghoodhgihokaaW.PrintLast Go.Proofs.YtkghoodhgihokaaW.PrintMore
set_option linter.unusedVariables false
/-- The cells of a part of a pattern: whether it is a run, and which bytes it takes. -/
@[irreducible] def cellsP (r : Bool) (f : Nat → Bool) : Array Value := Array.ofFn (n := 257) fun i => if i.val = 0 then .bool r else .bool (f (i.val - 1))
theorem cellsP_size (r : Bool) (f : Nat → Bool) : (cellsP r f).size = 257 := by unfold cellsP; simp
theorem cellsP_zero (r : Bool) (f : Nat → Bool) : (cellsP r f)[0]? = some (.bool r) := by unfold cellsP; simp
theorem cellsP_at (r : Bool) (f : Nat → Bool) (x : Nat) (h : x < 256) : (cellsP r f)[1 + x]? = some (.bool (f x)) := by
  have h1 : 1 + x < 257 := by omega
  unfold cellsP
  simp [h1]
theorem cellsP_set (r : Bool) (f : Nat → Bool) (x : Nat) (h : x < 256) (v : Bool) : (cellsP r f).setIfInBounds (1 + x) (.bool v) = cellsP r (fun j => if j = x then v else f j) := by
  apply Array.ext_getElem?
  intro i
  rw [Array.getElem?_setIfInBounds, cellsP_size]
  by_cases h1 : 1 + x = i
  · subst h1
    rw [if_pos rfl, if_pos (by omega), cellsP_at _ _ x h, if_pos rfl]
  · rw [if_neg h1]
    by_cases h2 : i < 257
    · unfold cellsP
      simp only [Array.getElem?_ofFn, h2, dif_pos]
      by_cases h3 : i = 0
      · subst h3; simp
      · rw [if_neg h3, if_neg h3, if_neg (by omega)]
    · unfold cellsP
      simp [h2]
theorem cellsP_one (r : Bool) (f : Nat → Bool) : (cellsP r f).all (·.oneCell') = true := by
  unfold cellsP
  rw [Array.all_eq_true]
  intro i h
  simp only [Array.getElem_ofFn]
  split <;> rfl
theorem cellsP_congr {r : Bool} {f g : Nat → Bool} (h : ∀ j, j < 256 → f j = g j) : cellsP r f = cellsP r g := by
  unfold cellsP
  congr 1
  funext i
  by_cases h0 : i.val = 0
  · rw [if_pos h0, if_pos h0]
  · rw [if_neg h0, if_neg h0, h _ (by omega)]
theorem zeroP : Try.zeroCells133 = cellsP false (fun _ => false) := by kernel_rfl
theorem info133 : (Try.prog.info? 133).map (·.size) = some 257 := by kernel_rfl
set_option maxHeartbeats 4000000 in
set_option maxRecDepth 100000 in
theorem any_calls (w : World) : Calls Try.prog 85 #[] w fun e w' => e = .returned (.agg (cellsP false (fun _ => true))) ∧ Below w.heap.size w w' := by
  go_enter Try.func85, Try.ntmps85
  go_wp2
  rw [zeroP]
  go_loopg [2] 256 (fun g s2 wx => ∃ i : Nat, i + g = 256 ∧ s2 = .int .i64 i ∧ wx = w.alloc (.cells (cellsP false (fun j => decide (j < i))) 133))
  case atStart => exact ⟨0, rfl, rfl, by rw [cellsP_congr (g := fun j => decide (j < 0)) (fun j _ => by simp)]⟩
  case round =>
    obtain ⟨i, hig, rfl, rfl⟩ := hrel
    cases gk with
    | zero =>
      obtain rfl : i = 256 := by omega
      rw [cellsP_congr (g := fun _ => true) (fun j hj => decide_eq_true hj)]
      have hg := heap_alloc_new w (.cells (cellsP false fun _ => true) 133)
      go_wp2_with (first
        | (refine wpList_load_row rfl 133 (.tmp 0) rfl w.heap.size rfl 133 (cellsP false fun _ => true) (0, 0) _ hg Try.underlying133 rfl (by rw [cellsP_size]; exact info133) ?_)
        | (refine wpList_store_row rfl 133 (.tmp 0) (.tmp 9) rfl w.heap.size (cellsP false fun _ => true) rfl rfl 133 (cellsP false fun _ => true) hg (by rw [cellsP_size]; exact info133) rfl (cellsP_one _ _) ?_; rw [World.setRow_alloc_new]))
      refine bodyPost_ret (v := .agg (cellsP false fun _ => true)) ?_ rfl ⟨rfl, (Below.refl _ w).alloc (Nat.le_refl _) _⟩
      exact results_cell_row rfl _ _ w.heap.size 133 _ (0, 0) _ rfl hg Try.underlying133 rfl (by rw [cellsP_size]; exact info133)
    | succ g =>
      have hi : i < 256 := by omega
      have hi1 : (i : Int) < 256 := by omega
      have hi0 : (0 : Int) ≤ (i : Int) := by omega
      have hd : decide ((i : Int) < 256) = true := decide_eq_true (by omega)
      have hcell := cellsP_at false (fun j => decide (j < i)) i hi
      have hset := (cellsP_set false (fun j => decide (j < i)) i hi true).trans (cellsP_congr (g := fun j => decide (j < i + 1)) (fun j hj => by
        by_cases h : j = i
        · simp [h]
        · simp [h]; omega))
      obtain ⟨C, hC⟩ : ∃ C, cellsP false (fun j => decide (j < i + 1)) = C := ⟨_, rfl⟩
      rw [hC] at hset
      go_wp2
      go_roundg g
      case measure => omega
      case rel => exact ⟨i + 1, by omega, rfl, by rw [hC]⟩
end Go.Proofs.Ytkghoodhgihokaa.Glob
