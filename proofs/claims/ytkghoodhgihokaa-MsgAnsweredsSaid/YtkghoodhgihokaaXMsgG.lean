/- Messages: packthreadref.askFault, its words. -/
import Derived.Test.YtkghoodhgihokaaXMsgF
import Derived.Lib.Strings
import Derived.Lib.Walk
namespace Go.Proofs.Ytkghoodhgihokaa.Msg
open Go.RowKit Go.Lib Go.Proofs.YtkghoodhgihokaaW.PrintWords Go.Proofs.YtkghoodhgihokaaW.PrintLast Go.Proofs.YtkghoodhgihokaaW.PrintMore
set_option linter.unusedVariables false
set_option linter.unusedSimpArgs false
/-- The names of a kind. -/
def namesK (k : Int) : List Nat :=
  if k = 1 then [112, 104] else if k = 2 then [110] else if k = 3 then [110, 97, 99] else if k = 4 then [110, 97, 100] else if k = 5 ∨ k = 6 ∨ k = 7 ∨ k = 8 then [112] else if k = 9 ∨ k = 10 then [112, 116] else []
def nm (k : Int) (c : Nat) : Bool := (namesK k).contains c
/-- Has a request what its kind does not name? -/
def formB (q : Rq) : Bool := (!nm q.kind 112 && !q.path.toList.isEmpty) || ((!nm q.kind 116 && !q.to_.toList.isEmpty) || ((!nm q.kind 104 && q.how != 0) || ((!nm q.kind 110 && q.handle != 0) || ((!nm q.kind 97 && q.at_ != 0) || ((!nm q.kind 99 && q.count != 0) || (!nm q.kind 100 && q.data.length != 0))))))
def four (n : Int) : Bool := decide (0 ≤ n) && decide (n ≤ 4294967295)
def rangeB (q : Rq) : Bool := !four q.mark || (!four q.handle || (!four q.at_ || (decide (q.how < 0) || (decide (255 < q.how) || (decide (q.count < 0) || decide (65535 < q.count))))))
def sizeB (q : Rq) : Bool := decide (200 < q.path.size) || (decide (200 < q.to_.size) || decide (100 < q.data.length))
/-- What the reference refuses of a request. -/
def faultF (q : Rq) : Int := if ¬ (1 ≤ q.kind ∧ q.kind ≤ 10) then 3 else if formB q = true then 4 else if rangeB q = true then 2 else if sizeB q = true then 1 else 0
theorem nine_cells {w : World} {b : Nat} {q : Rq} (h : w.heap[b]? = some (.cells q.cells 29 (0, 0))) : w.cell? ⟨b, 0, none⟩ = some (.int .i64 q.kind) ∧ w.cell? ⟨b, 1, none⟩ = some (.int .i64 q.mark) ∧ w.cell? ⟨b, 2, none⟩ = some (.string q.path) ∧ w.cell? ⟨b, 3, none⟩ = some (.string q.to_) ∧ w.cell? ⟨b, 4, none⟩ = some (.int .i64 q.how) ∧ w.cell? ⟨b, 5, none⟩ = some (.int .i64 q.handle) ∧ w.cell? ⟨b, 6, none⟩ = some (.int .i64 q.at_) ∧ w.cell? ⟨b, 7, none⟩ = some (.int .i64 q.count) ∧ w.cell? ⟨b, 8, none⟩ = some (.slice q.dA q.data.length q.dc) :=
  ⟨(blk_cell h 0).trans rfl, (blk_cell h 1).trans rfl, (blk_cell h 2).trans rfl, (blk_cell h 3).trans rfl, (blk_cell h 4).trans rfl, (blk_cell h 5).trans rfl, (blk_cell h 6).trans rfl, (blk_cell h 7).trans rfl, (blk_cell h 8).trans rfl⟩
set_option maxHeartbeats 4000000 in
set_option maxRecDepth 100000 in
theorem four_calls (n : Int) (w : World) : Calls Try.prog 80 #[.int .i64 n] w fun e w' => e = .returned (.bool (four n)) ∧ w' = w := by
  by_cases h0 : 0 ≤ n
  · have d0 : decide (0 ≤ n) = true := decide_eq_true h0
    have hf : four n = decide (n ≤ 4294967295) := by unfold four; rw [d0, Bool.true_and]
    obtain ⟨r, hr⟩ : ∃ r, decide (n ≤ 4294967295) = r := ⟨_, rfl⟩
    rw [hr] at hf
    rw [hf]
    go_enter Try.func80, Try.ntmps80
    go_wp2
    go_ret
    exact ⟨rfl, rfl⟩
  · have d0 : decide (0 ≤ n) = false := decide_eq_false h0
    have hf : four n = false := by unfold four; rw [d0]; rfl
    rw [hf]
    go_enter Try.func80, Try.ntmps80
    go_wp2
    go_ret
    exact ⟨rfl, rfl⟩
end Go.Proofs.Ytkghoodhgihokaa.Msg
