/- Messages: packthreadref.askFault. -/
import Derived.Test.YtkghoodhgihokaaXMsgH
import Derived.Test.YtkghoodhgihokaaXMsgI
import Derived.Test.YtkghoodhgihokaaXMsgJ
import Derived.Test.YtkghoodhgihokaaXMsgK
import Derived.Test.YtkghoodhgihokaaXMsgL
import Derived.Test.YtkghoodhgihokaaXMsgM
namespace Go.Proofs.Ytkghoodhgihokaa.Msg
open Go.RowKit Go.Lib Go.Proofs.YtkghoodhgihokaaW.PrintWords Go.Proofs.YtkghoodhgihokaaW.PrintLast Go.Proofs.YtkghoodhgihokaaW.PrintMore
set_option linter.unusedVariables false
set_option linter.unusedSimpArgs false
set_option maxHeartbeats 4000000 in
set_option maxRecDepth 100000 in
theorem fault_none (q : Rq) (w : World) (hk : ¬ (1 ≤ q.kind ∧ q.kind ≤ 10)) : Calls Try.prog 46 #[.agg q.cells] w fun e w' => e = .returned (.int .i64 (faultF q)) ∧ Below w.heap.size w w' := by
  have hf : faultF q = 3 := by unfold faultF; rw [if_pos hk]
  rw [hf]
  have hq0 := heap_alloc_new w (.cells q.cells 29)
  have HB := Aside0.mk ((Below.refl _ w).alloc (Nat.le_refl _) (.cells q.cells 29))
  obtain ⟨W1, hW1⟩ : ∃ W, w.alloc (.cells q.cells 29) = W := ⟨_, rfl⟩
  obtain ⟨b1, hb1⟩ : ∃ b, w.heap.size = b := ⟨_, rfl⟩
  rw [hW1] at hq0 HB
  rw [hb1] at hq0
  have hW1' : w.alloc (.cells #[.int .i64 q.kind, .int .i64 q.mark, .string q.path, .string q.to_, .int .i64 q.how, .int .i64 q.handle, .int .i64 q.at_, .int .i64 q.count, .slice q.dA q.data.length q.dc] 29) = W1 := hW1
  have hz0 : W1.cell? ⟨b1, 0, none⟩ = some (.int .i64 q.kind) := (blk_cell hq0 0).trans rfl
  clear hq0 hW1 hf
  show Calls Try.prog 46 #[.agg #[.int .i64 q.kind, .int .i64 q.mark, .string q.path, .string q.to_, .int .i64 q.how, .int .i64 q.handle, .int .i64 q.at_, .int .i64 q.count, .slice q.dA q.data.length q.dc]] w _
  by_cases h1 : q.kind < 1
  · have k1 : decide (q.kind < 1) = true := decide_eq_true h1
    clear hk h1
    go_enter Try.func46, Try.ntmps46
    go_wp2
    go_ret
    exact ⟨rfl, HB.out⟩
  · have k1 : decide (q.kind < 1) = false := decide_eq_false h1
    have k2 : decide (10 < q.kind) = true := decide_eq_true (by omega)
    clear hk h1
    go_enter Try.func46, Try.ntmps46
    go_wp2
    go_ret
    exact ⟨rfl, HB.out⟩
theorem fault_calls (q : Rq) (w : World) (hdl : q.data.length ≤ 140737488351232) : Calls Try.prog 46 #[.agg q.cells] w fun e w' => e = .returned (.int .i64 (faultF q)) ∧ Below w.heap.size w w' := by
  by_cases h0 : 1 ≤ q.kind ∧ q.kind ≤ 10
  case neg => exact fault_none q w h0
  by_cases h1 : q.kind = 1
  · exact fault_ph q w hdl h1
  by_cases h2 : q.kind = 2
  · exact fault_n q w hdl h2
  by_cases h3 : q.kind = 3
  · exact fault_nac q w hdl h3
  by_cases h4 : q.kind = 4
  · exact fault_nad q w hdl h4
  by_cases h5 : q.kind = 5 ∨ q.kind = 6 ∨ q.kind = 7 ∨ q.kind = 8
  · exact fault_p q w hdl h5
  · exact fault_pt q w hdl (by omega)
end Go.Proofs.Ytkghoodhgihokaa.Msg
