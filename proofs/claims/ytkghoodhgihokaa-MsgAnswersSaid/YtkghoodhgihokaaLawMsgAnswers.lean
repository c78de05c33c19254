/- The row of the law MsgAnswers, at every argument; no condition. It rests on the law's contract (YtkghoodhgihokaaHMsgAnswersx4) and on the plain statement Pure.MsgAnswers. -/
import Derived.Test.YtkghoodhgihokaaRows
import Derived.Test.YtkghoodhgihokaaHMsgAnswersx4
import Derived.Test.YtkghoodhgihokaaPureMsgAnswers
import Derived.Test.YtkghoodhgihokaaXOpen
import Derived.WalkKit
import Derived.ProofKit
import Derived.OpenShut
import Derived.ShutString
import Derived.ChangeOld
import Derived.Below
import Derived.SizedLaws
namespace Go.Proofs.Ytkghoodhgihokaa.msgAnswers
open Go.ChangeShapes Go.WideShapes Go.ChangeAt Go.RowKit Go.Proofs.YtkghoodhgihokaaW.PrintWords Go.Proofs.Ytkghoodhgihokaa.Open Go.Proofs.Ytkghoodhgihokaa.HMsgAnswers
open Go.ChangeMaps (open_string shut_string)
set_option linter.unusedVariables false
set_option linter.unusedSimpArgs false
theorem own : ownKnob Try.prog.godebug = none := by kernel_rfl
theorem laidOut : laidOutB Try.prog = true := by kernel_rfl
set_option maxRecDepth 100000 in
theorem lifted (os : Os) (started : os.Started) (H : Type) (enc : TypeId × Value → H) :
    ReturnsInHanded {} Try.checked os 6 .any (Rows.msgAnswersSpec.pre6 enc Try.prog Try.f6 Rows.msgAnswersRow.domain false) (Rows.msgAnswersSpec.post enc Try.prog Try.f6 false true false false) := by
  refine returnsInHanded_of_change_sized (C := Try.checked) own started (by kernel_rfl) Try.func6
    (ChangeSpec.witness6 (enc := enc) (C := Try.checked) false ⟨#[], #[.agg #[.int .i64 0, .int .i64 0, .int .i64 0, .int .i64 0, .int .i64 0, .slice none 0 0, .slice none 0 0]], []⟩ 8 (by kernel_rfl) (by kernel_rfl) (by kernel_rfl) (by kernel_rfl)) ?_
  intro W base args ds gs before hval0 hW hcnd hsz0 _
  have hsz : (DataW.weightsEach Try.prog (Try.f6.params.toList ++ Rows.msgAnswersSpec.plain.varTypes Try.prog) (ds ++ gs)).all (· ≤ reachBytes) = true := hsz0
  have hval : ∀ (j : Nat) t v, Try.f6.params[j]? = some t → args[j]? = some v → Value.okWide Try.prog W .any base t v := hval0
  have hW' := hW
  obtain ⟨p, q, hA0, hV, rfl, hfz, hnd⟩ := hW
  have hA : DataW.TrodAll enc Try.prog W 0 (fun _ => true) true Try.f6.params.toList args.toList ds p := hA0
  rw [Try.params6] at hA hval hsz
  obtain ⟨v0, vs0, d0, ds0, p0, q0, hargs, rfl, rfl, h0, r0⟩ := trodAll_cons hA
  obtain ⟨rfl, rfl, rfl⟩ := trodAll_nil r0
  obtain rfl : args = #[v0] := by cases args; simp_all
  obtain ⟨rfl, rfl⟩ := trodVars_none hV
  have k0 := h0
  have lt0 : ∀ x ∈ p0, x.block < W.heap.size := by obtain ⟨m, hm⟩ := k0; exact DataW.trod_lt m _ _ _ hm
  obtain ⟨cs0, rfl, hcs0⟩ := okWide_struct Try.underlying39 (hval 0 39 v0 rfl rfl)
  obtain ⟨y0, hK0, g0⟩ := opened (opens_struct (f := id) (g := id) Try.underlying39 (by kernel_rfl) (opens_more rfl (opens_int Try.underlying3 (by kernel_rfl)) (opens_more rfl (opens_int Try.underlying23 (by kernel_rfl)) (opens_more rfl (opens_int Try.underlying3 (by kernel_rfl)) (opens_more rfl (opens_int Try.underlying3 (by kernel_rfl)) (opens_more rfl (opens_int Try.underlying3 (by kernel_rfl)) (opens_more rfl (opens_slice (B := 1) Try.underlying27 (by kernel_rfl) (by kernel_rfl) (opens_int Try.underlying5 (by kernel_rfl))) (opens_last rfl (opens_slice (B := 16) Try.underlying22 (by kernel_rfl) (by kernel_rfl) (opens_string Try.underlying9 (by kernel_rfl)))))))))) (fun _ => rfl)) (j := 0) hsz rfl rfl h0
  obtain ⟨a0_0, ⟨a0_1, ⟨a0_2, ⟨a0_3, ⟨a0_4, ⟨l0_5, l0_6⟩⟩⟩⟩⟩⟩ := y0
  generalize hq0 : (Value.agg cs0).cells.toList = zs0 at hK0
  obtain ⟨_, _, rfl, rfl, ⟨_, _, rfl, rfl, ⟨_, _, rfl, rfl, ⟨_, _, rfl, rfl, ⟨_, _, rfl, rfl, ⟨_, _, rfl, ⟨A0_5, c0_5, rfl, hc0_5, hr0_5⟩, ⟨A0_6, c0_6, rfl, hc0_6, hr0_6⟩⟩⟩⟩⟩⟩⟩ := hK0
  obtain rfl : cs0 = #[.int .i64 a0_0, .int .i64 a0_1, .int .i64 a0_2, .int .i64 a0_3, .int .i64 a0_4, .slice A0_5 l0_5.length c0_5, .slice A0_6 l0_6.length c0_6] := by apply Array.toList_inj.1; simpa [Value.cells] using hq0
  clear hq0
  clear hA0 hval0 hsz0 hsz
  obtain ⟨k_, hk_⟩ := Pure.MsgAnswers a0_0 a0_1 a0_2 a0_3 a0_4 l0_5 l0_6 g0
  refine (packthreadlaw_MsgAnswers.calls k_ a0_0 a0_1 a0_2 a0_3 a0_4 A0_5 c0_5 l0_5 A0_6 c0_6 l0_6 true W hr0_5 hc0_5 hr0_6 hc0_6 hk_).mono fun e W' ⟨he, bel⟩ => ?_
  subst he
  exact ⟨_, rfl, _, _, _, [], _, [], hW', trodAll_mk1 (shut_bool Try.underlying4 _), (trodAll_cons_mk (Below.trod laidOut (by kernel_rfl) (of_decide_eq_true (by kernel_rfl)) k0 bel lt0) trodAll_mk0), rfl, bel.frame _, fun h => by cases h⟩
theorem over : Rows.msgAnswersRow.holds Try.pinned (OpenSpec.ofChange Rows.msgAnswersSpec) :=
  OpenClaim.holds_of_wide 6 Try.f6 rfl rfl rfl rfl rfl rfl rfl ⟨rfl, rfl, rfl, rfl, rfl⟩ rfl rfl rfl rfl rfl (by kernel_rfl) Try.func6 (by kernel_rfl)
    (of_decide_eq_true (by kernel_rfl)) (by unfold Func.isWrapper; first | (rw [if_pos (by decide +kernel)]; kernel_rfl) | (rw [if_neg (by decide +kernel)]; exact ⟨rfl, rfl⟩))
    (fun os started H enc _ => lifted os started H enc)
theorem proved : Rows.MsgAnswersSaid := over
#print axioms proved
end Go.Proofs.Ytkghoodhgihokaa.msgAnswers
namespace Go.Proofs.Ytkghoodhgihokaa
/-- The row, under a short name, for the claim. -/
theorem msgAnswers_holds : Rows.MsgAnswersSaid := msgAnswers.proved
end Go.Proofs.Ytkghoodhgihokaa
