/- The row of the law FrameFeeds, where the arguments together hold at most 1048576 values. It rests on the law's contract (YtjhmjgcebijmiaaHFrameFeedsx3) and on the plain statement Pure.FrameFeeds. -/
import Derived.Test.YtjhmjgcebijmiaaRows
import Derived.Test.YtjhmjgcebijmiaaHFrameFeedsx3
import Derived.Test.YtjhmjgcebijmiaaPureFrameFeeds
import Derived.Test.YtjhmjgcebijmiaaXOpen
import Derived.WalkKit
import Derived.ProofKit
import Derived.OpenShut
import Derived.ShutString
import Derived.ChangeOld
import Derived.Below
import Derived.SizedLaws
import Derived.Test.YtjhmjgcebijmiaaXUpto
import Derived.JoinedCond
import Derived.Deep.CondSized
namespace Go.Proofs.Ytjhmjgcebijmiaa.frameFeeds
open Go.ChangeShapes Go.WideShapes Go.ChangeAt Go.RowKit Go.Proofs.YtjhmjgcebijmiaaW.PrintWords Go.Proofs.Ytjhmjgcebijmiaa.OpenUp Go.Proofs.Ytjhmjgcebijmiaa.HFrameFeeds
open Go.ChangeMaps (open_string shut_string)
set_option linter.unusedVariables false
set_option linter.unusedSimpArgs false
theorem own : ownKnob Try.prog.godebug = none := by kernel_rfl
theorem laidOut : laidOutB Try.prog = true := by kernel_rfl
set_option maxRecDepth 100000 in
theorem lifted (os : Os) (started : os.Started) (H : Type) (enc : TypeId × Value → H) (F : Stop.Interp) :
    ReturnsInHanded {} Try.checked os 6 .any ((Rows.OpenSpec.upto Rows.frameFeedsSpec).pre6 enc Try.prog Try.f6 Rows.frameFeedsUptoRow.domain false) (((Rows.OpenSpec.upto Rows.frameFeedsSpec).at F).post enc Try.prog Try.f6 false true false false) := by
  refine returnsInHanded_of_cond_sized (C := Try.checked) (s := Rows.OpenSpec.upto Rows.frameFeedsSpec) (k := Rows.uptoSmall) rfl own started (by kernel_rfl) Try.func6
    (OpenSpec.witness (enc := enc) (C := Try.checked) (s := Rows.OpenSpec.upto Rows.frameFeedsSpec) (k := Rows.uptoSmall) rfl false ⟨#[], #[.slice none 0 0, .slice none 0 0], []⟩ 8 (by kernel_rfl) (by kernel_rfl) (by kernel_rfl)
      (x := ([.nil, .nil], [], [])) (by kernel_rfl) rfl (by kernel_rfl)) ?_
  intro W base args ds gs before hval0 hW hcnd hk0 hsz0 _
  have hk1 := bound hk0
  clear hk0
  have hsz : (DataW.weightsEach Try.prog (Try.f6.params.toList ++ Rows.frameFeedsSpec.plain.varTypes Try.prog) (ds ++ gs)).all (· ≤ reachBytes) = true := hsz0
  have hval : ∀ (j : Nat) t v, Try.f6.params[j]? = some t → args[j]? = some v → Value.okWide Try.prog W .any base t v := hval0
  have hW' := hW
  obtain ⟨p, q, hA0, hV, rfl, hfz, hnd⟩ := hW
  have hA : DataW.TrodAll enc Try.prog W 0 (fun _ => true) true Try.f6.params.toList args.toList ds p := hA0
  rw [Try.params6] at hA hval hsz
  obtain ⟨v0, vs0, d0, ds0, p0, q0, hargs, rfl, rfl, h0, r0⟩ := trodAll_cons hA
  obtain ⟨v1, vs1, d1, ds1, p1, q1, rfl, rfl, rfl, h1, r1⟩ := trodAll_cons r0
  obtain ⟨rfl, rfl, rfl⟩ := trodAll_nil r1
  obtain rfl : args = #[v0, v1] := by cases args; simp_all
  obtain ⟨rfl, rfl⟩ := trodVars_none hV
  have k0 := h0
  have lt0 : ∀ x ∈ p0, x.block < W.heap.size := by obtain ⟨m, hm⟩ := k0; exact DataW.trod_lt m _ _ _ hm
  have k1 := h1
  have lt1 : ∀ x ∈ p1, x.block < W.heap.size := by obtain ⟨m, hm⟩ := k1; exact DataW.trod_lt m _ _ _ hm
  obtain ⟨A0, c0, l0, rfl, hr0, hc0, g0, u0⟩ := opened_slice (opens_slice (B := 1) Try.underlying30 (by kernel_rfl) (by kernel_rfl) (opens_int Try.underlying5 (by kernel_rfl))) (j := 0) hsz rfl rfl (okWide_slice Try.underlying30 (hval 0 30 v0 rfl rfl)) h0
  obtain ⟨A1, c1, l1, rfl, hr1, hc1, g1, u1⟩ := opened_slice (opens_slice (B := 1) Try.underlying30 (by kernel_rfl) (by kernel_rfl) (opens_int Try.underlying5 (by kernel_rfl))) (j := 1) hsz rfl rfl (okWide_slice Try.underlying30 (hval 1 30 v1 rfl rfl)) h1
  clear hA0 hval0 hsz0 hsz
  simp only [Rows.uptoBulkAll, List.append_nil] at hk1
  have hup := Nat.le_trans (Nat.add_le_add u0 (Nat.add_le_add u1 (Nat.le_refl 0))) hk1
  obtain ⟨k_, hk_⟩ := Pure.FrameFeeds l0 l1 g0 g1 hup
  refine (packthreadlaw_FrameFeeds.calls k_ A0 c0 l0 A1 c1 l1 true W hr0 hc0 hr1 hc1 hk_).mono fun e W' ⟨he, bel⟩ => ?_
  subst he
  exact ⟨_, rfl, _, _, _, [], _, [], hW', trodAll_mk1 (shut_bool Try.underlying4 _), (trodAll_cons_mk (Below.trod laidOut (by kernel_rfl) (of_decide_eq_true (by kernel_rfl)) k0 bel lt0) (trodAll_cons_mk (Below.trod laidOut (by kernel_rfl) (of_decide_eq_true (by kernel_rfl)) k1 bel lt1) trodAll_mk0)), rfl, bel.frame _, fun h => by cases h⟩
theorem over : Rows.frameFeedsUptoRow.holds Try.pinned (Rows.OpenSpec.upto Rows.frameFeedsSpec) :=
  OpenClaim.holds_of_cond 6 Try.f6 rfl rfl rfl rfl rfl rfl rfl ⟨rfl, rfl, rfl, rfl, rfl⟩ rfl rfl rfl rfl rfl (by kernel_rfl) Try.func6 (by kernel_rfl)
    (of_decide_eq_true (by kernel_rfl)) (by unfold Func.isWrapper; first | (rw [if_pos (by decide +kernel)]; kernel_rfl) | (rw [if_neg (by decide +kernel)]; exact ⟨rfl, rfl⟩))
    (fun os started H enc _ F => lifted os started H enc F)
theorem proved : Rows.FrameFeedsUptoSaid := over
#print axioms proved
end Go.Proofs.Ytjhmjgcebijmiaa.frameFeeds
namespace Go.Proofs.Ytjhmjgcebijmiaa
/-- The row, under a short name, for the claim. -/
theorem frameFeedsUpto_holds : Rows.FrameFeedsUptoSaid := frameFeeds.proved
end Go.Proofs.Ytjhmjgcebijmiaa
