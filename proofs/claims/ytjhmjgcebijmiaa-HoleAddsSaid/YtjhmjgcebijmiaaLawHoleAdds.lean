/- The row of the law HoleAdds, at every argument; no condition. It rests on the law's contract (YtjhmjgcebijmiaaHHoleAddsx5) and on the plain statement Pure.HoleAdds. -/
import Derived.Test.YtjhmjgcebijmiaaRows
import Derived.Test.YtjhmjgcebijmiaaHHoleAddsx5
import Derived.Test.YtjhmjgcebijmiaaPureHoleAdds
import Derived.Test.YtjhmjgcebijmiaaXOpen
import Derived.WalkKit
import Derived.ProofKit
import Derived.OpenShut
import Derived.ShutString
import Derived.ChangeOld
import Derived.Below
import Derived.SizedLaws
namespace Go.Proofs.Ytjhmjgcebijmiaa.holeAdds
open Go.ChangeShapes Go.WideShapes Go.ChangeAt Go.RowKit Go.Proofs.YtjhmjgcebijmiaaW.PrintWords Go.Proofs.Ytjhmjgcebijmiaa.Open Go.Proofs.Ytjhmjgcebijmiaa.HHoleAdds
open Go.ChangeMaps (open_string shut_string)
set_option linter.unusedVariables false
set_option linter.unusedSimpArgs false
theorem own : ownKnob Try.prog.godebug = none := by kernel_rfl
theorem laidOut : laidOutB Try.prog = true := by kernel_rfl
set_option maxRecDepth 100000 in
theorem lifted (os : Os) (started : os.Started) (H : Type) (enc : TypeId × Value → H) :
    ReturnsInHanded {} Try.checked os 9 .any (Rows.holeAddsSpec.pre6 enc Try.prog Try.f9 Rows.holeAddsRow.domain false) (Rows.holeAddsSpec.post enc Try.prog Try.f9 false true false false) := by
  refine returnsInHanded_of_change_sized (C := Try.checked) own started (by kernel_rfl) Try.func9
    (ChangeSpec.witness6 (enc := enc) (C := Try.checked) false ⟨#[], #[.int .i64 0, .slice none 0 0, .agg #[.int .i64 0, .int .i64 0]], []⟩ 8 (by kernel_rfl) (by kernel_rfl) (by kernel_rfl) (by kernel_rfl)) ?_
  intro W base args ds gs before hval0 hW hcnd hsz0 _
  have hsz : (DataW.weightsEach Try.prog (Try.f9.params.toList ++ Rows.holeAddsSpec.plain.varTypes Try.prog) (ds ++ gs)).all (· ≤ reachBytes) = true := hsz0
  have hval : ∀ (j : Nat) t v, Try.f9.params[j]? = some t → args[j]? = some v → Value.okWide Try.prog W .any base t v := hval0
  have hW' := hW
  obtain ⟨p, q, hA0, hV, rfl, hfz, hnd⟩ := hW
  have hA : DataW.TrodAll enc Try.prog W 0 (fun _ => true) true Try.f9.params.toList args.toList ds p := hA0
  rw [Try.params9] at hA hval hsz
  obtain ⟨v0, vs0, d0, ds0, p0, q0, hargs, rfl, rfl, h0, r0⟩ := trodAll_cons hA
  obtain ⟨v1, vs1, d1, ds1, p1, q1, rfl, rfl, rfl, h1, r1⟩ := trodAll_cons r0
  obtain ⟨v2, vs2, d2, ds2, p2, q2, rfl, rfl, rfl, h2, r2⟩ := trodAll_cons r1
  obtain ⟨rfl, rfl, rfl⟩ := trodAll_nil r2
  obtain rfl : args = #[v0, v1, v2] := by cases args; simp_all
  obtain ⟨rfl, rfl⟩ := trodVars_none hV
  have k0 := h0
  have lt0 : ∀ x ∈ p0, x.block < W.heap.size := by obtain ⟨m, hm⟩ := k0; exact DataW.trod_lt m _ _ _ hm
  have k1 := h1
  have lt1 : ∀ x ∈ p1, x.block < W.heap.size := by obtain ⟨m, hm⟩ := k1; exact DataW.trod_lt m _ _ _ hm
  have k2 := h2
  have lt2 : ∀ x ∈ p2, x.block < W.heap.size := by obtain ⟨m, hm⟩ := k2; exact DataW.trod_lt m _ _ _ hm
  obtain ⟨a0, rfl, _, _, g0⟩ := open_int Try.underlying3 (hval 0 3 v0 rfl rfl) h0
  obtain ⟨A1, c1, l1, rfl, hr1, hc1, g1⟩ := opened_slice (opens_slice (B := 16) Try.underlying46 (by kernel_rfl) (by kernel_rfl) (opens_struct (β := S54) (f := fun x : S54 => (x.f0, x.f1)) (g := fun y => ⟨y.1, y.2⟩) Try.underlying54 (by kernel_rfl) (opens_more rfl (opens_int Try.underlying3 (by kernel_rfl)) (opens_last rfl (opens_int Try.underlying3 (by kernel_rfl)))) (fun _ => rfl))) (j := 1) hsz rfl rfl (okWide_slice Try.underlying46 (hval 1 46 v1 rfl rfl)) h1
  obtain ⟨cs2, rfl, hcs2⟩ := okWide_struct Try.underlying54 (hval 2 54 v2 rfl rfl)
  obtain ⟨y2, hK2, g2⟩ := opened (opens_struct (f := id) (g := id) Try.underlying54 (by kernel_rfl) (opens_more rfl (opens_int Try.underlying3 (by kernel_rfl)) (opens_last rfl (opens_int Try.underlying3 (by kernel_rfl)))) (fun _ => rfl)) (j := 2) hsz rfl rfl h2
  obtain ⟨a2_0, a2_1⟩ := y2
  generalize hq2 : (Value.agg cs2).cells.toList = zs2 at hK2
  obtain ⟨_, _, rfl, rfl, rfl⟩ := hK2
  obtain rfl : cs2 = #[.int .i64 a2_0, .int .i64 a2_1] := by apply Array.toList_inj.1; simpa [Value.cells] using hq2
  clear hq2
  clear hA0 hval0 hsz0 hsz
  obtain ⟨k_, hk_⟩ := Pure.HoleAdds a0 l1 a2_0 a2_1 g0 g1 g2
  refine (packthreadlaw_HoleAdds.calls k_ a0 A1 c1 l1 a2_0 a2_1 true W hr1 hc1 hk_).mono fun e W' ⟨he, bel⟩ => ?_
  subst he
  exact ⟨_, rfl, _, _, _, [], _, [], hW', trodAll_mk1 (shut_bool Try.underlying4 _), (trodAll_cons_mk (Below.trod laidOut (by kernel_rfl) (of_decide_eq_true (by kernel_rfl)) k0 bel lt0) (trodAll_cons_mk (Below.trod laidOut (by kernel_rfl) (of_decide_eq_true (by kernel_rfl)) k1 bel lt1) (trodAll_cons_mk (Below.trod laidOut (by kernel_rfl) (of_decide_eq_true (by kernel_rfl)) k2 bel lt2) trodAll_mk0))), rfl, bel.frame _, fun h => by cases h⟩
theorem over : Rows.holeAddsRow.holds Try.pinned (OpenSpec.ofChange Rows.holeAddsSpec) :=
  OpenClaim.holds_of_wide 9 Try.f9 rfl rfl rfl rfl rfl rfl rfl ⟨rfl, rfl, rfl, rfl, rfl⟩ rfl rfl rfl rfl rfl (by kernel_rfl) Try.func9 (by kernel_rfl)
    (of_decide_eq_true (by kernel_rfl)) (by unfold Func.isWrapper; first | (rw [if_pos (by decide +kernel)]; kernel_rfl) | (rw [if_neg (by decide +kernel)]; exact ⟨rfl, rfl⟩))
    (fun os started H enc _ => lifted os started H enc)
theorem proved : Rows.HoleAddsSaid := over
#print axioms proved
end Go.Proofs.Ytjhmjgcebijmiaa.holeAdds
namespace Go.Proofs.Ytjhmjgcebijmiaa
/-- The row, under a short name, for the claim. -/
theorem holeAdds_holds : Rows.HoleAddsSaid := holeAdds.proved
end Go.Proofs.Ytjhmjgcebijmiaa
