/- Messages: more. -/
import Derived.Test.YtkghoodhgihokaaXMsgY
namespace Go.Proofs.Ytkghoodhgihokaa.Msg
open Go.RowKit Go.Lib Go.Proofs.YtkghoodhgihokaaW.PrintWords Go.Proofs.YtkghoodhgihokaaW.PrintLast Go.Proofs.YtkghoodhgihokaaW.PrintMore
set_option linter.unusedVariables false
set_option linter.unusedSimpArgs false
theorem rep_has {b cc kc : Nat} {q : Rp} {n : Int} {w : World} (hq : w.heap[b]? = some (.cells q.cells 39 (0, 0))) (hc : w.heap[cc]? = some (.cells #[.int .i64 q.code] 3 (0, 0))) (hk : w.heap[kc]? = some (.cells #[.int .i64 n] 3 (0, 0))) (hdc : q.data.length ≤ q.dc) (hd : Kd.C (Kd.int .u8) w q.dA q.data.length q.data) : ∀ p ∈ repV b cc kc q n, p.has w ∧ p.wok := by
  obtain ⟨h0, h1, h2, h3, h4, h5, h6⟩ := seven_cells hq
  intro p hp
  simp only [repV, List.mem_cons, List.not_mem_nil, or_false] at hp
  rcases hp with rfl | rfl | rfl | rfl | rfl | rfl | rfl
  · exact ⟨h0, .inr (.inr rfl)⟩
  · exact ⟨(blk_cell hc 0).trans rfl, .inl rfl⟩
  · exact ⟨h2, .inr (.inr rfl)⟩
  · exact ⟨h3, .inl rfl⟩
  · exact ⟨h4, .inr (.inr rfl)⟩
  · exact ⟨⟨h5, hdc, hd⟩, trivial⟩
  · exact ⟨(blk_cell hk 0).trans rfl, .inl rfl⟩
set_option maxHeartbeats 8000000 in
set_option maxRecDepth 100000 in
theorem pfault_calls (q : Rp) (w : World) (hdl : q.data.length ≤ 140737488351232) (hdc : q.data.length ≤ q.dc) (hd : Kd.C (Kd.int .u8) w q.dA q.data.length q.data) (hnl : q.names.length ≤ 140737488351232) (hnc : q.names.length ≤ q.nc) (hn : Kd.C Kd.string w q.nA q.names.length q.names) :
    Calls Try.prog 53 #[.agg q.cells] w fun e w' => e = .returned (.int .i64 (pfaultF q)) ∧ Below w.heap.size w w' := by
  have hq0 := heap_alloc_new w (.cells q.cells 39)
  have HB := Aside0.mk ((Below.refl _ w).alloc (Nat.le_refl _) (.cells q.cells 39))
  obtain ⟨W1, hW1⟩ : ∃ W, w.alloc (.cells q.cells 39) = W := ⟨_, rfl⟩
  obtain ⟨b1, hb1⟩ : ∃ b, w.heap.size = b := ⟨_, rfl⟩
  have hW1' : w.alloc (.cells #[.int .i64 q.mark, .int .i64 q.code, .int .i64 q.handle, .int .i64 q.kind, .int .i64 q.size, .slice q.dA q.data.length q.dc, .slice q.nA q.names.length q.nc] 39) = W1 := hW1
  rw [hW1] at hq0 HB
  rw [hb1] at hq0
  have HQ := Aside0.mk hq0
  obtain ⟨hy0, hy1, hy2, hy3, hy4, hy5, hy6⟩ := seven_cells hq0
  have HD := Aside0.mk (Kd.C_below hd HB.out)
  have HN := Aside0.mk (Kd.C_below hn HB.out)
  clear hq0 hW1 hd hn
  obtain ⟨m, hm⟩ : ∃ m : Int, min (q.names.length : Int) 40 = m := ⟨_, rfl⟩
  obtain ⟨z, hz⟩ : ∃ z, allG 0 (repV 0 0 0 q m) = z := ⟨_, rfl⟩
  have HZ := Aside0.mk (fun b1 cc kc => show allG 0 (repV b1 cc kc q m) = z from hz)
  have hF : pfaultF q = if z ≠ 0 then z else if 40 < q.names.length then 1 else if q.names.any (fun s => !nameB s) = true then 4 else 0 := by
    unfold pfaultF
    rw [hm, hz]
  clear hz
  obtain ⟨RES, hRES⟩ : ∃ r, pfaultF q = r := ⟨_, rfl⟩
  rw [hRES] at hF ⊢
  have HFF := Aside0.mk hF
  clear hRES hF
  show Calls Try.prog 53 #[.agg #[.int .i64 q.mark, .int .i64 q.code, .int .i64 q.handle, .int .i64 q.kind, .int .i64 q.size, .slice q.dA q.data.length q.dc, .slice q.nA q.names.length q.nc]] w _
  go_enter Try.func53, Try.ntmps53
  go_upto_region 1 with fail
  (try rw [hW1'])
  (try rw [hb1])
  clear hW1' hb1
  go_upto_region 2 with fail
  have hB2 : Below W1.heap.size W1 ((W1.alloc (.cells #[.int .i64 q.code] 3)).alloc (.cells #[.int .i64 m] 3)) := ((Below.refl _ W1).alloc (Nat.le_refl _) (.cells #[.int .i64 q.code] 3)).alloc (by simp) (.cells #[.int .i64 m] 3)
  have hcc : ((W1.alloc (.cells #[.int .i64 q.code] 3)).alloc (.cells #[.int .i64 m] 3)).heap[W1.heap.size]? = some (.cells #[.int .i64 q.code] 3 (0, 0)) := ((Below.refl _ (W1.alloc (.cells #[.int .i64 q.code] 3))).alloc (Nat.le_refl _) (.cells #[.int .i64 m] 3)).block _ (by simp) |>.trans (heap_alloc_new W1 _)
  have hkc : ((W1.alloc (.cells #[.int .i64 q.code] 3)).alloc (.cells #[.int .i64 m] 3)).heap[W1.heap.size + 1]? = some (.cells #[.int .i64 m] 3 (0, 0)) := by
    have := heap_alloc_new (W1.alloc (.cells #[.int .i64 q.code] 3)) (.cells #[.int .i64 m] 3)
    rw [show (W1.alloc (.cells #[.int .i64 q.code] 3)).heap.size = W1.heap.size + 1 by simp] at this
    exact this
  obtain ⟨W2, hW2⟩ : ∃ W, (W1.alloc (.cells #[.int .i64 q.code] 3)).alloc (.cells #[.int .i64 m] 3) = W := ⟨_, rfl⟩
  obtain ⟨kc, hk⟩ : ∃ k, W1.heap.size + 1 = k := ⟨_, rfl⟩
  obtain ⟨cc, hc⟩ : ∃ k, W1.heap.size = k := ⟨_, rfl⟩
  rw [hW2] at hB2 hcc hkc ⊢
  rw [hk] at hkc ⊢
  rw [hc] at hcc ⊢
  have HB2 := Aside0.mk (HB.out.trans (hB2.mono HB.out.size))
  have HQ2 := Aside0.mk ((hB2.block _ (blk_ltn HQ.out)).trans HQ.out)
  have HD2 := Aside0.mk (Kd.C_below HD.out hB2)
  have HN2 := Aside0.mk (Kd.C_below HN.out hB2)
  have HCC := Aside0.mk hcc
  have HKC := Aside0.mk hkc
  have HM := Aside0.mk hm
  clear hB2 hcc hkc hW2 hk hc hm hy0 hy1 hy2 hy3 hy4 hy5 hy6
  have HHAS := Aside0.mk (fun (W : World) (hb : Below W2.heap.size W2 W) p (hp : p ∈ repV b1 cc kc q m) => rep_has (q := q) (n := m) ((hb.block _ (blk_ltn HQ2.out)).trans HQ2.out) ((hb.block _ (blk_ltn HCC.out)).trans HCC.out) ((hb.block _ (blk_ltn HKC.out)).trans HKC.out) hdc (Kd.C_below HD2.out hb) p hp)
  go_upto_region 3 with (first
    | (go_at_call 54; refine (replied_calls b1 cc kc q m _).mono ?_; rintro e w3 ⟨v3, rfl, ho3, hb3⟩; have HO3 := Aside0.mk ho3; have HB3 := Aside0.mk hb3; clear ho3 hb3)
    | (go_at_call 44; refine (all_calls _ _ _ _ _ HO3.out (by show 7 ≤ 1000; omega) (HHAS.out _ HB3.out)).mono ?_; rintro e w4 ⟨rfl, hb4⟩; have HB4 := Aside0.mk (HB3.out.trans (hb4.mono HB3.out.size)); rw [HZ.out b1 cc kc]; clear hb4))
  obtain ⟨hy0, hy1, hy2, hy3, hy4, hy5, hy6⟩ := seven_cells ((HB4.out.block _ (blk_ltn HQ2.out)).trans HQ2.out)
  have HB5 := Aside0.mk (HB2.out.trans (HB4.out.mono HB2.out.size))
  have HN5 := Aside0.mk (Kd.C_below HN2.out HB4.out)
  have hF := HFF.out
  by_cases hz : z = 0
  case neg =>
    rw [if_pos hz] at hF
    subst hF
    have ez : (RES != 0) = true := bne_iff_ne.2 hz
    have ez2 : (RES == 0) = false := beq_eq_false_iff_ne.2 hz
    clear hz
    go_wp2
    go_ret
    exact ⟨rfl, HB5.out⟩
  rw [if_neg (not_not_intro hz)] at hF
  subst hz
  by_cases h40 : 40 < q.names.length
  · rw [if_pos h40] at hF
    subst hF
    have d1 : decide ((40 : Int) < (q.names.length : Int)) = true := decide_eq_true (by omega)
    have d1n : decide (40 < q.names.length) = true := decide_eq_true h40
    clear h40
    go_wp2
    go_ret
    exact ⟨rfl, HB5.out⟩
  rw [if_neg h40] at hF
  have d1 : decide ((40 : Int) < (q.names.length : Int)) = false := decide_eq_false (by omega)
  have d1n : decide (40 < q.names.length) = false := decide_eq_false h40
  have HLE := Aside0.mk (show q.names.length ≤ 1000 by omega)
  clear h40
  cases hn : q.names.any (fun s => !nameB s) with
  | true =>
    rw [hn, if_pos rfl] at hF
    subst hF
    have HHN := Aside0.mk hn
    clear hn
    go_wp2_with (go_at_call 68; refine (hasNoM_calls q.nA q.nc q.names _ HN5.out hnc HLE.out).mono ?_; rintro e w6 ⟨rfl, hb6⟩; have HB6 := Aside0.mk (HB5.out.trans (hb6.mono HB5.out.size)); rw [HHN.out]; clear hb6)
    go_ret
    exact ⟨rfl, HB6.out⟩
  | false =>
    rw [hn, if_neg (by decide)] at hF
    subst hF
    have HHN := Aside0.mk hn
    clear hn
    go_wp2_with (go_at_call 68; refine (hasNoM_calls q.nA q.nc q.names _ HN5.out hnc HLE.out).mono ?_; rintro e w6 ⟨rfl, hb6⟩; have HB6 := Aside0.mk (HB5.out.trans (hb6.mono HB5.out.size)); rw [HHN.out]; clear hb6)
    go_ret
    exact ⟨rfl, HB6.out⟩
end Go.Proofs.Ytkghoodhgihokaa.Msg
