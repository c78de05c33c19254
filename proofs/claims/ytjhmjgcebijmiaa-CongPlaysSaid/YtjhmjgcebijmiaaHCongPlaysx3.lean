/- The contracts of the functions that the law CongPlays reaches: Go's code comes to what these Lean functions tell (written by a program of ours and the kit's, out of the translation). -/
import Derived.Test.YtjhmjgcebijmiaaHCongPlaysx0
namespace Go.Proofs.Ytjhmjgcebijmiaa.HCongPlays
open Go.RowKit Go.Proofs.YtjhmjgcebijmiaaW.PrintWords Go.Proofs.YtjhmjgcebijmiaaW.PrintLast Go.Proofs.YtjhmjgcebijmiaaW.PrintMore
attribute [local go_sem] max2_int min2_int max_two min_two max_three min_three max_four min_four   -- for this text's walks alone
set_option linter.unusedVariables false
set_option linter.unusedSimpArgs false

/-! ### packthreadref_CongPlayed: function 16 -/
mutual
def packthreadref_CongPlayed.l0 : Nat → Int → Int → Int → List (S28) → List (S89) → Int → Int → Option ((List (S28)) × Int)
  | 0, _, _, _, _, _, _, _ => none
  | k + 1, x4, x5, x6, x7, x15, x16, x17 => if x17 < x16 then (if 0 ≤ x17 then (if x17 < (x15.length : Int) then (if ((rd_T89 x15 x17).f0) < 1 then (packthreadref_CongPlayed.j1 k x4 x5 x6 x7 x15 x16 x17 true ((rd_T89 x15 x17).f0) ((rd_T89 x15 x17).f1)) else (packthreadref_CongPlayed.j1 k x4 x5 x6 x7 x15 x16 x17 (decide (((rd_T89 x15 x17).f0) > 3)) ((rd_T89 x15 x17).f0) ((rd_T89 x15 x17).f1))) else (none)) else (none)) else (some (x7, 0))
def packthreadref_CongPlayed.j1 : Nat → Int → Int → Int → List (S28) → List (S89) → Int → Int → Bool → Int → Int → Option ((List (S28)) × Int)
  | 0, _, _, _, _, _, _, _, _, _, _ => none
  | k + 1, x4, x5, x6, x7, x15, x16, x17, x28, x109000, x109001 => if x28 = true then (some (([] : List (S28)), 3)) else (if x109000 = 1 then (if x109001 < 1 then (packthreadref_CongPlayed.j2 k x4 x5 x6 x7 x15 x16 x17 true x109000 x109001) else (packthreadref_CongPlayed.j2 k x4 x5 x6 x7 x15 x16 x17 (decide (x109001 > 64)) x109000 x109001)) else (if (wrap64 (Int.tdiv x4 2)) < 2 then (if x109000 = 3 then (if x7.length < 5864062014805 then (packthreadref_CongPlayed.l0 k 1 2 0 (x7 ++ [(⟨1, 2, 0⟩ : S28)]) x15 x16 (wrap64 (x17 + 1))) else (none)) else (if x7.length < 5864062014805 then (packthreadref_CongPlayed.l0 k 2 2 0 (x7 ++ [(⟨2, 2, 0⟩ : S28)]) x15 x16 (wrap64 (x17 + 1))) else (none))) else (if x109000 = 3 then (if x7.length < 5864062014805 then (packthreadref_CongPlayed.l0 k 1 (wrap64 (Int.tdiv x4 2)) 0 (x7 ++ [(⟨1, wrap64 (Int.tdiv x4 2), 0⟩ : S28)]) x15 x16 (wrap64 (x17 + 1))) else (none)) else (if x7.length < 5864062014805 then (packthreadref_CongPlayed.l0 k (wrap64 (Int.tdiv x4 2)) (wrap64 (Int.tdiv x4 2)) 0 (x7 ++ [(⟨wrap64 (Int.tdiv x4 2), wrap64 (Int.tdiv x4 2), 0⟩ : S28)]) x15 x16 (wrap64 (x17 + 1))) else (none)))))
def packthreadref_CongPlayed.j2 : Nat → Int → Int → Int → List (S28) → List (S89) → Int → Int → Bool → Int → Int → Option ((List (S28)) × Int)
  | 0, _, _, _, _, _, _, _, _, _, _ => none
  | k + 1, x4, x5, x6, x7, x15, x16, x17, x39, x109000, x109001 => if x39 = true then (some (([] : List (S28)), 2)) else (packthreadref_CongPlayed.l1 k x4 x5 x6 x7 0 x15 x16 x17 x109000 x109001)
def packthreadref_CongPlayed.l1 : Nat → Int → Int → Int → List (S28) → Int → List (S89) → Int → Int → Int → Int → Option ((List (S28)) × Int)
  | 0, _, _, _, _, _, _, _, _, _, _ => none
  | k + 1, x4, x5, x6, x7, x10, x15, x16, x17, x109000, x109001 => if x10 < x109001 then (if x4 < x5 then (if x4 < 64 then (packthreadref_CongPlayed.l1 k (wrap64 (x4 + 1)) x5 x6 x7 (wrap64 (x10 + 1)) x15 x16 x17 x109000 x109001) else (packthreadref_CongPlayed.l1 k x4 x5 x6 x7 (wrap64 (x10 + 1)) x15 x16 x17 x109000 x109001)) else (if (wrap64 (x6 + 1)) ≥ x4 then (if x4 < 64 then (packthreadref_CongPlayed.l1 k (wrap64 (x4 + 1)) x5 0 x7 (wrap64 (x10 + 1)) x15 x16 x17 x109000 x109001) else (packthreadref_CongPlayed.l1 k x4 x5 0 x7 (wrap64 (x10 + 1)) x15 x16 x17 x109000 x109001)) else (packthreadref_CongPlayed.l1 k x4 x5 (wrap64 (x6 + 1)) x7 (wrap64 (x10 + 1)) x15 x16 x17 x109000 x109001))) else (if x7.length < 5864062014805 then (packthreadref_CongPlayed.l0 k x4 x5 x6 (x7 ++ [(⟨x4, x5, x6⟩ : S28)]) x15 x16 (wrap64 (x17 + 1))) else (none))
end
def packthreadref_CongPlayed.f (k : Nat) (l0 : List (S89)) : Option ((List (S28)) × Int) := if (l0.length : Int) > 300 then (some (([] : List (S28)), 1)) else (packthreadref_CongPlayed.l0 k 1 64 0 ([] : List (S28)) l0 (l0.length : Int) 0)
theorem packthreadref_CongPlayed.mono_l : ∀ k, (∀ y0 y1 y2 y3 y4 y5 y6, LeO (packthreadref_CongPlayed.l0 k y0 y1 y2 y3 y4 y5 y6) (packthreadref_CongPlayed.l0 (k + 1) y0 y1 y2 y3 y4 y5 y6)) ∧ (∀ y0 y1 y2 y3 y4 y5 y6 y7 y8 y9, LeO (packthreadref_CongPlayed.j1 k y0 y1 y2 y3 y4 y5 y6 y7 y8 y9) (packthreadref_CongPlayed.j1 (k + 1) y0 y1 y2 y3 y4 y5 y6 y7 y8 y9)) ∧ (∀ y0 y1 y2 y3 y4 y5 y6 y7 y8 y9, LeO (packthreadref_CongPlayed.j2 k y0 y1 y2 y3 y4 y5 y6 y7 y8 y9) (packthreadref_CongPlayed.j2 (k + 1) y0 y1 y2 y3 y4 y5 y6 y7 y8 y9)) ∧ (∀ y0 y1 y2 y3 y4 y5 y6 y7 y8 y9, LeO (packthreadref_CongPlayed.l1 k y0 y1 y2 y3 y4 y5 y6 y7 y8 y9) (packthreadref_CongPlayed.l1 (k + 1) y0 y1 y2 y3 y4 y5 y6 y7 y8 y9))
  | 0 => ⟨fun _ _ _ _ _ _ _ r h => by simp [packthreadref_CongPlayed.l0] at h, fun _ _ _ _ _ _ _ _ _ _ r h => by simp [packthreadref_CongPlayed.j1] at h, fun _ _ _ _ _ _ _ _ _ _ r h => by simp [packthreadref_CongPlayed.j2] at h, fun _ _ _ _ _ _ _ _ _ _ r h => by simp [packthreadref_CongPlayed.l1] at h⟩
  | k + 1 => by
    obtain ⟨ih0, ih1, ih2, ih3⟩ := packthreadref_CongPlayed.mono_l k
    refine ⟨?_, ?_, ?_, ?_⟩
    · intro y0 y1 y2 y3 y4 y5 y6
      unfold packthreadref_CongPlayed.l0
      repeat' first
      | (with_reducible exact ih0 _ _ _ _ _ _ _)
      | (with_reducible exact ih1 _ _ _ _ _ _ _ _ _ _)
      | (with_reducible exact ih2 _ _ _ _ _ _ _ _ _ _)
      | (with_reducible exact ih3 _ _ _ _ _ _ _ _ _ _)
      | (with_reducible exact LeO.refl _)
      | (with_reducible exact LeO.none _)
      | (with_reducible refine LeO.ite ?_ ?_)
      | (with_reducible refine LeO.bind ?_ (fun _ => ?_))
      | exact ih0 _ _ _ _ _ _ _
      | exact ih1 _ _ _ _ _ _ _ _ _ _
      | exact ih2 _ _ _ _ _ _ _ _ _ _
      | exact ih3 _ _ _ _ _ _ _ _ _ _
      | exact LeO.none _
      | refine LeO.ite ?_ ?_
      | refine LeO.bind ?_ (fun _ => ?_)
    · intro y0 y1 y2 y3 y4 y5 y6 y7 y8 y9
      unfold packthreadref_CongPlayed.j1
      repeat' first
      | (with_reducible exact ih0 _ _ _ _ _ _ _)
      | (with_reducible exact ih1 _ _ _ _ _ _ _ _ _ _)
      | (with_reducible exact ih2 _ _ _ _ _ _ _ _ _ _)
      | (with_reducible exact ih3 _ _ _ _ _ _ _ _ _ _)
      | (with_reducible exact LeO.refl _)
      | (with_reducible exact LeO.none _)
      | (with_reducible refine LeO.ite ?_ ?_)
      | (with_reducible refine LeO.bind ?_ (fun _ => ?_))
      | exact ih0 _ _ _ _ _ _ _
      | exact ih1 _ _ _ _ _ _ _ _ _ _
      | exact ih2 _ _ _ _ _ _ _ _ _ _
      | exact ih3 _ _ _ _ _ _ _ _ _ _
      | exact LeO.none _
      | refine LeO.ite ?_ ?_
      | refine LeO.bind ?_ (fun _ => ?_)
    · intro y0 y1 y2 y3 y4 y5 y6 y7 y8 y9
      unfold packthreadref_CongPlayed.j2
      repeat' first
      | (with_reducible exact ih0 _ _ _ _ _ _ _)
      | (with_reducible exact ih1 _ _ _ _ _ _ _ _ _ _)
      | (with_reducible exact ih2 _ _ _ _ _ _ _ _ _ _)
      | (with_reducible exact ih3 _ _ _ _ _ _ _ _ _ _)
      | (with_reducible exact LeO.refl _)
      | (with_reducible exact LeO.none _)
      | (with_reducible refine LeO.ite ?_ ?_)
      | (with_reducible refine LeO.bind ?_ (fun _ => ?_))
      | exact ih0 _ _ _ _ _ _ _
      | exact ih1 _ _ _ _ _ _ _ _ _ _
      | exact ih2 _ _ _ _ _ _ _ _ _ _
      | exact ih3 _ _ _ _ _ _ _ _ _ _
      | exact LeO.none _
      | refine LeO.ite ?_ ?_
      | refine LeO.bind ?_ (fun _ => ?_)
    · intro y0 y1 y2 y3 y4 y5 y6 y7 y8 y9
      unfold packthreadref_CongPlayed.l1
      repeat' first
      | (with_reducible exact ih0 _ _ _ _ _ _ _)
      | (with_reducible exact ih1 _ _ _ _ _ _ _ _ _ _)
      | (with_reducible exact ih2 _ _ _ _ _ _ _ _ _ _)
      | (with_reducible exact ih3 _ _ _ _ _ _ _ _ _ _)
      | (with_reducible exact LeO.refl _)
      | (with_reducible exact LeO.none _)
      | (with_reducible refine LeO.ite ?_ ?_)
      | (with_reducible refine LeO.bind ?_ (fun _ => ?_))
      | exact ih0 _ _ _ _ _ _ _
      | exact ih1 _ _ _ _ _ _ _ _ _ _
      | exact ih2 _ _ _ _ _ _ _ _ _ _
      | exact ih3 _ _ _ _ _ _ _ _ _ _
      | exact LeO.none _
      | refine LeO.ite ?_ ?_
      | refine LeO.bind ?_ (fun _ => ?_)
theorem packthreadref_CongPlayed.mono : ∀ a0 k, LeO (packthreadref_CongPlayed.f k a0) (packthreadref_CongPlayed.f (k + 1) a0) := by
  intro a0 k
  obtain ⟨ih0, ih1, ih2, ih3⟩ := packthreadref_CongPlayed.mono_l k
  unfold packthreadref_CongPlayed.f
  repeat' first
      | (with_reducible exact ih0 _ _ _ _ _ _ _)
      | (with_reducible exact ih1 _ _ _ _ _ _ _ _ _ _)
      | (with_reducible exact ih2 _ _ _ _ _ _ _ _ _ _)
      | (with_reducible exact ih3 _ _ _ _ _ _ _ _ _ _)
      | (with_reducible exact LeO.refl _)
      | (with_reducible exact LeO.none _)
      | (with_reducible refine LeO.ite ?_ ?_)
      | (with_reducible refine LeO.bind ?_ (fun _ => ?_))
      | exact ih0 _ _ _ _ _ _ _
      | exact ih1 _ _ _ _ _ _ _ _ _ _
      | exact ih2 _ _ _ _ _ _ _ _ _ _
      | exact ih3 _ _ _ _ _ _ _ _ _ _
      | exact LeO.none _
      | refine LeO.ite ?_ ?_
      | refine LeO.bind ?_ (fun _ => ?_)
set_option maxHeartbeats 8000000 in
set_option maxRecDepth 100000 in
theorem packthreadref_CongPlayed.calls (k : Nat) (A0 : Option Addr) (c0 : Nat) (l0 : List (S89)) (r1 : List (S28)) (r2 : Int) (w : World) (hr0 : Kd.C k89 w A0 l0.length l0) (hc0 : l0.length ≤ c0) (h : packthreadref_CongPlayed.f k l0 = some (r1, r2)) :
    Calls Try.prog 16 #[.slice A0 l0.length c0] w fun e w' => ∃ v0_ : Value, e = .returned (.tuple #[v0_, .int .i64 r2]) ∧ Kd.R k28 28 w' w.heap.size (fun _ => True) v0_ r1 ∧ Below w.heap.size w w' := by
  have hu89 := Try.underlying89
  have hu28 := Try.underlying28
  have HR0 := Aside0.mk hr0
  have HC0 := Aside0.mk hc0
  clear hr0 hc0
  have HB := Aside0.mk (Below.refl w.heap.size w)
  have H : (if (l0.length : Int) > 300 then (some (([] : List (S28)), 1)) else (packthreadref_CongPlayed.l0 k 1 64 0 ([] : List (S28)) l0 (l0.length : Int) 0)) = some (r1, r2) := h
  clear h
  by_cases c2 : (l0.length : Int) > 300
  · rw [if_pos c2] at H
    have c2b0 : decide (300 < (l0.length : Int)) = true := decide_eq_true c2
    have c2b1 : decide (300 < l0.length) = true := decide_eq_true (by omega)
    clear c2
    simp only [Option.some.injEq, Prod.mk.injEq] at H
    obtain ⟨rfl, rfl⟩ := H
    go_enter Try.func16, Try.ntmps16
    go_wp2
    go_ret2
    exact ⟨_, by first | rfl | (simp [errW_none, errW_some] <;> rfl) | (simp [*, errW_none, errW_some] <;> rfl), by first | exact Kd.R_nil _ _ _ _ _ | exact Kd.N_nil _ _ _ _ _ | exact Kd.V_nil _ _ _ _ _ | exact Kd.Q_nil _ _ _ _ _ | exact Kd.S_nil _ _ _ _ _, by repeat (first | (with_reducible first | exact HB.out | apply below_alloc | apply pw_below_drewN | apply below_drew1) | exact HB.out)⟩
  · rw [if_neg c2] at H
    have c2b0 : decide (300 < (l0.length : Int)) = false := decide_eq_false c2
    have c2b1 : decide (300 < l0.length) = false := decide_eq_false (by omega)
    clear c2
    have H' := Aside0.mk H
    clear H
    go_enter Try.func16, Try.ntmps16
    go_wp2
    go_loopg [4, 5, 6, 7, 17] k (fun kq v4 v5 v6 v7 v17 w' => ∃ (x4_1 : Int) (x5_1 : Int) (x6_1 : Int) (x7_1 : List (S28)) (x17_1 : Int), v4 = .int .i64 x4_1 ∧ v5 = .int .i64 x5_1 ∧ v6 = .int .i64 x6_1 ∧ v17 = .int .i64 x17_1 ∧ Aside0 (packthreadref_CongPlayed.l0 kq x4_1 x5_1 x6_1 x7_1 l0 (l0.length : Int) x17_1 = some (r1, r2)) ∧ Aside0 (kq ≤ k) ∧ Aside0 (Kd.R k28 28 w' w.heap.size (fun _ => True) v7 x7_1) ∧ Aside0 (Below w.heap.size w w'))
    case atStart => exact ⟨(1), (64), (0), (([] : List (S28))), (0), (by first | rfl | (simp; done) | (simp [*]; done)), (by first | rfl | (simp; done) | (simp [*]; done)), (by first | rfl | (simp; done) | (simp [*]; done)), (by first | rfl | (simp; done) | (simp [*]; done)), H', ⟨Nat.le_refl _⟩, ⟨by first | exact Kd.R_nil _ _ _ _ _ | exact Kd.N_nil _ _ _ _ _ | exact Kd.V_nil _ _ _ _ _ | exact Kd.Q_nil _ _ _ _ _ | exact Kd.S_nil _ _ _ _ _⟩, ⟨by repeat (first | (with_reducible first | exact HB.out | apply below_alloc | apply pw_below_drewN | apply below_drew1) | exact HB.out)⟩⟩
    case round =>
      clear H'
      try clear c1
      try clear c2
      try clear c2b0
      try clear c2b1
      try clear p2
      obtain ⟨x4_1, x5_1, x6_1, x7_1, x17_1, rfl, rfl, rfl, rfl, HA, HK1, HO_7, HB⟩ := hrel
      cases gk with
      | zero => exact absurd HA.out (by simp [packthreadref_CongPlayed.l0])
      | succ k1 =>
        have H := HA.out
        clear HA
        simp only [packthreadref_CongPlayed.l0] at H
        by_cases c3 : x17_1 < (l0.length : Int)
        · rw [if_pos c3] at H
          have c3b0 : decide (x17_1 < (l0.length : Int)) = true := decide_eq_true c3
          clear c3
          by_cases c4 : 0 ≤ x17_1
          · rw [if_pos c4] at H
            have c4b0 : decide (0 ≤ x17_1) = true := decide_eq_true c4
            clear c4
            by_cases c5 : x17_1 < (l0.length : Int)
            · rw [if_pos c5] at H
              have c5b0 : decide (x17_1 < (l0.length : Int)) = true := decide_eq_true c5
              clear c5
              have HC6 := Aside0.mk H
              clear H
              have p107 : 0 ≤ (x17_1 : Int) := of_decide_eq_true (by first | (with_reducible assumption) | assumption)
              have q107 : x17_1 < (l0.length : Int) := of_decide_eq_true (by first | (with_reducible assumption) | assumption)
              obtain ⟨ad107, e107, hx107_0, hx107_1⟩ := at_T89 HR0.out x17_1 p107 q107
              cases e107
              replace hx107_0 := (HB.out.cell (World.block_lt_of_cell? w _ hx107_0)).trans hx107_0
              replace hx107_1 := (HB.out.cell (World.block_lt_of_cell? w _ hx107_1)).trans hx107_1
              replace p107 := eq_true p107
              replace q107 := eq_true q107
              go_upto_region 10 with (first | ((with_reducible refine gate_dst (N := 9) rfl ?_); refine box_event ?hg (N := 9) ?hd (cs := #[.int .i64 0, .int .i64 0]) (t := 89) ?hr ?_; (case hd => rfl); (case hg => rfl); (case hr => first | (go_simp; done) | (go_simp; rfl)); intro gb108 hg w7 hbox hb; have n0_ := Aside0.mk (Kd.R_below (by (with_reducible repeat (first | apply Kd.R_alloc | apply Kd.R_drewN | apply Kd.R_drew)); exact HO_7.out) hb); have n1_ := Aside0.mk (below_step (by repeat (first | (with_reducible first | exact HB.out | apply below_alloc | apply pw_below_drewN | apply below_drew1) | exact HB.out)) hb); have n2_ := Aside0.mk (hbox); have n3_ := Aside0.mk ((by rw [hg]; exact (below_size (by repeat (first | (with_reducible first | exact HB.out | apply below_alloc | apply pw_below_drewN | apply below_drew1) | exact HB.out))) : w.heap.size ≤ gb108)); have n4_ := Aside0.mk ((by rw [hg]; exact (below_size (by repeat (first | (with_reducible first | exact HB.out | apply below_alloc | apply pw_below_drewN | apply below_drew1) | exact HB.out))) : w.heap.size ≤ gb108)); clear HO_7; clear HB; have HO_7 := n0_; have HB := n1_; have BK108 := n2_; have GW108 := n3_; have GE108 := n4_; clear n0_ n1_ n2_ n3_ n4_; clear hb hbox hg; have hcz8_0 : w7.cell? ⟨gb108, 0, none⟩ = some (.int .i64 0) := (blk_cell BK108.out 0).trans rfl; have hcz8_1 : w7.cell? ⟨gb108, 1, none⟩ = some (.int .i64 0) := (blk_cell BK108.out 1).trans rfl; have hfz8_0 := blk_frozen BK108.out 0; have hfz8_1 := blk_frozen BK108.out 1))
              (try simp only [Act.put, List.setIfInBounds_toArray, List.set_cons_zero, List.set_cons_succ])
              go_cut [28] (fun v28 wc => ∃ (kq : Nat) (x28_5 : Bool), v28 = .bool x28_5 ∧ Aside0 (packthreadref_CongPlayed.j1 kq x4_1 x5_1 x6_1 x7_1 l0 (l0.length : Int) x17_1 x28_5 ((rd_T89 l0 x17_1).f0) ((rd_T89 l0 x17_1).f1) = some (r1, r2)) ∧ Aside0 (kq ≤ k1) ∧ Aside0 (Kd.R k28 28 wc w.heap.size (fun _ => True) u7 x7_1) ∧ Aside0 (wc.heap[gb108]? = some (.cells #[.int .i64 ((rd_T89 l0 x17_1).f0), .int .i64 ((rd_T89 l0 x17_1).f1)] 89 (0, 0))) ∧ Aside0 (Below w.heap.size w wc))
              case first =>
                have H := HC6.out
                clear HC6
                by_cases c9 : ((rd_T89 l0 x17_1).f0) < 1
                · rw [if_pos c9] at H
                  have c9b0 : decide (((rd_T89 l0 x17_1).f0) < 1) = true := decide_eq_true c9
                  clear c9
                  (first | rw [c9b0] | (simp only [i64_w, i32_w]; rw [c9b0]) | skip)
                  have H' := Aside0.mk H
                  clear H
                  have hcz10_0 : w7.cell? ⟨gb108, 0, none⟩ = some (.int .i64 0) := (blk_cell BK108.out 0).trans rfl
                  have hcz10_1 : w7.cell? ⟨gb108, 1, none⟩ = some (.int .i64 0) := (blk_cell BK108.out 1).trans rfl
                  have hfz10_0 := blk_frozen BK108.out 0
                  have hfz10_1 := blk_frozen BK108.out 1
                  go_wp2
                  go_meet
                  case rel => exact ⟨_, (true), (by first | rfl | (simp; done) | (simp [*]; done)), H', ⟨by have := HK1.out; first | omega | exact Nat.le_refl _⟩, ⟨by (with_reducible repeat (first | apply Kd.R_alloc | apply Kd.R_drewN | apply Kd.R_drew)); exact Kd.R_mono (Kd.R_far (p := ⟨gb108, 1, none⟩) (Kd.R_far (p := ⟨gb108, 0, none⟩) (Kd.R_types HO_7.out BK108.out (by decide)) (fun _ hk => hk.2) (.int .i64 ((rd_T89 l0 x17_1).f0))) (fun _ hk => hk.2) (.int .i64 ((rd_T89 l0 x17_1).f1))) (fun _ hk => trivial)⟩, ⟨by (with_reducible repeat (first | refine blk_drewN ?_ _ | refine blk_drew ?_ | refine blk_alloc ?_ _)); refine blk_put (cs := #[.int .i64 ((rd_T89 l0 x17_1).f0), .int .i64 0]) ?_ 1 _ rfl; (with_reducible repeat (first | refine blk_drewN ?_ _ | refine blk_drew ?_ | refine blk_alloc ?_ _)); refine blk_put (cs := #[.int .i64 0, .int .i64 0]) ?_ 0 _ rfl; (with_reducible repeat (first | refine blk_drewN ?_ _ | refine blk_drew ?_ | refine blk_alloc ?_ _)); exact BK108.out⟩, ⟨by repeat (first | (with_reducible first | exact HB.out | apply below_alloc | apply pw_below_drewN | apply below_drew1 | refine below_set ?_ GE108.out) | exact HB.out)⟩⟩
                · rw [if_neg c9] at H
                  have c9b0 : decide (((rd_T89 l0 x17_1).f0) < 1) = false := decide_eq_false c9
                  clear c9
                  (first | rw [c9b0] | (simp only [i64_w, i32_w]; rw [c9b0]) | skip)
                  have H' := Aside0.mk H
                  clear H
                  have hcz11_0 : w7.cell? ⟨gb108, 0, none⟩ = some (.int .i64 0) := (blk_cell BK108.out 0).trans rfl
                  have hcz11_1 : w7.cell? ⟨gb108, 1, none⟩ = some (.int .i64 0) := (blk_cell BK108.out 1).trans rfl
                  have hfz11_0 := blk_frozen BK108.out 0
                  have hfz11_1 := blk_frozen BK108.out 1
                  go_wp2
                  go_meet
                  case rel => exact ⟨_, (decide (((rd_T89 l0 x17_1).f0) > 3)), (by first | rfl | (simp; done) | (simp [*]; done)), H', ⟨by have := HK1.out; first | omega | exact Nat.le_refl _⟩, ⟨by (with_reducible repeat (first | apply Kd.R_alloc | apply Kd.R_drewN | apply Kd.R_drew)); exact Kd.R_mono (Kd.R_far (p := ⟨gb108, 1, none⟩) (Kd.R_far (p := ⟨gb108, 0, none⟩) (Kd.R_types HO_7.out BK108.out (by decide)) (fun _ hk => hk.2) (.int .i64 ((rd_T89 l0 x17_1).f0))) (fun _ hk => hk.2) (.int .i64 ((rd_T89 l0 x17_1).f1))) (fun _ hk => trivial)⟩, ⟨by (with_reducible repeat (first | refine blk_drewN ?_ _ | refine blk_drew ?_ | refine blk_alloc ?_ _)); refine blk_put (cs := #[.int .i64 ((rd_T89 l0 x17_1).f0), .int .i64 0]) ?_ 1 _ rfl; (with_reducible repeat (first | refine blk_drewN ?_ _ | refine blk_drew ?_ | refine blk_alloc ?_ _)); refine blk_put (cs := #[.int .i64 0, .int .i64 0]) ?_ 0 _ rfl; (with_reducible repeat (first | refine blk_drewN ?_ _ | refine blk_drew ?_ | refine blk_alloc ?_ _)); exact BK108.out⟩, ⟨by repeat (first | (with_reducible first | exact HB.out | apply below_alloc | apply pw_below_drewN | apply below_drew1 | refine below_set ?_ GE108.out) | exact HB.out)⟩⟩
              case rest =>
                clear HC6
                try clear c1
                try clear p1
                try clear q1
                try clear hx1
                try clear c2
                try clear c2b0
                try clear c2b1
                try clear p2
                try clear c3
                try clear c3b0
                try clear c4
                try clear c4b0
                try clear c5
                try clear c5b0
                try clear c9
                try clear c9b0
                try clear p10
                try clear q10
                try clear hx10
                try clear hcz10_0
                try clear hcz10_1
                try clear hcz11_0
                try clear hcz11_1
                try clear hcz8_0
                try clear hcz8_1
                try clear hfz10_0
                try clear hfz10_1
                try clear hfz11_0
                try clear hfz11_1
                try clear hfz8_0
                try clear hfz8_1
                try clear hx107_0
                try clear hx107_1
                try clear p107
                try clear p2
                try clear q107
                obtain ⟨kq, x28_5, rfl, HA, HJ5, HO_7, BK108, HB⟩ := hcut
                cases kq with
                | zero => exact absurd HA.out (by simp [packthreadref_CongPlayed.j1])
                | succ kj5 =>
                  have H := HA.out
                  clear HA
                  simp only [packthreadref_CongPlayed.j1] at H
                  by_cases c12 : x28_5 = true
                  · subst c12
                    have H1 : (some (([] : List (S28)), 3)) = some (r1, r2) := by rw [if_pos rfl] at H; exact H
                    clear H
                    have H := H1
                    clear H1
                    simp only [Option.some.injEq, Prod.mk.injEq] at H
                    obtain ⟨rfl, rfl⟩ := H
                    go_wp2
                    go_ret2
                    exact ⟨_, by first | rfl | (simp [errW_none, errW_some] <;> rfl) | (simp [*, errW_none, errW_some] <;> rfl), by first | exact Kd.R_nil _ _ _ _ _ | exact Kd.N_nil _ _ _ _ _ | exact Kd.V_nil _ _ _ _ _ | exact Kd.Q_nil _ _ _ _ _ | exact Kd.S_nil _ _ _ _ _, by repeat (first | (with_reducible first | exact HB.out | apply below_alloc | apply pw_below_drewN | apply below_drew1 | refine below_set ?_ GE108.out) | exact HB.out)⟩
                  · replace c12 := Bool.eq_false_iff.mpr c12
                    subst c12
                    have H1 : (if ((rd_T89 l0 x17_1).f0) = 1 then (if ((rd_T89 l0 x17_1).f1) < 1 then (packthreadref_CongPlayed.j2 kj5 x4_1 x5_1 x6_1 x7_1 l0 (l0.length : Int) x17_1 true ((rd_T89 l0 x17_1).f0) ((rd_T89 l0 x17_1).f1)) else (packthreadref_CongPlayed.j2 kj5 x4_1 x5_1 x6_1 x7_1 l0 (l0.length : Int) x17_1 (decide (((rd_T89 l0 x17_1).f1) > 64)) ((rd_T89 l0 x17_1).f0) ((rd_T89 l0 x17_1).f1))) else (if (wrap64 (Int.tdiv x4_1 2)) < 2 then (if ((rd_T89 l0 x17_1).f0) = 3 then (if x7_1.length < 5864062014805 then (packthreadref_CongPlayed.l0 kj5 1 2 0 (x7_1 ++ [(⟨1, 2, 0⟩ : S28)]) l0 (l0.length : Int) (wrap64 (x17_1 + 1))) else (none)) else (if x7_1.length < 5864062014805 then (packthreadref_CongPlayed.l0 kj5 2 2 0 (x7_1 ++ [(⟨2, 2, 0⟩ : S28)]) l0 (l0.length : Int) (wrap64 (x17_1 + 1))) else (none))) else (if ((rd_T89 l0 x17_1).f0) = 3 then (if x7_1.length < 5864062014805 then (packthreadref_CongPlayed.l0 kj5 1 (wrap64 (Int.tdiv x4_1 2)) 0 (x7_1 ++ [(⟨1, wrap64 (Int.tdiv x4_1 2), 0⟩ : S28)]) l0 (l0.length : Int) (wrap64 (x17_1 + 1))) else (none)) else (if x7_1.length < 5864062014805 then (packthreadref_CongPlayed.l0 kj5 (wrap64 (Int.tdiv x4_1 2)) (wrap64 (Int.tdiv x4_1 2)) 0 (x7_1 ++ [(⟨wrap64 (Int.tdiv x4_1 2), wrap64 (Int.tdiv x4_1 2), 0⟩ : S28)]) l0 (l0.length : Int) (wrap64 (x17_1 + 1))) else (none))))) = some (r1, r2) := by rw [if_neg (show ¬ (false = true) by decide)] at H; exact H
                    clear H
                    have H := H1
                    clear H1
                    by_cases c13 : ((rd_T89 l0 x17_1).f0) = 1
                    · rw [if_pos c13] at H
                      have c13b0 : (((rd_T89 l0 x17_1).f0) == 1) = true := beq_iff_eq.mpr c13
                      have c13b1 : (((rd_T89 l0 x17_1).f0) != 1) = false := bne_eq_false_iff_eq.mpr c13
                      clear c13
                      have HC14 := Aside0.mk H
                      clear H
                      have hcz15_0 : wc.cell? ⟨gb108, 0, none⟩ = some (.int .i64 ((rd_T89 l0 x17_1).f0)) := (blk_cell BK108.out 0).trans rfl
                      have hcz15_1 : wc.cell? ⟨gb108, 1, none⟩ = some (.int .i64 ((rd_T89 l0 x17_1).f1)) := (blk_cell BK108.out 1).trans rfl
                      have hfz15_0 := blk_frozen BK108.out 0
                      have hfz15_1 := blk_frozen BK108.out 1
                      go_upto_region 13 with (fail)
                      go_cut [39] (fun v39 wc => ∃ (kq : Nat) (x39_13 : Bool), v39 = .bool x39_13 ∧ Aside0 (packthreadref_CongPlayed.j2 kq x4_1 x5_1 x6_1 x7_1 l0 (l0.length : Int) x17_1 x39_13 ((rd_T89 l0 x17_1).f0) ((rd_T89 l0 x17_1).f1) = some (r1, r2)) ∧ Aside0 (kq ≤ kj5) ∧ Aside0 (Kd.R k28 28 wc w.heap.size (fun _ => True) u7 x7_1) ∧ Aside0 (wc.heap[gb108]? = some (.cells #[.int .i64 ((rd_T89 l0 x17_1).f0), .int .i64 ((rd_T89 l0 x17_1).f1)] 89 (0, 0))) ∧ Aside0 (Below w.heap.size w wc))
                      case first =>
                        have H := HC14.out
                        clear HC14
                        by_cases c16 : ((rd_T89 l0 x17_1).f1) < 1
                        · rw [if_pos c16] at H
                          have c16b0 : decide (((rd_T89 l0 x17_1).f1) < 1) = true := decide_eq_true c16
                          clear c16
                          (first | rw [c16b0] | (simp only [i64_w, i32_w]; rw [c16b0]) | skip)
                          have H' := Aside0.mk H
                          clear H
                          have hcz17_0 : wc.cell? ⟨gb108, 0, none⟩ = some (.int .i64 ((rd_T89 l0 x17_1).f0)) := (blk_cell BK108.out 0).trans rfl
                          have hcz17_1 : wc.cell? ⟨gb108, 1, none⟩ = some (.int .i64 ((rd_T89 l0 x17_1).f1)) := (blk_cell BK108.out 1).trans rfl
                          have hfz17_0 := blk_frozen BK108.out 0
                          have hfz17_1 := blk_frozen BK108.out 1
                          go_wp2
                          go_meet
                          case rel => exact ⟨_, (true), (by first | rfl | (simp; done) | (simp [*]; done)), H', ⟨by have := HK1.out; have := HJ5.out; first | omega | exact Nat.le_refl _⟩, ⟨by (with_reducible repeat (first | apply Kd.R_alloc | apply Kd.R_drewN | apply Kd.R_drew)); exact HO_7.out⟩, ⟨by (with_reducible repeat (first | refine blk_drewN ?_ _ | refine blk_drew ?_ | refine blk_alloc ?_ _)); exact BK108.out⟩, ⟨by repeat (first | (with_reducible first | exact HB.out | apply below_alloc | apply pw_below_drewN | apply below_drew1 | refine below_set ?_ GE108.out) | exact HB.out)⟩⟩
                        · rw [if_neg c16] at H
                          have c16b0 : decide (((rd_T89 l0 x17_1).f1) < 1) = false := decide_eq_false c16
                          clear c16
                          (first | rw [c16b0] | (simp only [i64_w, i32_w]; rw [c16b0]) | skip)
                          have H' := Aside0.mk H
                          clear H
                          have hcz18_0 : wc.cell? ⟨gb108, 0, none⟩ = some (.int .i64 ((rd_T89 l0 x17_1).f0)) := (blk_cell BK108.out 0).trans rfl
                          have hcz18_1 : wc.cell? ⟨gb108, 1, none⟩ = some (.int .i64 ((rd_T89 l0 x17_1).f1)) := (blk_cell BK108.out 1).trans rfl
                          have hfz18_0 := blk_frozen BK108.out 0
                          have hfz18_1 := blk_frozen BK108.out 1
                          go_wp2
                          go_meet
                          case rel => exact ⟨_, (decide (((rd_T89 l0 x17_1).f1) > 64)), (by first | rfl | (simp; done) | (simp [*]; done)), H', ⟨by have := HK1.out; have := HJ5.out; first | omega | exact Nat.le_refl _⟩, ⟨by (with_reducible repeat (first | apply Kd.R_alloc | apply Kd.R_drewN | apply Kd.R_drew)); exact HO_7.out⟩, ⟨by (with_reducible repeat (first | refine blk_drewN ?_ _ | refine blk_drew ?_ | refine blk_alloc ?_ _)); exact BK108.out⟩, ⟨by repeat (first | (with_reducible first | exact HB.out | apply below_alloc | apply pw_below_drewN | apply below_drew1 | refine below_set ?_ GE108.out) | exact HB.out)⟩⟩
                      case rest =>
                        clear HC14
                        try clear c1
                        try clear p1
                        try clear q1
                        try clear hx1
                        try clear c2
                        try clear c2b0
                        try clear c2b1
                        try clear p2
                        try clear c3
                        try clear c3b0
                        try clear c4
                        try clear c4b0
                        try clear c5
                        try clear c5b0
                        try clear p6
                        try clear c9
                        try clear c9b0
                        try clear p10
                        try clear q10
                        try clear hx10
                        try clear c12
                        try clear c13
                        try clear c13b0
                        try clear c13b1
                        try clear c16
                        try clear c16b0
                        try clear hcz10_0
                        try clear hcz10_1
                        try clear hcz11_0
                        try clear hcz11_1
                        try clear hcz15_0
                        try clear hcz15_1
                        try clear hcz17_0
                        try clear hcz17_1
                        try clear hcz18_0
                        try clear hcz18_1
                        try clear hcz8_0
                        try clear hcz8_1
                        try clear hfz10_0
                        try clear hfz10_1
                        try clear hfz11_0
                        try clear hfz11_1
                        try clear hfz15_0
                        try clear hfz15_1
                        try clear hfz17_0
                        try clear hfz17_1
                        try clear hfz18_0
                        try clear hfz18_1
                        try clear hfz8_0
                        try clear hfz8_1
                        try clear hx107_0
                        try clear hx107_1
                        try clear p1
                        try clear p10
                        try clear p107
                        try clear p2
                        try clear q1
                        try clear q10
                        try clear q107
                        obtain ⟨kq, x39_13, rfl, HA, HJ13, HO_7, BK108, HB⟩ := hcut
                        cases kq with
                        | zero => exact absurd HA.out (by simp [packthreadref_CongPlayed.j2])
                        | succ kj13 =>
                          have H := HA.out
                          clear HA
                          simp only [packthreadref_CongPlayed.j2] at H
                          by_cases c19 : x39_13 = true
                          · subst c19
                            have H1 : (some (([] : List (S28)), 2)) = some (r1, r2) := by rw [if_pos rfl] at H; exact H
                            clear H
                            have H := H1
                            clear H1
                            simp only [Option.some.injEq, Prod.mk.injEq] at H
                            obtain ⟨rfl, rfl⟩ := H
                            go_wp2
                            go_ret2
                            exact ⟨_, by first | rfl | (simp [errW_none, errW_some] <;> rfl) | (simp [*, errW_none, errW_some] <;> rfl), by first | exact Kd.R_nil _ _ _ _ _ | exact Kd.N_nil _ _ _ _ _ | exact Kd.V_nil _ _ _ _ _ | exact Kd.Q_nil _ _ _ _ _ | exact Kd.S_nil _ _ _ _ _, by repeat (first | (with_reducible first | exact HB.out | apply below_alloc | apply pw_below_drewN | apply below_drew1 | refine below_set ?_ GE108.out) | exact HB.out)⟩
                          · replace c19 := Bool.eq_false_iff.mpr c19
                            subst c19
                            have H1 : (packthreadref_CongPlayed.l1 kj13 x4_1 x5_1 x6_1 x7_1 0 l0 (l0.length : Int) x17_1 ((rd_T89 l0 x17_1).f0) ((rd_T89 l0 x17_1).f1)) = some (r1, r2) := by rw [if_neg (show ¬ (false = true) by decide)] at H; exact H
                            clear H
                            have H := H1
                            clear H1
                            have H' := Aside0.mk H
                            clear H
                            go_wp2
                            go_loopg [4, 6, 10] kj13 (fun kq v4 v6 v10 w' => ∃ (x4_4 : Int) (x6_4 : Int) (x10_4 : Int), v4 = .int .i64 x4_4 ∧ v6 = .int .i64 x6_4 ∧ v10 = .int .i64 x10_4 ∧ Aside0 (packthreadref_CongPlayed.l1 kq x4_4 x5_1 x6_4 x7_1 x10_4 l0 (l0.length : Int) x17_1 ((rd_T89 l0 x17_1).f0) ((rd_T89 l0 x17_1).f1) = some (r1, r2)) ∧ Aside0 (kq ≤ kj13) ∧ Aside0 (Kd.R k28 28 w' w.heap.size (fun _ => True) u7 x7_1) ∧ Aside0 (w'.heap[gb108]? = some (.cells #[.int .i64 ((rd_T89 l0 x17_1).f0), .int .i64 ((rd_T89 l0 x17_1).f1)] 89 (0, 0))) ∧ Aside0 (Below w.heap.size w w'))
                            case atStart => exact ⟨(x4_1), (x6_1), (0), (by first | rfl | (simp; done) | (simp [*]; done)), (by first | rfl | (simp; done) | (simp [*]; done)), (by first | rfl | (simp; done) | (simp [*]; done)), H', ⟨Nat.le_refl _⟩, ⟨by (with_reducible repeat (first | apply Kd.R_alloc | apply Kd.R_drewN | apply Kd.R_drew)); exact HO_7.out⟩, ⟨by (with_reducible repeat (first | refine blk_drewN ?_ _ | refine blk_drew ?_ | refine blk_alloc ?_ _)); exact BK108.out⟩, ⟨by repeat (first | (with_reducible first | exact HB.out | apply below_alloc | apply pw_below_drewN | apply below_drew1 | refine below_set ?_ GE108.out) | exact HB.out)⟩⟩
                            case round =>
                              clear H'
                              try clear c1
                              try clear p1
                              try clear q1
                              try clear hx1
                              try clear c2
                              try clear c2b0
                              try clear c2b1
                              try clear p2
                              try clear c3
                              try clear c3b0
                              try clear c4
                              try clear c4b0
                              try clear c5
                              try clear c5b0
                              try clear p6
                              try clear c9
                              try clear c9b0
                              try clear p10
                              try clear q10
                              try clear hx10
                              try clear c12
                              try clear c13
                              try clear c13b0
                              try clear c13b1
                              try clear c16
                              try clear c16b0
                              try clear c19
                              try clear hcz10_0
                              try clear hcz10_1
                              try clear hcz11_0
                              try clear hcz11_1
                              try clear hcz15_0
                              try clear hcz15_1
                              try clear hcz17_0
                              try clear hcz17_1
                              try clear hcz18_0
                              try clear hcz18_1
                              try clear hcz8_0
                              try clear hcz8_1
                              try clear hfz10_0
                              try clear hfz10_1
                              try clear hfz11_0
                              try clear hfz11_1
                              try clear hfz15_0
                              try clear hfz15_1
                              try clear hfz17_0
                              try clear hfz17_1
                              try clear hfz18_0
                              try clear hfz18_1
                              try clear hfz8_0
                              try clear hfz8_1
                              try clear hx107_0
                              try clear hx107_1
                              try clear p1
                              try clear p10
                              try clear p107
                              try clear p2
                              try clear p6
                              try clear q1
                              try clear q10
                              try clear q107
                              obtain ⟨x4_4, x6_4, x10_4, rfl, rfl, rfl, HA, HK4, HO_7, BK108, HB⟩ := hrel
                              cases gk with
                              | zero => exact absurd HA.out (by simp [packthreadref_CongPlayed.l1])
                              | succ k4 =>
                                have H := HA.out
                                clear HA
                                simp only [packthreadref_CongPlayed.l1] at H
                                by_cases c20 : x10_4 < ((rd_T89 l0 x17_1).f1)
                                · rw [if_pos c20] at H
                                  have c20b0 : decide (x10_4 < ((rd_T89 l0 x17_1).f1)) = true := decide_eq_true c20
                                  clear c20
                                  by_cases c21 : x4_4 < x5_1
                                  · rw [if_pos c21] at H
                                    have c21b0 : decide (x4_4 < x5_1) = true := decide_eq_true c21
                                    clear c21
                                    by_cases c22 : x4_4 < 64
                                    · rw [if_pos c22] at H
                                      have c22b0 : decide (x4_4 < 64) = true := decide_eq_true c22
                                      clear c22
                                      have H' := Aside0.mk H
                                      clear H
                                      have hcz23_0 : wr.cell? ⟨gb108, 0, none⟩ = some (.int .i64 ((rd_T89 l0 x17_1).f0)) := (blk_cell BK108.out 0).trans rfl
                                      have hcz23_1 : wr.cell? ⟨gb108, 1, none⟩ = some (.int .i64 ((rd_T89 l0 x17_1).f1)) := (blk_cell BK108.out 1).trans rfl
                                      have hfz23_0 := blk_frozen BK108.out 0
                                      have hfz23_1 := blk_frozen BK108.out 1
                                      go_wp2
                                      go_roundg k4
                                      case measure => have := HK1.out; have := HJ5.out; have := HJ13.out; have := HK4.out; omega
                                      case rel => exact ⟨(wrap64 (x4_4 + 1)), (x6_4), (wrap64 (x10_4 + 1)), (by first | rfl | (simp; done) | (simp [*]; done)), (by first | rfl | (simp; done) | (simp [*]; done)), (by first | rfl | (simp; done) | (simp [*]; done)), H', ⟨by have := HK1.out; have := HJ5.out; have := HJ13.out; have := HK4.out; omega⟩, ⟨by (with_reducible repeat (first | apply Kd.R_alloc | apply Kd.R_drewN | apply Kd.R_drew)); exact HO_7.out⟩, ⟨by (with_reducible repeat (first | refine blk_drewN ?_ _ | refine blk_drew ?_ | refine blk_alloc ?_ _)); exact BK108.out⟩, ⟨by repeat (first | (with_reducible first | exact HB.out | apply below_alloc | apply pw_below_drewN | apply below_drew1 | refine below_set ?_ GE108.out) | exact HB.out)⟩⟩
                                    · rw [if_neg c22] at H
                                      have c22b0 : decide (x4_4 < 64) = false := decide_eq_false c22
                                      clear c22
                                      have H' := Aside0.mk H
                                      clear H
                                      have hcz24_0 : wr.cell? ⟨gb108, 0, none⟩ = some (.int .i64 ((rd_T89 l0 x17_1).f0)) := (blk_cell BK108.out 0).trans rfl
                                      have hcz24_1 : wr.cell? ⟨gb108, 1, none⟩ = some (.int .i64 ((rd_T89 l0 x17_1).f1)) := (blk_cell BK108.out 1).trans rfl
                                      have hfz24_0 := blk_frozen BK108.out 0
                                      have hfz24_1 := blk_frozen BK108.out 1
                                      go_wp2
                                      go_roundg k4
                                      case measure => have := HK1.out; have := HJ5.out; have := HJ13.out; have := HK4.out; omega
                                      case rel => exact ⟨(x4_4), (x6_4), (wrap64 (x10_4 + 1)), (by first | rfl | (simp; done) | (simp [*]; done)), (by first | rfl | (simp; done) | (simp [*]; done)), (by first | rfl | (simp; done) | (simp [*]; done)), H', ⟨by have := HK1.out; have := HJ5.out; have := HJ13.out; have := HK4.out; omega⟩, ⟨by (with_reducible repeat (first | apply Kd.R_alloc | apply Kd.R_drewN | apply Kd.R_drew)); exact HO_7.out⟩, ⟨by (with_reducible repeat (first | refine blk_drewN ?_ _ | refine blk_drew ?_ | refine blk_alloc ?_ _)); exact BK108.out⟩, ⟨by repeat (first | (with_reducible first | exact HB.out | apply below_alloc | apply pw_below_drewN | apply below_drew1 | refine below_set ?_ GE108.out) | exact HB.out)⟩⟩
                                  · rw [if_neg c21] at H
                                    have c21b0 : decide (x4_4 < x5_1) = false := decide_eq_false c21
                                    clear c21
                                    by_cases c25 : (wrap64 (x6_4 + 1)) ≥ x4_4
                                    · rw [if_pos c25] at H
                                      have c25b0 : decide (x4_4 ≤ (wrap64 (x6_4 + 1))) = true := decide_eq_true c25
                                      clear c25
                                      by_cases c26 : x4_4 < 64
                                      · rw [if_pos c26] at H
                                        have c26b0 : decide (x4_4 < 64) = true := decide_eq_true c26
                                        clear c26
                                        have H' := Aside0.mk H
                                        clear H
                                        have hcz27_0 : wr.cell? ⟨gb108, 0, none⟩ = some (.int .i64 ((rd_T89 l0 x17_1).f0)) := (blk_cell BK108.out 0).trans rfl
                                        have hcz27_1 : wr.cell? ⟨gb108, 1, none⟩ = some (.int .i64 ((rd_T89 l0 x17_1).f1)) := (blk_cell BK108.out 1).trans rfl
                                        have hfz27_0 := blk_frozen BK108.out 0
                                        have hfz27_1 := blk_frozen BK108.out 1
                                        go_wp2
                                        go_roundg k4
                                        case measure => have := HK1.out; have := HJ5.out; have := HJ13.out; have := HK4.out; omega
                                        case rel => exact ⟨(wrap64 (x4_4 + 1)), (0), (wrap64 (x10_4 + 1)), (by first | rfl | (simp; done) | (simp [*]; done)), (by first | rfl | (simp; done) | (simp [*]; done)), (by first | rfl | (simp; done) | (simp [*]; done)), H', ⟨by have := HK1.out; have := HJ5.out; have := HJ13.out; have := HK4.out; omega⟩, ⟨by (with_reducible repeat (first | apply Kd.R_alloc | apply Kd.R_drewN | apply Kd.R_drew)); exact HO_7.out⟩, ⟨by (with_reducible repeat (first | refine blk_drewN ?_ _ | refine blk_drew ?_ | refine blk_alloc ?_ _)); exact BK108.out⟩, ⟨by repeat (first | (with_reducible first | exact HB.out | apply below_alloc | apply pw_below_drewN | apply below_drew1 | refine below_set ?_ GE108.out) | exact HB.out)⟩⟩
                                      · rw [if_neg c26] at H
                                        have c26b0 : decide (x4_4 < 64) = false := decide_eq_false c26
                                        clear c26
                                        have H' := Aside0.mk H
                                        clear H
                                        have hcz28_0 : wr.cell? ⟨gb108, 0, none⟩ = some (.int .i64 ((rd_T89 l0 x17_1).f0)) := (blk_cell BK108.out 0).trans rfl
                                        have hcz28_1 : wr.cell? ⟨gb108, 1, none⟩ = some (.int .i64 ((rd_T89 l0 x17_1).f1)) := (blk_cell BK108.out 1).trans rfl
                                        have hfz28_0 := blk_frozen BK108.out 0
                                        have hfz28_1 := blk_frozen BK108.out 1
                                        go_wp2
                                        go_roundg k4
                                        case measure => have := HK1.out; have := HJ5.out; have := HJ13.out; have := HK4.out; omega
                                        case rel => exact ⟨(x4_4), (0), (wrap64 (x10_4 + 1)), (by first | rfl | (simp; done) | (simp [*]; done)), (by first | rfl | (simp; done) | (simp [*]; done)), (by first | rfl | (simp; done) | (simp [*]; done)), H', ⟨by have := HK1.out; have := HJ5.out; have := HJ13.out; have := HK4.out; omega⟩, ⟨by (with_reducible repeat (first | apply Kd.R_alloc | apply Kd.R_drewN | apply Kd.R_drew)); exact HO_7.out⟩, ⟨by (with_reducible repeat (first | refine blk_drewN ?_ _ | refine blk_drew ?_ | refine blk_alloc ?_ _)); exact BK108.out⟩, ⟨by repeat (first | (with_reducible first | exact HB.out | apply below_alloc | apply pw_below_drewN | apply below_drew1 | refine below_set ?_ GE108.out) | exact HB.out)⟩⟩
                                    · rw [if_neg c25] at H
                                      have c25b0 : decide (x4_4 ≤ (wrap64 (x6_4 + 1))) = false := decide_eq_false c25
                                      clear c25
                                      have H' := Aside0.mk H
                                      clear H
                                      have hcz29_0 : wr.cell? ⟨gb108, 0, none⟩ = some (.int .i64 ((rd_T89 l0 x17_1).f0)) := (blk_cell BK108.out 0).trans rfl
                                      have hcz29_1 : wr.cell? ⟨gb108, 1, none⟩ = some (.int .i64 ((rd_T89 l0 x17_1).f1)) := (blk_cell BK108.out 1).trans rfl
                                      have hfz29_0 := blk_frozen BK108.out 0
                                      have hfz29_1 := blk_frozen BK108.out 1
                                      go_wp2
                                      go_roundg k4
                                      case measure => have := HK1.out; have := HJ5.out; have := HJ13.out; have := HK4.out; omega
                                      case rel => exact ⟨(x4_4), (wrap64 (x6_4 + 1)), (wrap64 (x10_4 + 1)), (by first | rfl | (simp; done) | (simp [*]; done)), (by first | rfl | (simp; done) | (simp [*]; done)), (by first | rfl | (simp; done) | (simp [*]; done)), H', ⟨by have := HK1.out; have := HJ5.out; have := HJ13.out; have := HK4.out; omega⟩, ⟨by (with_reducible repeat (first | apply Kd.R_alloc | apply Kd.R_drewN | apply Kd.R_drew)); exact HO_7.out⟩, ⟨by (with_reducible repeat (first | refine blk_drewN ?_ _ | refine blk_drew ?_ | refine blk_alloc ?_ _)); exact BK108.out⟩, ⟨by repeat (first | (with_reducible first | exact HB.out | apply below_alloc | apply pw_below_drewN | apply below_drew1 | refine below_set ?_ GE108.out) | exact HB.out)⟩⟩
                                · rw [if_neg c20] at H
                                  have c20b0 : decide (x10_4 < ((rd_T89 l0 x17_1).f1)) = false := decide_eq_false c20
                                  clear c20
                                  by_cases c30 : x7_1.length < 5864062014805
                                  · rw [if_pos c30] at H
                                    have LMc30 := Aside0.mk c30
                                    clear c30
                                    obtain ⟨y109, hy109⟩ : ∃ y_ : List (S28), y_ = (x7_1 ++ [(⟨x4_4, x5_1, x6_4⟩ : S28)]) := ⟨_, rfl⟩
                                    replace H : (packthreadref_CongPlayed.l0 k4 x4_4 x5_1 x6_4 y109 l0 (l0.length : Int) (wrap64 (x17_1 + 1))) = some (r1, r2) := by first | (rw [hy109]; with_reducible exact H) | (have H2_ := (Option.bind_some _ _).symm.trans H; rw [hy109]; with_reducible exact H2_) | (have H2_ := (Option.bind_some _ _).symm.trans H; with_reducible exact H2_) | with_reducible exact H | (rw [hy109]; exact H) | exact H
                                    have Ny109 := Aside0.mk hy109
                                    clear hy109
                                    have H' := Aside0.mk H
                                    clear H
                                    have hcz31_0 : wr.cell? ⟨gb108, 0, none⟩ = some (.int .i64 ((rd_T89 l0 x17_1).f0)) := (blk_cell BK108.out 0).trans rfl
                                    have hcz31_1 : wr.cell? ⟨gb108, 1, none⟩ = some (.int .i64 ((rd_T89 l0 x17_1).f1)) := (blk_cell BK108.out 1).trans rfl
                                    have hfz31_0 := blk_frozen BK108.out 0
                                    have hfz31_1 := blk_frozen BK108.out 1
                                    go_wp2_with (first | ((with_reducible refine gate_builtin (b := .append) (xs := #[.tmp 72, .tmp 77]) rfl ?_); at_builtin; refine Kd.R_append k28 (w0 := w) w.heap.size rfl (.tmp 72) (.tmp 77) 23 28 (.agg #[(.int .i64 0), (.int .i64 0), (.int .i64 0)]) 24 rfl Try.underlying23 info28 rfl (by decide) (by omega) u7 x7_1 (⟨x4_4, x5_1, x6_4⟩ : S28) [.int .i64 x4_4, .int .i64 x5_1, .int .i64 x6_4] (fun _ => True) (fun _ => False) rfl rfl ?aP (fun _ hk => hk.elim) ?aF ?aO ?aB ?aS ?aL ?_; (case aP => exact k28_mkM _ _ _ (⟨x4_4, x5_1, x6_4⟩ : S28)); (case aB => exact (by repeat (first | (with_reducible first | exact HB.out | apply below_alloc | apply pw_below_drewN | apply below_drew1 | refine below_set ?_ GE108.out) | exact HB.out))); (case aF => exact (fun _ _ => trivial)); (case aO => exact (by (with_reducible repeat (first | apply Kd.R_alloc | apply Kd.R_drewN | apply Kd.R_drew)); exact HO_7.out)); (case aS => exact (below_size (by repeat (first | (with_reducible first | exact HB.out | apply below_alloc | apply pw_below_drewN | apply below_drew1 | refine below_set ?_ GE108.out) | exact HB.out)))); (case aL => have := LMc30.out; omega); intro v110 w32 ho hb hg hat; rw [← Ny109.out] at ho; have n0_ := Aside0.mk (blk_grown (g := gb108) (o := .cells #[.int .i64 ((rd_T89 l0 x17_1).f0), .int .i64 ((rd_T89 l0 x17_1).f1)] 89 (0, 0)) (by (with_reducible repeat (first | refine blk_drewN ?_ _ | refine blk_drew ?_ | refine blk_alloc ?_ _)); exact BK108.out) hg (Kd.R_ne HO_7.out BK108.out (by decide))); have n1_ := Aside0.mk (hb); have n2_ := Aside0.mk (ho); clear BK108; clear HB; clear HO_7; have BK108 := n0_; have HB := n1_; have HO111 := n2_; clear n0_ n1_ n2_; clear ho hb hg hat))
                                    go_roundg k4
                                    case measure => have := HK1.out; have := HJ5.out; have := HJ13.out; have := HK4.out; omega
                                    case rel => exact ⟨(x4_4), (x5_1), (x6_4), (y109), (wrap64 (x17_1 + 1)), (by first | rfl | (simp; done) | (simp [*]; done)), (by first | rfl | (simp; done) | (simp [*]; done)), (by first | rfl | (simp; done) | (simp [*]; done)), (by first | rfl | (simp; done) | (simp [*]; done)), H', ⟨by have := HK1.out; have := HJ5.out; have := HJ13.out; have := HK4.out; omega⟩, ⟨by (with_reducible repeat (first | apply Kd.R_alloc | apply Kd.R_drewN | apply Kd.R_drew)); exact HO111.out⟩, ⟨by repeat (first | (with_reducible first | exact HB.out | apply below_alloc | apply pw_below_drewN | apply below_drew1 | refine below_set ?_ GE108.out) | exact HB.out)⟩⟩
                                  · rw [if_neg c30] at H
                                    exact absurd H (by simp)
                    · rw [if_neg c13] at H
                      have c13b0 : (((rd_T89 l0 x17_1).f0) == 1) = false := beq_eq_false_iff_ne.mpr c13
                      have c13b1 : (((rd_T89 l0 x17_1).f0) != 1) = true := bne_iff_ne.mpr c13
                      by_cases c33 : (wrap64 (Int.tdiv x4_1 2)) < 2
                      · rw [if_pos c33] at H
                        have c33b0 : decide ((wrap64 (Int.tdiv x4_1 2)) < 2) = true := decide_eq_true c33
                        clear c33
                        by_cases c34 : ((rd_T89 l0 x17_1).f0) = 3
                        · rw [if_pos c34] at H
                          have c34b0 : (((rd_T89 l0 x17_1).f0) == 3) = true := beq_iff_eq.mpr c34
                          have c34b1 : (((rd_T89 l0 x17_1).f0) != 3) = false := bne_eq_false_iff_eq.mpr c34
                          clear c34
                          by_cases c35 : x7_1.length < 5864062014805
                          · rw [if_pos c35] at H
                            have LMc35 := Aside0.mk c35
                            clear c35
                            obtain ⟨y112, hy112⟩ : ∃ y_ : List (S28), y_ = (x7_1 ++ [(⟨1, 2, 0⟩ : S28)]) := ⟨_, rfl⟩
                            replace H : (packthreadref_CongPlayed.l0 kj5 1 2 0 y112 l0 (l0.length : Int) (wrap64 (x17_1 + 1))) = some (r1, r2) := by first | (rw [hy112]; with_reducible exact H) | (have H2_ := (Option.bind_some _ _).symm.trans H; rw [hy112]; with_reducible exact H2_) | (have H2_ := (Option.bind_some _ _).symm.trans H; with_reducible exact H2_) | with_reducible exact H | (rw [hy112]; exact H) | exact H
                            have Ny112 := Aside0.mk hy112
                            clear hy112
                            have H' := Aside0.mk H
                            clear H
                            have hcz36_0 : wc.cell? ⟨gb108, 0, none⟩ = some (.int .i64 ((rd_T89 l0 x17_1).f0)) := (blk_cell BK108.out 0).trans rfl
                            have hcz36_1 : wc.cell? ⟨gb108, 1, none⟩ = some (.int .i64 ((rd_T89 l0 x17_1).f1)) := (blk_cell BK108.out 1).trans rfl
                            have hfz36_0 := blk_frozen BK108.out 0
                            have hfz36_1 := blk_frozen BK108.out 1
                            go_wp2_with (first | ((with_reducible refine gate_builtin (b := .append) (xs := #[.tmp 72, .tmp 77]) rfl ?_); at_builtin; refine Kd.R_append k28 (w0 := w) w.heap.size rfl (.tmp 72) (.tmp 77) 23 28 (.agg #[(.int .i64 0), (.int .i64 0), (.int .i64 0)]) 24 rfl Try.underlying23 info28 rfl (by decide) (by omega) u7 x7_1 (⟨1, 2, 0⟩ : S28) [.int .i64 1, .int .i64 2, .int .i64 0] (fun _ => True) (fun _ => False) rfl rfl ?aP (fun _ hk => hk.elim) ?aF ?aO ?aB ?aS ?aL ?_; (case aP => exact k28_mkM _ _ _ (⟨1, 2, 0⟩ : S28)); (case aB => exact (by repeat (first | (with_reducible first | exact HB.out | apply below_alloc | apply pw_below_drewN | apply below_drew1 | refine below_set ?_ GE108.out) | exact HB.out))); (case aF => exact (fun _ _ => trivial)); (case aO => exact (by (with_reducible repeat (first | apply Kd.R_alloc | apply Kd.R_drewN | apply Kd.R_drew)); exact HO_7.out)); (case aS => exact (below_size (by repeat (first | (with_reducible first | exact HB.out | apply below_alloc | apply pw_below_drewN | apply below_drew1 | refine below_set ?_ GE108.out) | exact HB.out)))); (case aL => have := LMc35.out; omega); intro v113 w37 ho hb hg hat; rw [← Ny112.out] at ho; have n0_ := Aside0.mk (blk_grown (g := gb108) (o := .cells #[.int .i64 ((rd_T89 l0 x17_1).f0), .int .i64 ((rd_T89 l0 x17_1).f1)] 89 (0, 0)) (by (with_reducible repeat (first | refine blk_drewN ?_ _ | refine blk_drew ?_ | refine blk_alloc ?_ _)); exact BK108.out) hg (Kd.R_ne HO_7.out BK108.out (by decide))); have n1_ := Aside0.mk (hb); have n2_ := Aside0.mk (ho); clear BK108; clear HB; clear HO_7; have BK108 := n0_; have HB := n1_; have HO114 := n2_; clear n0_ n1_ n2_; clear ho hb hg hat))
                            go_roundg kj5
                            case measure => have := HK1.out; have := HJ5.out; omega
                            case rel => exact ⟨(1), (2), (0), (y112), (wrap64 (x17_1 + 1)), (by first | rfl | (simp; done) | (simp [*]; done)), (by first | rfl | (simp; done) | (simp [*]; done)), (by first | rfl | (simp; done) | (simp [*]; done)), (by first | rfl | (simp; done) | (simp [*]; done)), H', ⟨by have := HK1.out; have := HJ5.out; omega⟩, ⟨by (with_reducible repeat (first | apply Kd.R_alloc | apply Kd.R_drewN | apply Kd.R_drew)); exact HO114.out⟩, ⟨by repeat (first | (with_reducible first | exact HB.out | apply below_alloc | apply pw_below_drewN | apply below_drew1 | refine below_set ?_ GE108.out) | exact HB.out)⟩⟩
                          · rw [if_neg c35] at H
                            exact absurd H (by simp)
                        · rw [if_neg c34] at H
                          have c34b0 : (((rd_T89 l0 x17_1).f0) == 3) = false := beq_eq_false_iff_ne.mpr c34
                          have c34b1 : (((rd_T89 l0 x17_1).f0) != 3) = true := bne_iff_ne.mpr c34
                          by_cases c38 : x7_1.length < 5864062014805
                          · rw [if_pos c38] at H
                            have LMc38 := Aside0.mk c38
                            clear c38
                            obtain ⟨y115, hy115⟩ : ∃ y_ : List (S28), y_ = (x7_1 ++ [(⟨2, 2, 0⟩ : S28)]) := ⟨_, rfl⟩
                            replace H : (packthreadref_CongPlayed.l0 kj5 2 2 0 y115 l0 (l0.length : Int) (wrap64 (x17_1 + 1))) = some (r1, r2) := by first | (rw [hy115]; with_reducible exact H) | (have H2_ := (Option.bind_some _ _).symm.trans H; rw [hy115]; with_reducible exact H2_) | (have H2_ := (Option.bind_some _ _).symm.trans H; with_reducible exact H2_) | with_reducible exact H | (rw [hy115]; exact H) | exact H
                            have Ny115 := Aside0.mk hy115
                            clear hy115
                            have H' := Aside0.mk H
                            clear H
                            have hcz39_0 : wc.cell? ⟨gb108, 0, none⟩ = some (.int .i64 ((rd_T89 l0 x17_1).f0)) := (blk_cell BK108.out 0).trans rfl
                            have hcz39_1 : wc.cell? ⟨gb108, 1, none⟩ = some (.int .i64 ((rd_T89 l0 x17_1).f1)) := (blk_cell BK108.out 1).trans rfl
                            have hfz39_0 := blk_frozen BK108.out 0
                            have hfz39_1 := blk_frozen BK108.out 1
                            go_wp2_with (first | ((with_reducible refine gate_builtin (b := .append) (xs := #[.tmp 72, .tmp 77]) rfl ?_); at_builtin; refine Kd.R_append k28 (w0 := w) w.heap.size rfl (.tmp 72) (.tmp 77) 23 28 (.agg #[(.int .i64 0), (.int .i64 0), (.int .i64 0)]) 24 rfl Try.underlying23 info28 rfl (by decide) (by omega) u7 x7_1 (⟨2, 2, 0⟩ : S28) [.int .i64 2, .int .i64 2, .int .i64 0] (fun _ => True) (fun _ => False) rfl rfl ?aP (fun _ hk => hk.elim) ?aF ?aO ?aB ?aS ?aL ?_; (case aP => exact k28_mkM _ _ _ (⟨2, 2, 0⟩ : S28)); (case aB => exact (by repeat (first | (with_reducible first | exact HB.out | apply below_alloc | apply pw_below_drewN | apply below_drew1 | refine below_set ?_ GE108.out) | exact HB.out))); (case aF => exact (fun _ _ => trivial)); (case aO => exact (by (with_reducible repeat (first | apply Kd.R_alloc | apply Kd.R_drewN | apply Kd.R_drew)); exact HO_7.out)); (case aS => exact (below_size (by repeat (first | (with_reducible first | exact HB.out | apply below_alloc | apply pw_below_drewN | apply below_drew1 | refine below_set ?_ GE108.out) | exact HB.out)))); (case aL => have := LMc38.out; omega); intro v116 w40 ho hb hg hat; rw [← Ny115.out] at ho; have n0_ := Aside0.mk (blk_grown (g := gb108) (o := .cells #[.int .i64 ((rd_T89 l0 x17_1).f0), .int .i64 ((rd_T89 l0 x17_1).f1)] 89 (0, 0)) (by (with_reducible repeat (first | refine blk_drewN ?_ _ | refine blk_drew ?_ | refine blk_alloc ?_ _)); exact BK108.out) hg (Kd.R_ne HO_7.out BK108.out (by decide))); have n1_ := Aside0.mk (hb); have n2_ := Aside0.mk (ho); clear BK108; clear HB; clear HO_7; have BK108 := n0_; have HB := n1_; have HO117 := n2_; clear n0_ n1_ n2_; clear ho hb hg hat))
                            go_roundg kj5
                            case measure => have := HK1.out; have := HJ5.out; omega
                            case rel => exact ⟨(2), (2), (0), (y115), (wrap64 (x17_1 + 1)), (by first | rfl | (simp; done) | (simp [*]; done)), (by first | rfl | (simp; done) | (simp [*]; done)), (by first | rfl | (simp; done) | (simp [*]; done)), (by first | rfl | (simp; done) | (simp [*]; done)), H', ⟨by have := HK1.out; have := HJ5.out; omega⟩, ⟨by (with_reducible repeat (first | apply Kd.R_alloc | apply Kd.R_drewN | apply Kd.R_drew)); exact HO117.out⟩, ⟨by repeat (first | (with_reducible first | exact HB.out | apply below_alloc | apply pw_below_drewN | apply below_drew1 | refine below_set ?_ GE108.out) | exact HB.out)⟩⟩
                          · rw [if_neg c38] at H
                            exact absurd H (by simp)
                      · rw [if_neg c33] at H
                        have c33b0 : decide ((wrap64 (Int.tdiv x4_1 2)) < 2) = false := decide_eq_false c33
                        clear c33
                        by_cases c41 : ((rd_T89 l0 x17_1).f0) = 3
                        · rw [if_pos c41] at H
                          have c41b0 : (((rd_T89 l0 x17_1).f0) == 3) = true := beq_iff_eq.mpr c41
                          have c41b1 : (((rd_T89 l0 x17_1).f0) != 3) = false := bne_eq_false_iff_eq.mpr c41
                          clear c41
                          by_cases c42 : x7_1.length < 5864062014805
                          · rw [if_pos c42] at H
                            have LMc42 := Aside0.mk c42
                            clear c42
                            obtain ⟨y118, hy118⟩ : ∃ y_ : List (S28), y_ = (x7_1 ++ [(⟨1, wrap64 (Int.tdiv x4_1 2), 0⟩ : S28)]) := ⟨_, rfl⟩
                            replace H : (packthreadref_CongPlayed.l0 kj5 1 (wrap64 (Int.tdiv x4_1 2)) 0 y118 l0 (l0.length : Int) (wrap64 (x17_1 + 1))) = some (r1, r2) := by first | (rw [hy118]; with_reducible exact H) | (have H2_ := (Option.bind_some _ _).symm.trans H; rw [hy118]; with_reducible exact H2_) | (have H2_ := (Option.bind_some _ _).symm.trans H; with_reducible exact H2_) | with_reducible exact H | (rw [hy118]; exact H) | exact H
                            have Ny118 := Aside0.mk hy118
                            clear hy118
                            have H' := Aside0.mk H
                            clear H
                            have hcz43_0 : wc.cell? ⟨gb108, 0, none⟩ = some (.int .i64 ((rd_T89 l0 x17_1).f0)) := (blk_cell BK108.out 0).trans rfl
                            have hcz43_1 : wc.cell? ⟨gb108, 1, none⟩ = some (.int .i64 ((rd_T89 l0 x17_1).f1)) := (blk_cell BK108.out 1).trans rfl
                            have hfz43_0 := blk_frozen BK108.out 0
                            have hfz43_1 := blk_frozen BK108.out 1
                            go_wp2_with (first | ((with_reducible refine gate_builtin (b := .append) (xs := #[.tmp 72, .tmp 77]) rfl ?_); at_builtin; refine Kd.R_append k28 (w0 := w) w.heap.size rfl (.tmp 72) (.tmp 77) 23 28 (.agg #[(.int .i64 0), (.int .i64 0), (.int .i64 0)]) 24 rfl Try.underlying23 info28 rfl (by decide) (by omega) u7 x7_1 (⟨1, wrap64 (Int.tdiv x4_1 2), 0⟩ : S28) [.int .i64 1, .int .i64 (wrap64 (Int.tdiv x4_1 2)), .int .i64 0] (fun _ => True) (fun _ => False) rfl rfl ?aP (fun _ hk => hk.elim) ?aF ?aO ?aB ?aS ?aL ?_; (case aP => exact k28_mkM _ _ _ (⟨1, wrap64 (Int.tdiv x4_1 2), 0⟩ : S28)); (case aB => exact (by repeat (first | (with_reducible first | exact HB.out | apply below_alloc | apply pw_below_drewN | apply below_drew1 | refine below_set ?_ GE108.out) | exact HB.out))); (case aF => exact (fun _ _ => trivial)); (case aO => exact (by (with_reducible repeat (first | apply Kd.R_alloc | apply Kd.R_drewN | apply Kd.R_drew)); exact HO_7.out)); (case aS => exact (below_size (by repeat (first | (with_reducible first | exact HB.out | apply below_alloc | apply pw_below_drewN | apply below_drew1 | refine below_set ?_ GE108.out) | exact HB.out)))); (case aL => have := LMc42.out; omega); intro v119 w44 ho hb hg hat; rw [← Ny118.out] at ho; have n0_ := Aside0.mk (blk_grown (g := gb108) (o := .cells #[.int .i64 ((rd_T89 l0 x17_1).f0), .int .i64 ((rd_T89 l0 x17_1).f1)] 89 (0, 0)) (by (with_reducible repeat (first | refine blk_drewN ?_ _ | refine blk_drew ?_ | refine blk_alloc ?_ _)); exact BK108.out) hg (Kd.R_ne HO_7.out BK108.out (by decide))); have n1_ := Aside0.mk (hb); have n2_ := Aside0.mk (ho); clear BK108; clear HB; clear HO_7; have BK108 := n0_; have HB := n1_; have HO120 := n2_; clear n0_ n1_ n2_; clear ho hb hg hat))
                            go_roundg kj5
                            case measure => have := HK1.out; have := HJ5.out; omega
                            case rel => exact ⟨(1), (wrap64 (Int.tdiv x4_1 2)), (0), (y118), (wrap64 (x17_1 + 1)), (by first | rfl | (simp; done) | (simp [*]; done)), (by first | rfl | (simp; done) | (simp [*]; done)), (by first | rfl | (simp; done) | (simp [*]; done)), (by first | rfl | (simp; done) | (simp [*]; done)), H', ⟨by have := HK1.out; have := HJ5.out; omega⟩, ⟨by (with_reducible repeat (first | apply Kd.R_alloc | apply Kd.R_drewN | apply Kd.R_drew)); exact HO120.out⟩, ⟨by repeat (first | (with_reducible first | exact HB.out | apply below_alloc | apply pw_below_drewN | apply below_drew1 | refine below_set ?_ GE108.out) | exact HB.out)⟩⟩
                          · rw [if_neg c42] at H
                            exact absurd H (by simp)
                        · rw [if_neg c41] at H
                          have c41b0 : (((rd_T89 l0 x17_1).f0) == 3) = false := beq_eq_false_iff_ne.mpr c41
                          have c41b1 : (((rd_T89 l0 x17_1).f0) != 3) = true := bne_iff_ne.mpr c41
                          by_cases c45 : x7_1.length < 5864062014805
                          · rw [if_pos c45] at H
                            have LMc45 := Aside0.mk c45
                            clear c45
                            obtain ⟨y121, hy121⟩ : ∃ y_ : List (S28), y_ = (x7_1 ++ [(⟨wrap64 (Int.tdiv x4_1 2), wrap64 (Int.tdiv x4_1 2), 0⟩ : S28)]) := ⟨_, rfl⟩
                            replace H : (packthreadref_CongPlayed.l0 kj5 (wrap64 (Int.tdiv x4_1 2)) (wrap64 (Int.tdiv x4_1 2)) 0 y121 l0 (l0.length : Int) (wrap64 (x17_1 + 1))) = some (r1, r2) := by first | (rw [hy121]; with_reducible exact H) | (have H2_ := (Option.bind_some _ _).symm.trans H; rw [hy121]; with_reducible exact H2_) | (have H2_ := (Option.bind_some _ _).symm.trans H; with_reducible exact H2_) | with_reducible exact H | (rw [hy121]; exact H) | exact H
                            have Ny121 := Aside0.mk hy121
                            clear hy121
                            have H' := Aside0.mk H
                            clear H
                            have hcz46_0 : wc.cell? ⟨gb108, 0, none⟩ = some (.int .i64 ((rd_T89 l0 x17_1).f0)) := (blk_cell BK108.out 0).trans rfl
                            have hcz46_1 : wc.cell? ⟨gb108, 1, none⟩ = some (.int .i64 ((rd_T89 l0 x17_1).f1)) := (blk_cell BK108.out 1).trans rfl
                            have hfz46_0 := blk_frozen BK108.out 0
                            have hfz46_1 := blk_frozen BK108.out 1
                            go_wp2_with (first | ((with_reducible refine gate_builtin (b := .append) (xs := #[.tmp 72, .tmp 77]) rfl ?_); at_builtin; refine Kd.R_append k28 (w0 := w) w.heap.size rfl (.tmp 72) (.tmp 77) 23 28 (.agg #[(.int .i64 0), (.int .i64 0), (.int .i64 0)]) 24 rfl Try.underlying23 info28 rfl (by decide) (by omega) u7 x7_1 (⟨wrap64 (Int.tdiv x4_1 2), wrap64 (Int.tdiv x4_1 2), 0⟩ : S28) [.int .i64 (wrap64 (Int.tdiv x4_1 2)), .int .i64 (wrap64 (Int.tdiv x4_1 2)), .int .i64 0] (fun _ => True) (fun _ => False) rfl rfl ?aP (fun _ hk => hk.elim) ?aF ?aO ?aB ?aS ?aL ?_; (case aP => exact k28_mkM _ _ _ (⟨wrap64 (Int.tdiv x4_1 2), wrap64 (Int.tdiv x4_1 2), 0⟩ : S28)); (case aB => exact (by repeat (first | (with_reducible first | exact HB.out | apply below_alloc | apply pw_below_drewN | apply below_drew1 | refine below_set ?_ GE108.out) | exact HB.out))); (case aF => exact (fun _ _ => trivial)); (case aO => exact (by (with_reducible repeat (first | apply Kd.R_alloc | apply Kd.R_drewN | apply Kd.R_drew)); exact HO_7.out)); (case aS => exact (below_size (by repeat (first | (with_reducible first | exact HB.out | apply below_alloc | apply pw_below_drewN | apply below_drew1 | refine below_set ?_ GE108.out) | exact HB.out)))); (case aL => have := LMc45.out; omega); intro v122 w47 ho hb hg hat; rw [← Ny121.out] at ho; have n0_ := Aside0.mk (blk_grown (g := gb108) (o := .cells #[.int .i64 ((rd_T89 l0 x17_1).f0), .int .i64 ((rd_T89 l0 x17_1).f1)] 89 (0, 0)) (by (with_reducible repeat (first | refine blk_drewN ?_ _ | refine blk_drew ?_ | refine blk_alloc ?_ _)); exact BK108.out) hg (Kd.R_ne HO_7.out BK108.out (by decide))); have n1_ := Aside0.mk (hb); have n2_ := Aside0.mk (ho); clear BK108; clear HB; clear HO_7; have BK108 := n0_; have HB := n1_; have HO123 := n2_; clear n0_ n1_ n2_; clear ho hb hg hat))
                            go_roundg kj5
                            case measure => have := HK1.out; have := HJ5.out; omega
                            case rel => exact ⟨(wrap64 (Int.tdiv x4_1 2)), (wrap64 (Int.tdiv x4_1 2)), (0), (y121), (wrap64 (x17_1 + 1)), (by first | rfl | (simp; done) | (simp [*]; done)), (by first | rfl | (simp; done) | (simp [*]; done)), (by first | rfl | (simp; done) | (simp [*]; done)), (by first | rfl | (simp; done) | (simp [*]; done)), H', ⟨by have := HK1.out; have := HJ5.out; omega⟩, ⟨by (with_reducible repeat (first | apply Kd.R_alloc | apply Kd.R_drewN | apply Kd.R_drew)); exact HO123.out⟩, ⟨by repeat (first | (with_reducible first | exact HB.out | apply below_alloc | apply pw_below_drewN | apply below_drew1 | refine below_set ?_ GE108.out) | exact HB.out)⟩⟩
                          · rw [if_neg c45] at H
                            exact absurd H (by simp)
            · rw [if_neg c5] at H
              exact absurd H (by simp)
          · rw [if_neg c4] at H
            exact absurd H (by simp)
        · rw [if_neg c3] at H
          have c3b0 : decide (x17_1 < (l0.length : Int)) = false := decide_eq_false c3
          clear c3
          simp only [Option.some.injEq, Prod.mk.injEq] at H
          obtain ⟨rfl, rfl⟩ := H
          go_wp2
          go_ret2
          exact ⟨_, by first | rfl | (simp [errW_none, errW_some] <;> rfl) | (simp [*, errW_none, errW_some] <;> rfl), by (with_reducible repeat (first | apply Kd.R_alloc | apply Kd.R_drewN | apply Kd.R_drew)); exact HO_7.out, by repeat (first | (with_reducible first | exact HB.out | apply below_alloc | apply pw_below_drewN | apply below_drew1) | exact HB.out)⟩

end Go.Proofs.Ytjhmjgcebijmiaa.HCongPlays
