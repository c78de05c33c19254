/- The contracts of the functions that the law TopShaped reaches: Go's code comes to what these Lean functions tell (written by a program of ours and the kit's, out of the translation). -/
import Derived.Test.YtnbpkibefgahlaaHTopShapedx0
import Derived.Test.YtnbpkibefgahlaaHTopShapedx3
namespace Go.Proofs.Ytnbpkibefgahlaa.HTopShaped
open Go.RowKit Go.Proofs.YtnbpkibefgahlaaW.PrintWords Go.Proofs.YtnbpkibefgahlaaW.PrintLast Go.Proofs.YtnbpkibefgahlaaW.PrintMore
attribute [local go_sem] max2_int min2_int max_two min_two max_three min_three max_four min_four   -- for this text's walks alone
set_option linter.unusedVariables false
set_option linter.unusedSimpArgs false

/-! ### bucket_Play: function 14 -/
mutual
def bucket_Play.l0 : Nat → Int → Int → List Bool → Int → Int → List (S37) → Int → Int → Option (List Bool × Int)
  | 0, _, _, _, _, _, _, _, _ => none
  | k + 1, x0, x1, x8, x9, x10, x22, x23, x24 => if x24 < x23 then (if 0 ≤ x24 then (if x24 < (x22.length : Int) then ((bucket_in.f ((rd_T37 x22 x24).f0) 0 1048576).bind fun t140 => (if t140 = true then ((bucket_in.f ((rd_T37 x22 x24).f1) 1 1500).bind fun t141 => (bucket_Play.j1 k x0 x1 x8 x9 x10 x24 x22 x23 x24 (!t141) ((rd_T37 x22 x24).f0) ((rd_T37 x22 x24).f1))) else (bucket_Play.j1 k x0 x1 x8 x9 x10 x24 x22 x23 x24 true ((rd_T37 x22 x24).f0) ((rd_T37 x22 x24).f1)))) else (none)) else (none)) else (some (x8, 0))
def bucket_Play.j2 : Nat → Int → Int → List Bool → Int → Int → Int → List (S37) → Int → Int → Int → Int → Option (List Bool × Int)
  | 0, _, _, _, _, _, _, _, _, _, _, _ => none
  | k + 1, x0, x1, x8, x9, x10, x11, x22, x23, x24, x140000, x140001 => if x11 > 0 then (if x140001 ≤ (mn x1 (wrap64 (x9 + (wrap64 (x0 * (wrap64 (x140000 - x10))))))) then (if x8.length < 140737488355328 then (bucket_Play.l0 k x0 x1 (x8 ++ [decide (x140001 ≤ (mn x1 (wrap64 (x9 + (wrap64 (x0 * (wrap64 (x140000 - x10))))))))]) (wrap64 ((mn x1 (wrap64 (x9 + (wrap64 (x0 * (wrap64 (x140000 - x10))))))) - x140001)) x140000 x22 x23 (wrap64 (x24 + 1))) else (none)) else (if x8.length < 140737488355328 then (bucket_Play.l0 k x0 x1 (x8 ++ [decide (x140001 ≤ (mn x1 (wrap64 (x9 + (wrap64 (x0 * (wrap64 (x140000 - x10))))))))]) (mn x1 (wrap64 (x9 + (wrap64 (x0 * (wrap64 (x140000 - x10))))))) x140000 x22 x23 (wrap64 (x24 + 1))) else (none))) else (if x140001 ≤ x9 then (if x8.length < 140737488355328 then (bucket_Play.l0 k x0 x1 (x8 ++ [decide (x140001 ≤ x9)]) (wrap64 (x9 - x140001)) x140000 x22 x23 (wrap64 (x24 + 1))) else (none)) else (if x8.length < 140737488355328 then (bucket_Play.l0 k x0 x1 (x8 ++ [decide (x140001 ≤ x9)]) x9 x140000 x22 x23 (wrap64 (x24 + 1))) else (none)))
def bucket_Play.j1 : Nat → Int → Int → List Bool → Int → Int → Int → List (S37) → Int → Int → Bool → Int → Int → Option (List Bool × Int)
  | 0, _, _, _, _, _, _, _, _, _, _, _, _ => none
  | k + 1, x0, x1, x8, x9, x10, x11, x22, x23, x24, x29, x140000, x140001 => if x29 = true then (some (([] : List Bool), 2)) else (if x11 > 0 then (if x140000 < x10 then (some (([] : List Bool), 17)) else (bucket_Play.j2 k x0 x1 x8 x9 x10 x11 x22 x23 x24 x140000 x140001)) else (bucket_Play.j2 k x0 x1 x8 x9 x10 x11 x22 x23 x24 x140000 x140001))
end
def bucket_Play.f (k : Nat) (a0 : Int) (a1 : Int) (l2 : List (S37)) : Option (List Bool × Int) := (bucket_may.f a0 a1).bind fun t137 => (if t137 = true then (if (l2.length : Int) > 300 then (some (([] : List Bool), 1)) else (bucket_Play.l0 k a0 a1 ([] : List Bool) a1 0 l2 (l2.length : Int) 0)) else (some (([] : List Bool), 2)))
theorem bucket_Play.mono_l : ∀ k, (∀ y0 y1 y2 y3 y4 y5 y6 y7, LeO (bucket_Play.l0 k y0 y1 y2 y3 y4 y5 y6 y7) (bucket_Play.l0 (k + 1) y0 y1 y2 y3 y4 y5 y6 y7)) ∧ (∀ y0 y1 y2 y3 y4 y5 y6 y7 y8 y9 y10, LeO (bucket_Play.j2 k y0 y1 y2 y3 y4 y5 y6 y7 y8 y9 y10) (bucket_Play.j2 (k + 1) y0 y1 y2 y3 y4 y5 y6 y7 y8 y9 y10)) ∧ (∀ y0 y1 y2 y3 y4 y5 y6 y7 y8 y9 y10 y11, LeO (bucket_Play.j1 k y0 y1 y2 y3 y4 y5 y6 y7 y8 y9 y10 y11) (bucket_Play.j1 (k + 1) y0 y1 y2 y3 y4 y5 y6 y7 y8 y9 y10 y11))
  | 0 => ⟨fun _ _ _ _ _ _ _ _ r h => by simp [bucket_Play.l0] at h, fun _ _ _ _ _ _ _ _ _ _ _ r h => by simp [bucket_Play.j2] at h, fun _ _ _ _ _ _ _ _ _ _ _ _ r h => by simp [bucket_Play.j1] at h⟩
  | k + 1 => by
    obtain ⟨ih0, ih1, ih2⟩ := bucket_Play.mono_l k
    refine ⟨?_, ?_, ?_⟩
    · intro y0 y1 y2 y3 y4 y5 y6 y7
      unfold bucket_Play.l0
      repeat' first
      | (with_reducible exact ih0 _ _ _ _ _ _ _ _)
      | (with_reducible exact ih1 _ _ _ _ _ _ _ _ _ _ _)
      | (with_reducible exact ih2 _ _ _ _ _ _ _ _ _ _ _ _)
      | (with_reducible exact LeO.refl _)
      | (with_reducible exact LeO.none _)
      | (with_reducible refine LeO.ite ?_ ?_)
      | (with_reducible refine LeO.bind ?_ (fun _ => ?_))
      | exact ih0 _ _ _ _ _ _ _ _
      | exact ih1 _ _ _ _ _ _ _ _ _ _ _
      | exact ih2 _ _ _ _ _ _ _ _ _ _ _ _
      | exact LeO.none _
      | refine LeO.ite ?_ ?_
      | refine LeO.bind ?_ (fun _ => ?_)
    · intro y0 y1 y2 y3 y4 y5 y6 y7 y8 y9 y10
      unfold bucket_Play.j2
      repeat' first
      | (with_reducible exact ih0 _ _ _ _ _ _ _ _)
      | (with_reducible exact ih1 _ _ _ _ _ _ _ _ _ _ _)
      | (with_reducible exact ih2 _ _ _ _ _ _ _ _ _ _ _ _)
      | (with_reducible exact LeO.refl _)
      | (with_reducible exact LeO.none _)
      | (with_reducible refine LeO.ite ?_ ?_)
      | (with_reducible refine LeO.bind ?_ (fun _ => ?_))
      | exact ih0 _ _ _ _ _ _ _ _
      | exact ih1 _ _ _ _ _ _ _ _ _ _ _
      | exact ih2 _ _ _ _ _ _ _ _ _ _ _ _
      | exact LeO.none _
      | refine LeO.ite ?_ ?_
      | refine LeO.bind ?_ (fun _ => ?_)
    · intro y0 y1 y2 y3 y4 y5 y6 y7 y8 y9 y10 y11
      unfold bucket_Play.j1
      repeat' first
      | (with_reducible exact ih0 _ _ _ _ _ _ _ _)
      | (with_reducible exact ih1 _ _ _ _ _ _ _ _ _ _ _)
      | (with_reducible exact ih2 _ _ _ _ _ _ _ _ _ _ _ _)
      | (with_reducible exact LeO.refl _)
      | (with_reducible exact LeO.none _)
      | (with_reducible refine LeO.ite ?_ ?_)
      | (with_reducible refine LeO.bind ?_ (fun _ => ?_))
      | exact ih0 _ _ _ _ _ _ _ _
      | exact ih1 _ _ _ _ _ _ _ _ _ _ _
      | exact ih2 _ _ _ _ _ _ _ _ _ _ _ _
      | exact LeO.none _
      | refine LeO.ite ?_ ?_
      | refine LeO.bind ?_ (fun _ => ?_)
theorem bucket_Play.mono : ∀ a0 a1 a2 k, LeO (bucket_Play.f k a0 a1 a2) (bucket_Play.f (k + 1) a0 a1 a2) := by
  intro a0 a1 a2 k
  obtain ⟨ih0, ih1, ih2⟩ := bucket_Play.mono_l k
  unfold bucket_Play.f
  repeat' first
      | (with_reducible exact ih0 _ _ _ _ _ _ _ _)
      | (with_reducible exact ih1 _ _ _ _ _ _ _ _ _ _ _)
      | (with_reducible exact ih2 _ _ _ _ _ _ _ _ _ _ _ _)
      | (with_reducible exact LeO.refl _)
      | (with_reducible exact LeO.none _)
      | (with_reducible refine LeO.ite ?_ ?_)
      | (with_reducible refine LeO.bind ?_ (fun _ => ?_))
      | exact ih0 _ _ _ _ _ _ _ _
      | exact ih1 _ _ _ _ _ _ _ _ _ _ _
      | exact ih2 _ _ _ _ _ _ _ _ _ _ _ _
      | exact LeO.none _
      | refine LeO.ite ?_ ?_
      | refine LeO.bind ?_ (fun _ => ?_)
set_option maxHeartbeats 8000000 in
set_option maxRecDepth 100000 in
theorem bucket_Play.calls (k : Nat) (a0 : Int) (a1 : Int) (A2 : Option Addr) (c2 : Nat) (l2 : List (S37)) (r1 : List Bool) (r2 : Int) (w : World) (hr2 : Kd.C k37 w A2 l2.length l2) (hc2 : l2.length ≤ c2) (h : bucket_Play.f k a0 a1 l2 = some (r1, r2)) :
    Calls Try.prog 14 #[.int .i64 a0, .int .i64 a1, .slice A2 l2.length c2] w fun e w' => ∃ v0_ : Value, e = .returned (.tuple #[v0_, .int .i64 r2]) ∧ Kd.R Kd.bool 4 w' w.heap.size (fun _ => True) v0_ r1 ∧ Below w.heap.size w w' := by
  have hu37 := Try.underlying37
  have HR2 := Aside0.mk hr2
  have HC2 := Aside0.mk hc2
  clear hr2 hc2
  have HB := Aside0.mk (Below.refl w.heap.size w)
  have H : ((bucket_may.f a0 a1).bind fun t137 => (if t137 = true then (if (l2.length : Int) > 300 then (some (([] : List Bool), 1)) else (bucket_Play.l0 k a0 a1 ([] : List Bool) a1 0 l2 (l2.length : Int) 0)) else (some (([] : List Bool), 2)))) = some (r1, r2) := h
  clear h
  replace H := Option.bind_eq_some_iff.mp H
  obtain ⟨t137, A40, H⟩ := H
  replace H : (if t137 = true then (if (l2.length : Int) > 300 then (some (([] : List Bool), 1)) else (bucket_Play.l0 k a0 a1 ([] : List Bool) a1 0 l2 (l2.length : Int) 0)) else (some (([] : List Bool), 2))) = some (r1, r2) := H
  have A4 := Aside0.mk A40
  clear A40
  by_cases c5 : t137 = true
  · subst c5
    have H1 : (if (l2.length : Int) > 300 then (some (([] : List Bool), 1)) else (bucket_Play.l0 k a0 a1 ([] : List Bool) a1 0 l2 (l2.length : Int) 0)) = some (r1, r2) := by rw [if_pos rfl] at H; exact H
    clear H
    have H := H1
    clear H1
    by_cases c6 : (l2.length : Int) > 300
    · rw [if_pos c6] at H
      have c6b0 : decide (300 < (l2.length : Int)) = true := decide_eq_true c6
      have c6b1 : decide (300 < l2.length) = true := decide_eq_true (by omega)
      clear c6
      simp only [Option.some.injEq, Prod.mk.injEq] at H
      obtain ⟨rfl, rfl⟩ := H
      go_enter Try.func14, Try.ntmps14
      go_wp2_with (first | ((with_reducible refine gate_callee (f := 30) rfl ?_); refine goesL_ (some 16) rfl rfl Try.func30 (by kernel_rfl) rfl #[.int .i64 a0, .int .i64 a1] rfl (by (try simp only [List.map_toArray, List.map_cons, List.map_nil]); first | done | rfl | (simp only [List.length_drop, List.length_take]; rfl)) ?_; (with_reducible refine (bucket_may.calls a0 a1 true _ A4.out).mono ?_); rintro e w' ⟨rfl, ⟨nd, rfl⟩⟩; refine ⟨_, rfl, ?_⟩))
      go_ret2
      exact ⟨_, by first | rfl | (simp [errW_none, errW_some] <;> rfl) | (simp [*, errW_none, errW_some] <;> rfl), by first | exact Kd.R_nil _ _ _ _ _ | exact Kd.N_nil _ _ _ _ _ | exact Kd.V_nil _ _ _ _ _ | exact Kd.Q_nil _ _ _ _ _ | exact Kd.S_nil _ _ _ _ _, by repeat (first | (with_reducible first | exact HB.out | apply below_alloc | apply pw_below_drewN | apply below_drew1) | exact HB.out)⟩
    · rw [if_neg c6] at H
      have c6b0 : decide (300 < (l2.length : Int)) = false := decide_eq_false c6
      have c6b1 : decide (300 < l2.length) = false := decide_eq_false (by omega)
      clear c6
      have H' := Aside0.mk H
      clear H
      go_enter Try.func14, Try.ntmps14
      go_wp2_with (first | ((with_reducible refine gate_callee (f := 30) rfl ?_); refine goesL_ (some 16) rfl rfl Try.func30 (by kernel_rfl) rfl #[.int .i64 a0, .int .i64 a1] rfl (by (try simp only [List.map_toArray, List.map_cons, List.map_nil]); first | done | rfl | (simp only [List.length_drop, List.length_take]; rfl)) ?_; (with_reducible refine (bucket_may.calls a0 a1 true _ A4.out).mono ?_); rintro e w' ⟨rfl, ⟨nd, rfl⟩⟩; refine ⟨_, rfl, ?_⟩))
      go_loopg [8, 9, 10, 24] k (fun kq v8 v9 v10 v24 w' => ∃ (x8_1 : List Bool) (x9_1 : Int) (x10_1 : Int) (x24_1 : Int), v9 = .int .i64 x9_1 ∧ v10 = .int .i64 x10_1 ∧ v24 = .int .i64 x24_1 ∧ Aside0 (bucket_Play.l0 kq a0 a1 x8_1 x9_1 x10_1 l2 (l2.length : Int) x24_1 = some (r1, r2)) ∧ Aside0 (kq ≤ k) ∧ Aside0 (Kd.R Kd.bool 4 w' w.heap.size (fun _ => True) v8 x8_1) ∧ Aside0 (Below w.heap.size w w'))
      case atStart => exact ⟨(([] : List Bool)), (a1), (0), (0), (by first | rfl | (simp; done) | (simp [*]; done)), (by first | rfl | (simp; done) | (simp [*]; done)), (by first | rfl | (simp; done) | (simp [*]; done)), H', ⟨Nat.le_refl _⟩, ⟨by first | exact Kd.R_nil _ _ _ _ _ | exact Kd.N_nil _ _ _ _ _ | exact Kd.V_nil _ _ _ _ _ | exact Kd.Q_nil _ _ _ _ _ | exact Kd.S_nil _ _ _ _ _⟩, ⟨by repeat (first | (with_reducible first | exact HB.out | apply below_alloc | apply pw_below_drewN | apply below_drew1) | exact HB.out)⟩⟩
      case round =>
        clear H'
        try clear c1
        try clear c2
        try clear p2
        try clear c3
        try clear c5
        try clear c6
        try clear c6b0
        try clear c6b1
        obtain ⟨x8_1, x9_1, x10_1, x24_1, rfl, rfl, rfl, HA, HK1, HO_8, HB⟩ := hrel
        cases gk with
        | zero => exact absurd HA.out (by simp [bucket_Play.l0])
        | succ k1 =>
          have H := HA.out
          clear HA
          simp only [bucket_Play.l0] at H
          by_cases c7 : x24_1 < (l2.length : Int)
          · rw [if_pos c7] at H
            have c7b0 : decide (x24_1 < (l2.length : Int)) = true := decide_eq_true c7
            clear c7
            by_cases c8 : 0 ≤ x24_1
            · rw [if_pos c8] at H
              have c8b0 : decide (0 ≤ x24_1) = true := decide_eq_true c8
              clear c8
              by_cases c9 : x24_1 < (l2.length : Int)
              · rw [if_pos c9] at H
                have c9b0 : decide (x24_1 < (l2.length : Int)) = true := decide_eq_true c9
                clear c9
                have HC10 := Aside0.mk H
                clear H
                have p138 : 0 ≤ (x24_1 : Int) := of_decide_eq_true (by first | (with_reducible assumption) | assumption)
                have q138 : x24_1 < (l2.length : Int) := of_decide_eq_true (by first | (with_reducible assumption) | assumption)
                obtain ⟨ad138, e138, hx138_0, hx138_1⟩ := at_T37 HR2.out x24_1 p138 q138
                cases e138
                replace hx138_0 := (HB.out.cell (World.block_lt_of_cell? w _ hx138_0)).trans hx138_0
                replace hx138_1 := (HB.out.cell (World.block_lt_of_cell? w _ hx138_1)).trans hx138_1
                replace p138 := eq_true p138
                replace q138 := eq_true q138
                go_upto_block 2 with (first | ((with_reducible refine gate_dst (N := 12) rfl ?_); refine box_event ?hg (N := 12) ?hd (cs := #[.int .i64 0, .int .i64 0]) (t := 37) ?hr ?_; (case hd => rfl); (case hg => rfl); (case hr => first | (go_simp; done) | (go_simp; rfl)); intro gb139 hg w11 hbox hb; have n0_ := Aside0.mk (Kd.R_below (by (with_reducible repeat (first | apply Kd.R_alloc | apply Kd.R_drewN | apply Kd.R_drew)); exact HO_8.out) hb); have n1_ := Aside0.mk (below_step (by repeat (first | (with_reducible first | exact HB.out | apply below_alloc | apply pw_below_drewN | apply below_drew1) | exact HB.out)) hb); have n2_ := Aside0.mk (hbox); have n3_ := Aside0.mk ((by rw [hg]; exact (below_size (by repeat (first | (with_reducible first | exact HB.out | apply below_alloc | apply pw_below_drewN | apply below_drew1) | exact HB.out))) : w.heap.size ≤ gb139)); have n4_ := Aside0.mk ((by rw [hg]; exact (below_size (by repeat (first | (with_reducible first | exact HB.out | apply below_alloc | apply pw_below_drewN | apply below_drew1) | exact HB.out))) : w.heap.size ≤ gb139)); clear HO_8; clear HB; have HO_8 := n0_; have HB := n1_; have BK139 := n2_; have GW139 := n3_; have GE139 := n4_; clear n0_ n1_ n2_ n3_ n4_; clear hb hbox hg; have hcz12_0 : w11.cell? ⟨gb139, 0, none⟩ = some (.int .i64 0) := (blk_cell BK139.out 0).trans rfl; have hcz12_1 : w11.cell? ⟨gb139, 1, none⟩ = some (.int .i64 0) := (blk_cell BK139.out 1).trans rfl; have hfz12_0 := blk_frozen BK139.out 0; have hfz12_1 := blk_frozen BK139.out 1))
                (try simp only [Act.put, List.setIfInBounds_toArray, List.set_cons_zero, List.set_cons_succ])
                go_cut [] (fun wc => ∃ (kq : Nat), Aside0 (bucket_Play.j2 kq a0 a1 x8_1 x9_1 x10_1 x24_1 l2 (l2.length : Int) x24_1 ((rd_T37 l2 x24_1).f0) ((rd_T37 l2 x24_1).f1) = some (r1, r2)) ∧ Aside0 (kq ≤ k1) ∧ Aside0 (Kd.R Kd.bool 4 wc w.heap.size (fun _ => True) u8 x8_1) ∧ Aside0 (wc.heap[gb139]? = some (.cells #[.int .i64 ((rd_T37 l2 x24_1).f0), .int .i64 ((rd_T37 l2 x24_1).f1)] 37 (0, 0))) ∧ Aside0 (Below w.heap.size w wc))
                case first =>
                  have H := HC10.out
                  clear HC10
                  have HC13 := Aside0.mk H
                  clear H
                  go_upto_region 10 with (fail)
                  go_cut [29] (fun v29 wc => ∃ (kq : Nat) (x29_12 : Bool), v29 = .bool x29_12 ∧ Aside0 (bucket_Play.j1 kq a0 a1 x8_1 x9_1 x10_1 x24_1 l2 (l2.length : Int) x24_1 x29_12 ((rd_T37 l2 x24_1).f0) ((rd_T37 l2 x24_1).f1) = some (r1, r2)) ∧ Aside0 (kq ≤ k1) ∧ Aside0 (Kd.R Kd.bool 4 wc w.heap.size (fun _ => True) u8 x8_1) ∧ Aside0 (wc.heap[gb139]? = some (.cells #[.int .i64 ((rd_T37 l2 x24_1).f0), .int .i64 ((rd_T37 l2 x24_1).f1)] 37 (0, 0))) ∧ Aside0 (Below w.heap.size w wc))
                  case first =>
                    have H := HC13.out
                    clear HC13
                    replace H := Option.bind_eq_some_iff.mp H
                    obtain ⟨t140, A140, H⟩ := H
                    replace H : (if t140 = true then ((bucket_in.f ((rd_T37 l2 x24_1).f1) 1 1500).bind fun t141 => (bucket_Play.j1 k1 a0 a1 x8_1 x9_1 x10_1 x24_1 l2 (l2.length : Int) x24_1 (!t141) ((rd_T37 l2 x24_1).f0) ((rd_T37 l2 x24_1).f1))) else (bucket_Play.j1 k1 a0 a1 x8_1 x9_1 x10_1 x24_1 l2 (l2.length : Int) x24_1 true ((rd_T37 l2 x24_1).f0) ((rd_T37 l2 x24_1).f1))) = some (r1, r2) := H
                    have A14 := Aside0.mk A140
                    clear A140
                    by_cases c15 : t140 = true
                    · subst c15
                      have H1 : ((bucket_in.f ((rd_T37 l2 x24_1).f1) 1 1500).bind fun t141 => (bucket_Play.j1 k1 a0 a1 x8_1 x9_1 x10_1 x24_1 l2 (l2.length : Int) x24_1 (!t141) ((rd_T37 l2 x24_1).f0) ((rd_T37 l2 x24_1).f1))) = some (r1, r2) := by rw [if_pos rfl] at H; exact H
                      clear H
                      have H := H1
                      clear H1
                      replace H := Option.bind_eq_some_iff.mp H
                      obtain ⟨t141, A160, H⟩ := H
                      replace H : (bucket_Play.j1 k1 a0 a1 x8_1 x9_1 x10_1 x24_1 l2 (l2.length : Int) x24_1 (!t141) ((rd_T37 l2 x24_1).f0) ((rd_T37 l2 x24_1).f1)) = some (r1, r2) := H
                      have A16 := Aside0.mk A160
                      clear A160
                      have H' := Aside0.mk H
                      clear H
                      have hcz17_0 : w11.cell? ⟨gb139, 0, none⟩ = some (.int .i64 0) := (blk_cell BK139.out 0).trans rfl
                      have hcz17_1 : w11.cell? ⟨gb139, 1, none⟩ = some (.int .i64 0) := (blk_cell BK139.out 1).trans rfl
                      have hfz17_0 := blk_frozen BK139.out 0
                      have hfz17_1 := blk_frozen BK139.out 1
                      go_wp2_with (first | ((with_reducible refine gate_callee (f := 31) rfl ?_); refine goesL_ (some 32) rfl rfl Try.func31 (by kernel_rfl) rfl #[.int .i64 ((rd_T37 l2 x24_1).f0), .int .i64 0, .int .i64 1048576] rfl (by (try simp only [List.map_toArray, List.map_cons, List.map_nil]); first | done | rfl | (simp only [List.length_drop, List.length_take]; rfl)) ?_; (with_reducible refine (bucket_in.calls ((rd_T37 l2 x24_1).f0) 0 1048576 true _ A14.out).mono ?_); rintro e w' ⟨rfl, ⟨nd, rfl⟩⟩; refine ⟨_, rfl, ?_⟩) | (go_at_call 31; (with_reducible refine (bucket_in.calls ((rd_T37 l2 x24_1).f1) 1 1500 t141 _ A16.out).mono ?_); rintro e w' ⟨rfl, ⟨nd, rfl⟩⟩))
                      go_meet
                      case rel => exact ⟨_, (!t141), (by first | rfl | (simp; done) | (simp [*]; done)), H', ⟨by have := HK1.out; first | omega | exact Nat.le_refl _⟩, ⟨by (with_reducible repeat (first | apply Kd.R_alloc | apply Kd.R_drewN | apply Kd.R_drew)); exact Kd.R_mono (Kd.R_far (p := ⟨gb139, 1, none⟩) (Kd.R_far (p := ⟨gb139, 0, none⟩) (Kd.R_types HO_8.out BK139.out (by decide)) (fun _ hk => hk.2) (.int .i64 ((rd_T37 l2 x24_1).f0))) (fun _ hk => hk.2) (.int .i64 ((rd_T37 l2 x24_1).f1))) (fun _ hk => trivial)⟩, ⟨by (with_reducible repeat (first | refine blk_drewN ?_ _ | refine blk_drew ?_ | refine blk_alloc ?_ _)); refine blk_put (cs := #[.int .i64 ((rd_T37 l2 x24_1).f0), .int .i64 0]) ?_ 1 _ rfl; (with_reducible repeat (first | refine blk_drewN ?_ _ | refine blk_drew ?_ | refine blk_alloc ?_ _)); refine blk_put (cs := #[.int .i64 0, .int .i64 0]) ?_ 0 _ rfl; (with_reducible repeat (first | refine blk_drewN ?_ _ | refine blk_drew ?_ | refine blk_alloc ?_ _)); exact BK139.out⟩, ⟨by repeat (first | (with_reducible first | exact HB.out | apply below_alloc | apply pw_below_drewN | apply below_drew1 | refine below_set ?_ GE139.out) | exact HB.out)⟩⟩
                    · replace c15 := Bool.eq_false_iff.mpr c15
                      subst c15
                      have H1 : (bucket_Play.j1 k1 a0 a1 x8_1 x9_1 x10_1 x24_1 l2 (l2.length : Int) x24_1 true ((rd_T37 l2 x24_1).f0) ((rd_T37 l2 x24_1).f1)) = some (r1, r2) := by rw [if_neg (show ¬ (false = true) by decide)] at H; exact H
                      clear H
                      have H := H1
                      clear H1
                      have H' := Aside0.mk H
                      clear H
                      have hcz18_0 : w11.cell? ⟨gb139, 0, none⟩ = some (.int .i64 0) := (blk_cell BK139.out 0).trans rfl
                      have hcz18_1 : w11.cell? ⟨gb139, 1, none⟩ = some (.int .i64 0) := (blk_cell BK139.out 1).trans rfl
                      have hfz18_0 := blk_frozen BK139.out 0
                      have hfz18_1 := blk_frozen BK139.out 1
                      go_wp2_with (first | ((with_reducible refine gate_callee (f := 31) rfl ?_); refine goesL_ (some 32) rfl rfl Try.func31 (by kernel_rfl) rfl #[.int .i64 ((rd_T37 l2 x24_1).f0), .int .i64 0, .int .i64 1048576] rfl (by (try simp only [List.map_toArray, List.map_cons, List.map_nil]); first | done | rfl | (simp only [List.length_drop, List.length_take]; rfl)) ?_; (with_reducible refine (bucket_in.calls ((rd_T37 l2 x24_1).f0) 0 1048576 false _ A14.out).mono ?_); rintro e w' ⟨rfl, ⟨nd, rfl⟩⟩; refine ⟨_, rfl, ?_⟩))
                      go_meet
                      case rel => exact ⟨_, (true), (by first | rfl | (simp; done) | (simp [*]; done)), H', ⟨by have := HK1.out; first | omega | exact Nat.le_refl _⟩, ⟨by (with_reducible repeat (first | apply Kd.R_alloc | apply Kd.R_drewN | apply Kd.R_drew)); exact Kd.R_mono (Kd.R_far (p := ⟨gb139, 1, none⟩) (Kd.R_far (p := ⟨gb139, 0, none⟩) (Kd.R_types HO_8.out BK139.out (by decide)) (fun _ hk => hk.2) (.int .i64 ((rd_T37 l2 x24_1).f0))) (fun _ hk => hk.2) (.int .i64 ((rd_T37 l2 x24_1).f1))) (fun _ hk => trivial)⟩, ⟨by (with_reducible repeat (first | refine blk_drewN ?_ _ | refine blk_drew ?_ | refine blk_alloc ?_ _)); refine blk_put (cs := #[.int .i64 ((rd_T37 l2 x24_1).f0), .int .i64 0]) ?_ 1 _ rfl; (with_reducible repeat (first | refine blk_drewN ?_ _ | refine blk_drew ?_ | refine blk_alloc ?_ _)); refine blk_put (cs := #[.int .i64 0, .int .i64 0]) ?_ 0 _ rfl; (with_reducible repeat (first | refine blk_drewN ?_ _ | refine blk_drew ?_ | refine blk_alloc ?_ _)); exact BK139.out⟩, ⟨by repeat (first | (with_reducible first | exact HB.out | apply below_alloc | apply pw_below_drewN | apply below_drew1 | refine below_set ?_ GE139.out) | exact HB.out)⟩⟩
                  case rest =>
                    clear HC13
                    try clear c1
                    try clear p1
                    try clear q1
                    try clear hx1
                    try clear c2
                    try clear p2
                    try clear c3
                    try clear c5
                    try clear c6
                    try clear c6b0
                    try clear c6b1
                    try clear c7
                    try clear c7b0
                    try clear c8
                    try clear c8b0
                    try clear c9
                    try clear c9b0
                    try clear p13
                    try clear q13
                    try clear hx13
                    try clear c14
                    try clear c15
                    try clear hcz12_0
                    try clear hcz12_1
                    try clear hcz17_0
                    try clear hcz17_1
                    try clear hcz18_0
                    try clear hcz18_1
                    try clear hfz12_0
                    try clear hfz12_1
                    try clear hfz17_0
                    try clear hfz17_1
                    try clear hfz18_0
                    try clear hfz18_1
                    try clear hx138_0
                    try clear hx138_1
                    try clear p138
                    try clear p2
                    try clear q138
                    obtain ⟨kq, x29_12, rfl, HA, HJ12, HO_8, BK139, HB⟩ := hcut
                    cases kq with
                    | zero => exact absurd HA.out (by simp [bucket_Play.j1])
                    | succ kj12 =>
                      have H := HA.out
                      clear HA
                      simp only [bucket_Play.j1] at H
                      by_cases c19 : x29_12 = true
                      · subst c19
                        have H1 : (some (([] : List Bool), 2)) = some (r1, r2) := by rw [if_pos rfl] at H; exact H
                        clear H
                        have H := H1
                        clear H1
                        simp only [Option.some.injEq, Prod.mk.injEq] at H
                        obtain ⟨rfl, rfl⟩ := H
                        go_wp2
                        go_ret2
                        exact ⟨_, by first | rfl | (simp [errW_none, errW_some] <;> rfl) | (simp [*, errW_none, errW_some] <;> rfl), by first | exact Kd.R_nil _ _ _ _ _ | exact Kd.N_nil _ _ _ _ _ | exact Kd.V_nil _ _ _ _ _ | exact Kd.Q_nil _ _ _ _ _ | exact Kd.S_nil _ _ _ _ _, by repeat (first | (with_reducible first | exact HB.out | apply below_alloc | apply pw_below_drewN | apply below_drew1 | refine below_set ?_ GE139.out) | exact HB.out)⟩
                      · replace c19 := Bool.eq_false_iff.mpr c19
                        subst c19
                        have H1 : (if x24_1 > 0 then (if ((rd_T37 l2 x24_1).f0) < x10_1 then (some (([] : List Bool), 17)) else (bucket_Play.j2 kj12 a0 a1 x8_1 x9_1 x10_1 x24_1 l2 (l2.length : Int) x24_1 ((rd_T37 l2 x24_1).f0) ((rd_T37 l2 x24_1).f1))) else (bucket_Play.j2 kj12 a0 a1 x8_1 x9_1 x10_1 x24_1 l2 (l2.length : Int) x24_1 ((rd_T37 l2 x24_1).f0) ((rd_T37 l2 x24_1).f1))) = some (r1, r2) := by rw [if_neg (show ¬ (false = true) by decide)] at H; exact H
                        clear H
                        have H := H1
                        clear H1
                        by_cases c20 : x24_1 > 0
                        · rw [if_pos c20] at H
                          have c20b0 : decide (0 < x24_1) = true := decide_eq_true c20
                          clear c20
                          by_cases c21 : ((rd_T37 l2 x24_1).f0) < x10_1
                          · rw [if_pos c21] at H
                            have c21b0 : decide (((rd_T37 l2 x24_1).f0) < x10_1) = true := decide_eq_true c21
                            clear c21
                            simp only [Option.some.injEq, Prod.mk.injEq] at H
                            obtain ⟨rfl, rfl⟩ := H
                            have hcz22_0 : wc.cell? ⟨gb139, 0, none⟩ = some (.int .i64 ((rd_T37 l2 x24_1).f0)) := (blk_cell BK139.out 0).trans rfl
                            have hcz22_1 : wc.cell? ⟨gb139, 1, none⟩ = some (.int .i64 ((rd_T37 l2 x24_1).f1)) := (blk_cell BK139.out 1).trans rfl
                            have hfz22_0 := blk_frozen BK139.out 0
                            have hfz22_1 := blk_frozen BK139.out 1
                            go_wp2
                            go_ret2
                            exact ⟨_, by first | rfl | (simp [errW_none, errW_some] <;> rfl) | (simp [*, errW_none, errW_some] <;> rfl), by first | exact Kd.R_nil _ _ _ _ _ | exact Kd.N_nil _ _ _ _ _ | exact Kd.V_nil _ _ _ _ _ | exact Kd.Q_nil _ _ _ _ _ | exact Kd.S_nil _ _ _ _ _, by repeat (first | (with_reducible first | exact HB.out | apply below_alloc | apply pw_below_drewN | apply below_drew1 | refine below_set ?_ GE139.out) | exact HB.out)⟩
                          · rw [if_neg c21] at H
                            have c21b0 : decide (((rd_T37 l2 x24_1).f0) < x10_1) = false := decide_eq_false c21
                            clear c21
                            have H' := Aside0.mk H
                            clear H
                            have hcz23_0 : wc.cell? ⟨gb139, 0, none⟩ = some (.int .i64 ((rd_T37 l2 x24_1).f0)) := (blk_cell BK139.out 0).trans rfl
                            have hcz23_1 : wc.cell? ⟨gb139, 1, none⟩ = some (.int .i64 ((rd_T37 l2 x24_1).f1)) := (blk_cell BK139.out 1).trans rfl
                            have hfz23_0 := blk_frozen BK139.out 0
                            have hfz23_1 := blk_frozen BK139.out 1
                            go_wp2
                            go_meet
                            case rel => exact ⟨_, H', ⟨by have := HK1.out; have := HJ12.out; first | omega | exact Nat.le_refl _⟩, ⟨by (with_reducible repeat (first | apply Kd.R_alloc | apply Kd.R_drewN | apply Kd.R_drew)); exact HO_8.out⟩, ⟨by (with_reducible repeat (first | refine blk_drewN ?_ _ | refine blk_drew ?_ | refine blk_alloc ?_ _)); exact BK139.out⟩, ⟨by repeat (first | (with_reducible first | exact HB.out | apply below_alloc | apply pw_below_drewN | apply below_drew1 | refine below_set ?_ GE139.out) | exact HB.out)⟩⟩
                        · rw [if_neg c20] at H
                          have c20b0 : decide (0 < x24_1) = false := decide_eq_false c20
                          clear c20
                          have H' := Aside0.mk H
                          clear H
                          go_wp2
                          go_meet
                          case rel => exact ⟨_, H', ⟨by have := HK1.out; have := HJ12.out; first | omega | exact Nat.le_refl _⟩, ⟨by (with_reducible repeat (first | apply Kd.R_alloc | apply Kd.R_drewN | apply Kd.R_drew)); exact HO_8.out⟩, ⟨by (with_reducible repeat (first | refine blk_drewN ?_ _ | refine blk_drew ?_ | refine blk_alloc ?_ _)); exact BK139.out⟩, ⟨by repeat (first | (with_reducible first | exact HB.out | apply below_alloc | apply pw_below_drewN | apply below_drew1 | refine below_set ?_ GE139.out) | exact HB.out)⟩⟩
                case rest =>
                  clear HC10
                  try clear c1
                  try clear p1
                  try clear q1
                  try clear hx1
                  try clear c2
                  try clear p2
                  try clear c3
                  try clear c5
                  try clear c6
                  try clear c6b0
                  try clear c6b1
                  try clear c7
                  try clear c7b0
                  try clear c8
                  try clear c8b0
                  try clear c9
                  try clear c9b0
                  try clear p13
                  try clear q13
                  try clear hx13
                  try clear c14
                  try clear c15
                  try clear c19
                  try clear c20
                  try clear c20b0
                  try clear c21
                  try clear c21b0
                  try clear hcz12_0
                  try clear hcz12_1
                  try clear hcz17_0
                  try clear hcz17_1
                  try clear hcz18_0
                  try clear hcz18_1
                  try clear hcz22_0
                  try clear hcz22_1
                  try clear hcz23_0
                  try clear hcz23_1
                  try clear hfz12_0
                  try clear hfz12_1
                  try clear hfz17_0
                  try clear hfz17_1
                  try clear hfz18_0
                  try clear hfz18_1
                  try clear hfz22_0
                  try clear hfz22_1
                  try clear hfz23_0
                  try clear hfz23_1
                  try clear hx138_0
                  try clear hx138_1
                  try clear p1
                  try clear p13
                  try clear p138
                  try clear p2
                  try clear q1
                  try clear q13
                  try clear q138
                  obtain ⟨kq, HA, HJ9, HO_8, BK139, HB⟩ := hcut
                  cases kq with
                  | zero => exact absurd HA.out (by simp [bucket_Play.j2])
                  | succ kj9 =>
                    have H := HA.out
                    clear HA
                    simp only [bucket_Play.j2] at H
                    by_cases c24 : x24_1 > 0
                    · rw [if_pos c24] at H
                      have c24b0 : decide (0 < x24_1) = true := decide_eq_true c24
                      clear c24
                      obtain ⟨ji25, hji25⟩ : ∃ j_ : Int, (mn a1 (wrap64 (x9_1 + (wrap64 (a0 * (wrap64 (((rd_T37 l2 x24_1).f0) - x10_1))))))) = j_ := ⟨_, rfl⟩
                      replace H : (if ((rd_T37 l2 x24_1).f1) ≤ (ji25) then (if x8_1.length < 140737488355328 then (bucket_Play.l0 kj9 a0 a1 (x8_1 ++ [decide (((rd_T37 l2 x24_1).f1) ≤ (ji25))]) (wrap64 ((ji25) - ((rd_T37 l2 x24_1).f1))) ((rd_T37 l2 x24_1).f0) l2 (l2.length : Int) (wrap64 (x24_1 + 1))) else (none)) else (if x8_1.length < 140737488355328 then (bucket_Play.l0 kj9 a0 a1 (x8_1 ++ [decide (((rd_T37 l2 x24_1).f1) ≤ (ji25))]) ji25 ((rd_T37 l2 x24_1).f0) l2 (l2.length : Int) (wrap64 (x24_1 + 1))) else (none))) = some (r1, r2) := by first | (rw [hji25] at H; exact H) | (simp only [hji25] at H ⊢; exact H)
                      have hji25_ : (if (wrap64 (x9_1 + (wrap64 (a0 * (wrap64 (((rd_T37 l2 x24_1).f0) - x10_1)))))) < a1 then (wrap64 (x9_1 + (wrap64 (a0 * (wrap64 (((rd_T37 l2 x24_1).f0) - x10_1)))))) else a1) = ji25 := hji25
                      by_cases c26 : ((rd_T37 l2 x24_1).f1) ≤ (ji25)
                      · rw [if_pos c26] at H
                        have c26b0 : decide (((rd_T37 l2 x24_1).f1) ≤ (ji25)) = true := decide_eq_true c26
                        clear c26
                        by_cases c27 : x8_1.length < 140737488355328
                        · rw [if_pos c27] at H
                          have LMc27 := Aside0.mk c27
                          clear c27
                          rw [c26b0] at H
                          obtain ⟨y142, hy142⟩ : ∃ y_ : List Bool, y_ = (x8_1 ++ [true]) := ⟨_, rfl⟩
                          replace H : (bucket_Play.l0 kj9 a0 a1 y142 (wrap64 ((ji25) - ((rd_T37 l2 x24_1).f1))) ((rd_T37 l2 x24_1).f0) l2 (l2.length : Int) (wrap64 (x24_1 + 1))) = some (r1, r2) := by first | (rw [hy142]; with_reducible exact H) | (have H2_ := (Option.bind_some _ _).symm.trans H; rw [hy142]; with_reducible exact H2_) | (have H2_ := (Option.bind_some _ _).symm.trans H; with_reducible exact H2_) | with_reducible exact H | (rw [hy142]; exact H) | exact H
                          have Ny142 := Aside0.mk hy142
                          clear hy142
                          have H' := Aside0.mk H
                          clear H
                          have hcz28_0 : wc.cell? ⟨gb139, 0, none⟩ = some (.int .i64 ((rd_T37 l2 x24_1).f0)) := (blk_cell BK139.out 0).trans rfl
                          have hcz28_1 : wc.cell? ⟨gb139, 1, none⟩ = some (.int .i64 ((rd_T37 l2 x24_1).f1)) := (blk_cell BK139.out 1).trans rfl
                          have hfz28_0 := blk_frozen BK139.out 0
                          have hfz28_1 := blk_frozen BK139.out 1
                          go_wp2_with (first | ((with_reducible refine gate_builtin (b := .append) (xs := #[.tmp 72, .tmp 74]) rfl ?_); at_builtin; refine Kd.R_append Kd.bool (w0 := w) w.heap.size rfl (.tmp 72) (.tmp 74) 39 4 (.bool false) 1 rfl Try.underlying39 info4 rfl (by decide) (by omega) u8 x8_1 true [.bool true] (fun _ => True) (fun _ => False) rfl rfl ?aP (fun _ hk => hk.elim) ?aF ?aO ?aB ?aS ?aL ?_; (case aP => exact rfl); (case aB => exact (by repeat (first | (with_reducible first | exact HB.out | apply below_alloc | apply pw_below_drewN | apply below_drew1 | refine below_set ?_ GE139.out) | exact HB.out))); (case aF => exact (fun _ _ => trivial)); (case aO => exact (by (with_reducible repeat (first | apply Kd.R_alloc | apply Kd.R_drewN | apply Kd.R_drew)); exact HO_8.out)); (case aS => exact (below_size (by repeat (first | (with_reducible first | exact HB.out | apply below_alloc | apply pw_below_drewN | apply below_drew1 | refine below_set ?_ GE139.out) | exact HB.out)))); (case aL => have := LMc27.out; omega); intro v143 w29 ho hb hg hat; rw [← Ny142.out] at ho; have n0_ := Aside0.mk (blk_grown (g := gb139) (o := .cells #[.int .i64 ((rd_T37 l2 x24_1).f0), .int .i64 ((rd_T37 l2 x24_1).f1)] 37 (0, 0)) (by (with_reducible repeat (first | refine blk_drewN ?_ _ | refine blk_drew ?_ | refine blk_alloc ?_ _)); exact BK139.out) hg (Kd.R_ne HO_8.out BK139.out (by decide))); have n1_ := Aside0.mk (hb); have n2_ := Aside0.mk (ho); clear BK139; clear HB; clear HO_8; have BK139 := n0_; have HB := n1_; have HO144 := n2_; clear n0_ n1_ n2_; clear ho hb hg hat))
                          go_roundg kj9
                          case measure => first | exact Nat.lt_succ_of_lt HJ9.out | (have := HK1.out; have := HJ9.out; omega)
                          case rel => exact ⟨(y142), (wrap64 ((ji25) - ((rd_T37 l2 x24_1).f1))), (((rd_T37 l2 x24_1).f0)), (wrap64 (x24_1 + 1)), (by first | rfl | (simp; done) | (simp only [← hji25] <;> (first | rfl | simp)) | (simp [*]; done)), (by first | rfl | (simp; done) | (simp [*]; done)), (by first | rfl | (simp; done) | (simp [*]; done)), H', ⟨by have := HK1.out; have := HJ9.out; omega⟩, ⟨by (with_reducible repeat (first | apply Kd.R_alloc | apply Kd.R_drewN | apply Kd.R_drew)); exact HO144.out⟩, ⟨by repeat (first | (with_reducible first | exact HB.out | apply below_alloc | apply pw_below_drewN | apply below_drew1 | refine below_set ?_ GE139.out) | exact HB.out)⟩⟩
                        · rw [if_neg c27] at H
                          exact absurd H (by simp)
                      · rw [if_neg c26] at H
                        have c26b0 : decide (((rd_T37 l2 x24_1).f1) ≤ (ji25)) = false := decide_eq_false c26
                        clear c26
                        by_cases c30 : x8_1.length < 140737488355328
                        · rw [if_pos c30] at H
                          have LMc30 := Aside0.mk c30
                          clear c30
                          rw [c26b0] at H
                          obtain ⟨y145, hy145⟩ : ∃ y_ : List Bool, y_ = (x8_1 ++ [false]) := ⟨_, rfl⟩
                          replace H : (bucket_Play.l0 kj9 a0 a1 y145 ji25 ((rd_T37 l2 x24_1).f0) l2 (l2.length : Int) (wrap64 (x24_1 + 1))) = some (r1, r2) := by first | (rw [hy145]; with_reducible exact H) | (have H2_ := (Option.bind_some _ _).symm.trans H; rw [hy145]; with_reducible exact H2_) | (have H2_ := (Option.bind_some _ _).symm.trans H; with_reducible exact H2_) | with_reducible exact H | (rw [hy145]; exact H) | exact H
                          have Ny145 := Aside0.mk hy145
                          clear hy145
                          have H' := Aside0.mk H
                          clear H
                          have hcz31_0 : wc.cell? ⟨gb139, 0, none⟩ = some (.int .i64 ((rd_T37 l2 x24_1).f0)) := (blk_cell BK139.out 0).trans rfl
                          have hcz31_1 : wc.cell? ⟨gb139, 1, none⟩ = some (.int .i64 ((rd_T37 l2 x24_1).f1)) := (blk_cell BK139.out 1).trans rfl
                          have hfz31_0 := blk_frozen BK139.out 0
                          have hfz31_1 := blk_frozen BK139.out 1
                          go_wp2_with (first | ((with_reducible refine gate_builtin (b := .append) (xs := #[.tmp 72, .tmp 74]) rfl ?_); at_builtin; refine Kd.R_append Kd.bool (w0 := w) w.heap.size rfl (.tmp 72) (.tmp 74) 39 4 (.bool false) 1 rfl Try.underlying39 info4 rfl (by decide) (by omega) u8 x8_1 false [.bool false] (fun _ => True) (fun _ => False) rfl rfl ?aP (fun _ hk => hk.elim) ?aF ?aO ?aB ?aS ?aL ?_; (case aP => exact rfl); (case aB => exact (by repeat (first | (with_reducible first | exact HB.out | apply below_alloc | apply pw_below_drewN | apply below_drew1 | refine below_set ?_ GE139.out) | exact HB.out))); (case aF => exact (fun _ _ => trivial)); (case aO => exact (by (with_reducible repeat (first | apply Kd.R_alloc | apply Kd.R_drewN | apply Kd.R_drew)); exact HO_8.out)); (case aS => exact (below_size (by repeat (first | (with_reducible first | exact HB.out | apply below_alloc | apply pw_below_drewN | apply below_drew1 | refine below_set ?_ GE139.out) | exact HB.out)))); (case aL => have := LMc30.out; omega); intro v146 w32 ho hb hg hat; rw [← Ny145.out] at ho; have n0_ := Aside0.mk (blk_grown (g := gb139) (o := .cells #[.int .i64 ((rd_T37 l2 x24_1).f0), .int .i64 ((rd_T37 l2 x24_1).f1)] 37 (0, 0)) (by (with_reducible repeat (first | refine blk_drewN ?_ _ | refine blk_drew ?_ | refine blk_alloc ?_ _)); exact BK139.out) hg (Kd.R_ne HO_8.out BK139.out (by decide))); have n1_ := Aside0.mk (hb); have n2_ := Aside0.mk (ho); clear BK139; clear HB; clear HO_8; have BK139 := n0_; have HB := n1_; have HO147 := n2_; clear n0_ n1_ n2_; clear ho hb hg hat))
                          go_roundg kj9
                          case measure => first | exact Nat.lt_succ_of_lt HJ9.out | (have := HK1.out; have := HJ9.out; omega)
                          case rel => exact ⟨(y145), (ji25), (((rd_T37 l2 x24_1).f0)), (wrap64 (x24_1 + 1)), (by first | rfl | (simp; done) | (simp only [← hji25] <;> (first | rfl | simp)) | (simp [*]; done)), (by first | rfl | (simp; done) | (simp [*]; done)), (by first | rfl | (simp; done) | (simp [*]; done)), H', ⟨by have := HK1.out; have := HJ9.out; omega⟩, ⟨by (with_reducible repeat (first | apply Kd.R_alloc | apply Kd.R_drewN | apply Kd.R_drew)); exact HO147.out⟩, ⟨by repeat (first | (with_reducible first | exact HB.out | apply below_alloc | apply pw_below_drewN | apply below_drew1 | refine below_set ?_ GE139.out) | exact HB.out)⟩⟩
                        · rw [if_neg c30] at H
                          exact absurd H (by simp)
                    · rw [if_neg c24] at H
                      have c24b0 : decide (0 < x24_1) = false := decide_eq_false c24
                      clear c24
                      by_cases c33 : ((rd_T37 l2 x24_1).f1) ≤ x9_1
                      · rw [if_pos c33] at H
                        have c33b0 : decide (((rd_T37 l2 x24_1).f1) ≤ x9_1) = true := decide_eq_true c33
                        clear c33
                        by_cases c34 : x8_1.length < 140737488355328
                        · rw [if_pos c34] at H
                          have LMc34 := Aside0.mk c34
                          clear c34
                          rw [c33b0] at H
                          obtain ⟨y148, hy148⟩ : ∃ y_ : List Bool, y_ = (x8_1 ++ [true]) := ⟨_, rfl⟩
                          replace H : (bucket_Play.l0 kj9 a0 a1 y148 (wrap64 (x9_1 - ((rd_T37 l2 x24_1).f1))) ((rd_T37 l2 x24_1).f0) l2 (l2.length : Int) (wrap64 (x24_1 + 1))) = some (r1, r2) := by first | (rw [hy148]; with_reducible exact H) | (have H2_ := (Option.bind_some _ _).symm.trans H; rw [hy148]; with_reducible exact H2_) | (have H2_ := (Option.bind_some _ _).symm.trans H; with_reducible exact H2_) | with_reducible exact H | (rw [hy148]; exact H) | exact H
                          have Ny148 := Aside0.mk hy148
                          clear hy148
                          have H' := Aside0.mk H
                          clear H
                          have hcz35_0 : wc.cell? ⟨gb139, 0, none⟩ = some (.int .i64 ((rd_T37 l2 x24_1).f0)) := (blk_cell BK139.out 0).trans rfl
                          have hcz35_1 : wc.cell? ⟨gb139, 1, none⟩ = some (.int .i64 ((rd_T37 l2 x24_1).f1)) := (blk_cell BK139.out 1).trans rfl
                          have hfz35_0 := blk_frozen BK139.out 0
                          have hfz35_1 := blk_frozen BK139.out 1
                          go_wp2_with (first | ((with_reducible refine gate_builtin (b := .append) (xs := #[.tmp 72, .tmp 74]) rfl ?_); at_builtin; refine Kd.R_append Kd.bool (w0 := w) w.heap.size rfl (.tmp 72) (.tmp 74) 39 4 (.bool false) 1 rfl Try.underlying39 info4 rfl (by decide) (by omega) u8 x8_1 true [.bool true] (fun _ => True) (fun _ => False) rfl rfl ?aP (fun _ hk => hk.elim) ?aF ?aO ?aB ?aS ?aL ?_; (case aP => exact rfl); (case aB => exact (by repeat (first | (with_reducible first | exact HB.out | apply below_alloc | apply pw_below_drewN | apply below_drew1 | refine below_set ?_ GE139.out) | exact HB.out))); (case aF => exact (fun _ _ => trivial)); (case aO => exact (by (with_reducible repeat (first | apply Kd.R_alloc | apply Kd.R_drewN | apply Kd.R_drew)); exact HO_8.out)); (case aS => exact (below_size (by repeat (first | (with_reducible first | exact HB.out | apply below_alloc | apply pw_below_drewN | apply below_drew1 | refine below_set ?_ GE139.out) | exact HB.out)))); (case aL => have := LMc34.out; omega); intro v149 w36 ho hb hg hat; rw [← Ny148.out] at ho; have n0_ := Aside0.mk (blk_grown (g := gb139) (o := .cells #[.int .i64 ((rd_T37 l2 x24_1).f0), .int .i64 ((rd_T37 l2 x24_1).f1)] 37 (0, 0)) (by (with_reducible repeat (first | refine blk_drewN ?_ _ | refine blk_drew ?_ | refine blk_alloc ?_ _)); exact BK139.out) hg (Kd.R_ne HO_8.out BK139.out (by decide))); have n1_ := Aside0.mk (hb); have n2_ := Aside0.mk (ho); clear BK139; clear HB; clear HO_8; have BK139 := n0_; have HB := n1_; have HO150 := n2_; clear n0_ n1_ n2_; clear ho hb hg hat))
                          go_roundg kj9
                          case measure => first | exact Nat.lt_succ_of_lt HJ9.out | (have := HK1.out; have := HJ9.out; omega)
                          case rel => exact ⟨(y148), (wrap64 (x9_1 - ((rd_T37 l2 x24_1).f1))), (((rd_T37 l2 x24_1).f0)), (wrap64 (x24_1 + 1)), (by first | rfl | (simp; done) | (simp [*]; done)), (by first | rfl | (simp; done) | (simp [*]; done)), (by first | rfl | (simp; done) | (simp [*]; done)), H', ⟨by have := HK1.out; have := HJ9.out; omega⟩, ⟨by (with_reducible repeat (first | apply Kd.R_alloc | apply Kd.R_drewN | apply Kd.R_drew)); exact HO150.out⟩, ⟨by repeat (first | (with_reducible first | exact HB.out | apply below_alloc | apply pw_below_drewN | apply below_drew1 | refine below_set ?_ GE139.out) | exact HB.out)⟩⟩
                        · rw [if_neg c34] at H
                          exact absurd H (by simp)
                      · rw [if_neg c33] at H
                        have c33b0 : decide (((rd_T37 l2 x24_1).f1) ≤ x9_1) = false := decide_eq_false c33
                        clear c33
                        by_cases c37 : x8_1.length < 140737488355328
                        · rw [if_pos c37] at H
                          have LMc37 := Aside0.mk c37
                          clear c37
                          rw [c33b0] at H
                          obtain ⟨y151, hy151⟩ : ∃ y_ : List Bool, y_ = (x8_1 ++ [false]) := ⟨_, rfl⟩
                          replace H : (bucket_Play.l0 kj9 a0 a1 y151 x9_1 ((rd_T37 l2 x24_1).f0) l2 (l2.length : Int) (wrap64 (x24_1 + 1))) = some (r1, r2) := by first | (rw [hy151]; with_reducible exact H) | (have H2_ := (Option.bind_some _ _).symm.trans H; rw [hy151]; with_reducible exact H2_) | (have H2_ := (Option.bind_some _ _).symm.trans H; with_reducible exact H2_) | with_reducible exact H | (rw [hy151]; exact H) | exact H
                          have Ny151 := Aside0.mk hy151
                          clear hy151
                          have H' := Aside0.mk H
                          clear H
                          have hcz38_0 : wc.cell? ⟨gb139, 0, none⟩ = some (.int .i64 ((rd_T37 l2 x24_1).f0)) := (blk_cell BK139.out 0).trans rfl
                          have hcz38_1 : wc.cell? ⟨gb139, 1, none⟩ = some (.int .i64 ((rd_T37 l2 x24_1).f1)) := (blk_cell BK139.out 1).trans rfl
                          have hfz38_0 := blk_frozen BK139.out 0
                          have hfz38_1 := blk_frozen BK139.out 1
                          go_wp2_with (first | ((with_reducible refine gate_builtin (b := .append) (xs := #[.tmp 72, .tmp 74]) rfl ?_); at_builtin; refine Kd.R_append Kd.bool (w0 := w) w.heap.size rfl (.tmp 72) (.tmp 74) 39 4 (.bool false) 1 rfl Try.underlying39 info4 rfl (by decide) (by omega) u8 x8_1 false [.bool false] (fun _ => True) (fun _ => False) rfl rfl ?aP (fun _ hk => hk.elim) ?aF ?aO ?aB ?aS ?aL ?_; (case aP => exact rfl); (case aB => exact (by repeat (first | (with_reducible first | exact HB.out | apply below_alloc | apply pw_below_drewN | apply below_drew1 | refine below_set ?_ GE139.out) | exact HB.out))); (case aF => exact (fun _ _ => trivial)); (case aO => exact (by (with_reducible repeat (first | apply Kd.R_alloc | apply Kd.R_drewN | apply Kd.R_drew)); exact HO_8.out)); (case aS => exact (below_size (by repeat (first | (with_reducible first | exact HB.out | apply below_alloc | apply pw_below_drewN | apply below_drew1 | refine below_set ?_ GE139.out) | exact HB.out)))); (case aL => have := LMc37.out; omega); intro v152 w39 ho hb hg hat; rw [← Ny151.out] at ho; have n0_ := Aside0.mk (blk_grown (g := gb139) (o := .cells #[.int .i64 ((rd_T37 l2 x24_1).f0), .int .i64 ((rd_T37 l2 x24_1).f1)] 37 (0, 0)) (by (with_reducible repeat (first | refine blk_drewN ?_ _ | refine blk_drew ?_ | refine blk_alloc ?_ _)); exact BK139.out) hg (Kd.R_ne HO_8.out BK139.out (by decide))); have n1_ := Aside0.mk (hb); have n2_ := Aside0.mk (ho); clear BK139; clear HB; clear HO_8; have BK139 := n0_; have HB := n1_; have HO153 := n2_; clear n0_ n1_ n2_; clear ho hb hg hat))
                          go_roundg kj9
                          case measure => first | exact Nat.lt_succ_of_lt HJ9.out | (have := HK1.out; have := HJ9.out; omega)
                          case rel => exact ⟨(y151), (x9_1), (((rd_T37 l2 x24_1).f0)), (wrap64 (x24_1 + 1)), (by first | rfl | (simp; done) | (simp [*]; done)), (by first | rfl | (simp; done) | (simp [*]; done)), (by first | rfl | (simp; done) | (simp [*]; done)), H', ⟨by have := HK1.out; have := HJ9.out; omega⟩, ⟨by (with_reducible repeat (first | apply Kd.R_alloc | apply Kd.R_drewN | apply Kd.R_drew)); exact HO153.out⟩, ⟨by repeat (first | (with_reducible first | exact HB.out | apply below_alloc | apply pw_below_drewN | apply below_drew1 | refine below_set ?_ GE139.out) | exact HB.out)⟩⟩
                        · rw [if_neg c37] at H
                          exact absurd H (by simp)
              · rw [if_neg c9] at H
                exact absurd H (by simp)
            · rw [if_neg c8] at H
              exact absurd H (by simp)
          · rw [if_neg c7] at H
            have c7b0 : decide (x24_1 < (l2.length : Int)) = false := decide_eq_false c7
            clear c7
            simp only [Option.some.injEq, Prod.mk.injEq] at H
            obtain ⟨rfl, rfl⟩ := H
            go_wp2
            go_ret2
            exact ⟨_, by first | rfl | (simp [errW_none, errW_some] <;> rfl) | (simp [*, errW_none, errW_some] <;> rfl), by (with_reducible repeat (first | apply Kd.R_alloc | apply Kd.R_drewN | apply Kd.R_drew)); exact HO_8.out, by repeat (first | (with_reducible first | exact HB.out | apply below_alloc | apply pw_below_drewN | apply below_drew1) | exact HB.out)⟩
  · replace c5 := Bool.eq_false_iff.mpr c5
    subst c5
    have H1 : (some (([] : List Bool), 2)) = some (r1, r2) := by rw [if_neg (show ¬ (false = true) by decide)] at H; exact H
    clear H
    have H := H1
    clear H1
    simp only [Option.some.injEq, Prod.mk.injEq] at H
    obtain ⟨rfl, rfl⟩ := H
    go_enter Try.func14, Try.ntmps14
    go_wp2_with (first | ((with_reducible refine gate_callee (f := 30) rfl ?_); refine goesL_ (some 16) rfl rfl Try.func30 (by kernel_rfl) rfl #[.int .i64 a0, .int .i64 a1] rfl (by (try simp only [List.map_toArray, List.map_cons, List.map_nil]); first | done | rfl | (simp only [List.length_drop, List.length_take]; rfl)) ?_; (with_reducible refine (bucket_may.calls a0 a1 false _ A4.out).mono ?_); rintro e w' ⟨rfl, ⟨nd, rfl⟩⟩; refine ⟨_, rfl, ?_⟩))
    go_ret2
    exact ⟨_, by first | rfl | (simp [errW_none, errW_some] <;> rfl) | (simp [*, errW_none, errW_some] <;> rfl), by first | exact Kd.R_nil _ _ _ _ _ | exact Kd.N_nil _ _ _ _ _ | exact Kd.V_nil _ _ _ _ _ | exact Kd.Q_nil _ _ _ _ _ | exact Kd.S_nil _ _ _ _ _, by repeat (first | (with_reducible first | exact HB.out | apply below_alloc | apply pw_below_drewN | apply below_drew1) | exact HB.out)⟩

/-! ### bucket_Bound: function 15 -/
def bucket_Bound.f (a0 : Int) (a1 : Int) (a2 : Int) : Option (Int × Int) := (bucket_may.f a0 a1).bind fun t154 => (if t154 = true then ((bucket_in.f a2 0 1048576).bind fun t155 => (if t155 = true then (some (wrap64 (a1 + (wrap64 (a0 * a2))), 0)) else (some (0, 2)))) else (some (0, 2)))
set_option maxHeartbeats 8000000 in
set_option maxRecDepth 100000 in
theorem bucket_Bound.calls (a0 : Int) (a1 : Int) (a2 : Int) (r1 : Int) (r2 : Int) (w : World) (h : bucket_Bound.f a0 a1 a2 = some (r1, r2)) :
    Calls Try.prog 15 #[.int .i64 a0, .int .i64 a1, .int .i64 a2] w fun e w' => e = .returned (.tuple #[.int .i64 r1, .int .i64 r2]) ∧ Drawn0 w w' := by
  have H : ((bucket_may.f a0 a1).bind fun t154 => (if t154 = true then ((bucket_in.f a2 0 1048576).bind fun t155 => (if t155 = true then (some (wrap64 (a1 + (wrap64 (a0 * a2))), 0)) else (some (0, 2)))) else (some (0, 2)))) = some (r1, r2) := h
  clear h
  replace H := Option.bind_eq_some_iff.mp H
  obtain ⟨t154, A40, H⟩ := H
  replace H : (if t154 = true then ((bucket_in.f a2 0 1048576).bind fun t155 => (if t155 = true then (some (wrap64 (a1 + (wrap64 (a0 * a2))), 0)) else (some (0, 2)))) else (some (0, 2))) = some (r1, r2) := H
  have A4 := Aside0.mk A40
  clear A40
  by_cases c5 : t154 = true
  · subst c5
    have H1 : ((bucket_in.f a2 0 1048576).bind fun t155 => (if t155 = true then (some (wrap64 (a1 + (wrap64 (a0 * a2))), 0)) else (some (0, 2)))) = some (r1, r2) := by rw [if_pos rfl] at H; exact H
    clear H
    have H := H1
    clear H1
    replace H := Option.bind_eq_some_iff.mp H
    obtain ⟨t155, A60, H⟩ := H
    replace H : (if t155 = true then (some (wrap64 (a1 + (wrap64 (a0 * a2))), 0)) else (some (0, 2))) = some (r1, r2) := H
    have A6 := Aside0.mk A60
    clear A60
    by_cases c7 : t155 = true
    · subst c7
      have H1 : (some (wrap64 (a1 + (wrap64 (a0 * a2))), 0)) = some (r1, r2) := by rw [if_pos rfl] at H; exact H
      clear H
      have H := H1
      clear H1
      simp only [Option.some.injEq, Prod.mk.injEq] at H
      obtain ⟨rfl, rfl⟩ := H
      go_enter Try.func15, Try.ntmps15
      go_wp2_with (first | ((with_reducible refine gate_callee (f := 30) rfl ?_); refine goesL_ (some 10) rfl rfl Try.func30 (by kernel_rfl) rfl #[.int .i64 a0, .int .i64 a1] rfl (by (try simp only [List.map_toArray, List.map_cons, List.map_nil]); first | done | rfl | (simp only [List.length_drop, List.length_take]; rfl)) ?_; (with_reducible refine (bucket_may.calls a0 a1 true _ A4.out).mono ?_); rintro e w' ⟨rfl, ⟨nd, rfl⟩⟩; refine ⟨_, rfl, ?_⟩) | (go_at_call 31; (with_reducible refine (bucket_in.calls a2 0 1048576 true _ A6.out).mono ?_); rintro e w' ⟨rfl, ⟨nd, rfl⟩⟩))
      go_ret2
      exact ⟨by first | rfl | (simp; done) | (simp [*]; done), by repeat (first | exact Drawn0.refl _ | apply Drawn0.step)⟩
    · replace c7 := Bool.eq_false_iff.mpr c7
      subst c7
      have H1 : (some (0, 2)) = some (r1, r2) := by rw [if_neg (show ¬ (false = true) by decide)] at H; exact H
      clear H
      have H := H1
      clear H1
      simp only [Option.some.injEq, Prod.mk.injEq] at H
      obtain ⟨rfl, rfl⟩ := H
      go_enter Try.func15, Try.ntmps15
      go_wp2_with (first | ((with_reducible refine gate_callee (f := 30) rfl ?_); refine goesL_ (some 10) rfl rfl Try.func30 (by kernel_rfl) rfl #[.int .i64 a0, .int .i64 a1] rfl (by (try simp only [List.map_toArray, List.map_cons, List.map_nil]); first | done | rfl | (simp only [List.length_drop, List.length_take]; rfl)) ?_; (with_reducible refine (bucket_may.calls a0 a1 true _ A4.out).mono ?_); rintro e w' ⟨rfl, ⟨nd, rfl⟩⟩; refine ⟨_, rfl, ?_⟩) | (go_at_call 31; (with_reducible refine (bucket_in.calls a2 0 1048576 false _ A6.out).mono ?_); rintro e w' ⟨rfl, ⟨nd, rfl⟩⟩))
      go_ret2
      exact ⟨by first | rfl | (simp; done) | (simp [*]; done), by repeat (first | exact Drawn0.refl _ | apply Drawn0.step)⟩
  · replace c5 := Bool.eq_false_iff.mpr c5
    subst c5
    have H1 : (some (0, 2)) = some (r1, r2) := by rw [if_neg (show ¬ (false = true) by decide)] at H; exact H
    clear H
    have H := H1
    clear H1
    simp only [Option.some.injEq, Prod.mk.injEq] at H
    obtain ⟨rfl, rfl⟩ := H
    go_enter Try.func15, Try.ntmps15
    go_wp2_with (first | ((with_reducible refine gate_callee (f := 30) rfl ?_); refine goesL_ (some 10) rfl rfl Try.func30 (by kernel_rfl) rfl #[.int .i64 a0, .int .i64 a1] rfl (by (try simp only [List.map_toArray, List.map_cons, List.map_nil]); first | done | rfl | (simp only [List.length_drop, List.length_take]; rfl)) ?_; (with_reducible refine (bucket_may.calls a0 a1 false _ A4.out).mono ?_); rintro e w' ⟨rfl, ⟨nd, rfl⟩⟩; refine ⟨_, rfl, ?_⟩))
    go_ret2
    exact ⟨by first | rfl | (simp; done) | (simp [*]; done), by repeat (first | exact Drawn0.refl _ | apply Drawn0.step)⟩

end Go.Proofs.Ytnbpkibefgahlaa.HTopShaped
