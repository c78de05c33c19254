/- The contracts of the functions that the law HoleSacks reaches: Go's code comes to what these Lean functions tell (written by a program of ours and the kit's, out of the translation). -/
import Derived.RangeFuncNested
import Derived.RangeFuncBound
import Derived.RangeFuncCalls
import Derived.RangeFuncBox
import Derived.RangeFuncLeaves
import Derived.Shelf.Abstract
import Derived.Shelf.RegionOpen
import Derived.OwnWalkIn
import Derived.TacticsInMore
import Derived.LoopNIn
import Derived.LoopIn
import Derived.Test.YtbbohccnhcfmnabHHoleSacksx0
import Derived.Test.YtbbohccnhcfmnabHHoleSacksx1
namespace Go.Proofs.Ytbbohccnhcfmnab.HHoleSacks
open Go.RowKit Go.Proofs.YtbbohccnhcfmnabW.PrintWords Go.Proofs.YtbbohccnhcfmnabW.PrintLast Go.Proofs.YtbbohccnhcfmnabW.PrintMore
attribute [local go_sem] max2_int min2_int max_two min_two max_three min_three max_four min_four   -- for this text's walks alone
set_option linter.unusedVariables false
set_option linter.unusedSimpArgs false

attribute [local go_sem high] eqA108
/-! ### packthreadlaw_sameRanges: function 29 -/
def packthreadlaw_sameRanges.l0 : Nat → List (S108) → List (S108) → Int → Option (Bool)
  | 0, _, _, _ => none
  | k + 1, x0, x1, x5 => if x5 < (x0.length : Int) then (if 0 ≤ x5 then (if x5 < (x1.length : Int) then (if (!(((rd_T108 x0 x5).f0) == ((rd_T108 x1 x5).f0)) || (!(((rd_T108 x0 x5).f1) == ((rd_T108 x1 x5).f1)))) = true then (some false) else (packthreadlaw_sameRanges.l0 k x0 x1 (wrap64 (x5 + 1)))) else (none)) else (none)) else (some true)
def packthreadlaw_sameRanges.f (k : Nat) (l0 : List (S108)) (l1 : List (S108)) : Option (Bool) := if (l0.length : Int) = (l1.length : Int) then (packthreadlaw_sameRanges.l0 k l0 l1 0) else (some false)
theorem packthreadlaw_sameRanges.mono_l : ∀ k, (∀ y0 y1 y2, LeO (packthreadlaw_sameRanges.l0 k y0 y1 y2) (packthreadlaw_sameRanges.l0 (k + 1) y0 y1 y2))
  | 0 => fun _ _ _ r h => by simp [packthreadlaw_sameRanges.l0] at h
  | k + 1 => by
    have ih0 := packthreadlaw_sameRanges.mono_l k
    · intro y0 y1 y2
      unfold packthreadlaw_sameRanges.l0
      repeat' first
      | (with_reducible exact ih0 _ _ _)
      | (with_reducible exact LeO.refl _)
      | (with_reducible exact LeO.none _)
      | (with_reducible refine LeO.ite ?_ ?_)
      | (with_reducible refine LeO.bind ?_ (fun _ => ?_))
      | exact ih0 _ _ _
      | exact LeO.none _
      | refine LeO.ite ?_ ?_
      | refine LeO.bind ?_ (fun _ => ?_)
theorem packthreadlaw_sameRanges.mono : ∀ a0 a1 k, LeO (packthreadlaw_sameRanges.f k a0 a1) (packthreadlaw_sameRanges.f (k + 1) a0 a1) := by
  intro a0 a1 k
  have ih0 := packthreadlaw_sameRanges.mono_l k
  unfold packthreadlaw_sameRanges.f
  repeat' first
      | (with_reducible exact ih0 _ _ _)
      | (with_reducible exact LeO.refl _)
      | (with_reducible exact LeO.none _)
      | (with_reducible refine LeO.ite ?_ ?_)
      | (with_reducible refine LeO.bind ?_ (fun _ => ?_))
      | exact ih0 _ _ _
      | exact LeO.none _
      | refine LeO.ite ?_ ?_
      | refine LeO.bind ?_ (fun _ => ?_)
set_option maxHeartbeats 8000000 in
set_option maxRecDepth 100000 in
theorem packthreadlaw_sameRanges.calls (k : Nat) (A0 : Option Addr) (c0 : Nat) (l0 : List (S108)) (A1 : Option Addr) (c1 : Nat) (l1 : List (S108)) (r : Bool) (w : World) (hr0 : Kd.C k108 w A0 l0.length l0) (hc0 : l0.length ≤ c0) (hr1 : Kd.C k108 w A1 l1.length l1) (hc1 : l1.length ≤ c1) (h : packthreadlaw_sameRanges.f k l0 l1 = some r) :
    Calls Try.prog 29 #[.slice A0 l0.length c0, .slice A1 l1.length c1] w fun e w' => e = .returned (.bool r) ∧ Drawn0 w w' := by
  have hu108 := Try.underlying108
  have HR0 := Aside0.mk hr0
  have HC0 := Aside0.mk hc0
  clear hr0 hc0
  have HR1 := Aside0.mk hr1
  have HC1 := Aside0.mk hc1
  clear hr1 hc1
  have H : (if (l0.length : Int) = (l1.length : Int) then (packthreadlaw_sameRanges.l0 k l0 l1 0) else (some false)) = some r := h
  clear h
  by_cases c3 : (l0.length : Int) = (l1.length : Int)
  · rw [if_pos c3] at H
    have c3b0 : ((l0.length : Int) == (l1.length : Int)) = true := beq_iff_eq.mpr c3
    have c3b1 : ((l0.length : Int) != (l1.length : Int)) = false := bne_eq_false_iff_eq.mpr c3
    have c3b2 : (l0.length == l1.length) = true := by first | simpa using c3 | (simp at c3 ⊢; omega)
    clear c3
    have H' := Aside0.mk H
    clear H
    go_enter Try.func29, Try.ntmps29
    go_wp2
    repeat (go_quiet (fail); try go_wp2)
    go_loopg [5] k (fun kq v5 w' => ∃ (x5_1 : Int), v5 = .int .i64 x5_1 ∧ Aside0 (packthreadlaw_sameRanges.l0 kq l0 l1 x5_1 = some r) ∧ Aside0 (kq ≤ k) ∧ Drawn0 w w')
    case atStart => exact ⟨(0), (by first | rfl | (simp; done) | (simp [*]; done)), H', ⟨Nat.le_refl _⟩, by repeat (first | exact Drawn0.refl _ | apply Drawn0.step)⟩
    case round =>
      clear H'
      try clear c1
      try clear c2
      try clear p2
      try clear c3
      try clear c3b0
      try clear c3b1
      try clear c3b2
      obtain ⟨x5_1, rfl, HA, HK1, ⟨m1, rfl⟩⟩ := hrel
      cases gk with
      | zero => exact absurd HA.out (by simp [packthreadlaw_sameRanges.l0])
      | succ k1 =>
        have H := HA.out
        clear HA
        simp only [packthreadlaw_sameRanges.l0] at H
        by_cases c4 : x5_1 < (l0.length : Int)
        · rw [if_pos c4] at H
          have c4b0 : decide (x5_1 < (l0.length : Int)) = true := decide_eq_true c4
          clear c4
          by_cases c5 : 0 ≤ x5_1
          · rw [if_pos c5] at H
            have c5b0 : decide (0 ≤ x5_1) = true := decide_eq_true c5
            clear c5
            by_cases c6 : x5_1 < (l1.length : Int)
            · rw [if_pos c6] at H
              have c6b0 : decide (x5_1 < (l1.length : Int)) = true := decide_eq_true c6
              clear c6
              by_cases c7 : (!(((rd_T108 l0 x5_1).f0) == ((rd_T108 l1 x5_1).f0)) || (!(((rd_T108 l0 x5_1).f1) == ((rd_T108 l1 x5_1).f1)))) = true
              · rw [if_pos c7] at H
                have c7b0 : (!(((rd_T108 l0 x5_1).f0) == ((rd_T108 l1 x5_1).f0)) || (!(((rd_T108 l0 x5_1).f1) == ((rd_T108 l1 x5_1).f1)))) = true := c7
                clear c7
                obtain rfl := Option.some.inj H
                have p101 : 0 ≤ (x5_1 : Int) := of_decide_eq_true (by first | (with_reducible assumption) | assumption)
                have q101 : x5_1 < (l0.length : Int) := of_decide_eq_true (by first | (with_reducible assumption) | assumption)
                obtain ⟨ad101, e101, hx101_0, hx101_1⟩ := at_T108 HR0.out x5_1 p101 q101
                cases e101
                replace p101 := eq_true p101
                replace q101 := eq_true q101
                have p102 : 0 ≤ (x5_1 : Int) := of_decide_eq_true (by first | (with_reducible assumption) | assumption)
                have q102 : x5_1 < (l1.length : Int) := of_decide_eq_true (by first | (with_reducible assumption) | assumption)
                obtain ⟨ad102, e102, hx102_0, hx102_1⟩ := at_T108 HR1.out x5_1 p102 q102
                cases e102
                replace p102 := eq_true p102
                replace q102 := eq_true q102
                go_wp2
                repeat (go_quiet (fail); try go_wp2)
                go_ret
                exact ⟨by first | rfl | (simp; done) | (simp [*]; done), by repeat (first | exact Drawn0.refl _ | apply Drawn0.step)⟩
              · rw [if_neg c7] at H
                have c7b0 : (!(((rd_T108 l0 x5_1).f0) == ((rd_T108 l1 x5_1).f0)) || (!(((rd_T108 l0 x5_1).f1) == ((rd_T108 l1 x5_1).f1)))) = false := by simpa using c7
                clear c7
                have H' := Aside0.mk H
                clear H
                have p101 : 0 ≤ (x5_1 : Int) := of_decide_eq_true (by first | (with_reducible assumption) | assumption)
                have q101 : x5_1 < (l0.length : Int) := of_decide_eq_true (by first | (with_reducible assumption) | assumption)
                obtain ⟨ad101, e101, hx101_0, hx101_1⟩ := at_T108 HR0.out x5_1 p101 q101
                cases e101
                replace p101 := eq_true p101
                replace q101 := eq_true q101
                have p102 : 0 ≤ (x5_1 : Int) := of_decide_eq_true (by first | (with_reducible assumption) | assumption)
                have q102 : x5_1 < (l1.length : Int) := of_decide_eq_true (by first | (with_reducible assumption) | assumption)
                obtain ⟨ad102, e102, hx102_0, hx102_1⟩ := at_T108 HR1.out x5_1 p102 q102
                cases e102
                replace p102 := eq_true p102
                replace q102 := eq_true q102
                go_wp2
                repeat (go_quiet (fail); try go_wp2)
                go_roundg k1
                case measure => have := HK1.out; omega
                case rel => exact ⟨(wrap64 (x5_1 + 1)), (by first | rfl | (simp; done) | (simp [*]; done)), H', ⟨by have := HK1.out; omega⟩, by repeat (first | exact Drawn0.refl _ | apply Drawn0.step)⟩
            · rw [if_neg c6] at H
              exact absurd H (by simp)
          · rw [if_neg c5] at H
            exact absurd H (by simp)
        · rw [if_neg c4] at H
          have c4b0 : decide (x5_1 < (l0.length : Int)) = false := decide_eq_false c4
          clear c4
          obtain rfl := Option.some.inj H
          go_wp2
          repeat (go_quiet (fail); try go_wp2)
          go_ret
          exact ⟨by first | rfl | (simp; done) | (simp [*]; done), by repeat (first | exact Drawn0.refl _ | apply Drawn0.step)⟩
  · rw [if_neg c3] at H
    have c3b0 : ((l0.length : Int) == (l1.length : Int)) = false := beq_eq_false_iff_ne.mpr c3
    have c3b1 : ((l0.length : Int) != (l1.length : Int)) = true := bne_iff_ne.mpr c3
    have c3b2 : (l0.length == l1.length) = false := by first | simpa using c3 | (simp at c3 ⊢; omega)
    obtain rfl := Option.some.inj H
    go_enter Try.func29, Try.ntmps29
    go_wp2
    repeat (go_quiet (fail); try go_wp2)
    go_ret
    exact ⟨by first | rfl | (simp; done) | (simp [*]; done), by repeat (first | exact Drawn0.refl _ | apply Drawn0.step)⟩

/-! ### hole_May: function 64 -/
def hole_May.l0 : Nat → Int → List (S108) → Int → List (S108) → Int → Int → Option (Bool)
  | 0, _, _, _, _, _, _ => none
  | k + 1, x0, x1, x5, x9, x10, x11 => if x11 < x10 then (if 0 ≤ x11 then (if x11 < (x9.length : Int) then (if ((rd_T108 x9 x11).f0) ≤ x5 then (some false) else (if ((rd_T108 x9 x11).f0) ≥ ((rd_T108 x9 x11).f1) then (some false) else (hole_May.l0 k x0 x1 ((rd_T108 x9 x11).f1) x9 x10 (wrap64 (x11 + 1))))) else (none)) else (none)) else (if x0 ≥ 0 then (if x5 ≤ 1048576 then (if x0 ≤ 1048576 then (some (decide ((x1.length : Int) ≤ 16))) else (some false)) else (some false)) else (some false))
def hole_May.f (k : Nat) (a0 : Int) (l1 : List (S108)) : Option (Bool) := hole_May.l0 k a0 l1 a0 l1 (l1.length : Int) 0
theorem hole_May.mono_l : ∀ k, (∀ y0 y1 y2 y3 y4 y5, LeO (hole_May.l0 k y0 y1 y2 y3 y4 y5) (hole_May.l0 (k + 1) y0 y1 y2 y3 y4 y5))
  | 0 => fun _ _ _ _ _ _ r h => by simp [hole_May.l0] at h
  | k + 1 => by
    have ih0 := hole_May.mono_l k
    · intro y0 y1 y2 y3 y4 y5
      unfold hole_May.l0
      repeat' first
      | (with_reducible exact ih0 _ _ _ _ _ _)
      | (with_reducible exact LeO.refl _)
      | (with_reducible exact LeO.none _)
      | (with_reducible refine LeO.ite ?_ ?_)
      | (with_reducible refine LeO.bind ?_ (fun _ => ?_))
      | exact ih0 _ _ _ _ _ _
      | exact LeO.none _
      | refine LeO.ite ?_ ?_
      | refine LeO.bind ?_ (fun _ => ?_)
theorem hole_May.mono : ∀ a0 a1 k, LeO (hole_May.f k a0 a1) (hole_May.f (k + 1) a0 a1) := by
  intro a0 a1 k
  have ih0 := hole_May.mono_l k
  unfold hole_May.f
  repeat' first
      | (with_reducible exact ih0 _ _ _ _ _ _)
      | (with_reducible exact LeO.refl _)
      | (with_reducible exact LeO.none _)
      | (with_reducible refine LeO.ite ?_ ?_)
      | (with_reducible refine LeO.bind ?_ (fun _ => ?_))
      | exact ih0 _ _ _ _ _ _
      | exact LeO.none _
      | refine LeO.ite ?_ ?_
      | refine LeO.bind ?_ (fun _ => ?_)
set_option maxHeartbeats 8000000 in
set_option maxRecDepth 100000 in
theorem hole_May.calls (k : Nat) (a0 : Int) (A1 : Option Addr) (c1 : Nat) (l1 : List (S108)) (r : Bool) (w : World) (hr1 : Kd.C k108 w A1 l1.length l1) (hc1 : l1.length ≤ c1) (h : hole_May.f k a0 l1 = some r) :
    Calls Try.prog 64 #[.int .i64 a0, .slice A1 l1.length c1] w fun e w' => e = .returned (.bool r) ∧ Below w.heap.size w w' := by
  have hu108 := Try.underlying108
  have HR1 := Aside0.mk hr1
  have HC1 := Aside0.mk hc1
  clear hr1 hc1
  have HB := Aside0.mk (Below.refl w.heap.size w)
  have H : (hole_May.l0 k a0 l1 a0 l1 (l1.length : Int) 0) = some r := h
  clear h
  have H' := Aside0.mk H
  clear H
  go_enter Try.func64, Try.ntmps64
  go_wp2
  go_loopg [5, 11] k (fun kq v5 v11 w' => ∃ (x5_1 : Int) (x11_1 : Int), v5 = .int .i64 x5_1 ∧ v11 = .int .i64 x11_1 ∧ Aside0 (hole_May.l0 kq a0 l1 x5_1 l1 (l1.length : Int) x11_1 = some r) ∧ Aside0 (kq ≤ k) ∧ Aside0 (Below w.heap.size w w'))
  case atStart => exact ⟨(a0), (0), (by first | rfl | (simp; done) | (simp [*]; done)), (by first | rfl | (simp; done) | (simp [*]; done)), H', ⟨Nat.le_refl _⟩, ⟨by repeat (first | (with_reducible first | exact HB.out | apply below_alloc | apply pw_below_drewN | apply below_drew1) | exact HB.out)⟩⟩
  case round =>
    clear H'
    try clear c1
    try clear p2
    obtain ⟨x5_1, x11_1, rfl, rfl, HA, HK1, HB⟩ := hrel
    cases gk with
    | zero => exact absurd HA.out (by simp [hole_May.l0])
    | succ k1 =>
      have H := HA.out
      clear HA
      simp only [hole_May.l0] at H
      by_cases c3 : x11_1 < (l1.length : Int)
      · rw [if_pos c3] at H
        have c3b0 : decide (x11_1 < (l1.length : Int)) = true := decide_eq_true c3
        clear c3
        by_cases c4 : 0 ≤ x11_1
        · rw [if_pos c4] at H
          have c4b0 : decide (0 ≤ x11_1) = true := decide_eq_true c4
          clear c4
          by_cases c5 : x11_1 < (l1.length : Int)
          · rw [if_pos c5] at H
            have c5b0 : decide (x11_1 < (l1.length : Int)) = true := decide_eq_true c5
            clear c5
            by_cases c6 : ((rd_T108 l1 x11_1).f0) ≤ x5_1
            · rw [if_pos c6] at H
              have c6b0 : decide (((rd_T108 l1 x11_1).f0) ≤ x5_1) = true := decide_eq_true c6
              clear c6
              obtain rfl := Option.some.inj H
              have p103 : 0 ≤ (x11_1 : Int) := of_decide_eq_true (by first | (with_reducible assumption) | assumption)
              have q103 : x11_1 < (l1.length : Int) := of_decide_eq_true (by first | (with_reducible assumption) | assumption)
              obtain ⟨ad103, e103, hx103_0, hx103_1⟩ := at_T108 HR1.out x11_1 p103 q103
              cases e103
              replace hx103_0 := (HB.out.cell (World.block_lt_of_cell? w _ hx103_0)).trans hx103_0
              replace hx103_1 := (HB.out.cell (World.block_lt_of_cell? w _ hx103_1)).trans hx103_1
              replace p103 := eq_true p103
              replace q103 := eq_true q103
              go_wp2_with (first | ((with_reducible refine gate_dst (N := 7) rfl ?_); (try (refine gate_guard (by rfl) ?_; dsimp only)); refine box_event ?hg (N := 7) ?hd (cs := #[.int .i64 0, .int .i64 0]) (t := 108) ?hr ?_; (case hd => rfl); (case hg => rfl); (case hr => first | (go_simp; done) | (go_simp; rfl)); intro gb104 hg w7 hbox hb; have n0_ := Aside0.mk (below_step (by repeat (first | (with_reducible first | exact HB.out | apply below_alloc | apply pw_below_drewN | apply below_drew1) | exact HB.out)) hb); have n1_ := Aside0.mk (hbox); have n2_ := Aside0.mk ((by rw [hg]; exact (below_size (by repeat (first | (with_reducible first | exact HB.out | apply below_alloc | apply pw_below_drewN | apply below_drew1) | exact HB.out))) : w.heap.size ≤ gb104)); have n3_ := Aside0.mk ((by rw [hg]; exact (below_size (by repeat (first | (with_reducible first | exact HB.out | apply below_alloc | apply pw_below_drewN | apply below_drew1) | exact HB.out))) : w.heap.size ≤ gb104)); clear HB; have HB := n0_; have BK104 := n1_; have GW104 := n2_; have GE104 := n3_; clear n0_ n1_ n2_ n3_; clear hb hbox hg; have hcz8_0 : w7.cell? ⟨gb104, 0, none⟩ = some (.int .i64 0) := (blk_cell BK104.out 0).trans rfl; have hcz8_1 : w7.cell? ⟨gb104, 1, none⟩ = some (.int .i64 0) := (blk_cell BK104.out 1).trans rfl; have hfz8_0 := blk_frozen BK104.out 0; have hfz8_1 := blk_frozen BK104.out 1))
              go_ret
              exact ⟨by first | rfl | (simp [errW_none, errW_some] <;> rfl) | (simp [*, errW_none, errW_some] <;> rfl), by repeat (first | (with_reducible first | exact HB.out | apply below_alloc | apply pw_below_drewN | apply below_drew1 | refine below_set ?_ GE104.out) | exact HB.out)⟩
            · rw [if_neg c6] at H
              have c6b0 : decide (((rd_T108 l1 x11_1).f0) ≤ x5_1) = false := decide_eq_false c6
              clear c6
              by_cases c9 : ((rd_T108 l1 x11_1).f0) ≥ ((rd_T108 l1 x11_1).f1)
              · rw [if_pos c9] at H
                have c9b0 : decide (((rd_T108 l1 x11_1).f1) ≤ ((rd_T108 l1 x11_1).f0)) = true := decide_eq_true c9
                clear c9
                obtain rfl := Option.some.inj H
                have p103 : 0 ≤ (x11_1 : Int) := of_decide_eq_true (by first | (with_reducible assumption) | assumption)
                have q103 : x11_1 < (l1.length : Int) := of_decide_eq_true (by first | (with_reducible assumption) | assumption)
                obtain ⟨ad103, e103, hx103_0, hx103_1⟩ := at_T108 HR1.out x11_1 p103 q103
                cases e103
                replace hx103_0 := (HB.out.cell (World.block_lt_of_cell? w _ hx103_0)).trans hx103_0
                replace hx103_1 := (HB.out.cell (World.block_lt_of_cell? w _ hx103_1)).trans hx103_1
                replace p103 := eq_true p103
                replace q103 := eq_true q103
                go_wp2_with (first | ((with_reducible refine gate_dst (N := 7) rfl ?_); (try (refine gate_guard (by rfl) ?_; dsimp only)); refine box_event ?hg (N := 7) ?hd (cs := #[.int .i64 0, .int .i64 0]) (t := 108) ?hr ?_; (case hd => rfl); (case hg => rfl); (case hr => first | (go_simp; done) | (go_simp; rfl)); intro gb104 hg w10 hbox hb; have n0_ := Aside0.mk (below_step (by repeat (first | (with_reducible first | exact HB.out | apply below_alloc | apply pw_below_drewN | apply below_drew1) | exact HB.out)) hb); have n1_ := Aside0.mk (hbox); have n2_ := Aside0.mk ((by rw [hg]; exact (below_size (by repeat (first | (with_reducible first | exact HB.out | apply below_alloc | apply pw_below_drewN | apply below_drew1) | exact HB.out))) : w.heap.size ≤ gb104)); have n3_ := Aside0.mk ((by rw [hg]; exact (below_size (by repeat (first | (with_reducible first | exact HB.out | apply below_alloc | apply pw_below_drewN | apply below_drew1) | exact HB.out))) : w.heap.size ≤ gb104)); clear HB; have HB := n0_; have BK104 := n1_; have GW104 := n2_; have GE104 := n3_; clear n0_ n1_ n2_ n3_; clear hb hbox hg; have hcz11_0 : w10.cell? ⟨gb104, 0, none⟩ = some (.int .i64 0) := (blk_cell BK104.out 0).trans rfl; have hcz11_1 : w10.cell? ⟨gb104, 1, none⟩ = some (.int .i64 0) := (blk_cell BK104.out 1).trans rfl; have hfz11_0 := blk_frozen BK104.out 0; have hfz11_1 := blk_frozen BK104.out 1))
                go_ret
                exact ⟨by first | rfl | (simp [errW_none, errW_some] <;> rfl) | (simp [*, errW_none, errW_some] <;> rfl), by repeat (first | (with_reducible first | exact HB.out | apply below_alloc | apply pw_below_drewN | apply below_drew1 | refine below_set ?_ GE104.out) | exact HB.out)⟩
              · rw [if_neg c9] at H
                have c9b0 : decide (((rd_T108 l1 x11_1).f1) ≤ ((rd_T108 l1 x11_1).f0)) = false := decide_eq_false c9
                clear c9
                have H' := Aside0.mk H
                clear H
                have p103 : 0 ≤ (x11_1 : Int) := of_decide_eq_true (by first | (with_reducible assumption) | assumption)
                have q103 : x11_1 < (l1.length : Int) := of_decide_eq_true (by first | (with_reducible assumption) | assumption)
                obtain ⟨ad103, e103, hx103_0, hx103_1⟩ := at_T108 HR1.out x11_1 p103 q103
                cases e103
                replace hx103_0 := (HB.out.cell (World.block_lt_of_cell? w _ hx103_0)).trans hx103_0
                replace hx103_1 := (HB.out.cell (World.block_lt_of_cell? w _ hx103_1)).trans hx103_1
                replace p103 := eq_true p103
                replace q103 := eq_true q103
                go_wp2_with (first | ((with_reducible refine gate_dst (N := 7) rfl ?_); (try (refine gate_guard (by rfl) ?_; dsimp only)); refine box_event ?hg (N := 7) ?hd (cs := #[.int .i64 0, .int .i64 0]) (t := 108) ?hr ?_; (case hd => rfl); (case hg => rfl); (case hr => first | (go_simp; done) | (go_simp; rfl)); intro gb104 hg w12 hbox hb; have n0_ := Aside0.mk (below_step (by repeat (first | (with_reducible first | exact HB.out | apply below_alloc | apply pw_below_drewN | apply below_drew1) | exact HB.out)) hb); have n1_ := Aside0.mk (hbox); have n2_ := Aside0.mk ((by rw [hg]; exact (below_size (by repeat (first | (with_reducible first | exact HB.out | apply below_alloc | apply pw_below_drewN | apply below_drew1) | exact HB.out))) : w.heap.size ≤ gb104)); have n3_ := Aside0.mk ((by rw [hg]; exact (below_size (by repeat (first | (with_reducible first | exact HB.out | apply below_alloc | apply pw_below_drewN | apply below_drew1) | exact HB.out))) : w.heap.size ≤ gb104)); clear HB; have HB := n0_; have BK104 := n1_; have GW104 := n2_; have GE104 := n3_; clear n0_ n1_ n2_ n3_; clear hb hbox hg; have hcz13_0 : w12.cell? ⟨gb104, 0, none⟩ = some (.int .i64 0) := (blk_cell BK104.out 0).trans rfl; have hcz13_1 : w12.cell? ⟨gb104, 1, none⟩ = some (.int .i64 0) := (blk_cell BK104.out 1).trans rfl; have hfz13_0 := blk_frozen BK104.out 0; have hfz13_1 := blk_frozen BK104.out 1))
                go_roundg k1
                case measure => have := HK1.out; omega
                case rel => exact ⟨((rd_T108 l1 x11_1).f1), (wrap64 (x11_1 + 1)), (by first | rfl | (simp; done) | (simp [*]; done)), (by first | rfl | (simp; done) | (simp [*]; done)), H', ⟨by have := HK1.out; omega⟩, ⟨by repeat (first | (with_reducible first | exact HB.out | apply below_alloc | apply pw_below_drewN | apply below_drew1 | refine below_set ?_ GE104.out) | exact HB.out)⟩⟩
          · rw [if_neg c5] at H
            exact absurd H (by simp)
        · rw [if_neg c4] at H
          exact absurd H (by simp)
      · rw [if_neg c3] at H
        have c3b0 : decide (x11_1 < (l1.length : Int)) = false := decide_eq_false c3
        clear c3
        by_cases c14 : a0 ≥ 0
        · rw [if_pos c14] at H
          have c14b0 : decide (0 ≤ a0) = true := decide_eq_true c14
          clear c14
          by_cases c15 : x5_1 ≤ 1048576
          · rw [if_pos c15] at H
            have c15b0 : decide (x5_1 ≤ 1048576) = true := decide_eq_true c15
            clear c15
            by_cases c16 : a0 ≤ 1048576
            · rw [if_pos c16] at H
              have c16b0 : decide (a0 ≤ 1048576) = true := decide_eq_true c16
              clear c16
              obtain rfl := Option.some.inj H
              go_wp2
              go_ret
              exact ⟨by first | rfl | (simp [errW_none, errW_some] <;> rfl) | (simp [*, errW_none, errW_some] <;> rfl), by repeat (first | (with_reducible first | exact HB.out | apply below_alloc | apply pw_below_drewN | apply below_drew1) | exact HB.out)⟩
            · rw [if_neg c16] at H
              have c16b0 : decide (a0 ≤ 1048576) = false := decide_eq_false c16
              clear c16
              obtain rfl := Option.some.inj H
              go_wp2
              go_ret
              exact ⟨by first | rfl | (simp [errW_none, errW_some] <;> rfl) | (simp [*, errW_none, errW_some] <;> rfl), by repeat (first | (with_reducible first | exact HB.out | apply below_alloc | apply pw_below_drewN | apply below_drew1) | exact HB.out)⟩
          · rw [if_neg c15] at H
            have c15b0 : decide (x5_1 ≤ 1048576) = false := decide_eq_false c15
            clear c15
            obtain rfl := Option.some.inj H
            go_wp2
            go_ret
            exact ⟨by first | rfl | (simp [errW_none, errW_some] <;> rfl) | (simp [*, errW_none, errW_some] <;> rfl), by repeat (first | (with_reducible first | exact HB.out | apply below_alloc | apply pw_below_drewN | apply below_drew1) | exact HB.out)⟩
        · rw [if_neg c14] at H
          have c14b0 : decide (0 ≤ a0) = false := decide_eq_false c14
          clear c14
          obtain rfl := Option.some.inj H
          go_wp2
          go_ret
          exact ⟨by first | rfl | (simp [errW_none, errW_some] <;> rfl) | (simp [*, errW_none, errW_some] <;> rfl), by repeat (first | (with_reducible first | exact HB.out | apply below_alloc | apply pw_below_drewN | apply below_drew1) | exact HB.out)⟩

-- NOT PRINTED: function 73 (api_Range)

/-! ### hole_Sacks: function 43 -/
section
open Go.Shelf
attribute [local go_sem] Oper.semAt_some
/-- What has come when k rounds are over: the last one first, each with its index. -/
def upto (xs : List S108) (k : Nat) : List (Int × S108) := (List.range k).map fun (j : Nat) => ((xs.length : Int) - 1 - (j : Int), rd_T108 xs ((xs.length : Int) - 1 - (j : Int)))
theorem upto_succ (xs : List S108) (k : Nat) : upto xs (k + 1) = upto xs k ++ [((xs.length : Int) - 1 - (k : Int), rd_T108 xs ((xs.length : Int) - 1 - (k : Int)))] := by simp [upto, List.range_succ]
theorem upto_length (xs : List S108) (k : Nat) : (upto xs k).length = k := by simp [upto]
def enc (x : Int × S108) : Array Value := #[.int .i64 x.1, .agg #[.int .i64 x.2.f0, .int .i64 x.2.f1]]
/-- What a round keeps: what lay below n0, and the box of the slice. -/
def Keeps (n0 Bs : Nat) (sv : Value) (W W' : World) : Prop := Below n0 W W' ∧ (Boxed W Bs 52 sv → Boxed W' Bs 52 sv)
theorem w64b {x : Int} (h : -9223372036854775808 ≤ x) (h' : x ≤ 9223372036854775807) : wrap64 x = x := by unfold wrap64; omega
set_option maxRecDepth 100000 in
set_option maxHeartbeats 2000000 in
theorem back1_in (F : Fence) (n : Nat) (h7 : F.fn 83) (hro : F.round = none) (hn : 1 ≤ n) (l Bs : Nat) (A : Option Addr) (cap : Nat) (xs : List S108) (hlen : xs.length ≤ 1048576) (w0 : World) (hC : Kd.C k108 w0 A xs.length xs) (J Jx : List (Int × S108) → World → Prop)
    (hY : ∀ pre x W, J pre W → pre.length < xs.length → YieldAt F (n - 1) Try.prog l (enc x) W fun e W' =>
      (e = .returned (.bool true) ∧ J (pre ++ [x]) W' ∧ Keeps w0.heap.size Bs (.slice A xs.length cap) W W') ∨ (e = .returned (.bool false) ∧ Jx (pre ++ [x]) W'))
    (W : World) (hW : Below w0.heap.size w0 W) (hB : Boxed W Bs 52 (.slice A xs.length cap)) (h0 : J [] W) :
    CallsIn F n Try.prog 83 #[.func (.yield l) #[] #[], .pointer (some ⟨Bs, 0, none⟩)] W fun e W' => (∃ v, e = .returned v) ∧
      ((∃ ys, ys = upto xs xs.length ∧ J ys W') ∨ (∃ pre, (∃ k, k ≤ xs.length ∧ pre = upto xs k) ∧ Jx pre W')) := by
  refine callsIn_of_wp Try.func83 rfl h7 ?_ hro
  simp only [Try.ntmps83, List.size_toArray, List.length_cons, List.length_nil, Nat.reduceAdd, Nat.reduceSub, Array.replicate_succ, Array.replicate_zero, List.push_toArray, List.append_toArray, List.nil_append, List.cons_append]
  have hBs := hB.cell
  have hst : wrap64 ((xs.length : Int) - 1) = (xs.length : Int) - 1 := w64b (by omega) (by omega)
  gi_wp2
  gi_loopw [3] (fun i wr => ∃ k : Nat, k ≤ xs.length ∧ i = .int .i64 ((xs.length : Int) - 1 - (k : Int)) ∧ J (upto xs k) wr ∧ Below w0.heap.size W wr ∧ Boxed wr Bs 52 (.slice A xs.length cap))
    (fun i _ => ((intOf i) + 1).toNat)
  case atStart => exact ⟨0, Nat.zero_le _, by simp, h0, Below.refl _ _, hB⟩
  case round =>
    obtain ⟨k, hk, hi, hJs, hnx, hBk⟩ := hrel
    clear hBs hst
    have hBs := hBk.cell
    by_cases hlt : k < xs.length
    · obtain ⟨j, hj⟩ : ∃ j : Nat, (xs.length : Int) - 1 - (k : Int) = (j : Int) := ⟨xs.length - 1 - k, by omega⟩
      obtain ⟨ad, rfl, hx0, hx1⟩ := at_T108 (Kd.C_below hC (hW.trans hnx)) (j : Int) (by omega) (by omega)
      obtain ⟨fn, tmps, assign, body, hy, hR⟩ := hY _ ((j : Int), rd_T108 xs (j : Int)) wr hJs (by rw [upto_length]; exact hlt)
      have hup := Aside0.mk (show upto xs (k + 1) = upto xs k ++ [((j : Int), rd_T108 xs (j : Int))] by rw [upto_succ, hj])
      have hst := Aside0.mk (show wrap64 ((j : Int) - 1) = (xs.length : Int) - 1 - ((k + 1 : Nat) : Int) by rw [w64b (by omega) (by omega)]; omega)
      have HJ := Aside0.mk hj
      rw [hj] at hi
      subst hi
      simp only [enc] at hy
      rw [Int.toNat_natCast] at hx0 hx1
      have b1_ : decide ((j : Int) ≥ 0) = true := decide_eq_true (by omega)
      have b2_ : j < xs.length := by omega
      clear hj
      generalize rd_T108 xs (j : Int) = x at *
      gi_wp2
      refine hR.mono ?_
      rintro e W3 (⟨rfl, hJ3, hk3⟩ | ⟨rfl, hJx3⟩)
      · gi_wp2
        go_roundw
        case rel => exact ⟨k + 1, by omega, by congr 1; have := HJ.out; omega, by rw [hup.out]; exact hJ3, hnx.trans hk3.1, hk3.2 hBk⟩
        case measure => have := HJ.out; simp only [intOf]; omega
      · gi_wp2
        refine bodyPost_ret (results_none rfl _ _ _) rfl ?_
        exact ⟨⟨_, rfl⟩, .inr ⟨_, ⟨k + 1, by omega, hup.out.symm⟩, hJx3⟩⟩
    · obtain rfl : k = xs.length := by omega
      have e : (xs.length : Int) - 1 - (xs.length : Int) = -1 := by omega
      rw [e] at hi
      subst hi
      gi_wp2
      go_end0
      exact ⟨⟨_, rfl⟩, .inl ⟨_, rfl, hJs⟩⟩
set_option maxHeartbeats 1000000 in
theorem back_in (F : Fence) (n : Nat) (h5 : F.fn 73) (hro : F.round = none) (a : Option Addr) (len cap : Nat) (w : World) :
    CallsIn F n Try.prog 73 #[.slice a len cap] w fun e w' => e = .returned (.func (.func 83) #[] #[.pointer (some ⟨w.heap.size, 0, none⟩)]) ∧ w' = w.alloc (.cells #[.slice a len cap] 52) := by
  refine callsIn_of_wp Try.func73 rfl h5 ?_ hro
  simp only [Try.ntmps73, List.size_toArray, List.length_cons, List.length_nil, Nat.reduceAdd, Nat.reduceSub, Array.replicate_succ, Array.replicate_zero, List.push_toArray, List.append_toArray, List.nil_append, List.cons_append]
  gi_wp2
  go_ret
  exact ⟨rfl, rfl⟩
theorem back_stops (F : Fence) (n : Nat) (h7 : F.fn 83) (hro : F.round = none) (hn : 1 ≤ n) (Bs : Nat) (A : Option Addr) (cap : Nat) (xs : List S108) (hlen : xs.length ≤ 1048576) (w0 w : World) (hC : Kd.C k108 w0 A xs.length xs) (hw : Below w0.heap.size w0 w) (hB : Boxed w Bs 52 (.slice A xs.length cap)) :
    SeqStopsK F n Try.prog 83 #[.pointer (some ⟨Bs, 0, none⟩)] enc (Keeps w0.heap.size Bs (.slice A xs.length cap)) (fun ys => ys = upto xs xs.length) (fun pre => ∃ k, k ≤ xs.length ∧ pre = upto xs k) xs.length w := fun l J Jx W hW _ _ hY h0 => by
  have hBW : Boxed W Bs 52 (.slice A xs.length cap) := (hW.block Bs hB.lt).trans hB
  refine (back1_in F n h7 hro hn l Bs A cap xs hlen w0 hC J Jx hY W (hw.trans (hW.mono hw.size)) hBW h0).mono ?_
  rintro e W' ⟨he, ⟨ys, rfl, hj⟩ | ⟨pre, hk, hj⟩⟩
  · exact ⟨he, .inl ⟨_, rfl, hj⟩⟩
  · exact ⟨he, .inr ⟨_, hk, hj⟩⟩
theorem keeps_t {n0 Bs : Nat} {sv : Value} {A B C : World} (h : Keeps n0 Bs sv A B) (k : Keeps n0 Bs sv B C) : Keeps n0 Bs sv A C := ⟨h.1.trans k.1, fun x => k.2 (h.2 x)⟩
theorem keeps_b {n0 Bs : Nat} {sv : Value} {w : World} (hn : n0 ≤ w.heap.size) (W : World) (l : Nat) (o o' : Obj) (hl : w.heap.size ≤ l) (h : W.heap[l]? = some o) (hc : o.isCells = false) (hw : o.isWalk = false) : Keeps n0 Bs sv W (W.putObj l o') :=
  ⟨belowK_b hn W l o o' hl h hc hw, fun hb => hb.kept (grownBy_putObj' W l o') (fun e => by
    have e' : Bs = l := by simpa using e
    subst e'
    have : o = .cells #[sv] 52 := by
      have h2 : W.heap[Bs]? = some (.cells #[sv] 52) := hb
      rw [h2] at h
      exact (Option.some.inj h).symm
    subst this
    cases hc)⟩
/-- append(v, x..): what is handed back lies where v lay, or in a new block. -/
theorem append_at {F : Fence} {n : Nat} {P : Program} (w : World) {ops : Array Oper} {rest : List Oper} {o : Oper} {a : Act} {Q : Exit → Act → World → Prop}
    (hg : o.guard = none) (s x : Operand) (t : TypeId) (hop : o.op = Op.call { callee := Callee.builtin Builtin.append, args := #[s, x], argTypes := #[t, t] })
    (base : Nat) (e : TypeId) (i : TypeInfo) (z : Value) (size bytes : Nat) (h1 : P.underlying t = some (.slice e)) (h2 : P.info? e = some i) (h3 : i.zero = some z) (h4 : i.size = size) (h5 : i.bytes = bytes) (h6 : z.cells.size = size) (h7 : 0 < size)
    (v : Value) (k : Nat) (xs : List Value) (hs : a.eval s = v) (hown : w.ownsRow base e size v k xs) (ad : Addr) (m c : Nat) (news : List Value) (hx : a.eval x = .slice (some ad) m c) (hn : news.length = m * size)
    (hc : ∀ j u, news[j]? = some u → w.cell? (ad.add j) = some u) (h1c : ∀ u ∈ news, u.oneCell' = true) (b1 : k + m ≤ maxLen) (b2 : (k + m) * bytes ≤ 140737488355328) (b3 : base ≤ w.heap.size)
    (hK : ∀ v' w', w'.ownsRow base e size v' (k + m) (xs ++ news) → w.grownBy w' v.ownBlock → (v'.ownBlock = v.ownBlock ∨ v'.ownBlock = some w.heap.size) → wpListIn F n P ops Q rest (a.put o.dst v') w') :
    wpListIn F n P ops Q (o :: rest) a w := by
  refine wpListIn_plain hg fun K hK' => ?_
  obtain ⟨v', w', hrun, r1, r2, _, r3⟩ := run_append_own_at (P := P) w base t o.type e i z size bytes h1 h2 h3 h4 h5 h6 h7 v k xs hown ad m c news hn hc h1c b1 b2 b3
  unfold Oper.wpIn
  refine ⟨?_, ?_⟩
  · simp [Oper.about, hop, resolve, Target.leads, Sem.run_pure]
  · rw [Oper.semAt_plain F _ _ (by rw [hop]; intro c hc'; cases hc')]
    simp [execOp, hop, resolve, invoke, builtin, hs, hx, hrun, Result.andThen]
    exact hK' _ _ (hK v' w' r1 r2 r3)
theorem append_none {F : Fence} {n : Nat} {P : Program} (w : World) {ops : Array Oper} {rest : List Oper} {o : Oper} {a : Act} {Q : Exit → Act → World → Prop}
    (hg : o.guard = none) (s x : Operand) (t : TypeId) (hop : o.op = Op.call { callee := Callee.builtin Builtin.append, args := #[s, x], argTypes := #[t, t] })
    (base : Nat) (e : TypeId) (i : TypeInfo) (size : Nat) (h1 : P.underlying t = some (.slice e)) (h2 : P.info? e = some i)
    (v : Value) (k : Nat) (xs : List Value) (hs : a.eval s = v) (hown : w.ownsRow base e size v k xs) (hx : a.eval x = .slice none 0 0) (hK : wpListIn F n P ops Q rest (a.put o.dst v) w) :
    wpListIn F n P ops Q (o :: rest) a w := by
  refine wpListIn_plain hg fun K hK' => ?_
  have hrun : (Builtin.append_ #[t, t] o.type #[v, .slice none 0 0]).run P w = .ok v w := by
    rcases hown.2 with ⟨rfl, hn⟩ | ⟨g, cap, cur, rfl, _, _, hnc, _⟩
    · simp [Builtin.append_, run_underlying h1, sizeOf, typeInfo, h2, Builtin.lenOf, Builtin.firstCells]
    · simp [Builtin.append_, run_underlying h1, sizeOf, typeInfo, h2, Builtin.lenOf, Builtin.firstCells, hnc, storeCells]
  unfold Oper.wpIn
  refine ⟨?_, ?_⟩
  · simp [Oper.about, hop, resolve, Target.leads, Sem.run_pure]
  · rw [Oper.semAt_plain F _ _ (by rw [hop]; intro c hc'; cases hc')]
    simp [execOp, hop, resolve, invoke, builtin, hs, hx, hrun, Result.andThen]
    exact hK' _ _ hK
def cellsOf (o : List S108) : List Value := o.flatMap fun x => [.int .i64 x.f0, .int .i64 x.f1]
theorem cellsOf_app (o p : List S108) : cellsOf (o ++ p) = cellsOf o ++ cellsOf p := by simp [cellsOf]
theorem cellsOf_length (o : List S108) : (cellsOf o).length = o.length * 2 := by
  induction o with
  | nil => rfl
  | cons a o ih => simp only [cellsOf, List.flatMap_cons, List.length_append, List.length_cons, List.length_nil] at ih ⊢; omega
theorem cells_one (o : List S108) : ∀ u ∈ cellsOf o, u.oneCell' = true := by
  intro u hu
  simp only [cellsOf, List.mem_flatMap] at hu
  obtain ⟨x, _, hx⟩ := hu
  simp at hx
  rcases hx with rfl | rfl <;> rfl
theorem reps_cells (R : S108 → List Value → Prop) (hR : ∀ x : S108, R x [.int .i64 x.f0, .int .i64 x.f1]) (n : Nat) : ∀ o : List S108, o.length = n → Reps R 2 o (cellsOf o) := by
  induction n with
  | zero => intro o h; obtain rfl := List.length_eq_zero_iff.1 h; exact Reps.none _ _
  | succ n ih =>
    intro o h
    have hne : o ≠ [] := by intro e; subst e; simp at h
    have e := List.dropLast_concat_getLast hne
    have h2 := ih o.dropLast (by simp [h])
    rw [← e, cellsOf_app]
    exact h2.snoc (hR _) rfl
/-- A row of ranges, owned. -/
theorem row_R {W : World} {n0 : Nat} {v : Value} {o : List S108} (h : W.ownsRow n0 108 2 v o.length (cellsOf o)) : Kd.R k108 108 W n0 (fun _ => True) v o :=
  ⟨fun _ _ => trivial, _, h, reps_cells _ (fun x => k108_mkM _ _ _ x) _ o rfl⟩
def inn (a : Int) (x : S108) : Bool := decide (x.f0 ≤ a) && decide (a < x.f1)
def outs (a : Int) (l : List (Int × S108)) : List S108 := (l.map (·.2)).filter (inn a)
def rests (a : Int) (l : List (Int × S108)) : List S108 := (l.map (·.2)).filter (fun x => !inn a x)
theorem outs_length (a : Int) (l : List (Int × S108)) : (outs a l).length ≤ l.length := by
  have := List.length_filter_le (inn a) (l.map (·.2))
  simpa [outs] using this
theorem rests_length (a : Int) (l : List (Int × S108)) : (rests a l).length ≤ l.length := by
  have := List.length_filter_le (fun x => !inn a x) (l.map (·.2))
  simpa [rests] using this
theorem outs_hit {a : Int} (l : List (Int × S108)) {x : Int × S108} (h : inn a x.2 = true) : outs a (l ++ [x]) = outs a l ++ [x.2] ∧ rests a (l ++ [x]) = rests a l := by simp [outs, rests, h]
theorem outs_miss {a : Int} (l : List (Int × S108)) {x : Int × S108} (h : inn a x.2 = false) : outs a (l ++ [x]) = outs a l ∧ rests a (l ++ [x]) = rests a l ++ [x.2] := by simp [outs, rests, h]
theorem row_cells {W : World} {base size n : Nat} {e : TypeId} {v : Value} {xs : List Value} (h : W.ownsRow base e size v n xs) : v.ownBlock = none ∨ ∃ g cur, v.ownBlock = some g ∧ g < W.heap.size ∧ base ≤ g ∧ W.heap[g]? = some (.cells cur e (0, 0)) := by
  rcases h.2 with ⟨rfl, _⟩ | ⟨g, cap, cur, rfl, hb, hg, _⟩
  · exact .inl rfl
  · exact .inr ⟨g, cur, rfl, (Array.getElem?_eq_some_iff.1 hg).1, hb, hg⟩
/-- What an append to one of two rows leaves, its box written. -/
theorem put_step {W w1 : World} {n0 bo br ba k k2 m : Nat} {v u v' av : Value} {xs ys zs : List Value} {tmp : Obj} (hv : Boxed W bo 52 v) (hu : Boxed W br 52 u) (hba : Boxed W ba 3 av)
    (hrv : W.ownsRow n0 108 2 v k xs) (hru : W.ownsRow n0 108 2 u k2 ys) (hne : NeRow v u) (hn : n0 ≤ W.heap.size) (hbo : n0 ≤ bo) (h1 : br ≠ bo) (h2 : ba ≠ bo)
    (hown' : w1.ownsRow n0 108 2 v' m zs) (hgrow : (W.alloc tmp).grownBy w1 v.ownBlock) (hat : v'.ownBlock = v.ownBlock ∨ v'.ownBlock = some (W.alloc tmp).heap.size) :
    Boxed w1 bo 52 v ∧ Boxed (w1.setCell ⟨bo, 0, none⟩ v') bo 52 v' ∧ Boxed (w1.setCell ⟨bo, 0, none⟩ v') br 52 u ∧ (w1.setCell ⟨bo, 0, none⟩ v').ownsRow n0 108 2 v' m zs ∧ (w1.setCell ⟨bo, 0, none⟩ v').ownsRow n0 108 2 u k2 ys ∧ NeRow v' u ∧
      Boxed (w1.setCell ⟨bo, 0, none⟩ v') ba 3 av ∧ KeepsOthers W (w1.setCell ⟨bo, 0, none⟩ v') ∧ Below n0 W (w1.setCell ⟨bo, 0, none⟩ v') ∧ (∀ Bs sv, Bs ≠ bo → Boxed W Bs 52 sv → Boxed (w1.setCell ⟨bo, 0, none⟩ v') Bs 52 sv) := by
  obtain ⟨hv1, hv2, hr2, hk2, hb2⟩ := hv.appended (by decide) hrv hn hbo hown' hgrow
  have hall : ∀ Bs (t : TypeId) sv, t ≠ 108 → Bs ≠ bo → Boxed W Bs t sv → Boxed (w1.setCell ⟨bo, 0, none⟩ v') Bs t sv := fun Bs t sv ht hne' hb =>
    ((hb.alloc tmp).kept hgrow (hb.not_row ht hrv)).other hne' v'
  have hu1 : w1.ownsRow n0 108 2 u k2 ys := own_other (hru.alloc tmp) hgrow (by
    rcases row_cells hru with h | ⟨g, cur, hg, _, _, _⟩
    · exact .inl h
    · exact .inr (by rw [hg]; intro e; exact hne g e.symm hg))
  refine ⟨hv1, hv2, hall br 52 u (by decide) h1 hu, hr2, own_setCell hu1 ?_ _, ?_, hall ba 3 av (by decide) h2 hba, hk2, hb2, fun Bs sv h hb => hall Bs 52 sv (by decide) h hb⟩
  · exact own_ne hu1 hv1 (by decide)
  · intro g hg hg'
    rcases row_cells hru with h | ⟨g', cur, hgg, hlt, _, _⟩
    · rw [h] at hg'; cases hg'
    · rw [hgg] at hg'
      cases hg'
      rcases hat with hat | hat
      · rw [hat] at hg
        exact hne _ hg hgg
      · rw [hat, World.size_alloc] at hg
        injection hg with hg
        omega
theorem own_le {W : World} {base size n c : Nat} {e : TypeId} {A : Option Addr} {xs : List Value} (h : W.ownsRow base e size (.slice A n c) n xs) : n ≤ c := by
  rcases h.2 with ⟨h1, h2⟩ | ⟨g, cap, cur, h1, _, _, h2, _⟩
  · omega
  · cases h1; exact h2
/-- Behind the last append, its store and the loop's end. -/
theorem fin_ {W w w1 : World} {bo D n c k : Nat} {A : Option Addr} {v : Value} {xs zs : List Value} (hown : w1.ownsRow w.heap.size 108 2 (.slice A n c) n zs) (hg : W.grownBy w1 v.ownBlock) (hv : Boxed W bo 52 v) (hv1 : Boxed w1 bo 52 v) (hrv : W.ownsRow w.heap.size 108 2 v k xs) (hB : Below w.heap.size w W)
    (hK : W.heap[D]? = some (.deferred (some []))) (hbo : w.heap.size ≤ bo) (hD : w.heap.size ≤ D) :
    (w1.setCell ⟨bo, 0, none⟩ (.slice A n c)).heap[D]? = some (.deferred (some [])) ∧ (∀ q : List S108, q.length = n → zs = cellsOf q → Kd.R k108 108 ((w1.setCell ⟨bo, 0, none⟩ (.slice A n c)).putObj D (.deferred none)) w.heap.size (fun _ => True) (.slice A n c) q) ∧
      Below w.heap.size w ((w1.setCell ⟨bo, 0, none⟩ (.slice A n c)).putObj D (.deferred none)) := by
  have hK1 : w1.heap[D]? = some (.deferred (some [])) := (hg.block D (Array.getElem?_eq_some_iff.1 hK).1 (fun e => by
    rcases row_cells hrv with h | ⟨g, cur, hgg, _, _, hh⟩
    · rw [h] at e; cases e
    · rw [hgg] at e
      cases e
      rw [hK] at hh
      cases hh)).trans hK
  have hKf : (w1.setCell ⟨bo, 0, none⟩ (.slice A n c)).heap[D]? = some (.deferred (some [])) := (KeepsOthers.setCell w1 ⟨bo, 0, none⟩ (.slice A n c)).same D _ hK1 rfl
  have hst : (w1.setCell ⟨bo, 0, none⟩ (.slice A n c)).ownsRow w.heap.size 108 2 (.slice A n c) n zs := own_setCell hown (own_ne hown (show w1.heap[bo]? = _ from hv1) (by decide)) _
  have hBf : Below w.heap.size w (w1.setCell ⟨bo, 0, none⟩ (.slice A n c)) := (hB.grown hg hB.size (fun k e => by
    rcases row_cells hrv with h | ⟨g, cur, hgg, _, hbb, _⟩
    · rw [h] at e; cases e
    · rw [hgg] at e; cases e; exact hbb)).setCell (p := ⟨bo, 0, none⟩) hbo _
  refine ⟨hKf, fun q hq hz => ?_, hBf.trans (belowK_b (w := w) (Nat.le_refl _) _ D _ (.deferred none) hD hKf rfl rfl)⟩
  subst hz
  subst hq
  exact row_R (ownsRow_putObj hst (.deferred none) hKf rfl)
def hole_Sacks.f (k : Nat) (a0 : Int) (l1 : List S108) (a2 a3 : Int) : Option (List S108 × Int) :=
  (hole_May.f k a0 l1).bind fun t => if t = true then (if a3 < 0 then some ([], 2) else (if a3 > 16 then some ([], 2) else (if l1.length ≤ 1048576 then some ((outs a2 (upto l1 l1.length) ++ rests a2 (upto l1 l1.length)).take a3.toNat, 0) else none))) else some ([], 4)
theorem hole_Sacks.mono : ∀ a0 a1 a2 a3 k, LeO (hole_Sacks.f k a0 a1 a2 a3) (hole_Sacks.f (k + 1) a0 a1 a2 a3) := by
  intro a0 a1 a2 a3 k
  unfold hole_Sacks.f
  exact LeO.bind (hole_May.mono _ _ _) (fun _ => LeO.refl _)
set_option maxHeartbeats 2000000 in
set_option maxRecDepth 100000 in
theorem hole_Sacks.calls (k : Nat) (a0 : Int) (A1 : Option Addr) (c1 : Nat) (l1 : List (S108)) (a2 : Int) (a3 : Int) (r1 : List (S108)) (r2 : Int) (w : World) (hr1 : Kd.C k108 w A1 l1.length l1) (hc1 : l1.length ≤ c1) (h : hole_Sacks.f k a0 l1 a2 a3 = some (r1, r2)) :
    Calls Try.prog 43 #[.int .i64 a0, .slice A1 l1.length c1, .int .i64 a2, .int .i64 a3] w fun e w' => ∃ v0_ : Value, e = .returned (.tuple #[v0_, .int .i64 r2]) ∧ Kd.R k108 108 w' w.heap.size (fun _ => True) v0_ r1 ∧ Below w.heap.size w w' := by
  have HR1 := Aside0.mk hr1
  have HC1 := Aside0.mk hc1
  clear hr1 hc1
  unfold hole_Sacks.f at h
  obtain ⟨t, ht, H⟩ := Option.bind_eq_some_iff.1 h
  clear h
  have HT := Aside0.mk ht
  clear ht
  refine (callsIn_wide (n := 5)).1 ?_
  refine callsIn_of_wp_marks Try.func43 rfl trivial ?_ rfl
  simp only [Try.ntmps43, List.size_toArray, List.length_cons, List.length_nil, Nat.reduceAdd, Nat.reduceSub, Array.replicate_succ, Array.replicate_zero, List.push_toArray, List.append_toArray, List.nil_append, List.cons_append]
  have hBB : Below w.heap.size w (w.alloc (Obj.cells #[Value.int IntKind.i64 a2] 3)) := (Below.refl _ w).alloc (Nat.le_refl _) _
  have HBB := Aside0.mk hBB
  clear hBB
  cases t with
  | false =>
    rw [if_neg (by simp)] at H
    simp only [Option.some.injEq, Prod.mk.injEq] at H
    obtain ⟨rfl, rfl⟩ := H
    gi_wp2_with (refine ⟨trivial, ?_⟩; gi_at_call 64; refine (callsIn_wide.2 (hole_May.calls k a0 A1 c1 l1 _ _ (Kd.C_below HR1.out HBB.out) HC1.out HT.out)).mono ?_; rintro e w' ⟨rfl, hb⟩; have b0_ := (Boxed.new w 3 (.int .i64 a2)); have b1_ : Boxed w' w.heap.size 3 (.int .i64 a2) := (hb.block _ (by simp)).trans b0_; have HB := Aside0.mk (HBB.out.trans (hb.mono (by simp))); clear hb b0_)
    exact ⟨_, results_tmp2 rfl _ _ _, _, rfl, Kd.R_nil _ _ _ _ _, HB.out⟩
  | true =>
    rw [if_pos rfl] at H
    by_cases h3 : a3 < 0
    · rw [if_pos h3] at H
      simp only [Option.some.injEq, Prod.mk.injEq] at H
      obtain ⟨rfl, rfl⟩ := H
      have c3_ : decide (a3 < 0) = true := decide_eq_true h3
      gi_wp2_with (refine ⟨trivial, ?_⟩; gi_at_call 64; refine (callsIn_wide.2 (hole_May.calls k a0 A1 c1 l1 _ _ (Kd.C_below HR1.out HBB.out) HC1.out HT.out)).mono ?_; rintro e w' ⟨rfl, hb⟩; have b0_ := (Boxed.new w 3 (.int .i64 a2)); have b1_ : Boxed w' w.heap.size 3 (.int .i64 a2) := (hb.block _ (by simp)).trans b0_; have HB := Aside0.mk (HBB.out.trans (hb.mono (by simp))); clear hb b0_)
      exact ⟨_, results_tmp2 rfl _ _ _, _, rfl, Kd.R_nil _ _ _ _ _, HB.out⟩
    · rw [if_neg h3] at H
      by_cases h4 : a3 > 16
      · rw [if_pos h4] at H
        simp only [Option.some.injEq, Prod.mk.injEq] at H
        obtain ⟨rfl, rfl⟩ := H
        have c3_ : decide (a3 < 0) = false := decide_eq_false h3
        have c4_ : decide (16 < a3) = true := decide_eq_true h4
        gi_wp2_with (refine ⟨trivial, ?_⟩; gi_at_call 64; refine (callsIn_wide.2 (hole_May.calls k a0 A1 c1 l1 _ _ (Kd.C_below HR1.out HBB.out) HC1.out HT.out)).mono ?_; rintro e w' ⟨rfl, hb⟩; have b0_ := (Boxed.new w 3 (.int .i64 a2)); have b1_ : Boxed w' w.heap.size 3 (.int .i64 a2) := (hb.block _ (by simp)).trans b0_; have HB := Aside0.mk (HBB.out.trans (hb.mono (by simp))); clear hb b0_)
        exact ⟨_, results_tmp2 rfl _ _ _, _, rfl, Kd.R_nil _ _ _ _ _, HB.out⟩
      · rw [if_neg h4] at H
        by_cases hl : l1.length ≤ 1048576
        · rw [if_pos hl] at H
          simp only [Option.some.injEq, Prod.mk.injEq] at H
          obtain ⟨rfl, rfl⟩ := H
          have c3_ : decide (a3 < 0) = false := decide_eq_false h3
          have c4_ : decide (16 < a3) = false := decide_eq_false h4
          have H3 := Aside0.mk h3
          have H4 := Aside0.mk h4
          clear h3 h4
          gi_wp2_with (first | (refine ⟨trivial, ?_⟩; gi_at_call 73; refine (back_in Fence.wide _ trivial rfl _ _ _ _).mono ?_; rintro e w' ⟨rfl, rfl⟩) | (refine ⟨trivial, ?_⟩; gi_at_call 64; refine (callsIn_wide.2 (hole_May.calls k a0 A1 c1 l1 _ _ (Kd.C_below HR1.out HBB.out) HC1.out HT.out)).mono ?_; rintro e w' ⟨rfl, hb⟩; have b0_ := (Boxed.new w 3 (.int .i64 a2)); have b1_ : Boxed w' w.heap.size 3 (.int .i64 a2) := (hb.block _ (by simp)).trans b0_; have HB := Aside0.mk (HBB.out.trans (hb.mono (by simp))); clear hb b0_))
          obtain ⟨W0, hW0⟩ : ∃ W0, w' = W0 := ⟨_, rfl⟩
          subst hW0
          have hsz := HB.out.size
          have hwl := b1_.lt
          have bO := (Boxed.new w' 52 (.slice none 0 0))
          have bR := (Boxed.new (w'.alloc (.cells #[.slice none 0 0] 52)) 52 (.slice none 0 0))
          have bN := Boxed.new ((w'.alloc (Obj.cells #[Value.slice none 0 0] 52)).alloc (Obj.cells #[Value.slice none 0 0] 52)) 52 (.slice A1 l1.length c1)
          simp only [World.size_alloc] at bR bN
          have hB3 : Below w.heap.size w (((w'.alloc (Obj.cells #[Value.slice none 0 0] 52)).alloc (Obj.cells #[Value.slice none 0 0] 52)).alloc (Obj.cells #[Value.slice A1 l1.length c1] 52)) := ((HB.out.alloc hsz _).alloc (by simp; omega) _).alloc (by simp; omega) _
          refine wpIn_rangeFunc_ownH rfl (by omega) (gf := 83) (lb := #[.pointer (some ⟨w'.heap.size + 1 + 1, 0, none⟩)]) rfl trivial (enters_of Try.func83 (by kernel_rfl) rfl)
            (back_stops Fence.wide _ trivial rfl (by omega) (w'.heap.size + 1 + 1) A1 c1 l1 hl w _ HR1.out hB3 bN) keeps_t (keeps_b (by simp; omega)) (Below.refl _ _) (fun _ => rfl)
            (fun pre W => (∃ v u, Boxed W w'.heap.size 52 v ∧ Boxed W (w'.heap.size + 1) 52 u ∧ W.ownsRow w.heap.size 108 2 v (outs a2 pre).length (cellsOf (outs a2 pre)) ∧ W.ownsRow w.heap.size 108 2 u (rests a2 pre).length (cellsOf (rests a2 pre)) ∧ NeRow v u) ∧ Boxed W w.heap.size 3 (.int .i64 a2) ∧ Below w.heap.size w W ∧ w'.heap.size + 1 + 1 < W.heap.size)
            (fun _ _ _ => False) ?hI (fun _ _ _ _ _ hs _ _ => hs) ?h0
            (fun x a' W => ∃ Bx, w'.heap.size + 1 + 1 < Bx ∧ W.heap[Bx]? = some (.cells #[.int .i64 x.2.f0, .int .i64 x.2.f1] 108 (0, 0)) ∧ a' = { tmps := #[.int .i64 a0, .slice A1 l1.length c1, .int .i64 a2, .int .i64 a3, undef, undef, .pointer (some ⟨w.heap.size, 0, none⟩), undef, .slice none 0 0, .int .i64 0, .pointer (some ⟨w'.heap.size, 0, none⟩), .pointer (some ⟨w'.heap.size + 1, 0, none⟩), undef, .pointer (some ⟨Bx, 0, none⟩), .int .i64 a0, .slice A1 l1.length c1, .bool true, .bool false, .int .i64 a3, .bool false, .bool false, .int .i64 a3, .bool false, .bool false, .slice A1 l1.length c1, .func (.func 83) #[] #[.pointer (some ⟨w'.heap.size + 1 + 1, 0, none⟩)], .int .i64 x.1, .agg #[.int .i64 x.2.f0, .int .i64 x.2.f1], undef, undef, undef, undef, undef, undef, undef, undef, undef, undef, undef, undef, undef, undef, undef, undef, undef, undef, undef, undef, undef, undef, undef, undef, undef, undef, undef], defers := [] })
            ?hAx ?assign ?body ?done ?stop
          case hI =>
            rintro pre X Y row ⟨⟨v, u, hv, hu, hrv, hru, hne⟩, hba, hB, hs⟩ hg hr
            have hc : ∀ g cs t f, X.heap[g]? = some (.cells cs t f) → some g ≠ row := by
              intro g cs t f hx e
              obtain ⟨_, o, ho, hoc⟩ := hr g e.symm
              rw [hx] at ho
              cases ho
              cases hoc
            have hrow : ∀ {z n ys}, X.ownsRow w.heap.size 108 2 z n ys → z.ownBlock = none ∨ z.ownBlock ≠ row := fun h => by
              rcases row_cells h with h | ⟨g, cur, hgg, _, _, hh⟩
              · exact .inl h
              · exact .inr (by rw [hgg]; exact hc _ _ _ _ hh)
            exact ⟨⟨v, u, hv.kept hg (hc _ _ _ _ hv), hu.kept hg (hc _ _ _ _ hu), own_other hrv hg (hrow hrv), own_other hru hg (hrow hru), hne⟩, hba.kept hg (hc _ _ _ _ hba),
              ownFrom_below (β := Unit) (Nat.le_refl _) (by simp; omega) () X Y row hB hg hr, Nat.lt_of_lt_of_le hs hg.size⟩
          case h0 =>
            exact ⟨⟨_, _, (bO.alloc _).alloc _, bR.alloc _, own_nil _ _ _ _, own_nil _ _ _ _, fun g hg => by simp [Value.ownBlock] at hg⟩, ((b1_.alloc _).alloc _).alloc _, hB3, by simp⟩
          case hAx =>
            rintro x a' _ X Y row ⟨Bx, h1, h2, h3⟩ hg hr
            refine ⟨Bx, h1, (hg.block Bx (Array.getElem?_eq_some_iff.1 h2).1 ?_).trans h2, h3⟩
            intro e
            obtain ⟨_, o, ho, hoc⟩ := hr Bx e.symm
            rw [h2] at ho
            cases ho
            cases hoc
          case assign =>
            rintro l pre x W K ⟨⟨v, u, hv, hu, hrv, hru, hne⟩, hba, hB, hs⟩ hK
            simp only [enc]
            gi_wp2
            exact hK _ _ ((KeepsOthers.alloc _ _).from _) ⟨(Below.refl _ W).alloc hB.size _, fun hb => hb.alloc _⟩ ⟨⟨v, u, hv.alloc _, hu.alloc _, hrv.alloc _, hru.alloc _, hne⟩, hba.alloc _, hB.alloc hB.size _, by simp; omega⟩
              ⟨W.heap.size, hs, World.alloc_heap_new W _, rfl⟩
          case body =>
            rintro l pre x a' W hl2 ⟨r, hr⟩ ⟨⟨v, u, hv, hu, hrv, hru, hne⟩, hba, hB, hs⟩ ⟨Bx, hBx, hbx, rfl⟩ hlt
            have hx0 : W.cell? ⟨Bx, 0, none⟩ = some (.int .i64 x.2.f0) := by simp [World.cell?, hbx]
            have hx1 : W.cell? ⟨Bx, 1, none⟩ = some (.int .i64 x.2.f1) := by simp [World.cell?, hbx]
            have hca := hba.cell
            have hcv := hv.cell
            have hcu := hu.cell
            have hlo := outs_length a2 pre
            have hlr := rests_length a2 pre
            obtain ⟨i0, hi, hz0, hz1, hz2⟩ := info_parts info108
            by_cases hin : inn a2 x.2 = true
            · have hin' := hin
              simp only [inn, Bool.and_eq_true, decide_eq_true_eq] at hin'
              have c1_ : decide (x.2.f0 ≤ a2) = true := decide_eq_true hin'.1
              have c2_ : decide (a2 < x.2.f1) = true := decide_eq_true hin'.2
              obtain ⟨e1, e2⟩ := outs_hit pre hin
              have E1 := Aside0.mk e1
              have E2 := Aside0.mk e2
              clear hin hin' e1 e2
              gi_wp2_with (gi_at_builtin; refine append_at _ rfl _ _ 52 rfl w.heap.size 108 i0 (.agg #[(.int .i64 0), (.int .i64 0)]) 2 16 Try.underlying52 hi hz0 hz1 hz2 rfl (by decide) _ _ _ rfl (hrv.alloc _) ⟨W.heap.size, 0, none⟩ 1 1 (cellsOf [x.2]) rfl rfl ?hc (cells_one _) (by simp only [maxLen]; omega) (by omega) (by have := hB.size; simp; omega) ?_; (case hc => simpa [cellsOf] using World.news_of_block (cs := #[.int .i64 x.2.f0, .int .i64 x.2.f1]) (t := 108) (fr := (0, 0)) (World.alloc_heap_new W (.cells #[.int .i64 x.2.f0, .int .i64 x.2.f1] 108))); intro v' w1 hown' hgrow hat; obtain ⟨g', cap', rfl⟩ := ownsRow_succ hown'; obtain ⟨p1, p2, p3, p4, p5, p6, p7, p8, p9, p10⟩ := put_step hv hu hba hrv hru hne hB.size (by omega) (by omega) (by omega) hown' hgrow hat; have hc1 := p1.cell; have hf1 := p1.frozen)
              exact ⟨p8.from _, ⟨p9, fun hb => p10 _ _ (by omega) hb⟩, ⟨⟨_, u, p2, p3, by rw [E1.out, cellsOf_app, List.length_append]; exact p4, by rw [E2.out]; exact p5, p6⟩, p7, hB.trans p9, Nat.lt_of_lt_of_le hs p8.size⟩⟩
            · obtain ⟨e1, e2⟩ := outs_miss pre (show inn a2 x.2 = false by simpa using hin)
              have E1 := Aside0.mk e1
              have E2 := Aside0.mk e2
              clear e1 e2
              by_cases h1 : x.2.f0 ≤ a2
              · have c1_ : decide (x.2.f0 ≤ a2) = true := decide_eq_true h1
                have c2_ : decide (a2 < x.2.f1) = false := by simpa [inn, h1] using hin
                clear hin h1
                gi_wp2_with (gi_at_builtin; refine append_at _ rfl _ _ 52 rfl w.heap.size 108 i0 (.agg #[(.int .i64 0), (.int .i64 0)]) 2 16 Try.underlying52 hi hz0 hz1 hz2 rfl (by decide) _ _ _ rfl (hru.alloc _) ⟨W.heap.size, 0, none⟩ 1 1 (cellsOf [x.2]) rfl rfl ?hc (cells_one _) (by simp only [maxLen]; omega) (by omega) (by have := hB.size; simp; omega) ?_; (case hc => simpa [cellsOf] using World.news_of_block (cs := #[.int .i64 x.2.f0, .int .i64 x.2.f1]) (t := 108) (fr := (0, 0)) (World.alloc_heap_new W (.cells #[.int .i64 x.2.f0, .int .i64 x.2.f1] 108))); intro v' w1 hown' hgrow hat; obtain ⟨g', cap', rfl⟩ := ownsRow_succ hown'; obtain ⟨p1, p2, p3, p4, p5, p6, p7, p8, p9, p10⟩ := put_step hu hv hba hru hrv (ne_symm hne) hB.size (by omega) (by omega) (by omega) hown' hgrow hat; have hc1 := p1.cell; have hf1 := p1.frozen)
                exact ⟨p8.from _, ⟨p9, fun hb => p10 _ _ (by omega) hb⟩, ⟨⟨v, _, p3, p2, by rw [E1.out]; exact p5, by rw [E2.out, cellsOf_app, List.length_append]; exact p4, ne_symm p6⟩, p7, hB.trans p9, Nat.lt_of_lt_of_le hs p8.size⟩⟩
              · have c1_ : decide (x.2.f0 ≤ a2) = false := decide_eq_false h1
                clear hin h1
                gi_wp2_with (gi_at_builtin; refine append_at _ rfl _ _ 52 rfl w.heap.size 108 i0 (.agg #[(.int .i64 0), (.int .i64 0)]) 2 16 Try.underlying52 hi hz0 hz1 hz2 rfl (by decide) _ _ _ rfl (hru.alloc _) ⟨W.heap.size, 0, none⟩ 1 1 (cellsOf [x.2]) rfl rfl ?hc (cells_one _) (by simp only [maxLen]; omega) (by omega) (by have := hB.size; simp; omega) ?_; (case hc => simpa [cellsOf] using World.news_of_block (cs := #[.int .i64 x.2.f0, .int .i64 x.2.f1]) (t := 108) (fr := (0, 0)) (World.alloc_heap_new W (.cells #[.int .i64 x.2.f0, .int .i64 x.2.f1] 108))); intro v' w1 hown' hgrow hat; obtain ⟨g', cap', rfl⟩ := ownsRow_succ hown'; obtain ⟨p1, p2, p3, p4, p5, p6, p7, p8, p9, p10⟩ := put_step hu hv hba hru hrv (ne_symm hne) hB.size (by omega) (by omega) (by omega) hown' hgrow hat; have hc1 := p1.cell; have hf1 := p1.frozen)
                exact ⟨p8.from _, ⟨p9, fun hb => p10 _ _ (by omega) hb⟩, ⟨⟨v, _, p3, p2, by rw [E1.out]; exact p5, by rw [E2.out, cellsOf_app, List.length_append]; exact p4, ne_symm p6⟩, p7, hB.trans p9, Nat.lt_of_lt_of_le hs p8.size⟩⟩
          case done =>
            rintro D ys W hD rfl ⟨⟨v, u, hv, hu, hrv, hru, hne⟩, hba, hB, hs⟩ hK
            have hcv := hv.cell
            have hcu := hu.cell
            have hcf := hv.frozen
            obtain ⟨i0, hi, hz0, hz1, hz2⟩ := info_parts info108
            have hup := upto_length l1 l1.length
            have hlo := outs_length a2 (upto l1 l1.length)
            have hlr := rests_length a2 (upto l1 l1.length)
            rw [hup] at hlo hlr
            obtain ⟨o, ho⟩ : ∃ o, outs a2 (upto l1 l1.length) = o := ⟨_, rfl⟩
            obtain ⟨p, hp⟩ : ∃ p, rests a2 (upto l1 l1.length) = p := ⟨_, rfl⟩
            rw [ho] at hlo hrv
            rw [hp] at hlr hru
            have HQ := Aside0.mk (And.intro ho hp)
            clear ho hp
            rcases hru.2 with ⟨rfl, hp0⟩ | ⟨g, cap, cur, rfl, hbg, hgc, hpc, hcm, hcs, htk⟩
            · obtain rfl : p = [] := List.length_eq_zero_iff.1 hp0
              obtain ⟨A9, c9, rfl⟩ := own_slice hrv
              have hle := own_le hrv
              have hst : (W.setCell ⟨w'.heap.size, 0, none⟩ (.slice A9 o.length c9)).ownsRow w.heap.size 108 2 (.slice A9 o.length c9) o.length (cellsOf o) := own_setCell hrv (own_ne hrv (show W.heap[w'.heap.size]? = _ from hv) (by decide)) _
              have hKf : (W.setCell ⟨w'.heap.size, 0, none⟩ (.slice A9 o.length c9)).heap[D]? = some (.deferred (some [])) := (KeepsOthers.setCell W ⟨w'.heap.size, 0, none⟩ (.slice A9 o.length c9)).same D _ hK rfl
              have hBf : Below w.heap.size w (W.setCell ⟨w'.heap.size, 0, none⟩ (.slice A9 o.length c9)) := hB.setCell (p := ⟨w'.heap.size, 0, none⟩) (by simp; omega) _
              have hR := row_R (ownsRow_putObj hst (.deferred none) hKf rfl)
              have hBB2 := hBf.trans (belowK_b (w := w) (Nat.le_refl _) _ D _ (.deferred none) (by simp at hD; omega) hKf rfl rfl)
              have HF := Aside0.mk (And.intro hKf (And.intro hR hBB2))
              clear hst hKf hBf hR hBB2
              by_cases hm : a3 ≤ (o.length : Int)
              · have m1_ : min a3 (o.length : Int) = a3 := by omega
                have m2_ : decide (a3 ≤ (c9 : Int)) = true := decide_eq_true (by omega)
                have m3_ : decide (0 ≤ a3) = true := decide_eq_true (by have := H3.out; omega)
                have m4_ : a3 ≤ (c9 : Int) := by omega
                have m5_ : 0 ≤ a3 := by have := H3.out; omega
                gi_wp2_with (gi_at_builtin; refine append_none _ rfl _ _ 52 rfl w.heap.size 108 i0 2 Try.underlying52 hi _ _ _ rfl hrv rfl ?_)
                refine ⟨by simp, .inl ⟨_, _, rfl, run_takeDeferred HF.out.1, ?_⟩⟩
                exact ⟨_, results_tmp2 rfl _ _ _, _, rfl, by rw [HQ.out.1, HQ.out.2, List.append_nil]; exact Kd.R_take HF.out.2.1 (by omega), HF.out.2.2⟩
              · have m1_ : min a3 (o.length : Int) = (o.length : Int) := by omega
                have m4_ : (o.length : Int) ≤ (c9 : Int) := by omega
                gi_wp2_with (gi_at_builtin; refine append_none _ rfl _ _ 52 rfl w.heap.size 108 i0 2 Try.underlying52 hi _ _ _ rfl hrv rfl ?_)
                refine ⟨by simp, .inl ⟨_, _, rfl, run_takeDeferred HF.out.1, ?_⟩⟩
                exact ⟨_, results_tmp2 rfl _ _ _, _, rfl, by rw [HQ.out.1, HQ.out.2, List.append_nil]; rw [List.take_of_length_le (by omega)]; exact HF.out.2.1, HF.out.2.2⟩
            · have hnews : ∀ (j : Nat) (u' : Value), (cellsOf p)[j]? = some u' → W.cell? ((⟨g, 0, none⟩ : Addr).add j) = some u' := fun j u' hj => World.news_of_block hgc j u' (by
                rw [← htk, List.getElem?_take] at hj
                split at hj
                · exact hj
                · cases hj)
              obtain ⟨n, hn⟩ : ∃ n, o.length + p.length = n := ⟨_, rfl⟩
              have hnb : n ≤ 2097152 := by omega
              have hll : (cellsOf o ++ cellsOf p) = cellsOf (o ++ p) := (cellsOf_app o p).symm
              have HN := Aside0.mk (show (o ++ p).length = n by rw [List.length_append, hn])
              have HL2 := Aside0.mk hll
              by_cases hm : a3 ≤ (n : Int)
              · have m1_ : min a3 (n : Int) = a3 := by omega
                have m5_ : 0 ≤ a3 := by have := H3.out; omega
                gi_wp2_with (gi_at_builtin; refine append_at _ rfl _ _ 52 rfl w.heap.size 108 i0 (.agg #[(.int .i64 0), (.int .i64 0)]) 2 16 Try.underlying52 hi hz0 hz1 hz2 rfl (by decide) _ _ _ rfl hrv ⟨g, 0, none⟩ p.length cap (cellsOf p) rfl (cellsOf_length p) hnews (cells_one _) (by simp only [maxLen]; omega) (by omega) hB.size ?_; intro v' w1 hown' hgrow hat; rw [hn] at hown'; obtain ⟨A9, c9, rfl⟩ := own_slice hown'; have hle := own_le hown'; have hv1 := hv.kept hgrow (hv.not_row (by decide) hrv); have hcv1 := hv1.cell; have hcf1 := hv1.frozen; have m4_ : a3 ≤ (c9 : Int) := (by omega); have HF := Aside0.mk (fin_ hown' hgrow hv hv1 hrv hB hK (by omega) (by simp at hD; omega)))
                refine ⟨by simp, .inl ⟨_, _, rfl, run_takeDeferred HF.out.1, ?_⟩⟩
                exact ⟨_, results_tmp2 rfl _ _ _, _, rfl, by rw [HQ.out.1, HQ.out.2]; exact Kd.R_take (HF.out.2.1 (o ++ p) HN.out HL2.out) (by rw [HN.out]; omega), HF.out.2.2⟩
              · have m1_ : min a3 (n : Int) = (n : Int) := by omega
                gi_wp2_with (gi_at_builtin; refine append_at _ rfl _ _ 52 rfl w.heap.size 108 i0 (.agg #[(.int .i64 0), (.int .i64 0)]) 2 16 Try.underlying52 hi hz0 hz1 hz2 rfl (by decide) _ _ _ rfl hrv ⟨g, 0, none⟩ p.length cap (cellsOf p) rfl (cellsOf_length p) hnews (cells_one _) (by simp only [maxLen]; omega) (by omega) hB.size ?_; intro v' w1 hown' hgrow hat; rw [hn] at hown'; obtain ⟨A9, c9, rfl⟩ := own_slice hown'; have hle := own_le hown'; have hv1 := hv.kept hgrow (hv.not_row (by decide) hrv); have hcv1 := hv1.cell; have hcf1 := hv1.frozen; have m4_ : (n : Int) ≤ (c9 : Int) := (by omega); have HF := Aside0.mk (fin_ hown' hgrow hv hv1 hrv hB hK (by omega) (by simp at hD; omega)))
                refine ⟨by simp, .inl ⟨_, _, rfl, run_takeDeferred HF.out.1, ?_⟩⟩
                exact ⟨_, results_tmp2 rfl _ _ _, _, rfl, by rw [HQ.out.1, HQ.out.2]; rw [List.take_of_length_le (by rw [HN.out]; omega)]; exact HF.out.2.1 (o ++ p) HN.out HL2.out, HF.out.2.2⟩
          case stop =>
            rintro D c pre W _ _ h _
            exact h.elim
        · rw [if_neg hl] at H
          cases H
end

end Go.Proofs.Ytbbohccnhcfmnab.HHoleSacks
