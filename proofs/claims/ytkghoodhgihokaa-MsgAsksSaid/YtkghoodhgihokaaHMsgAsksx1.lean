/- The contracts of the functions that the law MsgAsks reaches: Go's code comes to what these Lean functions tell (written by a program of ours and the kit's, out of the translation). -/
import Derived.Lib.OthersKept
import Derived.Laws.RangeAny
import Derived.Lib.Strings
import Derived.Lib.Walk
import Derived.Test.YtkghoodhgihokaaXMsgN
import Derived.Test.YtkghoodhgihokaaXMsgF
import Derived.Test.YtkghoodhgihokaaHMsgAsksx0
namespace Go.Proofs.Ytkghoodhgihokaa.HMsgAsks
open Go.RowKit Go.Proofs.YtkghoodhgihokaaW.PrintWords Go.Proofs.YtkghoodhgihokaaW.PrintLast Go.Proofs.YtkghoodhgihokaaW.PrintMore
attribute [local go_sem] max2_int min2_int max_two min_two max_three min_three max_four min_four   -- for this text's walks alone
set_option linter.unusedVariables false
set_option linter.unusedSimpArgs false

-- NOT PRINTED: function 75 (msg_number)

-- NOT PRINTED: function 41 (msg_begun)

-- NOT PRINTED: function 55 (msg_text)

-- NOT PRINTED: function 76 (msg_data)

-- NOT PRINTED: function 42 (msg_parts)

-- NOT PRINTED: function 43 (msg_bare)

-- NOT PRINTED: function 77 (msg_part_fits)

-- NOT PRINTED: function 44 (msg_all)

/-! ### frame_Put: function 78 -/
def frame_Put.l0 : Nat → List Int → Int → Int → Option (List Int)
  | 0, _, _, _ => none
  | k + 1, x0, x2, x7 => if x7 ≥ 0 then (if 0 ≤ (wrap64 (8 * x7)) then (if x0.length < 140737488355328 then (frame_Put.l0 k (x0 ++ [(shr .i64 x2 (wrap64 (8 * x7))) % 256]) x2 (wrap64 (x7 - 1))) else (none)) else (none)) else (some x0)
def frame_Put.f (k : Nat) (l0 : List Int) (a1 : Int) (a2 : Int) : Option (List Int) := frame_Put.l0 k l0 a2 (wrap64 (a1 - 1))
theorem frame_Put.mono_l : ∀ k, (∀ y0 y1 y2, LeO (frame_Put.l0 k y0 y1 y2) (frame_Put.l0 (k + 1) y0 y1 y2))
  | 0 => fun _ _ _ r h => by simp [frame_Put.l0] at h
  | k + 1 => by
    have ih0 := frame_Put.mono_l k
    · intro y0 y1 y2
      unfold frame_Put.l0
      repeat' first
      | (with_reducible exact ih0 _ _ _)
      | (with_reducible exact LeO.refl _)
      | (with_reducible exact LeO.none _)
      | (with_reducible refine LeO.ite ?_ ?_)
      | (with_reducible refine LeO.bind ?_ (fun _ => ?_))
      | exact ih0 _ _ _
      | exact LeO.none _
      | refine LeO.ite ?_ ?_
      | refine LeO.bind ?_ (fun _ => ?_)
theorem frame_Put.mono : ∀ a0 a1 a2 k, LeO (frame_Put.f k a0 a1 a2) (frame_Put.f (k + 1) a0 a1 a2) := by
  intro a0 a1 a2 k
  have ih0 := frame_Put.mono_l k
  unfold frame_Put.f
  repeat' first
      | (with_reducible exact ih0 _ _ _)
      | (with_reducible exact LeO.refl _)
      | (with_reducible exact LeO.none _)
      | (with_reducible refine LeO.ite ?_ ?_)
      | (with_reducible refine LeO.bind ?_ (fun _ => ?_))
      | exact ih0 _ _ _
      | exact LeO.none _
      | refine LeO.ite ?_ ?_
      | refine LeO.bind ?_ (fun _ => ?_)
set_option maxHeartbeats 8000000 in
set_option maxRecDepth 100000 in
theorem frame_Put.calls (k : Nat) (P0_ : Nat → Prop) (u9000_ : Value) (l0 : List Int) (a1 : Int) (a2 : Int) (r : List Int) (w0 w : World) (hB : Below w0.heap.size w0 w) (ho0 : Kd.R (Kd.int .u8) 5 w w0.heap.size P0_ u9000_ l0) (h : frame_Put.f k l0 a1 a2 = some r) :
    Calls Try.prog 78 #[u9000_, .int .i64 a1, .int .i64 a2] w fun e w' => ∃ v0_ : Value, e = .returned (v0_) ∧ Kd.R (Kd.int .u8) 5 w' w0.heap.size (fun k_ => (P0_ k_ ∨ w.heap.size ≤ k_)) v0_ r ∧ Below w0.heap.size w0 w' ∧ Kept w w' (fun k_ => P0_ k_) := by
  have HO0 := Aside0.mk (show Kd.R (Kd.int .u8) 5 w w0.heap.size (fun k_ => (P0_ k_ ∨ w.heap.size ≤ k_)) u9000_ l0 from Kd.R_mono ho0 (fun k_ hk => (.inl hk)))
  have HK := Aside0.mk (Kept.refl w (fun k_ => P0_ k_))
  have HW0 := Aside0.mk hB.size
  have HB := Aside0.mk hB
  clear hB
  have H : (frame_Put.l0 k l0 a2 (wrap64 (a1 - 1))) = some r := h
  clear h
  have H' := Aside0.mk H
  clear H
  go_enter Try.func78, Try.ntmps78
  go_wp2
  go_loopg [0, 7] k (fun kq v0 v7 w' => ∃ (x0_1 : List Int) (x7_1 : Int), v7 = .int .i64 x7_1 ∧ Aside0 (frame_Put.l0 kq x0_1 a2 x7_1 = some r) ∧ Aside0 (kq ≤ k) ∧ Aside0 (Kd.R (Kd.int .u8) 5 w' w0.heap.size (fun k_ => (P0_ k_ ∨ w.heap.size ≤ k_)) v0 x0_1) ∧ Aside0 (Kept w w' (fun k_ => P0_ k_)) ∧ Aside0 (Below w0.heap.size w0 w'))
  case atStart => exact ⟨(l0), (wrap64 (a1 - 1)), (by first | rfl | (simp; done) | (simp [*]; done)), H', ⟨Nat.le_refl _⟩, ⟨by (with_reducible repeat (first | apply Kd.R_alloc | apply Kd.R_drewN | apply Kd.R_drew)); exact HO0.out⟩, ⟨by repeat (first | (with_reducible first | exact HK.out | apply Kept.alloc | apply Kept.drewN | apply Kept.drew) | exact HK.out)⟩, ⟨by repeat (first | (with_reducible first | exact HB.out | apply below_alloc | apply pw_below_drewN | apply below_drew1) | exact HB.out)⟩⟩
  case round =>
    clear H'
    try clear p2
    obtain ⟨x0_1, x7_1, rfl, HA, HK1, HO_0, HK, HB⟩ := hrel
    cases gk with
    | zero => exact absurd HA.out (by simp [frame_Put.l0])
    | succ k1 =>
      have H := HA.out
      clear HA
      simp only [frame_Put.l0] at H
      by_cases c4 : x7_1 ≥ 0
      · rw [if_pos c4] at H
        have c4b0 : decide (0 ≤ x7_1) = true := decide_eq_true c4
        clear c4
        obtain ⟨ji5, hji5⟩ : ∃ j_ : Int, (wrap64 (8 * x7_1)) = j_ := ⟨_, rfl⟩
        replace H : (if 0 ≤ (ji5) then (if x0_1.length < 140737488355328 then (frame_Put.l0 k1 (x0_1 ++ [(shr .i64 a2 (ji5)) % 256]) a2 (wrap64 (x7_1 - 1))) else (none)) else (none)) = some r := by first | (rw [hji5] at H; exact H) | (simp only [hji5] at H ⊢; exact H)
        have hji5w : (IntKind.i64.wrap (8 * x7_1)) = ji5 := (i64_w _).trans hji5
        by_cases c6 : 0 ≤ (ji5)
        · rw [if_pos c6] at H
          have c6b0 := eq_true c6
          have c6b1 : decide (0 ≤ (ji5)) = true := decide_eq_true c6
          clear c6
          obtain ⟨ji7, hji7⟩ : ∃ j_ : Int, (shr .i64 a2 (ji5)) = j_ := ⟨_, rfl⟩
          replace H : (if x0_1.length < 140737488355328 then (frame_Put.l0 k1 (x0_1 ++ [(ji7) % 256]) a2 (wrap64 (x7_1 - 1))) else (none)) = some r := by first | (rw [hji7] at H; exact H) | (simp only [hji7] at H ⊢; exact H)
          have hji7_ : (a2 / 2 ^ min (ji5).toNat 64) = ji7 := hji7
          have hji7z : (ji5) ≤ 64 → (a2 / 2 ^ (ji5).toNat) = ji7 := shr_small hji7
          by_cases c8 : x0_1.length < 140737488355328
          · rw [if_pos c8] at H
            have LMc8 := Aside0.mk c8
            clear c8
            obtain ⟨y102, hy102⟩ : ∃ y_ : List Int, y_ = (x0_1 ++ [(ji7) % 256]) := ⟨_, rfl⟩
            replace H : (frame_Put.l0 k1 y102 a2 (wrap64 (x7_1 - 1))) = some r := by first | (rw [hy102]; with_reducible exact H) | (have H2_ := (Option.bind_some _ _).symm.trans H; rw [hy102]; with_reducible exact H2_) | (have H2_ := (Option.bind_some _ _).symm.trans H; with_reducible exact H2_) | with_reducible exact H | (rw [hy102]; exact H) | exact H
            have Ny102 := Aside0.mk hy102
            clear hy102
            have H' := Aside0.mk H
            clear H
            go_wp2_with (first | ((with_reducible refine gate_builtin (b := .append) (xs := #[.tmp 14, .tmp 20]) rfl ?_); at_builtin; refine Kd.R_append (Kd.int .u8) (w0 := w0) w0.heap.size rfl (.tmp 14) (.tmp 20) 27 5 (.int .u8 0) 1 rfl Try.underlying27 info5 rfl (by decide) (by omega) u0 x0_1 ((ji7) % 256) [.int .u8 ((ji7) % 256)] (fun k_ => (P0_ k_ ∨ w.heap.size ≤ k_)) (fun _ => False) rfl rfl ?aP (fun _ hk => hk.elim) ?aF ?aO ?aB ?aS ?aL ?_; (case aP => exact rfl); (case aB => exact (by repeat (first | (with_reducible first | exact HB.out | apply below_alloc | apply pw_below_drewN | apply below_drew1) | exact HB.out))); (case aF => exact (fun k_ hk => (.inr (Nat.le_trans (by first | exact HK.out.1 | exact (show Kept w _ (fun k_ => P0_ k_) from by repeat (first | (with_reducible first | exact HK.out | apply Kept.alloc | apply Kept.drewN | apply Kept.drew) | exact HK.out)).1) hk)))); (case aO => exact (by (with_reducible repeat (first | apply Kd.R_alloc | apply Kd.R_drewN | apply Kd.R_drew)); exact HO_0.out)); (case aS => exact (below_size (by repeat (first | (with_reducible first | exact HB.out | apply below_alloc | apply pw_below_drewN | apply below_drew1) | exact HB.out)))); (case aL => have := LMc8.out; omega); intro v103 w9 ho hb hg hat; rw [← Ny102.out] at ho; have n0_ := Aside0.mk (hb); have n1_ := Aside0.mk (Kept.of_grown (S := (fun k_ => P0_ k_)) hg (by repeat (first | (with_reducible first | exact HK.out | apply Kept.alloc | apply Kept.drewN | apply Kept.drew) | exact HK.out)) (fun k_ e_ => (HO_0.out.1 k_ e_))); have n2_ := Aside0.mk (ho); clear HB; clear HK; clear HO_0; have HB := n0_; have HK := n1_; have HO104 := n2_; clear n0_ n1_ n2_; clear ho hb hg hat))
            go_roundg k1
            case measure => have := HK1.out; omega
            case rel => exact ⟨(y102), (wrap64 (x7_1 - 1)), (by first | rfl | (simp; done) | (simp [*]; done)), H', ⟨by have := HK1.out; omega⟩, ⟨by (with_reducible repeat (first | apply Kd.R_alloc | apply Kd.R_drewN | apply Kd.R_drew)); exact HO104.out⟩, ⟨by repeat (first | (with_reducible first | exact HK.out | apply Kept.alloc | apply Kept.drewN | apply Kept.drew) | exact HK.out)⟩, ⟨by repeat (first | (with_reducible first | exact HB.out | apply below_alloc | apply pw_below_drewN | apply below_drew1) | exact HB.out)⟩⟩
          · rw [if_neg c8] at H
            exact absurd H (by simp)
        · rw [if_neg c6] at H
          exact absurd H (by simp)
      · rw [if_neg c4] at H
        have c4b0 : decide (0 ≤ x7_1) = false := decide_eq_false c4
        clear c4
        obtain rfl := Option.some.inj H
        go_wp2
        go_ret
        exact ⟨_, by first | rfl | (simp [errW_none, errW_some] <;> rfl) | (simp [*, errW_none, errW_some] <;> rfl), by (with_reducible repeat (first | apply Kd.R_alloc | apply Kd.R_drewN | apply Kd.R_drew)); exact HO_0.out, by repeat (first | (with_reducible first | exact HB.out | apply below_alloc | apply pw_below_drewN | apply below_drew1) | exact HB.out), by repeat (first | (with_reducible first | exact HK.out | apply Kept.alloc | apply Kept.drewN | apply Kept.drew) | exact HK.out)⟩

-- NOT PRINTED: function 45 (msg_part_put)

/-! ### msg_Ask: function 15 -/
/-- What msg.Ask answers. -/
def msg_Ask.f (a0 a1 : Int) (a2 a3 : ByteArray) (a4 a5 a6 a7 : Int) (l8 : List Int) : Option (List Int × Int) :=
  if l8.length < 140737488351233 then some (Msg.askF ⟨a0, a1, a2, a3, a4, a5, a6, a7, none, l8, 0⟩) else none
theorem msg_Ask.calls (a0 a1 : Int) (a2 a3 : ByteArray) (a4 a5 a6 a7 : Int) (A8 : Option Addr) (c8 : Nat) (l8 : List Int) (r1 : List Int) (r2 : Int) (w : World) (hr8 : Kd.C (Kd.int .u8) w A8 l8.length l8) (hc8 : l8.length ≤ c8) (h : msg_Ask.f a0 a1 a2 a3 a4 a5 a6 a7 l8 = some (r1, r2)) :
    Calls Try.prog 15 #[.agg #[.int .i64 a0, .int .i64 a1, .string a2, .string a3, .int .i64 a4, .int .i64 a5, .int .i64 a6, .int .i64 a7, .slice A8 l8.length c8]] w fun e w' => ∃ v0_ : Value, e = .returned (.tuple #[v0_, .int .i64 r2]) ∧ Kd.R (Kd.int .u8) 5 w' w.heap.size (fun _ => True) v0_ r1 ∧ Below w.heap.size w w' := by
  unfold msg_Ask.f at h
  by_cases hl : l8.length < 140737488351233
  · rw [if_pos hl] at h
    have h2 := Option.some.inj h
    refine (Msg.ask_calls ⟨a0, a1, a2, a3, a4, a5, a6, a7, A8, l8, c8⟩ w (by show l8.length ≤ _; omega) hc8 hr8).mono ?_
    rintro e w' ⟨v, rfl, ho, hb⟩
    have hq : Msg.askF (Msg.Rq.bare ⟨a0, a1, a2, a3, a4, a5, a6, a7, A8, l8, c8⟩) = (r1, r2) := h2
    rw [hq] at ho ⊢
    exact ⟨v, rfl, ho, hb⟩
  · rw [if_neg hl] at h; cases h

/-! ### packthreadref_msgNames: function 48 -/
def packthreadref_msgNames.f (a0 : Int) : Option (ByteArray) := (some (([(⟨#[]⟩ : ByteArray), (⟨#[112, 104]⟩ : ByteArray), (⟨#[110]⟩ : ByteArray), (⟨#[110, 97, 99]⟩ : ByteArray), (⟨#[110, 97, 100]⟩ : ByteArray), (⟨#[112]⟩ : ByteArray), (⟨#[112]⟩ : ByteArray), (⟨#[112]⟩ : ByteArray), (⟨#[112]⟩ : ByteArray), (⟨#[112, 116]⟩ : ByteArray), (⟨#[112, 116]⟩ : ByteArray)] : List ByteArray) : List ByteArray)).bind fun y105 => (if 0 ≤ a0 then (if a0 < (y105.length : Int) then (some (rdOf ByteArray.empty y105 a0)) else (none)) else (none))
set_option maxHeartbeats 8000000 in
set_option maxRecDepth 100000 in
theorem packthreadref_msgNames.calls (a0 : Int) (r : ByteArray) (w : World) (h : packthreadref_msgNames.f a0 = some r) :
    Calls Try.prog 48 #[.int .i64 a0] w fun e w' => e = .returned (.string r) ∧ Below w.heap.size w w' := by
  have HB := Aside0.mk (Below.refl w.heap.size w)
  have H : ((some (([(⟨#[]⟩ : ByteArray), (⟨#[112, 104]⟩ : ByteArray), (⟨#[110]⟩ : ByteArray), (⟨#[110, 97, 99]⟩ : ByteArray), (⟨#[110, 97, 100]⟩ : ByteArray), (⟨#[112]⟩ : ByteArray), (⟨#[112]⟩ : ByteArray), (⟨#[112]⟩ : ByteArray), (⟨#[112]⟩ : ByteArray), (⟨#[112, 116]⟩ : ByteArray), (⟨#[112, 116]⟩ : ByteArray)] : List ByteArray) : List ByteArray)).bind fun y105 => (if 0 ≤ a0 then (if a0 < (y105.length : Int) then (some (rdOf ByteArray.empty y105 a0)) else (none)) else (none))) = some r := h
  clear h
  obtain ⟨y105, hy105⟩ : ∃ y_ : List ByteArray, y_ = (([(⟨#[]⟩ : ByteArray), (⟨#[112, 104]⟩ : ByteArray), (⟨#[110]⟩ : ByteArray), (⟨#[110, 97, 99]⟩ : ByteArray), (⟨#[110, 97, 100]⟩ : ByteArray), (⟨#[112]⟩ : ByteArray), (⟨#[112]⟩ : ByteArray), (⟨#[112]⟩ : ByteArray), (⟨#[112]⟩ : ByteArray), (⟨#[112, 116]⟩ : ByteArray), (⟨#[112, 116]⟩ : ByteArray)] : List ByteArray)) := ⟨_, rfl⟩
  replace H : (if 0 ≤ a0 then (if a0 < (y105.length : Int) then (some (rdOf ByteArray.empty y105 a0)) else (none)) else (none)) = some r := by first | (rw [hy105]; with_reducible exact H) | (have H2_ := (Option.bind_some _ _).symm.trans H; rw [hy105]; with_reducible exact H2_) | (have H2_ := (Option.bind_some _ _).symm.trans H; with_reducible exact H2_) | with_reducible exact H | (rw [hy105]; exact H) | exact H
  have Ny105 := Aside0.mk hy105
  clear hy105
  by_cases c2 : 0 ≤ a0
  · rw [if_pos c2] at H
    have c2b0 : decide (0 ≤ a0) = true := decide_eq_true c2
    clear c2
    by_cases c3 : a0 < (y105.length : Int)
    · rw [if_pos c3] at H
      have c3b0 : decide (a0 < (y105.length : Int)) = true := decide_eq_true c3
      clear c3
      obtain rfl := Option.some.inj H
      go_enter Try.func48, Try.ntmps48
      go_wp2_with (first | ((with_reducible refine gate_dst (N := 3) rfl ?_); refine Kd.R_lit Kd.string _ 9 ?hg (N := 3) ?hd (xs := ([(⟨#[]⟩ : ByteArray), (⟨#[112, 104]⟩ : ByteArray), (⟨#[110]⟩ : ByteArray), (⟨#[110, 97, 99]⟩ : ByteArray), (⟨#[110, 97, 100]⟩ : ByteArray), (⟨#[112]⟩ : ByteArray), (⟨#[112]⟩ : ByteArray), (⟨#[112]⟩ : ByteArray), (⟨#[112]⟩ : ByteArray), (⟨#[112, 116]⟩ : ByteArray), (⟨#[112, 116]⟩ : ByteArray)] : List ByteArray)) (inner := [.string (⟨#[]⟩ : ByteArray), .string (⟨#[112, 104]⟩ : ByteArray), .string (⟨#[110]⟩ : ByteArray), .string (⟨#[110, 97, 99]⟩ : ByteArray), .string (⟨#[110, 97, 100]⟩ : ByteArray), .string (⟨#[112]⟩ : ByteArray), .string (⟨#[112]⟩ : ByteArray), .string (⟨#[112]⟩ : ByteArray), .string (⟨#[112]⟩ : ByteArray), .string (⟨#[112, 116]⟩ : ByteArray), .string (⟨#[112, 116]⟩ : ByteArray)]) (ok := fun _ => True) (okp := fun _ => True) ?hr ?hp (fun _ hk => hk) trivial (Below.refl _ _) (Nat.le_refl _) (by simp) ?_; (case hd => rfl); (case hg => rfl); (case hr => first | (go_simp; done) | (go_simp; rfl)); (case hp => exact (Reps.one (show Kd.M Kd.string _ _ _ (⟨#[]⟩ : ByteArray) [.string (⟨#[]⟩ : ByteArray)] from rfl) (Reps.one (show Kd.M Kd.string _ _ _ (⟨#[112, 104]⟩ : ByteArray) [.string (⟨#[112, 104]⟩ : ByteArray)] from rfl) (Reps.one (show Kd.M Kd.string _ _ _ (⟨#[110]⟩ : ByteArray) [.string (⟨#[110]⟩ : ByteArray)] from rfl) (Reps.one (show Kd.M Kd.string _ _ _ (⟨#[110, 97, 99]⟩ : ByteArray) [.string (⟨#[110, 97, 99]⟩ : ByteArray)] from rfl) (Reps.one (show Kd.M Kd.string _ _ _ (⟨#[110, 97, 100]⟩ : ByteArray) [.string (⟨#[110, 97, 100]⟩ : ByteArray)] from rfl) (Reps.one (show Kd.M Kd.string _ _ _ (⟨#[112]⟩ : ByteArray) [.string (⟨#[112]⟩ : ByteArray)] from rfl) (Reps.one (show Kd.M Kd.string _ _ _ (⟨#[112]⟩ : ByteArray) [.string (⟨#[112]⟩ : ByteArray)] from rfl) (Reps.one (show Kd.M Kd.string _ _ _ (⟨#[112]⟩ : ByteArray) [.string (⟨#[112]⟩ : ByteArray)] from rfl) (Reps.one (show Kd.M Kd.string _ _ _ (⟨#[112]⟩ : ByteArray) [.string (⟨#[112]⟩ : ByteArray)] from rfl) (Reps.one (show Kd.M Kd.string _ _ _ (⟨#[112, 116]⟩ : ByteArray) [.string (⟨#[112, 116]⟩ : ByteArray)] from rfl) (Reps.one (show Kd.M Kd.string _ _ _ (⟨#[112, 116]⟩ : ByteArray) [.string (⟨#[112, 116]⟩ : ByteArray)] from rfl) (Reps.none _ _))))))))))))); intro v106 w4 ho5 hb hg_ hnew_; clear hg_ hnew_; (first | rw [← Ny105.out] at ho5 | (simp only [Int.reduceToNat] at ho5; rw [← Ny105.out] at ho5)); have n0_ := Aside0.mk (Kd.R_lower ho5 (below_size (by repeat (first | (with_reducible first | exact HB.out | apply below_alloc | apply pw_below_drewN | apply below_drew1) | exact HB.out)))); have n1_ := Aside0.mk (below_step (by repeat (first | (with_reducible first | exact HB.out | apply below_alloc | apply pw_below_drewN | apply below_drew1) | exact HB.out)) hb); clear HB; have HO107 := n0_; have HB := n1_; clear n0_ n1_; clear hb ho5; obtain ⟨Ao6, co6, eo6⟩ := Kd.R_slice HO107.out; subst eo6; have p108 : 0 ≤ (a0 : Int) := of_decide_eq_true (by first | (with_reducible assumption) | assumption); have q108 : a0 < (y105.length : Int) := of_decide_eq_true (by first | (with_reducible assumption) | assumption); obtain ⟨ad108, e108, hx108_0⟩ := Kd.at_string (Kd.R_reads' HO107.out).2.2 a0 p108 q108; cases e108; replace p108 := eq_true p108; replace q108 := eq_true q108))
      go_ret
      exact ⟨by first | rfl | (simp [errW_none, errW_some] <;> rfl) | (simp [*, errW_none, errW_some] <;> rfl), by repeat (first | (with_reducible first | exact HB.out | apply below_alloc | apply pw_below_drewN | apply below_drew1) | exact HB.out)⟩
    · rw [if_neg c3] at H
      exact absurd H (by simp)
  · rw [if_neg c2] at H
    exact absurd H (by simp)

/-! ### packthreadref_has: function 79 -/
def packthreadref_has.l0 : Nat → ByteArray → Int → Int → Option (Bool)
  | 0, _, _, _ => none
  | k + 1, x0, x1, x5 => if x5 < (x0.size : Int) then (if 0 ≤ x5 then (if (bt x0 x5) = x1 then (some true) else (packthreadref_has.l0 k x0 x1 (wrap64 (x5 + 1)))) else (none)) else (some false)
def packthreadref_has.f (k : Nat) (a0 : ByteArray) (a1 : Int) : Option (Bool) := packthreadref_has.l0 k a0 a1 0
theorem packthreadref_has.mono_l : ∀ k, (∀ y0 y1 y2, LeO (packthreadref_has.l0 k y0 y1 y2) (packthreadref_has.l0 (k + 1) y0 y1 y2))
  | 0 => fun _ _ _ r h => by simp [packthreadref_has.l0] at h
  | k + 1 => by
    have ih0 := packthreadref_has.mono_l k
    · intro y0 y1 y2
      unfold packthreadref_has.l0
      repeat' first
      | (with_reducible exact ih0 _ _ _)
      | (with_reducible exact LeO.refl _)
      | (with_reducible exact LeO.none _)
      | (with_reducible refine LeO.ite ?_ ?_)
      | (with_reducible refine LeO.bind ?_ (fun _ => ?_))
      | exact ih0 _ _ _
      | exact LeO.none _
      | refine LeO.ite ?_ ?_
      | refine LeO.bind ?_ (fun _ => ?_)
theorem packthreadref_has.mono : ∀ a0 a1 k, LeO (packthreadref_has.f k a0 a1) (packthreadref_has.f (k + 1) a0 a1) := by
  intro a0 a1 k
  have ih0 := packthreadref_has.mono_l k
  unfold packthreadref_has.f
  repeat' first
      | (with_reducible exact ih0 _ _ _)
      | (with_reducible exact LeO.refl _)
      | (with_reducible exact LeO.none _)
      | (with_reducible refine LeO.ite ?_ ?_)
      | (with_reducible refine LeO.bind ?_ (fun _ => ?_))
      | exact ih0 _ _ _
      | exact LeO.none _
      | refine LeO.ite ?_ ?_
      | refine LeO.bind ?_ (fun _ => ?_)
set_option maxHeartbeats 8000000 in
set_option maxRecDepth 100000 in
theorem packthreadref_has.calls (k : Nat) (a0 : ByteArray) (a1 : Int) (r : Bool) (w : World) (h : packthreadref_has.f k a0 a1 = some r) :
    Calls Try.prog 79 #[.string a0, .int .u8 a1] w fun e w' => e = .returned (.bool r) ∧ Drawn0 w w' := by
  have H : (packthreadref_has.l0 k a0 a1 0) = some r := h
  clear h
  have H' := Aside0.mk H
  clear H
  go_enter Try.func79, Try.ntmps79
  go_wp2
  go_loopg [5] k (fun kq v5 w' => ∃ (x5_1 : Int), v5 = .int .i64 x5_1 ∧ Aside0 (packthreadref_has.l0 kq a0 a1 x5_1 = some r) ∧ Aside0 (kq ≤ k) ∧ Drawn0 w w')
  case atStart => exact ⟨(0), (by first | rfl | (simp; done) | (simp [*]; done)), H', ⟨Nat.le_refl _⟩, by repeat (first | exact Drawn0.refl _ | apply Drawn0.step)⟩
  case round =>
    clear H'
    try clear p2
    obtain ⟨x5_1, rfl, HA, HK1, ⟨m1, rfl⟩⟩ := hrel
    cases gk with
    | zero => exact absurd HA.out (by simp [packthreadref_has.l0])
    | succ k1 =>
      have H := HA.out
      clear HA
      simp only [packthreadref_has.l0] at H
      by_cases c3 : x5_1 < (a0.size : Int)
      · rw [if_pos c3] at H
        have c3b0 : decide (x5_1 < (a0.size : Int)) = true := decide_eq_true c3
        clear c3
        by_cases c4 : 0 ≤ x5_1
        · rw [if_pos c4] at H
          have c4b0 : decide (0 ≤ x5_1) = true := decide_eq_true c4
          clear c4
          by_cases c6 : (bt a0 x5_1) = a1
          · rw [if_pos c6] at H
            have c6b0 : ((bt a0 x5_1) == a1) = true := beq_iff_eq.mpr c6
            have c6b1 : ((bt a0 x5_1) != a1) = false := bne_eq_false_iff_eq.mpr c6
            clear c6
            obtain rfl := Option.some.inj H
            have p5 : 0 ≤ (x5_1 : Int) := of_decide_eq_true (by first | (with_reducible assumption) | assumption)
            have q5 : x5_1 < (a0.size : Int) := of_decide_eq_true (by first | (with_reducible assumption) | assumption)
            have hx5 := bt_at a0 x5_1
            replace p5 := eq_true p5
            replace q5 := eq_true q5
            go_wp2
            go_ret
            exact ⟨by first | rfl | (simp; done) | (simp [*]; done), by repeat (first | exact Drawn0.refl _ | apply Drawn0.step)⟩
          · rw [if_neg c6] at H
            have c6b0 : ((bt a0 x5_1) == a1) = false := beq_eq_false_iff_ne.mpr c6
            have c6b1 : ((bt a0 x5_1) != a1) = true := bne_iff_ne.mpr c6
            have H' := Aside0.mk H
            clear H
            have p5 : 0 ≤ (x5_1 : Int) := of_decide_eq_true (by first | (with_reducible assumption) | assumption)
            have q5 : x5_1 < (a0.size : Int) := of_decide_eq_true (by first | (with_reducible assumption) | assumption)
            have hx5 := bt_at a0 x5_1
            replace p5 := eq_true p5
            replace q5 := eq_true q5
            go_wp2
            go_roundg k1
            case measure => have := HK1.out; omega
            case rel => exact ⟨(wrap64 (x5_1 + 1)), (by first | rfl | (simp; done) | (simp [*]; done)), H', ⟨by have := HK1.out; omega⟩, by repeat (first | exact Drawn0.refl _ | apply Drawn0.step)⟩
        · rw [if_neg c4] at H
          exact absurd H (by simp)
      · rw [if_neg c3] at H
        have c3b0 : decide (x5_1 < (a0.size : Int)) = false := decide_eq_false c3
        clear c3
        obtain rfl := Option.some.inj H
        go_wp2
        go_ret
        exact ⟨by first | rfl | (simp; done) | (simp [*]; done), by repeat (first | exact Drawn0.refl _ | apply Drawn0.step)⟩

/-! ### packthreadref_askFault: function 46 -/
/-- What the reference refuses of a request. -/
def packthreadref_askFault.f (a0 a1 : Int) (a2 a3 : ByteArray) (a4 a5 a6 a7 : Int) (l8 : List Int) : Option Int :=
  if l8.length < 140737488351233 then some (Msg.faultF ⟨a0, a1, a2, a3, a4, a5, a6, a7, none, l8, 0⟩) else none
theorem packthreadref_askFault.calls (a0 a1 : Int) (a2 a3 : ByteArray) (a4 a5 a6 a7 : Int) (A8 : Option Addr) (c8 : Nat) (l8 : List Int) (r : Int) (w : World) (hr8 : Kd.C (Kd.int .u8) w A8 l8.length l8) (hc8 : l8.length ≤ c8) (h : packthreadref_askFault.f a0 a1 a2 a3 a4 a5 a6 a7 l8 = some r) :
    Calls Try.prog 46 #[.agg #[.int .i64 a0, .int .i64 a1, .string a2, .string a3, .int .i64 a4, .int .i64 a5, .int .i64 a6, .int .i64 a7, .slice A8 l8.length c8]] w fun e w' => e = .returned (.int .i64 r) ∧ Below w.heap.size w w' := by
  unfold packthreadref_askFault.f at h
  by_cases hl : l8.length < 140737488351233
  · rw [if_pos hl] at h
    cases h
    exact Msg.fault_calls ⟨a0, a1, a2, a3, a4, a5, a6, a7, A8, l8, c8⟩ w (by show l8.length ≤ _; omega)
  · rw [if_neg hl] at h; cases h

/-! ### packthreadref_bytesOf: function 47 -/
def packthreadref_bytesOf.l0 : Nat → Int → List Int → Int → Option (List Int)
  | 0, _, _, _ => none
  | k + 1, x0, x5, x6 => if x6 ≥ 0 then (if 0 ≤ x6 then (if x6 < (x5.length : Int) then (packthreadref_bytesOf.l0 k (wrap64 (Int.tdiv x0 256)) (x5.set (x6 : Int).toNat ((Int.tmod x0 256) % 256)) (wrap64 (x6 - 1))) else (none)) else (none)) else (some x5)
def packthreadref_bytesOf.f (k : Nat) (a0 : Int) (a1 : Int) : Option (List Int) := if 0 ≤ a1 then (if (a1 : Int).toNat ≤ 281474976710656 then (packthreadref_bytesOf.l0 k a0 (List.replicate (a1 : Int).toNat 0) (wrap64 (a1 - 1))) else (none)) else (none)
theorem packthreadref_bytesOf.mono_l : ∀ k, (∀ y0 y1 y2, LeO (packthreadref_bytesOf.l0 k y0 y1 y2) (packthreadref_bytesOf.l0 (k + 1) y0 y1 y2))
  | 0 => fun _ _ _ r h => by simp [packthreadref_bytesOf.l0] at h
  | k + 1 => by
    have ih0 := packthreadref_bytesOf.mono_l k
    · intro y0 y1 y2
      unfold packthreadref_bytesOf.l0
      repeat' first
      | (with_reducible exact ih0 _ _ _)
      | (with_reducible exact LeO.refl _)
      | (with_reducible exact LeO.none _)
      | (with_reducible refine LeO.ite ?_ ?_)
      | (with_reducible refine LeO.bind ?_ (fun _ => ?_))
      | exact ih0 _ _ _
      | exact LeO.none _
      | refine LeO.ite ?_ ?_
      | refine LeO.bind ?_ (fun _ => ?_)
theorem packthreadref_bytesOf.mono : ∀ a0 a1 k, LeO (packthreadref_bytesOf.f k a0 a1) (packthreadref_bytesOf.f (k + 1) a0 a1) := by
  intro a0 a1 k
  have ih0 := packthreadref_bytesOf.mono_l k
  unfold packthreadref_bytesOf.f
  repeat' first
      | (with_reducible exact ih0 _ _ _)
      | (with_reducible exact LeO.refl _)
      | (with_reducible exact LeO.none _)
      | (with_reducible refine LeO.ite ?_ ?_)
      | (with_reducible refine LeO.bind ?_ (fun _ => ?_))
      | exact ih0 _ _ _
      | exact LeO.none _
      | refine LeO.ite ?_ ?_
      | refine LeO.bind ?_ (fun _ => ?_)
set_option maxHeartbeats 8000000 in
set_option maxRecDepth 100000 in
theorem packthreadref_bytesOf.calls (k : Nat) (a0 : Int) (a1 : Int) (r : List Int) (w : World) (h : packthreadref_bytesOf.f k a0 a1 = some r) :
    Calls Try.prog 47 #[.int .i64 a0, .int .i64 a1] w fun e w' => ∃ v0_ : Value, e = .returned (v0_) ∧ Kd.R (Kd.int .u8) 5 w' w.heap.size (fun _ => True) v0_ r ∧ Below w.heap.size w w' := by
  have HB := Aside0.mk (Below.refl w.heap.size w)
  have H : (if 0 ≤ a1 then (if (a1 : Int).toNat ≤ 281474976710656 then (packthreadref_bytesOf.l0 k a0 (List.replicate (a1 : Int).toNat 0) (wrap64 (a1 - 1))) else (none)) else (none)) = some r := h
  clear h
  by_cases c3 : 0 ≤ a1
  · rw [if_pos c3] at H
    have c3b0 := eq_true c3
    have c3b1 : decide (0 ≤ a1) = true := decide_eq_true c3
    clear c3
    by_cases c4 : (a1 : Int).toNat ≤ 281474976710656
    · rw [if_pos c4] at H
      have c4b0 := eq_true c4
      have c4b1 : decide ((a1 : Int).toNat ≤ 281474976710656) = true := decide_eq_true c4
      clear c4
      obtain ⟨y109, hy109⟩ : ∃ y_ : List Int, y_ = (List.replicate (a1 : Int).toNat 0) := ⟨_, rfl⟩
      replace H : (packthreadref_bytesOf.l0 k a0 y109 (wrap64 (a1 - 1))) = some r := by first | (rw [hy109]; with_reducible exact H) | (have H2_ := (Option.bind_some _ _).symm.trans H; rw [hy109]; with_reducible exact H2_) | (have H2_ := (Option.bind_some _ _).symm.trans H; with_reducible exact H2_) | with_reducible exact H | (rw [hy109]; exact H) | exact H
      have Ny109 := Aside0.mk hy109
      clear hy109
      have H' := Aside0.mk H
      clear H
      go_enter Try.func47, Try.ntmps47
      go_wp2_with (first | ((with_reducible refine gate_dst (N := 8) rfl ?_); refine Kd.R_make (Kd.int .u8) _ 5 rfl (N := 8) rfl 27 _ _ rfl a1 rfl rfl Try.underlying27 (.int .u8 0) 1 info5 rfl (by decide) (by omega) 0 (ok := fun _ => True) (okp := fun _ => True) rfl (fun _ hk => hk) trivial (of_decide_eq_true (by first | (with_reducible assumption) | assumption)) (Nat.le_trans (Nat.mul_le_mul_right _ (of_decide_eq_true (by first | (with_reducible assumption) | assumption) : a1.toNat ≤ 281474976710656)) (by omega)) (Below.refl _ _) (Nat.le_refl _) ?_; intro v110 w5 ho6 hb hg_ hnew_; clear hg_ hnew_; (first | rw [← Ny109.out] at ho6 | (simp only [Int.reduceToNat] at ho6; rw [← Ny109.out] at ho6)); have n0_ := Aside0.mk (Kd.R_lower ho6 (below_size (by repeat (first | (with_reducible first | exact HB.out | apply below_alloc | apply pw_below_drewN | apply below_drew1) | exact HB.out)))); have n1_ := Aside0.mk (below_step (by repeat (first | (with_reducible first | exact HB.out | apply below_alloc | apply pw_below_drewN | apply below_drew1) | exact HB.out)) hb); clear HB; have HO111 := n0_; have HB := n1_; clear n0_ n1_; clear hb ho6))
      go_loopg [0, 6] k (fun kq v0 v6 w' => ∃ (x0_1 : Int) (x5_1 : List Int) (x6_1 : Int), v0 = .int .i64 x0_1 ∧ v6 = .int .i64 x6_1 ∧ Aside0 (packthreadref_bytesOf.l0 kq x0_1 x5_1 x6_1 = some r) ∧ Aside0 (kq ≤ k) ∧ Aside0 (Kd.R (Kd.int .u8) 5 w' w.heap.size (fun _ => True) v110 x5_1) ∧ Aside0 (Below w.heap.size w w'))
      case atStart => exact ⟨(a0), (y109), (wrap64 (a1 - 1)), (by first | rfl | (simp; done) | (simp [*]; done)), (by first | rfl | (simp; done) | (simp [*]; done)), H', ⟨Nat.le_refl _⟩, ⟨by (with_reducible repeat (first | apply Kd.R_alloc | apply Kd.R_drewN | apply Kd.R_drew)); exact HO111.out⟩, ⟨by repeat (first | (with_reducible first | exact HB.out | apply below_alloc | apply pw_below_drewN | apply below_drew1) | exact HB.out)⟩⟩
      case round =>
        clear H'
        try clear p2
        try clear c3
        try clear c3b0
        try clear c3b1
        try clear c4
        try clear c4b0
        try clear c4b1
        try clear p6
        obtain ⟨x0_1, x5_1, x6_1, rfl, rfl, HA, HK1, HO_5, HB⟩ := hrel
        cases gk with
        | zero => exact absurd HA.out (by simp [packthreadref_bytesOf.l0])
        | succ k1 =>
          have H := HA.out
          clear HA
          simp only [packthreadref_bytesOf.l0] at H
          by_cases c7 : x6_1 ≥ 0
          · rw [if_pos c7] at H
            have c7b0 : decide (0 ≤ x6_1) = true := decide_eq_true c7
            clear c7
            by_cases c8 : 0 ≤ x6_1
            · rw [if_pos c8] at H
              have c8b0 : decide (0 ≤ x6_1) = true := decide_eq_true c8
              clear c8
              by_cases c9 : x6_1 < (x5_1.length : Int)
              · rw [if_pos c9] at H
                have c9b0 : decide (x6_1 < (x5_1.length : Int)) = true := decide_eq_true c9
                clear c9
                obtain ⟨y112, hy112⟩ : ∃ y_ : List Int, y_ = (x5_1.set (x6_1 : Int).toNat ((Int.tmod x0_1 256) % 256)) := ⟨_, rfl⟩
                replace H : (packthreadref_bytesOf.l0 k1 (wrap64 (Int.tdiv x0_1 256)) y112 (wrap64 (x6_1 - 1))) = some r := by first | (rw [hy112]; with_reducible exact H) | (have H2_ := (Option.bind_some _ _).symm.trans H; rw [hy112]; with_reducible exact H2_) | (have H2_ := (Option.bind_some _ _).symm.trans H; with_reducible exact H2_) | with_reducible exact H | (rw [hy112]; exact H) | exact H
                have Ny112 := Aside0.mk hy112
                clear hy112
                have H' := Aside0.mk H
                clear H
                have p10 : 0 ≤ (x6_1 : Int) := of_decide_eq_true (by first | (with_reducible assumption) | assumption)
                have q10 : (x6_1 : Int) < ((x5_1.length : Int) : Int) := of_decide_eq_true (by first | (with_reducible assumption) | assumption)
                obtain ⟨go10, co10, eo10, gb10, gl10, cl10, HG10⟩ := Kd.R_form HO_5.out (by omega)
                (first | cases eo10 | (injection eo10 with ea_ en_ ec_; (first | subst ea_ | (injection ea_ with ea_; subst ea_)); subst ec_; clear en_))
                have GB10 := Aside0.mk gb10
                have GG10 := Aside0.mk HG10
                clear gb10 gl10 HG10
                obtain ⟨hx10_0, hf10_0⟩ := Kd.R_celln 0 HO_5.out (x6_1 : Int) p10 q10
                replace p10 := eq_true p10
                replace q10 := eq_true q10
                have HP11 := Kd.R_putg HO_5.out (x6_1 : Int) ((Int.tmod x0_1 256) % 256)
                go_wp2_with (first | ((with_reducible refine gate_store (t := 5) (p := 20) rfl ?_); refine store_event (t := 5) (p := 20) (v := ?vo_w12) (w1 := (wr.setCell ⟨go10, (x6_1 : Int).toNat, none⟩ (.int .u8 ((Int.tmod x0_1 256) % 256)))) ?hg ?ho ?hn ?hr ?_; (case ho => rfl); (case hg => rfl); (case hn => rfl); (case hr => first | (go_simp; done) | (go_simp; rfl)); intro w12 hw; have hg : wr.grownBy w12 (some go10) := (by rw [hw]; exact HP11.2); have hp_ : Kd.R (Kd.int .u8) 5 w12 w.heap.size (fun _ => True) (.slice (some ⟨go10, 0, none⟩) x5_1.length co10) y112 := (by rw [hw, Ny112.out]; exact HP11.1); clear HP11; have n0_ := Aside0.mk (hp_); have n1_ := Aside0.mk ((by rw [hw]; exact below_set (HB.out) GB10.out : Below w.heap.size w w12)); clear HO_5; clear HB; have HO_5 := n0_; have HB := n1_; clear n0_ n1_; clear hg hw hp_))
                go_roundg k1
                case measure => have := HK1.out; omega
                case rel => exact ⟨(wrap64 (Int.tdiv x0_1 256)), (y112), (wrap64 (x6_1 - 1)), (by first | rfl | (simp; done) | (simp [*]; done)), (by first | rfl | (simp; done) | (simp [*]; done)), H', ⟨by have := HK1.out; omega⟩, ⟨by (with_reducible repeat (first | apply Kd.R_alloc | apply Kd.R_drewN | apply Kd.R_drew)); exact HO_5.out⟩, ⟨by repeat (first | (with_reducible first | exact HB.out | apply below_alloc | apply pw_below_drewN | apply below_drew1) | exact HB.out)⟩⟩
              · rw [if_neg c9] at H
                exact absurd H (by simp)
            · rw [if_neg c8] at H
              exact absurd H (by simp)
          · rw [if_neg c7] at H
            have c7b0 : decide (0 ≤ x6_1) = false := decide_eq_false c7
            clear c7
            obtain rfl := Option.some.inj H
            go_wp2
            go_ret
            exact ⟨_, by first | rfl | (simp [errW_none, errW_some] <;> rfl) | (simp [*, errW_none, errW_some] <;> rfl), by (with_reducible repeat (first | apply Kd.R_alloc | apply Kd.R_drewN | apply Kd.R_drew)); exact HO_5.out, by repeat (first | (with_reducible first | exact HB.out | apply below_alloc | apply pw_below_drewN | apply below_drew1) | exact HB.out)⟩
    · rw [if_neg c4] at H
      exact absurd H (by simp)
  · rw [if_neg c3] at H
    exact absurd H (by simp)

/-! ### packthreadref_textOf: function 49 -/
def packthreadref_textOf.f (k : Nat) (a0 : ByteArray) : Option (List Int) := (packthreadref_bytesOf.f k (a0.size : Int) 2).bind fun t113 => (if t113.length + a0.size < 140737488355328 then (some (t113 ++ bytesOf a0)) else (none))
theorem packthreadref_textOf.mono : ∀ a0 k, LeO (packthreadref_textOf.f k a0) (packthreadref_textOf.f (k + 1) a0) := by
  intro a0 k
  unfold packthreadref_textOf.f
  repeat' first
      | (with_reducible exact packthreadref_bytesOf.mono _ _ _)
      | (with_reducible exact LeO.refl _)
      | (with_reducible exact LeO.none _)
      | (with_reducible refine LeO.ite ?_ ?_)
      | (with_reducible refine LeO.bind ?_ (fun _ => ?_))
      | exact packthreadref_bytesOf.mono _ _ _
      | exact LeO.none _
      | refine LeO.ite ?_ ?_
      | refine LeO.bind ?_ (fun _ => ?_)
set_option maxHeartbeats 8000000 in
set_option maxRecDepth 100000 in
theorem packthreadref_textOf.calls (k : Nat) (a0 : ByteArray) (r : List Int) (w : World) (h : packthreadref_textOf.f k a0 = some r) :
    Calls Try.prog 49 #[.string a0] w fun e w' => ∃ v0_ : Value, e = .returned (v0_) ∧ Kd.R (Kd.int .u8) 5 w' w.heap.size (fun _ => True) v0_ r ∧ Below w.heap.size w w' := by
  have HB := Aside0.mk (Below.refl w.heap.size w)
  have H : ((packthreadref_bytesOf.f k (a0.size : Int) 2).bind fun t113 => (if t113.length + a0.size < 140737488355328 then (some (t113 ++ bytesOf a0)) else (none))) = some r := h
  clear h
  replace H := Option.bind_eq_some_iff.mp H
  obtain ⟨t113, A20, H⟩ := H
  replace H : (if t113.length + a0.size < 140737488355328 then (some (t113 ++ bytesOf a0)) else (none)) = some r := H
  have A2 := Aside0.mk A20
  clear A20
  by_cases c3 : t113.length + a0.size < 140737488355328
  · rw [if_pos c3] at H
    have LMc3 := Aside0.mk c3
    clear c3
    obtain ⟨y116, hy116⟩ : ∃ y_ : List Int, y_ = (t113 ++ bytesOf a0) := ⟨_, rfl⟩
    replace H : (some y116) = some r := by first | (rw [hy116]; with_reducible exact H) | (have H2_ := (Option.bind_some _ _).symm.trans H; rw [hy116]; with_reducible exact H2_) | (have H2_ := (Option.bind_some _ _).symm.trans H; with_reducible exact H2_) | with_reducible exact H | (rw [hy116]; exact H) | exact H
    have Ny116 := Aside0.mk hy116
    clear hy116
    obtain rfl := Option.some.inj H
    go_enter Try.func49, Try.ntmps49
    go_wp2_with (first | ((with_reducible refine gate_callee (f := 47) rfl ?_); refine goesL_ (some 5) rfl rfl Try.func47 (by kernel_rfl) rfl #[.int .i64 (a0.size : Int), .int .i64 2] rfl (by (try simp only [List.map_toArray, List.map_cons, List.map_nil]); first | done | rfl | (simp only [List.length_drop, List.length_take]; rfl)) ?_; (with_reducible refine (packthreadref_bytesOf.calls k (a0.size : Int) 2 t113 _ A2.out).mono ?_); rintro e w4 ⟨v114, rfl, ho0, hb⟩; refine ⟨_, rfl, ?_⟩; have n0_ := Aside0.mk (Kd.R_lower ho0 (below_size (by repeat (first | (with_reducible first | exact HB.out | apply below_alloc | apply pw_below_drewN | apply below_drew1) | exact HB.out)))); have n1_ := Aside0.mk (below_step (by repeat (first | (with_reducible first | exact HB.out | apply below_alloc | apply pw_below_drewN | apply below_drew1) | exact HB.out)) hb); clear HB; have HO115 := n0_; have HB := n1_; clear n0_ n1_; (try clear hb); (try clear hb2); (try clear hk); (try clear hi); (try clear ho0)) | (at_builtin; refine print_append_str (w0 := w) w.heap.size rfl (.tmp 5) _ 27 9 5 rfl Try.underlying27 Try.underlying9 info5 v114 t113 a0 rfl rfl ?aO ?aB ?aS ?aL ?_; (case aB => exact (by repeat (first | (with_reducible first | exact HB.out | apply below_alloc | apply pw_below_drewN | apply below_drew1) | exact HB.out))); (case aO => exact (Kd.own_of_R (by (with_reducible repeat (first | apply Kd.R_alloc | apply Kd.R_drewN | apply Kd.R_drew)); exact HO115.out))); (case aS => exact (below_size (by repeat (first | (with_reducible first | exact HB.out | apply below_alloc | apply pw_below_drewN | apply below_drew1) | exact HB.out)))); (case aL => have := LMc3.out; omega); intro v117 w5 ho0 hb hg; have ho := Kd.R_of_own (h1 := fun _ => rfl) (ok := fun _ => True) ho0 (fun _ _ => trivial); clear ho0; have hat := True.intro; rw [← Ny116.out] at ho; change Kd.R (Kd.int .u8) 5 w5 w.heap.size (fun _ => True) v117 y116 at ho; have n0_ := Aside0.mk (hb); have n1_ := Aside0.mk (ho); clear HB; clear HO115; have HB := n0_; have HO118 := n1_; clear n0_ n1_; clear ho hb hg hat))
    go_ret
    exact ⟨_, by first | rfl | (simp [errW_none, errW_some] <;> rfl) | (simp [*, errW_none, errW_some] <;> rfl), by (with_reducible repeat (first | apply Kd.R_alloc | apply Kd.R_drewN | apply Kd.R_drew)); exact HO118.out, by repeat (first | (with_reducible first | exact HB.out | apply below_alloc | apply pw_below_drewN | apply below_drew1) | exact HB.out)⟩
  · rw [if_neg c3] at H
    exact absurd H (by simp)

/-! ### packthreadref_MsgAsk: function 16 -/
theorem bof_step (k : Nat) (x : Int) (xs : List Int) (j : Nat) (h0 : 0 ≤ x) (h1 : x ≤ 4294967295) (hj : j < xs.length) (hl : xs.length ≤ 4) : packthreadref_bytesOf.l0 (k + 1) x xs (j : Int) = packthreadref_bytesOf.l0 k (x / 256) (xs.set j (x % 256)) ((j : Int) - 1) := by
  rw [packthreadref_bytesOf.l0]
  rw [if_pos (by omega), if_pos (by omega), if_pos (by omega)]
  have e1 : Int.tdiv x 256 = x / 256 := Int.tdiv_eq_ediv_of_nonneg h0
  have e2 : Int.tmod x 256 = x % 256 := Int.tmod_eq_emod_of_nonneg h0
  rw [e1, e2, show wrap64 (x / 256) = x / 256 by unfold wrap64; omega, show wrap64 ((j : Int) - 1) = (j : Int) - 1 by unfold wrap64; omega, show x % 256 % 256 = x % 256 by omega]
  rfl
theorem bof_end (k : Nat) (x : Int) (xs : List Int) : packthreadref_bytesOf.l0 (k + 1) x xs (-1) = some xs := by
  rw [packthreadref_bytesOf.l0, if_neg (by decide)]
theorem bof (wd : Nat) (n : Int) (hw : wd = 1 ∨ wd = 2 ∨ wd = 4) (h0 : 0 ≤ n) (h1 : n ≤ 4294967295) : packthreadref_bytesOf.f 10 n (wd : Int) = some (Msg.bytesF wd n) := by
  unfold packthreadref_bytesOf.f
  rw [if_pos (by omega), if_pos (by omega), show wrap64 ((wd : Int) - 1) = (wd : Int) - 1 by unfold wrap64; omega]
  rcases hw with rfl | rfl | rfl
  · refine (bof_step 9 n _ 0 h0 h1 (by simp) (by simp)).trans ?_
    refine (bof_end 8 _ _).trans ?_
    rfl
  · refine (bof_step 9 n _ 1 h0 h1 (by simp) (by simp)).trans ?_
    refine (bof_step 8 _ _ 0 (by omega) (by omega) (by simp) (by simp)).trans ?_
    refine (bof_end 7 _ _).trans ?_
    rfl
  · refine (bof_step 9 n _ 3 h0 h1 (by simp) (by simp)).trans ?_
    refine (bof_step 8 _ _ 2 (by omega) (by omega) (by simp) (by simp)).trans ?_
    refine (bof_step 7 _ _ 1 (by omega) (by omega) (by simp) (by simp)).trans ?_
    refine (bof_step 6 _ _ 0 (by omega) (by omega) (by simp) (by simp)).trans ?_
    refine (bof_end 5 _ _).trans ?_
    rw [show n / 256 / 256 = n / 65536 by omega, show n / 65536 / 256 = n / 16777216 by omega]
    rfl
/-- A text's bytes, its length ahead of them. -/
def txt (s : ByteArray) : List Int := Msg.bytesF 2 (s.size : Int) ++ bytesOf s
theorem tof (s : ByteArray) (h : s.size ≤ 65535) : packthreadref_textOf.f 10 s = some (txt s) := by
  unfold packthreadref_textOf.f
  rw [show ((2 : Int)) = ((2 : Nat) : Int) from rfl, bof 2 (s.size : Int) (by omega) (by omega) (by omega), Option.bind_some, if_pos (by have := Msg.bytesF_len 2 (s.size : Int); omega)]
  rfl
theorem txt_len (s : ByteArray) : (txt s).length ≤ 4 + s.size := by
  unfold txt; rw [List.length_append, bytesOf_length]; have := Msg.bytesF_len 2 (s.size : Int); omega
/-- The bytes of what a letter names. -/
def ltr (q : Msg.Rq) (c : Nat) : List Int :=
  if c = 112 then txt q.path else if c = 116 then txt q.to_ else if c = 104 then Msg.bytesF 1 q.how else if c = 110 then Msg.bytesF 4 q.handle else if c = 97 then Msg.bytesF 4 q.at_ else if c = 99 then Msg.bytesF 2 q.count else if c = 100 then txt (strOfNums q.data) else []
theorem str_size (l : List Int) : (strOfNums l).size = l.length := by show ((l.map fun n => UInt8.ofNat n.toNat).toArray).size = l.length; rw [List.size_toArray, List.length_map]
/-- What the reference answers. -/
def refF (q : Msg.Rq) : List Int × Int := if Msg.faultF q ≠ 0 then ([], Msg.faultF q) else (Msg.bytesF 1 q.kind ++ Msg.bytesF 4 q.mark ++ (Msg.namesK q.kind).flatMap (ltr q), 0)
/-- The letters of a kind. -/
def nmS (k : Int) : ByteArray := ⟨((Msg.namesK k).map Nat.toUInt8).toArray⟩
theorem nms_is (k : Int) (h : 1 ≤ k ∧ k ≤ 10) : packthreadref_msgNames.f k = some (nmS k) := by
  have : k = 1 ∨ k = 2 ∨ k = 3 ∨ k = 4 ∨ k = 5 ∨ k = 6 ∨ k = 7 ∨ k = 8 ∨ k = 9 ∨ k = 10 := by omega
  rcases this with rfl | rfl | rfl | rfl | rfl | rfl | rfl | rfl | rfl | rfl <;> rfl
def isL (c : Nat) : Prop := c = 112 ∨ c = 116 ∨ c = 104 ∨ c = 110 ∨ c = 97 ∨ c = 99 ∨ c = 100
theorem names_l (k : Int) : (∀ c ∈ Msg.namesK k, isL c) ∧ (Msg.namesK k).length ≤ 3 := by
  unfold Msg.namesK
  repeat' split
  all_goals exact ⟨by intro c hc; unfold isL; (first | (cases hc; done) | (simp at hc; omega)), by simp⟩
theorem nms_size (k : Int) : (nmS k).size = (Msg.namesK k).length := by show (((Msg.namesK k).map Nat.toUInt8).toArray).size = _; rw [List.size_toArray, List.length_map]
theorem nms_at (k : Int) (i : Nat) (h : i < (nmS k).size) (h' : i < (Msg.namesK k).length) : ((nmS k)[i]'h).toNat = (Msg.namesK k)[i] := by
  have e : ∀ (l : List Nat) (h : i < (l.map Nat.toUInt8).toArray.size) (h' : i < l.length), ((l.map Nat.toUInt8).toArray)[i]'h = (l[i]'h').toUInt8 := fun l h h' => by simp
  have e : (nmS k)[i]'h = ((Msg.namesK k)[i]).toUInt8 := e _ _ h'
  rw [e]
  have := (names_l k).1 _ (List.getElem_mem h')
  unfold isL at this
  rcases this with h | h | h | h | h | h | h <;> rw [h] <;> rfl
/-- What a request's fields are within, where nothing is refused. -/
structure Fit (q : Msg.Rq) : Prop where
  k : 1 ≤ q.kind ∧ q.kind ≤ 10
  m : 0 ≤ q.mark ∧ q.mark ≤ 4294967295
  n : 0 ≤ q.handle ∧ q.handle ≤ 4294967295
  a : 0 ≤ q.at_ ∧ q.at_ ≤ 4294967295
  h : 0 ≤ q.how ∧ q.how ≤ 255
  c : 0 ≤ q.count ∧ q.count ≤ 65535
  p : q.path.size ≤ 200
  t : q.to_.size ≤ 200
  d : q.data.length ≤ 100
theorem fit_of {q : Msg.Rq} (h : Msg.faultF q = 0) : Fit q := by
  unfold Msg.faultF at h
  by_cases hk : 1 ≤ q.kind ∧ q.kind ≤ 10
  case neg => rw [if_pos hk] at h; cases h
  rw [if_neg (not_not_intro hk)] at h
  by_cases h1 : Msg.formB q = true
  · rw [if_pos h1] at h; cases h
  rw [if_neg h1] at h
  by_cases h2 : Msg.rangeB q = true
  · rw [if_pos h2] at h; cases h
  rw [if_neg h2] at h
  by_cases h3 : Msg.sizeB q = true
  · rw [if_pos h3] at h; cases h
  simp only [Msg.rangeB, Msg.four, Bool.or_eq_true, Bool.not_eq_true', Bool.and_eq_false_iff, decide_eq_false_iff_not, decide_eq_true_eq, not_or, Classical.not_not, Int.not_lt, Int.not_le] at h2
  simp only [Msg.sizeB, Bool.or_eq_true, decide_eq_true_eq, not_or, Nat.not_lt] at h3
  obtain ⟨⟨m1, m2⟩, ⟨n1, n2⟩, ⟨a1, a2⟩, h1', h2', c1, c2⟩ := h2
  exact ⟨hk, ⟨m1, m2⟩, ⟨n1, n2⟩, ⟨a1, a2⟩, ⟨h1', h2'⟩, ⟨c1, c2⟩, h3.1, h3.2.1, h3.2.2⟩
theorem ltr_len {q : Msg.Rq} (h : Fit q) (c : Nat) : (ltr q c).length ≤ 204 := by
  unfold ltr
  repeat' split
  all_goals first
    | (have := Msg.bytesF_len 1 q.how; omega)
    | (have := Msg.bytesF_len 4 q.handle; omega)
    | (have := Msg.bytesF_len 4 q.at_; omega)
    | (have := Msg.bytesF_len 2 q.count; omega)
    | (have := txt_len q.path; have := h.p; omega)
    | (have := txt_len q.to_; have := h.t; omega)
    | (have h1 := txt_len (strOfNums q.data); have := h.d; rw [str_size] at h1; omega)
    | simp
theorem R_iter {α : Type} {d : Kd α} {e : TypeId} {w : World} {base : Nat} {ok : Nat → Prop} {v : Value} {xs : List α} {k : Nat} {s : ByteArray} {p p' : Nat} (h : d.R e w base ok v xs) (hk : w.heap[k]? = some (.stringIter s p)) : d.R e (w.iterAt k s p') base ok v xs :=
  Kd.R_mono (Kd.R_step (Kd.R_bound h) (fun j ho _ => Lib.iterAt_other w k j s p' (by rintro rfl; obtain ⟨_, _, _, q, _, cells, hc⟩ := ho; rw [hk] at hc; cases hc))) (fun _ h => h.1)
theorem info5r : (Try.prog.info? 5).map (fun i => (i.zero, i.size, i.bytes)) = some (some (.int .u8 0), 1, 1) := by kernel_rfl
def mref.T4 : Bool × List (List Nat × List Nat) := (true, [([], []), ([0], [0]), ([1], [1]), ([], []), ([3], [3]), ([4, 2], [4]), ([2, 5, 5], [2, 5]), ([6, 6, 0, 1, 2, 3, 4, 5, 6], [6])])
def mref.B4 : List Nat := [0, 1, 3, 0, 8, 31, 63, 127]
theorem mref.tab4 : rtab .any (opsOf Try.f16 4) = mref.T4 := by kernel_rfl
theorem mref.bits4 : waitsOk mref.T4.2 mref.B4 = true := by kernel_rfl
set_option maxHeartbeats 16000000 in
set_option maxRecDepth 100000 in
theorem ref_calls (q : Msg.Rq) (w : World) (hdl : q.data.length ≤ 140737488351232) (hdc : q.data.length ≤ q.dc) (hd : Kd.C (Kd.int .u8) w q.dA q.data.length q.data) :
    Calls Try.prog 16 #[.agg q.cells] w fun e w' => ∃ v, e = .returned (.tuple #[v, .int .i64 (refF q).2]) ∧ Kd.R (Kd.int .u8) 5 w' w.heap.size (fun _ => True) v (refF q).1 ∧ Below w.heap.size w w' := by
  have hq0 := heap_alloc_new w (.cells q.cells 29)
  have HB := Aside0.mk ((Below.refl _ w).alloc (Nat.le_refl _) (.cells q.cells 29))
  have HD := Aside0.mk (Kd.C_below hd HB.out)
  obtain ⟨W1, hW1⟩ : ∃ W, w.alloc (.cells q.cells 29) = W := ⟨_, rfl⟩
  obtain ⟨b1, hb1⟩ : ∃ b, w.heap.size = b := ⟨_, rfl⟩
  have hW1' : w.alloc (.cells #[.int .i64 q.kind, .int .i64 q.mark, .string q.path, .string q.to_, .int .i64 q.how, .int .i64 q.handle, .int .i64 q.at_, .int .i64 q.count, .slice q.dA q.data.length q.dc] 29) = W1 := hW1
  rw [hW1] at hq0 HB HD
  rw [hb1] at hq0
  have HQ := Aside0.mk hq0
  obtain ⟨hy0, hy1, hy2, hy3, hy4, hy5, hy6, hy7, hy8⟩ := Msg.nine_cells hq0
  have HCF := Aside0.mk (fun W => Msg.fault_calls q W hdl)
  have HQF := Aside0.mk (fun (W : World) (hB : Below W1.heap.size W1 W) => (hB.block _ (Msg.blk_ltn HQ.out)).trans HQ.out)
  have HDF := Aside0.mk (fun (W : World) (hB : Below W1.heap.size W1 W) => Kd.C_below HD.out hB)
  clear hq0 hW1 hd
  obtain ⟨r1, r2, hr⟩ : ∃ r1 r2, refF q = (r1, r2) := ⟨_, _, rfl⟩
  rw [hr]
  have hr' := hr
  unfold refF at hr'
  show Calls Try.prog 16 #[.agg #[.int .i64 q.kind, .int .i64 q.mark, .string q.path, .string q.to_, .int .i64 q.how, .int .i64 q.handle, .int .i64 q.at_, .int .i64 q.count, .slice q.dA q.data.length q.dc]] w _
  by_cases h0 : Msg.faultF q = 0
  case neg =>
    rw [if_pos h0] at hr'
    obtain ⟨rfl, rfl⟩ := Prod.mk.inj hr'
    clear hr hr'
    obtain ⟨fl, hfl⟩ : ∃ f, Msg.faultF q = f := ⟨_, rfl⟩
    rw [hfl] at h0 ⊢
    have e1 : (fl != 0) = true := bne_iff_ne.2 h0
    have e2 : (fl == 0) = false := beq_eq_false_iff_ne.2 h0
    go_enter Try.func16, Try.ntmps16
    go_upto_region 1 with fail
    (try rw [hW1'])
    (try rw [hb1])
    go_wp2_with (go_at_call 46; refine (HCF.out _).mono ?_; rintro e w2 ⟨rfl, hb2⟩; have HB2 := Aside0.mk (HB.out.trans (hb2.mono HB.out.size)); rw [hfl]; clear hb2)
    go_ret2
    exact ⟨_, rfl, Kd.R_nil _ _ _ _ _, HB2.out⟩
  rw [if_neg (not_not_intro h0)] at hr'
  obtain ⟨hr1, rfl⟩ := Prod.mk.inj hr'
  have HR1 := Aside0.mk hr1
  have HF := Aside0.mk (fit_of h0)
  clear hr hr' hr1
  go_enter Try.func16, Try.ntmps16
  go_upto_region 1 with fail
  (try rw [hW1'])
  (try rw [hb1])
  go_upto_region 4 with (go_at_call 46; refine (HCF.out _).mono ?_; rintro e w2 ⟨rfl, hb2⟩; have HB2 := Aside0.mk hb2; rw [h0]; clear hb2)
  clear hW1' HCF h0 hy0 hy1 hy2 hy3 hy4 hy5 hy6 hy7 hy8
  clear hb1
  refine start_ (n := 8) (S := fun w' => w'.cell? ⟨b1, 0, none⟩ = some (.int .i64 q.kind) ∧ w'.cell? ⟨b1, 1, none⟩ = some (.int .i64 q.mark)) (ds := [6]) #[false, false, false, false, false, false, false, false] (by kernel_rfl) rfl rfl ⟨(blk_cell (HQF.out _ HB2.out) 0).trans rfl, (blk_cell (HQF.out _ HB2.out) 1).trans rfl⟩ (fun hHeld => ?_)
  refine with_tabW mref.tab4 mref.bits4 (fun HT_ HW_ => ?_)
  have HBd := Aside0.mk (below_drew1 HB2.out)
  have HB2 := HBd
  clear HBd
  generalize w2.drew = w2 at HB2 hHeld ⊢
  refine pure_ (i := 0) (N := some 13) (v := ?_) (a' := ?_) #[true, false, false, false, false, false, false, false] rfl rfl (any_of HT_.out (by kernel_rfl)) (fun _ _ _ h => h) (Or.inl ⟨by rfl, ?_⟩) ?_ ?_
  rotate_left
  · intro w'
    go_simp
    with_reducible rfl
  rotate_left
  · simp only [Act.put, List.setIfInBounds_toArray, List.set_cons_zero, List.set_cons_succ, i64_w, i32_w]
    rfl
  refine pure_ (i := 3) (N := some 16) (v := ?_) (a' := ?_) #[true, false, false, true, false, false, false, false] rfl rfl (any_of HT_.out (by kernel_rfl)) (fun _ _ _ h => h) (Or.inl ⟨by rfl, ?_⟩) ?_ ?_
  rotate_left
  · intro w'
    go_simp
    with_reducible rfl
  rotate_left
  · simp only [Act.put, List.setIfInBounds_toArray, List.set_cons_zero, List.set_cons_succ, i64_w, i32_w]
    rfl
  refine take_ (i := 1) (N := some 14) (v := ?_) (a' := ?_) #[true, true, false, true, false, false, false, false] rfl rfl (take_ofW HT_.out HW_.out (by kernel_rfl)) (fun _ _ _ h => h) (Or.inl ⟨by rfl, ?_⟩) hHeld ?_ ?_
  rotate_left
  · rintro w' ⟨s0, s1⟩
    go_simp
    with_reducible rfl
  rotate_left
  · simp only [Act.put, List.setIfInBounds_toArray, List.set_cons_zero, List.set_cons_succ, i64_w, i32_w]
    rfl
  refine take_ (i := 4) (N := some 17) (v := ?_) (a' := ?_) #[true, true, false, true, true, false, false, false] rfl rfl (take_ofW HT_.out HW_.out (by kernel_rfl)) (fun _ _ _ h => h) (Or.inl ⟨by rfl, ?_⟩) hHeld ?_ ?_
  rotate_left
  · rintro w' ⟨s0, s1⟩
    go_simp
    with_reducible rfl
  rotate_left
  · simp only [Act.put, List.setIfInBounds_toArray, List.set_cons_zero, List.set_cons_succ, i64_w, i32_w]
    rfl
  refine one_ (i := 2) (N := some 15) #[true, true, true, true, true, false, false, false] rfl rfl (one_of HT_.out (by kernel_rfl)) (by decide) (fun K hK => ?_)
  refine call_ 47 #[.int .i64 q.kind, .int .i64 1] (by rfl) rfl ?hr ?_
  (case hr => first | rfl | (go_simp; done) | (go_simp; rfl))
  refine (packthreadref_bytesOf.calls 10 q.kind 1 _ _ (bof 1 q.kind (by omega) (by have := HF.out.k.1; omega) (by have := HF.out.k.2; omega))).mono ?_
  rintro e' w3 ⟨v3, rfl, ho3, hb3⟩
  refine ⟨_, rfl, ?_⟩
  have HB3 := Aside0.mk (HB2.out.trans (hb3.mono HB2.out.size))
  have HO3 := Aside0.mk (Kd.R_lower ho3 HB2.out.size)
  clear ho3 hb3
  refine hK.out _ _ ⟨(blk_cell (HQF.out _ HB3.out) 0).trans rfl, (blk_cell (HQF.out _ HB3.out) 1).trans rfl⟩ (fun hHeld => ?_)
  clear hK K
  refine norm_ (a' := ?_) ?_ ?_
  rotate_left
  · show Act.put _ (some 15) _ = _
    simp only [Act.put, List.setIfInBounds_toArray, List.set_cons_zero, List.set_cons_succ, i64_w, i32_w]
    rfl
  refine one_ (i := 5) (N := some 18) #[true, true, true, true, true, true, false, false] rfl rfl (one_of HT_.out (by kernel_rfl)) (by decide) (fun K hK => ?_)
  refine call_ 47 #[.int .i64 q.mark, .int .i64 4] (by rfl) rfl ?hr ?_
  (case hr => first | rfl | (go_simp; done) | (go_simp; rfl))
  refine (packthreadref_bytesOf.calls 10 q.mark 4 _ _ (bof 4 q.mark (by omega) (by have := HF.out.m.1; omega) (by have := HF.out.m.2; omega))).mono ?_
  rintro e' w4 ⟨v4, rfl, ho4, hb4⟩
  refine ⟨_, rfl, ?_⟩
  have HB4 := Aside0.mk (HB3.out.trans (hb4.mono HB3.out.size))
  have HO4 := Aside0.mk (Kd.R_below HO3.out hb4)
  have HP4 := Aside0.mk (Kd.R_reads ho4)
  clear ho4 hb4
  refine hK.out _ _ ⟨(blk_cell (HQF.out _ HB4.out) 0).trans rfl, (blk_cell (HQF.out _ HB4.out) 1).trans rfl⟩ (fun hHeld => ?_)
  clear hK K
  refine norm_ (a' := ?_) ?_ ?_
  rotate_left
  · show Act.put _ (some 18) _ = _
    simp only [Act.put, List.setIfInBounds_toArray, List.set_cons_zero, List.set_cons_succ, i64_w, i32_w]
    rfl
  refine last_ (i := 6) (N := some 19) #[true, true, true, true, true, true, true, false] rfl rfl (one_of HT_.out (by kernel_rfl)) (by decide) (fun K hK => ?_)
  obtain ⟨A4, c4, hv4, hc4, hC4⟩ := HP4.out
  subst hv4
  refine Kd.R_append_rows_step (Kd.int .u8) (w0 := W1) W1.heap.size (by rfl) (.tmp 15) (.tmp 18) 27 5 (.int .u8 0) 1 rfl Try.underlying27 info5r rfl (by decide) (by decide) v3 (Msg.bytesF 1 q.kind) (Msg.bytesF 4 q.mark) _ _ _ (fun _ => True) (fun _ => False) rfl rfl HO4.out hC4 (fun _ _ h => h) (fun _ hk => hk.elim) (fun _ _ => trivial) HB4.out HB4.out.size (by have h1 := Msg.bytesF_len 1 q.kind; have h2 := Msg.bytesF_len 4 q.mark; omega) ?_
  intro v7 w7 ho hb hg hat
  have HO7 := Aside0.mk ho
  have HB7 := Aside0.mk hb
  clear ho hb hat hg
  refine hK.out _ _ ?_
  clear hK K
  refine norm_ (a' := ?_) ?_ ?_
  rotate_left
  · show Act.put _ (some 19) _ = _
    simp only [Act.put, List.setIfInBounds_toArray, List.set_cons_zero, List.set_cons_succ, i64_w, i32_w]
    rfl
  refine pure_ (i := 7) (N := some 5) (v := ?_) (a' := ?_) #[true, true, true, true, true, true, true, true] rfl rfl (any_of HT_.out (by kernel_rfl)) (fun _ _ _ h => h) (Or.inl ⟨by rfl, ?_⟩) ?_ ?_
  rotate_left
  · intro w'
    go_simp
    with_reducible rfl
  rotate_left
  · simp only [Act.put, List.setIfInBounds_toArray, List.set_cons_zero, List.set_cons_succ, i64_w, i32_w]
    rfl
  refine done_ (done_of HT_.out (by kernel_rfl)) ?_
  obtain ⟨head, hh⟩ : ∃ l, Msg.bytesF 1 q.kind ++ Msg.bytesF 4 q.mark = l := ⟨_, rfl⟩
  have HHL := Aside0.mk (show head.length ≤ 8 by rw [← hh, List.length_append]; have := Msg.bytesF_len 1 q.kind; have := Msg.bytesF_len 4 q.mark; omega)
  rw [hh] at HO7 HR1
  clear hh
  obtain ⟨hy0, hy1, hy2, hy3, hy4, hy5, hy6, hy7, hy8⟩ := Msg.nine_cells (HQF.out _ HB7.out)
  have HNM := Aside0.mk (nms_is q.kind HF.out.k)
  obtain ⟨nl, hnl⟩ : ∃ l, Msg.namesK q.kind = l := ⟨_, rfl⟩
  obtain ⟨s, hs⟩ : ∃ s, nmS q.kind = s := ⟨_, rfl⟩
  have HNL := Aside0.mk (names_l q.kind)
  have hns := nms_size q.kind
  have HNA := Aside0.mk (nms_at q.kind)
  rw [hnl] at HNL HNA hns HR1
  rw [hs] at HNM HNA hns
  have HNS := Aside0.mk hns
  clear hnl hs hns
  go_wp2_with (go_at_call 48; (with_reducible refine (packthreadref_msgNames.calls q.kind s _ HNM.out).mono ?_); rintro e w8 ⟨rfl, hb8⟩; have HB8 := Aside0.mk (HB7.out.trans (hb8.mono HB7.out.size)); have HO8 := Aside0.mk (Kd.R_below HO7.out hb8); clear hb8)
  clear hy0 hy1 hy2 hy3 hy4 hy5 hy6 hy7 hy8
  obtain ⟨b9, hb9⟩ : ∃ b, w8.heap.size = b := ⟨_, rfl⟩
  obtain ⟨W9, hW9⟩ : ∃ W, w8.iter s 0 = W := ⟨_, rfl⟩
  have hk9 := w8.iter_heap s 0
  rw [hW9, hb9] at hk9
  rw [hb9]
  have HB9 := Aside0.mk (show Below W1.heap.size W1 W9 by rw [← hW9]; exact HB8.out.alloc HB8.out.size _)
  have HO9 := Aside0.mk (show Kd.R (Kd.int .u8) 5 W9 W1.heap.size (fun _ => True) v7 head by rw [← hW9]; exact Kd.R_alloc HO8.out _)
  have HK9 := Aside0.mk hk9
  have HGE := Aside0.mk (show W1.heap.size ≤ b9 by rw [← hb9]; exact HB8.out.size)
  rw [hW9]
  clear hk9 hW9 hb9
  go_loopg [5, 7] nl.length (fun g s5 _ wx => ∃ (i : Nat) (o : List Int), i + g = nl.length ∧ Aside0 (head ++ (nl.take i).flatMap (ltr q) = o ∧ o.length ≤ 8 + 204 * i) ∧ Aside0 (wx.heap[b9]? = some (.stringIter s i)) ∧ Aside0 (Below W1.heap.size W1 wx) ∧ Aside0 (Kd.R (Kd.int .u8) 5 wx W1.heap.size (fun _ => True) s5 o))
  case atStart => exact ⟨0, head, by omega, ⟨by simp, HHL.out⟩, HK9, HB9, HO9⟩
  case round =>
    obtain ⟨i, o, hig, HO, HK, HBi, HRo⟩ := hrel
    cases gk with
    | zero =>
      obtain rfl : i = nl.length := by omega
      have hnx := fun ty => Lib.run_next_end_at (P := Try.prog) wr b9 s nl.length ty HK.out (by rw [HNS.out]; exact Nat.lt_irrefl _)
      have ho := HO.out.1
      rw [List.take_length, HR1.out] at ho
      subst ho
      go_wp2
      go_ret2
      exact ⟨_, rfl, Kd.R_lower HRo.out HB.out.size, HB.out.trans (HBi.out.mono HB.out.size)⟩
    | succ g =>
      have hi : i < nl.length := by omega
      have his : i < s.size := by rw [HNS.out]; exact hi
      obtain ⟨c, hc⟩ : ∃ c, nl[i] = c := ⟨_, rfl⟩
      have hcl : isL c := by rw [← hc]; exact HNL.out.1 _ (List.getElem_mem hi)
      have hx : (s[i]'his).toNat = c := by rw [HNA.out i his hi, hc]
      have hst : head ++ (nl.take (i + 1)).flatMap (ltr q) = o ++ ltr q c := by
        rw [List.take_succ_eq_append_getElem hi, List.flatMap_append, ← List.append_assoc, HO.out.1, hc]; simp
      have hil : i ≤ 3 := by have := HNL.out.2; omega
      have HIG := Aside0.mk (show i + 1 + g = nl.length by omega)
      have HST := Aside0.mk (show head ++ (nl.take (i + 1)).flatMap (ltr q) = o ++ ltr q c ∧ (o ++ ltr q c).length ≤ 8 + 204 * (i + 1) from ⟨hst, by have := HO.out.2; have := ltr_len HF.out c; rw [List.length_append]; omega⟩)
      have HOL := Aside0.mk (show o.length ≤ 1000 by have := HO.out.2; omega)
      have hnx := fun ty => Lib.run_next_ascii_at (P := Try.prog) wr b9 s i ty HK.out his (by rw [hx]; unfold isL at hcl; omega)
      rw [hx] at hnx
      have hk1 := Lib.iterAt_heap wr b9 s i (i + 1) HK.out
      have hb1 := Lib.below_iterAt HBi.out HGE.out s (i + 1)
      have ho1 := R_iter (p' := i + 1) HRo.out HK.out
      generalize wr.iterAt b9 s (i + 1) = W2 at hnx hk1 hb1 ho1
      obtain ⟨A5, c5, hv5⟩ := Kd.R_slice ho1
      subst hv5
      have HK1 := Aside0.mk hk1
      have HB1 := Aside0.mk hb1
      have HO1 := Aside0.mk ho1
      obtain ⟨hy0, hy1, hy2, hy3, hy4, hy5, hy6, hy7, hy8⟩ := Msg.nine_cells (HQF.out _ hb1)
      have hcv := Kd.C_string (P := Try.prog) (src := 27) (dst := 9) (e := 5) (c := q.dc) Try.underlying27 Try.underlying5 Try.underlying9 (HDF.out _ hb1)
      clear hst hc hx hk1 hb1 ho1 HO HK HBi HRo hi his hil
      unfold isL at hcl
      rcases hcl with rfl | rfl | rfl | rfl | rfl | rfl | rfl
      · go_wp2_with (first | (go_at_call 49; (with_reducible refine (packthreadref_textOf.calls 10 q.path _ _ (tof q.path (by have := HF.out.p; omega))).mono ?_); rintro e w3 ⟨v3, rfl, ho3, hb3⟩; have HB3 := Aside0.mk (HB1.out.trans (hb3.mono HB1.out.size)); have HO3 := Aside0.mk (Kd.R_below HO1.out hb3); have HP3 := Aside0.mk (Kd.R_reads ho3); have HK3 := Aside0.mk ((hb3.block _ (Msg.blk_ltn HK1.out)).trans HK1.out); clear ho3 hb3; obtain ⟨A3, c3, hv3, hc3, hC3⟩ := HP3.out; subst hv3; have HC3 := Aside0.mk hC3; clear hC3 hc3 HP3) | ((with_reducible refine gate_builtin (b := .append) (xs := #[.tmp 30, .tmp 33]) rfl ?_); at_builtin; refine Kd.R_append_rows (Kd.int .u8) (w0 := W1) W1.heap.size rfl (.tmp 30) (.tmp 33) 27 5 (.int .u8 0) 1 rfl Try.underlying27 info5r rfl (by decide) (by decide) _ o (txt q.path) _ _ _ (fun _ => True) (fun _ => False) rfl rfl HO3.out HC3.out (fun _ _ h => h) (fun _ hk => hk.elim) (fun _ _ => trivial) HB3.out HB3.out.size (by have h2 := HOL.out; have h3 : (txt q.path).length ≤ 204 := ltr_len HF.out 112; omega) ?_; intro v4 w4 ho hb hg hat; have HO4 := Aside0.mk ho; have HB4 := Aside0.mk hb; have HK4 := Aside0.mk ((hg.block b9 (Msg.blk_ltn HK3.out) (fun e => by obtain ⟨_, hc⟩ := Kd.R_typed HO3.out b9 e.symm; rw [HK3.out] at hc; cases hc)).trans HK3.out); clear ho hb hg hat))
        go_roundg g
        case measure => omega
        case rel => exact ⟨i + 1, _, HIG.out, HST, HK4, HB4, HO4⟩
      · go_wp2_with (first | (go_at_call 49; (with_reducible refine (packthreadref_textOf.calls 10 q.to_ _ _ (tof q.to_ (by have := HF.out.t; omega))).mono ?_); rintro e w3 ⟨v3, rfl, ho3, hb3⟩; have HB3 := Aside0.mk (HB1.out.trans (hb3.mono HB1.out.size)); have HO3 := Aside0.mk (Kd.R_below HO1.out hb3); have HP3 := Aside0.mk (Kd.R_reads ho3); have HK3 := Aside0.mk ((hb3.block _ (Msg.blk_ltn HK1.out)).trans HK1.out); clear ho3 hb3; obtain ⟨A3, c3, hv3, hc3, hC3⟩ := HP3.out; subst hv3; have HC3 := Aside0.mk hC3; clear hC3 hc3 HP3) | ((with_reducible refine gate_builtin (b := .append) (xs := #[.tmp 37, .tmp 40]) rfl ?_); at_builtin; refine Kd.R_append_rows (Kd.int .u8) (w0 := W1) W1.heap.size rfl (.tmp 37) (.tmp 40) 27 5 (.int .u8 0) 1 rfl Try.underlying27 info5r rfl (by decide) (by decide) _ o (txt q.to_) _ _ _ (fun _ => True) (fun _ => False) rfl rfl HO3.out HC3.out (fun _ _ h => h) (fun _ hk => hk.elim) (fun _ _ => trivial) HB3.out HB3.out.size (by have h2 := HOL.out; have h3 : (txt q.to_).length ≤ 204 := ltr_len HF.out 116; omega) ?_; intro v4 w4 ho hb hg hat; have HO4 := Aside0.mk ho; have HB4 := Aside0.mk hb; have HK4 := Aside0.mk ((hg.block b9 (Msg.blk_ltn HK3.out) (fun e => by obtain ⟨_, hc⟩ := Kd.R_typed HO3.out b9 e.symm; rw [HK3.out] at hc; cases hc)).trans HK3.out); clear ho hb hg hat))
        go_roundg g
        case measure => omega
        case rel => exact ⟨i + 1, _, HIG.out, HST, HK4, HB4, HO4⟩
      · go_wp2_with (first | (go_at_call 47; (with_reducible refine (packthreadref_bytesOf.calls 10 q.how 1 _ _ (bof 1 q.how (by omega) (by have := HF.out.h.1; omega) (by have := HF.out.h.2; omega))).mono ?_); rintro e w3 ⟨v3, rfl, ho3, hb3⟩; have HB3 := Aside0.mk (HB1.out.trans (hb3.mono HB1.out.size)); have HO3 := Aside0.mk (Kd.R_below HO1.out hb3); have HP3 := Aside0.mk (Kd.R_reads ho3); have HK3 := Aside0.mk ((hb3.block _ (Msg.blk_ltn HK1.out)).trans HK1.out); clear ho3 hb3; obtain ⟨A3, c3, hv3, hc3, hC3⟩ := HP3.out; subst hv3; have HC3 := Aside0.mk hC3; clear hC3 hc3 HP3) | ((with_reducible refine gate_builtin (b := .append) (xs := #[.tmp 44, .tmp 47]) rfl ?_); at_builtin; refine Kd.R_append_rows (Kd.int .u8) (w0 := W1) W1.heap.size rfl (.tmp 44) (.tmp 47) 27 5 (.int .u8 0) 1 rfl Try.underlying27 info5r rfl (by decide) (by decide) _ o (Msg.bytesF 1 q.how) _ _ _ (fun _ => True) (fun _ => False) rfl rfl HO3.out HC3.out (fun _ _ h => h) (fun _ hk => hk.elim) (fun _ _ => trivial) HB3.out HB3.out.size (by have h2 := HOL.out; have h3 : (Msg.bytesF 1 q.how).length ≤ 204 := ltr_len HF.out 104; omega) ?_; intro v4 w4 ho hb hg hat; have HO4 := Aside0.mk ho; have HB4 := Aside0.mk hb; have HK4 := Aside0.mk ((hg.block b9 (Msg.blk_ltn HK3.out) (fun e => by obtain ⟨_, hc⟩ := Kd.R_typed HO3.out b9 e.symm; rw [HK3.out] at hc; cases hc)).trans HK3.out); clear ho hb hg hat))
        go_roundg g
        case measure => omega
        case rel => exact ⟨i + 1, _, HIG.out, HST, HK4, HB4, HO4⟩
      · go_wp2_with (first | (go_at_call 47; (with_reducible refine (packthreadref_bytesOf.calls 10 q.handle 4 _ _ (bof 4 q.handle (by omega) (by have := HF.out.n.1; omega) (by have := HF.out.n.2; omega))).mono ?_); rintro e w3 ⟨v3, rfl, ho3, hb3⟩; have HB3 := Aside0.mk (HB1.out.trans (hb3.mono HB1.out.size)); have HO3 := Aside0.mk (Kd.R_below HO1.out hb3); have HP3 := Aside0.mk (Kd.R_reads ho3); have HK3 := Aside0.mk ((hb3.block _ (Msg.blk_ltn HK1.out)).trans HK1.out); clear ho3 hb3; obtain ⟨A3, c3, hv3, hc3, hC3⟩ := HP3.out; subst hv3; have HC3 := Aside0.mk hC3; clear hC3 hc3 HP3) | ((with_reducible refine gate_builtin (b := .append) (xs := #[.tmp 51, .tmp 54]) rfl ?_); at_builtin; refine Kd.R_append_rows (Kd.int .u8) (w0 := W1) W1.heap.size rfl (.tmp 51) (.tmp 54) 27 5 (.int .u8 0) 1 rfl Try.underlying27 info5r rfl (by decide) (by decide) _ o (Msg.bytesF 4 q.handle) _ _ _ (fun _ => True) (fun _ => False) rfl rfl HO3.out HC3.out (fun _ _ h => h) (fun _ hk => hk.elim) (fun _ _ => trivial) HB3.out HB3.out.size (by have h2 := HOL.out; have h3 : (Msg.bytesF 4 q.handle).length ≤ 204 := ltr_len HF.out 110; omega) ?_; intro v4 w4 ho hb hg hat; have HO4 := Aside0.mk ho; have HB4 := Aside0.mk hb; have HK4 := Aside0.mk ((hg.block b9 (Msg.blk_ltn HK3.out) (fun e => by obtain ⟨_, hc⟩ := Kd.R_typed HO3.out b9 e.symm; rw [HK3.out] at hc; cases hc)).trans HK3.out); clear ho hb hg hat))
        go_roundg g
        case measure => omega
        case rel => exact ⟨i + 1, _, HIG.out, HST, HK4, HB4, HO4⟩
      · go_wp2_with (first | (go_at_call 47; (with_reducible refine (packthreadref_bytesOf.calls 10 q.at_ 4 _ _ (bof 4 q.at_ (by omega) (by have := HF.out.a.1; omega) (by have := HF.out.a.2; omega))).mono ?_); rintro e w3 ⟨v3, rfl, ho3, hb3⟩; have HB3 := Aside0.mk (HB1.out.trans (hb3.mono HB1.out.size)); have HO3 := Aside0.mk (Kd.R_below HO1.out hb3); have HP3 := Aside0.mk (Kd.R_reads ho3); have HK3 := Aside0.mk ((hb3.block _ (Msg.blk_ltn HK1.out)).trans HK1.out); clear ho3 hb3; obtain ⟨A3, c3, hv3, hc3, hC3⟩ := HP3.out; subst hv3; have HC3 := Aside0.mk hC3; clear hC3 hc3 HP3) | ((with_reducible refine gate_builtin (b := .append) (xs := #[.tmp 58, .tmp 61]) rfl ?_); at_builtin; refine Kd.R_append_rows (Kd.int .u8) (w0 := W1) W1.heap.size rfl (.tmp 58) (.tmp 61) 27 5 (.int .u8 0) 1 rfl Try.underlying27 info5r rfl (by decide) (by decide) _ o (Msg.bytesF 4 q.at_) _ _ _ (fun _ => True) (fun _ => False) rfl rfl HO3.out HC3.out (fun _ _ h => h) (fun _ hk => hk.elim) (fun _ _ => trivial) HB3.out HB3.out.size (by have h2 := HOL.out; have h3 : (Msg.bytesF 4 q.at_).length ≤ 204 := ltr_len HF.out 97; omega) ?_; intro v4 w4 ho hb hg hat; have HO4 := Aside0.mk ho; have HB4 := Aside0.mk hb; have HK4 := Aside0.mk ((hg.block b9 (Msg.blk_ltn HK3.out) (fun e => by obtain ⟨_, hc⟩ := Kd.R_typed HO3.out b9 e.symm; rw [HK3.out] at hc; cases hc)).trans HK3.out); clear ho hb hg hat))
        go_roundg g
        case measure => omega
        case rel => exact ⟨i + 1, _, HIG.out, HST, HK4, HB4, HO4⟩
      · go_wp2_with (first | (go_at_call 47; (with_reducible refine (packthreadref_bytesOf.calls 10 q.count 2 _ _ (bof 2 q.count (by omega) (by have := HF.out.c.1; omega) (by have := HF.out.c.2; omega))).mono ?_); rintro e w3 ⟨v3, rfl, ho3, hb3⟩; have HB3 := Aside0.mk (HB1.out.trans (hb3.mono HB1.out.size)); have HO3 := Aside0.mk (Kd.R_below HO1.out hb3); have HP3 := Aside0.mk (Kd.R_reads ho3); have HK3 := Aside0.mk ((hb3.block _ (Msg.blk_ltn HK1.out)).trans HK1.out); clear ho3 hb3; obtain ⟨A3, c3, hv3, hc3, hC3⟩ := HP3.out; subst hv3; have HC3 := Aside0.mk hC3; clear hC3 hc3 HP3) | ((with_reducible refine gate_builtin (b := .append) (xs := #[.tmp 65, .tmp 68]) rfl ?_); at_builtin; refine Kd.R_append_rows (Kd.int .u8) (w0 := W1) W1.heap.size rfl (.tmp 65) (.tmp 68) 27 5 (.int .u8 0) 1 rfl Try.underlying27 info5r rfl (by decide) (by decide) _ o (Msg.bytesF 2 q.count) _ _ _ (fun _ => True) (fun _ => False) rfl rfl HO3.out HC3.out (fun _ _ h => h) (fun _ hk => hk.elim) (fun _ _ => trivial) HB3.out HB3.out.size (by have h2 := HOL.out; have h3 : (Msg.bytesF 2 q.count).length ≤ 204 := ltr_len HF.out 99; omega) ?_; intro v4 w4 ho hb hg hat; have HO4 := Aside0.mk ho; have HB4 := Aside0.mk hb; have HK4 := Aside0.mk ((hg.block b9 (Msg.blk_ltn HK3.out) (fun e => by obtain ⟨_, hc⟩ := Kd.R_typed HO3.out b9 e.symm; rw [HK3.out] at hc; cases hc)).trans HK3.out); clear ho hb hg hat))
        go_roundg g
        case measure => omega
        case rel => exact ⟨i + 1, _, HIG.out, HST, HK4, HB4, HO4⟩
      · go_wp2_with (first | (go_at_call 49; (with_reducible refine (packthreadref_textOf.calls 10 (strOfNums q.data) _ _ (tof (strOfNums q.data) (by rw [str_size]; have := HF.out.d; omega))).mono ?_); rintro e w3 ⟨v3, rfl, ho3, hb3⟩; have HB3 := Aside0.mk (HB1.out.trans (hb3.mono HB1.out.size)); have HO3 := Aside0.mk (Kd.R_below HO1.out hb3); have HP3 := Aside0.mk (Kd.R_reads ho3); have HK3 := Aside0.mk ((hb3.block _ (Msg.blk_ltn HK1.out)).trans HK1.out); clear ho3 hb3; obtain ⟨A3, c3, hv3, hc3, hC3⟩ := HP3.out; subst hv3; have HC3 := Aside0.mk hC3; clear hC3 hc3 HP3) | ((with_reducible refine gate_builtin (b := .append) (xs := #[.tmp 72, .tmp 76]) rfl ?_); at_builtin; refine Kd.R_append_rows (Kd.int .u8) (w0 := W1) W1.heap.size rfl (.tmp 72) (.tmp 76) 27 5 (.int .u8 0) 1 rfl Try.underlying27 info5r rfl (by decide) (by decide) _ o (txt (strOfNums q.data)) _ _ _ (fun _ => True) (fun _ => False) rfl rfl HO3.out HC3.out (fun _ _ h => h) (fun _ hk => hk.elim) (fun _ _ => trivial) HB3.out HB3.out.size (by have h2 := HOL.out; have h3 : (txt (strOfNums q.data)).length ≤ 204 := ltr_len HF.out 100; omega) ?_; intro v4 w4 ho hb hg hat; have HO4 := Aside0.mk ho; have HB4 := Aside0.mk hb; have HK4 := Aside0.mk ((hg.block b9 (Msg.blk_ltn HK3.out) (fun e => by obtain ⟨_, hc⟩ := Kd.R_typed HO3.out b9 e.symm; rw [HK3.out] at hc; cases hc)).trans HK3.out); clear ho hb hg hat))
        go_roundg g
        case measure => omega
        case rel => exact ⟨i + 1, _, HIG.out, HST, HK4, HB4, HO4⟩
/-- What packthreadref.MsgAsk answers. -/
def packthreadref_MsgAsk.f (a0 a1 : Int) (a2 a3 : ByteArray) (a4 a5 a6 a7 : Int) (l8 : List Int) : Option (List Int × Int) :=
  if l8.length < 140737488351233 then some (refF ⟨a0, a1, a2, a3, a4, a5, a6, a7, none, l8, 0⟩) else none
theorem ref_bare (q : Msg.Rq) : refF q.bare = refF q := rfl
theorem packthreadref_MsgAsk.calls (a0 a1 : Int) (a2 a3 : ByteArray) (a4 a5 a6 a7 : Int) (A8 : Option Addr) (c8 : Nat) (l8 : List Int) (r1 : List Int) (r2 : Int) (w : World) (hr8 : Kd.C (Kd.int .u8) w A8 l8.length l8) (hc8 : l8.length ≤ c8) (h : packthreadref_MsgAsk.f a0 a1 a2 a3 a4 a5 a6 a7 l8 = some (r1, r2)) :
    Calls Try.prog 16 #[.agg #[.int .i64 a0, .int .i64 a1, .string a2, .string a3, .int .i64 a4, .int .i64 a5, .int .i64 a6, .int .i64 a7, .slice A8 l8.length c8]] w fun e w' => ∃ v0_ : Value, e = .returned (.tuple #[v0_, .int .i64 r2]) ∧ Kd.R (Kd.int .u8) 5 w' w.heap.size (fun _ => True) v0_ r1 ∧ Below w.heap.size w w' := by
  unfold packthreadref_MsgAsk.f at h
  by_cases hl : l8.length < 140737488351233
  · rw [if_pos hl] at h
    have h2 := Option.some.inj h
    refine (ref_calls ⟨a0, a1, a2, a3, a4, a5, a6, a7, A8, l8, c8⟩ w (by show l8.length ≤ _; omega) hc8 hr8).mono ?_
    rintro e w' ⟨v, rfl, ho, hb⟩
    have hq : refF ⟨a0, a1, a2, a3, a4, a5, a6, a7, A8, l8, c8⟩ = (r1, r2) := h2
    rw [hq] at ho ⊢
    exact ⟨v, rfl, ho, hb⟩
  · rw [if_neg hl] at h; cases h

end Go.Proofs.Ytkghoodhgihokaa.HMsgAsks
