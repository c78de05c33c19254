/- The contracts of the functions that the law FrameFeeds reaches: Go's code comes to what these Lean functions tell (written by a program of ours and the kit's, out of the translation). -/
import Derived.Test.YtjhmjgcebijmiaaHFrameFeedsx0
namespace Go.Proofs.Ytjhmjgcebijmiaa.HFrameFeeds
open Go.RowKit Go.Proofs.YtjhmjgcebijmiaaW.PrintWords Go.Proofs.YtjhmjgcebijmiaaW.PrintLast Go.Proofs.YtjhmjgcebijmiaaW.PrintMore
attribute [local go_sem] max2_int min2_int max_two min_two max_three min_three max_four min_four   -- for this text's walks alone
set_option linter.unusedVariables false
set_option linter.unusedSimpArgs false

-- NOT PRINTED: function 83 (slices_Grow_byte_byte)

/-! ### slices_Concat_byte_byte: function 51 -/
theorem slices_Concat_byte_byte.slice_to0 (W : World) (A : Option Addr) (n c : Nat) : (Instr.slice 30 (.slice A n c) none (some (.int .i64 0)) none).run Try.prog W = .ok (.slice A 0 c) W := by
  obtain ⟨i, hi, _⟩ := Option.map_eq_some_iff.1 info5
  have hel : Try.prog.elem 30 = 5 := by simp [Program.elem, Try.underlying30]
  have hu : Try.prog.underlying 30 = some (.slice (Try.prog.elem 30)) := by rw [hel]; exact Try.underlying30
  have ha : (A.map fun x => x.add 0) = A := by cases A <;> simp [Addr.add]
  rw [run_slice_h W 30 A n c hu .i64 0 (by omega) (by omega), hel]
  simp [sizeOf, typeInfo, hi, sliced, Result.andThen, ha]
set_option maxHeartbeats 1000000 in
set_option maxRecDepth 100000 in
theorem slices_Concat_byte_byte.grow (n : Int) (h0 : 0 ≤ n) (h1 : n < 140737488355328) (w : World) :
    Calls Try.prog 83 #[.slice none 0 0, .int .i64 n] w fun e w' => ∃ v0_ : Value, e = .returned (v0_) ∧ Kd.R (Kd.int .u8) 5 w' w.heap.size (fun _ => True) v0_ ([] : List Int) ∧ Below w.heap.size w w' := by
  have b1_ : decide (n < 0) = false := decide_eq_false (by omega)
  by_cases hn : n = 0
  · subst hn
    go_enter Try.func83, Try.ntmps83
    go_wp2
    go_ret
    exact ⟨_, rfl, Kd.R_nil _ _ _ _ _, Below.refl _ _⟩
  · have b2_ : decide (0 < n) = true := decide_eq_true (by omega)
    have HL := Aside0.mk h1
    have H0 := Aside0.mk h0
    clear hn
    go_enter Try.func83, Try.ntmps83
    have hst := slices_Concat_byte_byte.slice_to0
    go_wp2_with (first | ((with_reducible refine gate_builtin (b := .append) (xs := #[.tmp 20, .tmp 21]) rfl ?_); at_builtin; refine Kd.R_append_zeros (Kd.int .u8) (w0 := w) w.heap.size rfl (.tmp 20) (.tmp 21) 30 3 5 (.int .u8 0) 1 rfl Try.underlying30 Try.underlying3 info5 rfl (by decide) (by decide) (.slice none 0 0) ([] : List Int) 0 n (fun _ => True) rfl rfl ?aZ (fun _ _ => trivial) ?aO ?aP ?aB ?aS ?aL ?_; (case aZ => rfl); (case aO => exact Kd.R_nil _ _ _ _ _); (case aP => exact H0.out); (case aB => exact Below.refl _ _); (case aS => exact Nat.le_refl _); (case aL => have := HL.out; have := H0.out; simp; omega); intro v1 w1 ho hb hg hat; have m0_ := Aside0.mk hb; have m1_ := Aside0.mk ho; clear ho hb hg hat; obtain ⟨Ao, co, eo⟩ := Kd.R_slice m1_.out; subst eo))
    go_ret
    exact ⟨_, rfl, Kd.R_take m1_.out (Nat.zero_le _), m0_.out⟩
theorem slices_Concat_byte_byte.w64 (a : Int) (h : -9223372036854775808 ≤ a) (h1 : a ≤ 9223372036854775807) : wrap64 a = a := by unfold wrap64; omega
theorem slices_Concat_byte_byte.meas (n i : Nat) (k : Int) (h : i < n) (hk : k = (i : Int) + 1) : n - (intOf (.int .i64 k)).toNat < n - (intOf (.int .i64 (i : Int))).toNat := by subst hk; simp [intOf]; omega
def slices_Concat_byte_byte.total : List (List Int) → Nat
  | [] => 0
  | x :: l => x.length + slices_Concat_byte_byte.total l
theorem slices_Concat_byte_byte.total_snoc (l : List (List Int)) (x : List Int) : slices_Concat_byte_byte.total (l ++ [x]) = slices_Concat_byte_byte.total l + x.length := by
  induction l with
  | nil => simp [slices_Concat_byte_byte.total]
  | cons a l ih => simp [slices_Concat_byte_byte.total, ih]; omega
theorem slices_Concat_byte_byte.total_take (l : List (List Int)) (i : Nat) (h : i < l.length) : slices_Concat_byte_byte.total (l.take (i + 1)) = slices_Concat_byte_byte.total (l.take i) + (l.getD i []).length := by
  rw [List.take_succ_eq_append_getElem h, slices_Concat_byte_byte.total_snoc, List.getD_eq_getElem?_getD, List.getElem?_eq_getElem h]
  rfl
theorem slices_Concat_byte_byte.total_le (l : List (List Int)) (i : Nat) : slices_Concat_byte_byte.total (l.take i) ≤ slices_Concat_byte_byte.total l := by
  induction l generalizing i with
  | nil => simp [slices_Concat_byte_byte.total]
  | cons a l ih =>
    cases i with
    | zero => simp [slices_Concat_byte_byte.total]
    | succ i => have := ih i; simp only [List.take_succ_cons, slices_Concat_byte_byte.total]; omega
theorem slices_Concat_byte_byte.flat_take (l : List (List Int)) (i : Nat) (h : i < l.length) : (l.take (i + 1)).flatten = (l.take i).flatten ++ l.getD i [] := by
  rw [List.take_succ_eq_append_getElem h, List.flatten_append, List.getD_eq_getElem?_getD, List.getElem?_eq_getElem h]
  simp
theorem slices_Concat_byte_byte.flat_length (l : List (List Int)) : l.flatten.length = slices_Concat_byte_byte.total l := by
  induction l with
  | nil => rfl
  | cons a l ih => simp [slices_Concat_byte_byte.total, ih]
def slices_Concat_byte_byte.f (l0 : List (List Int)) : Option (List Int) := if slices_Concat_byte_byte.total l0 < 140737488355328 then some l0.flatten else none
theorem slices_Concat_byte_byte.elem {w : World} {A : Option Addr} {l : List (List Int)} (h : Kd.C (Kd.slice 5 (Kd.int .u8)) w A l.length l) (i : Nat) (hi : i < l.length) :
    ∃ ad B c, A = some ad ∧ w.cell? (ad.add i) = some (.slice B (l.getD i []).length c) ∧ (l.getD i []).length ≤ c ∧ Kd.C (Kd.int .u8) w B (l.getD i []).length (l.getD i []) := by
  obtain ⟨ad, c, rfl, hl, ⟨B, c', rfl, hle, hC⟩, hc⟩ := Kd.C_get h [] (i : Int) (by omega) (by omega)
  refine ⟨ad, B, c', rfl, ?_, hle, hC⟩
  have := hc 0 _ rfl
  simpa [Kd.slice] using this
set_option maxHeartbeats 1000000 in
set_option maxRecDepth 100000 in
theorem slices_Concat_byte_byte.calls (A0 : Option Addr) (c0 : Nat) (l0 : List (List Int)) (r : List Int) (w : World) (hr0 : Kd.C (Kd.slice 5 (Kd.int .u8)) w A0 l0.length l0) (hc0 : l0.length ≤ c0) (h : slices_Concat_byte_byte.f l0 = some r) :
    Calls Try.prog 51 #[.slice A0 l0.length c0] w fun e w' => ∃ v0_ : Value, e = .returned (v0_) ∧ Kd.R (Kd.int .u8) 5 w' w.heap.size (fun _ => True) v0_ r ∧ Below w.heap.size w w' := by
  have hl : slices_Concat_byte_byte.total l0 < 140737488355328 ∧ l0.flatten = r := by
    unfold slices_Concat_byte_byte.f at h
    split at h
    · exact ⟨by assumption, Option.some.inj h⟩
    · cases h
  clear h
  obtain ⟨hl, rfl⟩ := hl
  have HL := Aside0.mk hl
  have HR0 := Aside0.mk hr0
  have HB0 := Aside0.mk (Below.refl w.heap.size w)
  have HN := Aside0.mk hr0.2.1
  clear hr0 hc0 hl
  have hn0 : Aside0 ((l0.length : Int) ≤ 9223372036854775807) := ⟨by have := HN.out; omega⟩
  go_enter Try.func51, Try.ntmps51
  go_wp2
  go_loopw [3, 11] (fun v3 v11 wr => ∃ i : Nat, v11 = .int .i64 (i : Int) ∧ Aside0 (i ≤ l0.length) ∧ v3 = .int .i64 (slices_Concat_byte_byte.total (l0.take i) : Int) ∧ Aside0 (∃ n, wr = w.drewN n))
    (fun _ v11 _ => l0.length - (intOf v11).toNat)
  case atStart => exact ⟨0, rfl, ⟨Nat.zero_le _⟩, by simp [slices_Concat_byte_byte.total], ⟨0, rfl⟩⟩
  case round =>
    obtain ⟨i, rfl, HI, rfl, ⟨q, rfl⟩⟩ := hrel
    by_cases hi : i < l0.length
    · have b1_ : decide ((i : Int) < (l0.length : Int)) = true := decide_eq_true (by omega)
      have b2_ : decide (i < l0.length) = true := decide_eq_true hi
      obtain ⟨ad, B, c, rfl, hc, _, _⟩ := slices_Concat_byte_byte.elem HR0.out i hi
      have hb := HL.out
      have h1 := slices_Concat_byte_byte.total_take l0 i hi
      have h2 := slices_Concat_byte_byte.total_le l0 (i + 1)
      generalize l0.getD i [] = x at *
      have h3 : (slices_Concat_byte_byte.total (l0.take i) : Int) + (x.length : Int) < 140737488355328 := by omega
      have h4 : 0 ≤ (slices_Concat_byte_byte.total (l0.take i) : Int) + (x.length : Int) := by omega
      have hw : wrap64 ((slices_Concat_byte_byte.total (l0.take i) : Int) + (x.length : Int)) = (slices_Concat_byte_byte.total (l0.take i) : Int) + (x.length : Int) := slices_Concat_byte_byte.w64 _ (by omega) (by omega)
      have b3_ : decide (wrap64 ((slices_Concat_byte_byte.total (l0.take i) : Int) + (x.length : Int)) < 0) = false := decide_eq_false (by rw [hw]; clear hw; omega)
      have hw2 : wrap64 ((i : Int) + 1) = (i : Int) + 1 := slices_Concat_byte_byte.w64 _ (by omega) (by have := hn0.out; omega)
      have HE := Aside0.mk (show wrap64 ((slices_Concat_byte_byte.total (l0.take i) : Int) + (x.length : Int)) = (slices_Concat_byte_byte.total (l0.take (i + 1)) : Int) by rw [hw, h1, Int.natCast_add])
      have HW2 := Aside0.mk hw2
      have HI2 := Aside0.mk hi
      clear h1 h2 hb h3 h4 hw hw2
      go_wp2
      go_roundw
      case measure => exact slices_Concat_byte_byte.meas _ _ _ HI2.out HW2.out
      case rel => exact ⟨i + 1, by rw [HW2.out]; simp, ⟨by have := HI2.out; omega⟩, by rw [HE.out], ⟨q, rfl⟩⟩
    · have b1_ : decide (i < l0.length) = false := decide_eq_false (by omega)
      have hin : i = l0.length := by have := HI.out; omega
      have HT := Aside0.mk (show slices_Concat_byte_byte.total (l0.take i) < 140737488355328 by rw [hin, List.take_length]; exact HL.out)
      clear hi hin
      go_wp2_with (first | ((with_reducible refine gate_callee (f := 83) rfl ?_); refine goesL_ (some 24) rfl rfl Try.func83 (by kernel_rfl) rfl #[.slice none 0 0, .int .i64 (slices_Concat_byte_byte.total (l0.take i) : Int)] rfl (by (try simp only [List.map_toArray, List.map_cons, List.map_nil]); first | done | rfl) ?_; refine (slices_Concat_byte_byte.grow (slices_Concat_byte_byte.total (l0.take i) : Int) (by omega) (by have := HT.out; omega) _).mono ?_; rintro e w' ⟨v0_, rfl, hR, hb⟩; refine ⟨_, rfl, ?_⟩; have m0_ := Aside0.mk hR; have m1_ := Aside0.mk hb; clear hR hb))
      go_loopw [6, 27] (fun v6 v27 wr => ∃ (i : Nat) (o : List Int), v27 = .int .i64 (i : Int) ∧ Aside0 (i ≤ l0.length) ∧ Aside0 (o = (l0.take i).flatten) ∧ Aside0 (Kd.R (Kd.int .u8) 5 wr w.heap.size (fun _ => True) v6 o) ∧ Aside0 (Below w.heap.size w wr))
        (fun _ v27 _ => l0.length - (intOf v27).toNat)
      case atStart => exact ⟨0, [], rfl, ⟨Nat.zero_le _⟩, ⟨rfl⟩, m0_, ⟨Below.trans (show Below w.heap.size w (w.drewN q) from Below.trans (Below.refl _ _) ⟨rfl, rfl, rfl, Nat.le_refl _, fun _ _ => rfl⟩) (show Below w.heap.size (w.drewN q) _ from m1_.out)⟩⟩
      case round =>
        obtain ⟨j, o, rfl, HJ, HO, HR, HB⟩ := hrel
        clear m0_ m1_ b1_ HT
        obtain ⟨Ao, co, eo⟩ := Kd.R_slice HR.out
        subst eo
        by_cases hj : j < l0.length
        · have b1_ : decide (j < l0.length) = true := decide_eq_true (by omega)
          obtain ⟨ad, B, c, rfl, hc, hle, hC⟩ := slices_Concat_byte_byte.elem (Kd.C_below HR0.out HB.out) j hj
          have HC := Aside0.mk hC
          have h1 := slices_Concat_byte_byte.total_take l0 j hj
          have h2 := slices_Concat_byte_byte.total_le l0 (j + 1)
          have h3 := slices_Concat_byte_byte.flat_take l0 j hj
          have h4 := slices_Concat_byte_byte.flat_length (l0.take j)
          generalize l0.getD j [] = x at *
          have HX := Aside0.mk (h3.trans (by rw [← HO.out]) : _ = o ++ x)
          have hw2 : wrap64 ((j : Int) + 1) = (j : Int) + 1 := slices_Concat_byte_byte.w64 _ (by omega) (by have := hn0.out; omega)
          have HS := Aside0.mk (show o.length + x.length < 140737488355328 by have := HL.out; rw [HO.out]; omega)
          have HW2 := Aside0.mk hw2
          have HI2 := Aside0.mk hj
          clear h1 h2 h3 h4 hw2 hC hle
          go_wp2_with (first | ((with_reducible refine gate_builtin (b := .append) (xs := #[.tmp 31, .tmp 32]) rfl ?_); at_builtin; refine Kd.R_append_rows (Kd.int .u8) (w0 := w) w.heap.size rfl (.tmp 31) (.tmp 32) 30 5 (.int .u8 0) 1 rfl Try.underlying30 info5 rfl (by decide) (by omega) (.slice Ao o.length co) o x _ _ _ (fun _ => True) (fun _ => False) rfl rfl ?aO ?aR (fun _ _ h => h) (fun _ h => h.elim) ?aF ?aB ?aS ?aL ?_; (case aR => exact HC.out); (case aB => exact HB.out); (case aF => exact (fun _ _ => trivial)); (case aO => exact HR.out); (case aS => exact HB.out.size); (case aL => have := HS.out; simp; omega); intro v114 w6 ho hb hg hat; have m0_ := Aside0.mk hb; have m1_ := Aside0.mk ho; clear ho hb hg hat))
          go_roundw
          case measure => exact slices_Concat_byte_byte.meas _ _ _ HI2.out HW2.out
          case rel => exact ⟨j + 1, o ++ x, by rw [HW2.out]; simp, ⟨by have := HI2.out; omega⟩, ⟨HX.out.symm⟩, m1_, m0_⟩
        · have b1_ : decide (j < l0.length) = false := decide_eq_false (by omega)
          have hin : j = l0.length := by have := HJ.out; omega
          have HF := Aside0.mk (show o = l0.flatten by rw [HO.out, hin, List.take_length])
          clear hj hin
          go_wp2
          go_ret
          exact ⟨_, rfl, HF.out ▸ HR.out, HB.out⟩

/-! ### frame_Get: function 52 -/
def frame_Get.l0 : Nat → Int → List Int → Int → Int → Option (Int)
  | 0, _, _, _, _ => none
  | k + 1, x3, x6, x7, x8 => if x8 < x7 then (if 0 ≤ x8 then (if x8 < (x6.length : Int) then (frame_Get.l0 k (Go.bits .or .i64 (wrap64 (x3 * 256)) (wrap64 (rd x6 x8))) x6 x7 (wrap64 (x8 + 1))) else (none)) else (none)) else (some x3)
def frame_Get.f (k : Nat) (l0 : List Int) : Option (Int) := frame_Get.l0 k 0 l0 (l0.length : Int) 0
theorem frame_Get.mono_l : ∀ k, (∀ y0 y1 y2 y3, LeO (frame_Get.l0 k y0 y1 y2 y3) (frame_Get.l0 (k + 1) y0 y1 y2 y3))
  | 0 => fun _ _ _ _ r h => by simp [frame_Get.l0] at h
  | k + 1 => by
    have ih0 := frame_Get.mono_l k
    · intro y0 y1 y2 y3
      unfold frame_Get.l0
      repeat' first
      | (with_reducible exact ih0 _ _ _ _)
      | (with_reducible exact LeO.refl _)
      | (with_reducible exact LeO.none _)
      | (with_reducible refine LeO.ite ?_ ?_)
      | (with_reducible refine LeO.bind ?_ (fun _ => ?_))
      | exact ih0 _ _ _ _
      | exact LeO.none _
      | refine LeO.ite ?_ ?_
      | refine LeO.bind ?_ (fun _ => ?_)
theorem frame_Get.mono : ∀ a0 k, LeO (frame_Get.f k a0) (frame_Get.f (k + 1) a0) := by
  intro a0 k
  have ih0 := frame_Get.mono_l k
  unfold frame_Get.f
  repeat' first
      | (with_reducible exact ih0 _ _ _ _)
      | (with_reducible exact LeO.refl _)
      | (with_reducible exact LeO.none _)
      | (with_reducible refine LeO.ite ?_ ?_)
      | (with_reducible refine LeO.bind ?_ (fun _ => ?_))
      | exact ih0 _ _ _ _
      | exact LeO.none _
      | refine LeO.ite ?_ ?_
      | refine LeO.bind ?_ (fun _ => ?_)
set_option maxHeartbeats 8000000 in
set_option maxRecDepth 100000 in
theorem frame_Get.calls (k : Nat) (A0 : Option Addr) (c0 : Nat) (l0 : List Int) (r : Int) (w : World) (hr0 : Kd.C (Kd.int .u8) w A0 l0.length l0) (hc0 : l0.length ≤ c0) (h : frame_Get.f k l0 = some r) :
    Calls Try.prog 52 #[.slice A0 l0.length c0] w fun e w' => e = .returned (.int .i64 r) ∧ Drawn0 w w' := by
  have HR0 := Aside0.mk hr0
  have HC0 := Aside0.mk hc0
  clear hr0 hc0
  have H : (frame_Get.l0 k 0 l0 (l0.length : Int) 0) = some r := h
  clear h
  have H' := Aside0.mk H
  clear H
  go_enter Try.func52, Try.ntmps52
  go_wp2
  go_loopg [3, 8] k (fun kq v3 v8 w' => ∃ (x3_1 : Int) (x8_1 : Int), v3 = .int .i64 x3_1 ∧ v8 = .int .i64 x8_1 ∧ Aside0 (frame_Get.l0 kq x3_1 l0 (l0.length : Int) x8_1 = some r) ∧ Aside0 (kq ≤ k) ∧ Drawn0 w w')
  case atStart => exact ⟨(0), (0), (by first | rfl | (simp; done) | (simp [*]; done)), (by first | rfl | (simp; done) | (simp [*]; done)), H', ⟨Nat.le_refl _⟩, by repeat (first | exact Drawn0.refl _ | apply Drawn0.step)⟩
  case round =>
    clear H'
    obtain ⟨x3_1, x8_1, rfl, rfl, HA, HK1, ⟨m1, rfl⟩⟩ := hrel
    cases gk with
    | zero => exact absurd HA.out (by simp [frame_Get.l0])
    | succ k1 =>
      have H := HA.out
      clear HA
      simp only [frame_Get.l0] at H
      by_cases c2 : x8_1 < (l0.length : Int)
      · rw [if_pos c2] at H
        have c2b0 : decide (x8_1 < (l0.length : Int)) = true := decide_eq_true c2
        clear c2
        by_cases c3 : 0 ≤ x8_1
        · rw [if_pos c3] at H
          have c3b0 : decide (0 ≤ x8_1) = true := decide_eq_true c3
          clear c3
          by_cases c4 : x8_1 < (l0.length : Int)
          · rw [if_pos c4] at H
            have c4b0 : decide (x8_1 < (l0.length : Int)) = true := decide_eq_true c4
            clear c4
            have H' := Aside0.mk H
            clear H
            have p101 : 0 ≤ (x8_1 : Int) := of_decide_eq_true (by first | (with_reducible assumption) | assumption)
            have q101 : x8_1 < (l0.length : Int) := of_decide_eq_true (by first | (with_reducible assumption) | assumption)
            obtain ⟨ad101, e101, hx101_0⟩ := Kd.at_int HR0.out x8_1 p101 q101
            cases e101
            replace p101 := eq_true p101
            replace q101 := eq_true q101
            go_wp2
            go_roundg k1
            case measure => have := HK1.out; omega
            case rel => exact ⟨(Go.bits .or .i64 (wrap64 (x3_1 * 256)) (wrap64 (rd l0 x8_1))), (wrap64 (x8_1 + 1)), (by first | rfl | (simp; done) | (simp [*]; done)), (by first | rfl | (simp; done) | (simp [*]; done)), H', ⟨by have := HK1.out; omega⟩, by repeat (first | exact Drawn0.refl _ | apply Drawn0.step)⟩
          · rw [if_neg c4] at H
            exact absurd H (by simp)
        · rw [if_neg c3] at H
          exact absurd H (by simp)
      · rw [if_neg c2] at H
        have c2b0 : decide (x8_1 < (l0.length : Int)) = false := decide_eq_false c2
        clear c2
        obtain rfl := Option.some.inj H
        go_wp2
        go_ret
        exact ⟨by first | rfl | (simp; done) | (simp [*]; done), by repeat (first | exact Drawn0.refl _ | apply Drawn0.step)⟩

/-! ### slices_Clone_byte_byte: function 53 -/
def slices_Clone_byte_byte.f (l0 : List Int) : Option (List Int) := if l0.length < 140737488355328 then some l0 else none
set_option maxHeartbeats 1000000 in
set_option maxRecDepth 100000 in
theorem slices_Clone_byte_byte.calls (A0 : Option Addr) (c0 : Nat) (l0 : List Int) (r : List Int) (w : World) (hr0 : Kd.C (Kd.int .u8) w A0 l0.length l0) (hc0 : l0.length ≤ c0) (h : slices_Clone_byte_byte.f l0 = some r) :
    Calls Try.prog 53 #[.slice A0 l0.length c0] w fun e w' => ∃ v0_ : Value, e = .returned (v0_) ∧ Kd.R (Kd.int .u8) 5 w' w.heap.size (fun _ => True) v0_ r ∧ Below w.heap.size w w' := by
  have HR0 := Aside0.mk hr0
  have hl : l0.length < 140737488355328 ∧ l0 = r := by
    unfold slices_Clone_byte_byte.f at h
    split at h
    · exact ⟨by assumption, Option.some.inj h⟩
    · cases h
  clear h
  obtain ⟨hl, rfl⟩ := hl
  have HL := Aside0.mk hl
  have HB := Aside0.mk (Below.refl w.heap.size w)
  cases A0 with
  | none =>
    have hn : l0 = [] := by
      have := hr0.2.2
      cases l0 with
      | nil => rfl
      | cons a l => obtain ⟨ad, h, _⟩ := this (by simp); cases h
    subst hn
    clear hr0 hc0 hl
    go_enter Try.func53, Try.ntmps53
    have he := Lib.run_eql_slice_nil (P := Try.prog)
    go_wp2
    go_ret
    exact ⟨_, rfl, Kd.R_nil _ _ _ _ _, HB.out⟩
  | some ad =>
    clear hr0 hc0 hl
    go_enter Try.func53, Try.ntmps53
    have he := Lib.run_eql_slice_nil (P := Try.prog)
    go_wp2_with (first | ((with_reducible refine gate_dst (N := 5) rfl ?_); refine Kd.R_lit (Kd.int .u8) _ 5 ?hg (N := 5) ?hd (xs := ([] : List Int)) (inner := []) (ok := fun _ => True) (okp := fun _ => True) ?hr ?hp (fun _ hk => hk) trivial (Below.refl _ _) (Nat.le_refl _) (by simp) ?_; (case hd => rfl); (case hg => rfl); (case hr => first | (go_simp; done) | (go_simp; rfl)); (case hp => exact (Reps.none _ _)); intro v111 w4 ho5 hb hg_ hnew_; clear hg_ hnew_; have n0_ := Aside0.mk ho5; have n1_ := Aside0.mk hb; clear hb ho5) | ((with_reducible refine gate_builtin (b := .append) (xs := #[.tmp 5, .tmp 6]) rfl ?_); at_builtin; refine Kd.R_append_rows (Kd.int .u8) (w0 := w) w.heap.size rfl (.tmp 5) (.tmp 6) 30 5 (.int .u8 0) 1 rfl Try.underlying30 info5 rfl (by decide) (by omega) v111 [] l0 _ _ _ (fun _ => True) (fun _ => False) rfl rfl ?aO ?aR (fun _ _ h => h) (fun _ h => h.elim) ?aF ?aB ?aS ?aL ?_; (case aR => exact (Kd.C_below HR0.out n1_.out)); (case aB => exact n1_.out); (case aF => exact (fun _ _ => trivial)); (case aO => exact n0_.out); (case aS => exact n1_.out.size); (case aL => have := HL.out; simp; omega); intro v114 w6 ho hb hg hat; have m0_ := Aside0.mk hb; have m1_ := Aside0.mk ho; clear ho hb hg hat))
    go_ret
    exact ⟨_, rfl, m1_.out, m0_.out⟩

/-! ### frame_Feed: function 22 -/
def frame_Feed.l0 : Nat → List Int → List (List Int) → Option ((List (List Int)) × List Int × Int)
  | 0, _, _ => none
  | k + 1, x7, x8 => if (x7.length : Int) ≥ 4 then (if 4 ≤ (x7.length : Int) then ((frame_Get.f k (x7.take 4)).bind fun t115 => (if t115 > 1024 then (some (([] : List (List Int)), ([] : List Int), 1)) else (if (x7.length : Int) < (wrap64 (4 + t115)) then ((slices_Clone_byte_byte.f x7).bind fun t116 => (some (x8, t116, 0))) else (if 4 ≤ (wrap64 (4 + t115)) then (if (wrap64 (4 + t115)) ≤ (x7.length : Int) then ((slices_Clone_byte_byte.f ((x7.take ((wrap64 (4 + t115)) : Int).toNat).drop 4)).bind fun t123 => (if x8.length < 5864062014805 then (if 0 ≤ (wrap64 (4 + t115)) then (frame_Feed.l0 k (x7.drop ((wrap64 (4 + t115)) : Int).toNat) (x8 ++ [t123])) else (none)) else (none))) else (none)) else (none))))) else (none)) else ((slices_Clone_byte_byte.f x7).bind fun t108 => (some (x8, t108, 0)))
def frame_Feed.f (k : Nat) (l0 : List Int) (l1 : List Int) : Option ((List (List Int)) × List Int × Int) := if (l0.length : Int) ≥ 1028 then (some (([] : List (List Int)), ([] : List Int), 10)) else ((slices_Concat_byte_byte.f (([l0, l1] : List (List Int)))).bind fun t105 => (frame_Feed.l0 k t105 ([] : List (List Int))))
theorem frame_Feed.mono_l : ∀ k, (∀ y0 y1, LeO (frame_Feed.l0 k y0 y1) (frame_Feed.l0 (k + 1) y0 y1))
  | 0 => fun _ _ r h => by simp [frame_Feed.l0] at h
  | k + 1 => by
    have ih0 := frame_Feed.mono_l k
    · intro y0 y1
      unfold frame_Feed.l0
      repeat' first
      | (with_reducible exact ih0 _ _)
      | (with_reducible exact frame_Get.mono _ _)
      | (with_reducible exact LeO.refl _)
      | (with_reducible exact LeO.none _)
      | (with_reducible refine LeO.ite ?_ ?_)
      | (with_reducible refine LeO.bind ?_ (fun _ => ?_))
      | exact ih0 _ _
      | exact frame_Get.mono _ _
      | exact LeO.none _
      | refine LeO.ite ?_ ?_
      | refine LeO.bind ?_ (fun _ => ?_)
theorem frame_Feed.mono : ∀ a0 a1 k, LeO (frame_Feed.f k a0 a1) (frame_Feed.f (k + 1) a0 a1) := by
  intro a0 a1 k
  have ih0 := frame_Feed.mono_l k
  unfold frame_Feed.f
  repeat' first
      | (with_reducible exact ih0 _ _)
      | (with_reducible exact frame_Get.mono _ _)
      | (with_reducible exact LeO.refl _)
      | (with_reducible exact LeO.none _)
      | (with_reducible refine LeO.ite ?_ ?_)
      | (with_reducible refine LeO.bind ?_ (fun _ => ?_))
      | exact ih0 _ _
      | exact frame_Get.mono _ _
      | exact LeO.none _
      | refine LeO.ite ?_ ?_
      | refine LeO.bind ?_ (fun _ => ?_)
set_option maxHeartbeats 8000000 in
set_option maxRecDepth 100000 in
theorem frame_Feed.calls (k : Nat) (P0_ : Nat → Prop) (A0 : Option Addr) (c0 : Nat) (l0 : List Int) (P1_ : Nat → Prop) (A1 : Option Addr) (c1 : Nat) (l1 : List Int) (r1 : List (List Int)) (r2 : List Int) (r3 : Int) (w : World) (hs0 : Kd.V (Kd.int .u8) 5 w w.heap.size (fun k_ => P0_ k_) (.slice A0 l0.length c0) l0) (hs1 : Kd.V (Kd.int .u8) 5 w w.heap.size (fun k_ => P1_ k_) (.slice A1 l1.length c1) l1) (h : frame_Feed.f k l0 l1 = some (r1, r2, r3)) :
    Calls Try.prog 22 #[.slice A0 l0.length c0, .slice A1 l1.length c1] w fun e w' => ∃ v0_ v1_ : Value, e = .returned (.tuple #[v0_, v1_, .int .i64 r3]) ∧ Kd.N (Kd.slice 5 (Kd.int .u8)) 30 w' w.heap.size (fun k_ => ((P0_ k_ ∨ P1_ k_) ∨ w.heap.size ≤ k_) ∧ some k_ ≠ (v1_ : Value).ownBlock) v0_ r1 ∧ Kd.R (Kd.int .u8) 5 w' w.heap.size (fun k_ => (w.heap.size ≤ k_)) v1_ r2 ∧ Below w.heap.size w w' := by
  have HO0 := Aside0.mk (show Kd.V (Kd.int .u8) 5 w w.heap.size (fun k_ => ((P0_ k_ ∨ P1_ k_) ∨ w.heap.size ≤ k_)) (.slice A0 l0.length c0) l0 from Kd.V_mono hs0 (fun k_ hk => .inl (.inl hk)))
  have HO1 := Aside0.mk (show Kd.V (Kd.int .u8) 5 w w.heap.size (fun k_ => ((P0_ k_ ∨ P1_ k_) ∨ w.heap.size ≤ k_)) (.slice A1 l1.length c1) l1 from Kd.V_mono hs1 (fun k_ hk => .inl (.inr hk)))
  have HB := Aside0.mk (Below.refl w.heap.size w)
  have H : (if (l0.length : Int) ≥ 1028 then (some (([] : List (List Int)), ([] : List Int), 10)) else ((slices_Concat_byte_byte.f (([l0, l1] : List (List Int)))).bind fun t105 => (frame_Feed.l0 k t105 ([] : List (List Int))))) = some (r1, r2, r3) := h
  clear h
  by_cases c3 : (l0.length : Int) ≥ 1028
  · rw [if_pos c3] at H
    have c3b0 : decide (1028 ≤ (l0.length : Int)) = true := decide_eq_true c3
    have c3b1 : decide (1028 ≤ l0.length) = true := decide_eq_true (by omega)
    clear c3
    simp only [Option.some.injEq, Prod.mk.injEq] at H
    obtain ⟨rfl, rfl, rfl⟩ := H
    go_enter Try.func22, Try.ntmps22
    go_wp2
    go_ret3
    exact ⟨_, _, by first | rfl | (simp [errW_none, errW_some] <;> rfl) | (simp [*, errW_none, errW_some] <;> rfl), by first | exact Kd.S_nil _ _ _ _ _ | exact Kd.N_nil _ _ _ _ _ | exact Kd.V_nil _ _ _ _ _ | exact Kd.Q_nil _ _ _ _ _ | exact Kd.R_nil _ _ _ _ _, by first | exact Kd.R_nil _ _ _ _ _ | exact Kd.N_nil _ _ _ _ _ | exact Kd.V_nil _ _ _ _ _ | exact Kd.Q_nil _ _ _ _ _ | exact Kd.S_nil _ _ _ _ _, by repeat (first | (with_reducible first | exact HB.out | apply below_alloc | apply pw_below_drewN | apply below_drew1) | exact HB.out)⟩
  · rw [if_neg c3] at H
    have c3b0 : decide (1028 ≤ (l0.length : Int)) = false := decide_eq_false c3
    have c3b1 : decide (1028 ≤ l0.length) = false := decide_eq_false (by omega)
    clear c3
    obtain ⟨y102, hy102⟩ : ∃ y_ : List (List Int), y_ = (([l0, l1] : List (List Int))) := ⟨_, rfl⟩
    replace H : ((slices_Concat_byte_byte.f y102).bind fun t105 => (frame_Feed.l0 k t105 ([] : List (List Int)))) = some (r1, r2, r3) := by first | (rw [hy102]; with_reducible exact H) | (have H2_ := (Option.bind_some _ _).symm.trans H; rw [hy102]; with_reducible exact H2_) | (have H2_ := (Option.bind_some _ _).symm.trans H; with_reducible exact H2_) | with_reducible exact H | (rw [hy102]; exact H) | exact H
    have Ny102 := Aside0.mk hy102
    clear hy102
    replace H := Option.bind_eq_some_iff.mp H
    obtain ⟨t105, A40, H⟩ := H
    replace H : (frame_Feed.l0 k t105 ([] : List (List Int))) = some (r1, r2, r3) := H
    have A4 := Aside0.mk A40
    clear A40
    have H' := Aside0.mk H
    clear H
    go_enter Try.func22, Try.ntmps22
    go_wp2_with (first | ((with_reducible refine gate_dst (N := 16) rfl ?_); refine Kd.N_lit (Kd.slice 5 (Kd.int .u8)) _ 30 ?hg (N' := 16) ?hd (xs := ([l0, l1] : List (List Int))) (inner := [.slice A0 l0.length c0, .slice A1 l1.length c1]) (ok := (fun k_ => ((P0_ k_ ∨ P1_ k_) ∨ w.heap.size ≤ k_))) (okp := (fun k_ => ((P0_ k_ ∨ P1_ k_) ∨ w.heap.size ≤ k_))) ?hr ?hp (fun _ hk => hk) ((show ∀ k_, w.heap.size ≤ k_ → (fun k_ => ((P0_ k_ ∨ P1_ k_) ∨ w.heap.size ≤ k_)) k_ from fun k_ hk => (.inr (Nat.le_trans (below_size (by repeat (first | (with_reducible first | exact HB.out | apply below_alloc | apply pw_below_drewN | apply below_drew1) | exact HB.out))) hk))) _ (Nat.le_refl _)) (Below.refl _ _) (Nat.le_refl _) (by simp) ?_; (case hd => rfl); (case hg => rfl); (case hr => first | (go_simp; done) | (go_simp; rfl)); (case hp => exact (Reps.one (show Kd.FK (Kd.slice 5 (Kd.int .u8)) _ _ l0 [.slice A0 l0.length c0] from (Kd.FK_slice_mk (Kd.V_reads' (Kd.V_mono (ok' := (fun k_ => ((P0_ k_ ∨ P1_ k_) ∨ w.heap.size ≤ k_))) (HO0.out) (fun k_ hk => hk))).2.1 (Kd.V_F (Kd.V_mono (ok' := (fun k_ => ((P0_ k_ ∨ P1_ k_) ∨ w.heap.size ≤ k_))) (HO0.out) (fun k_ hk => hk))))) (Reps.one (show Kd.FK (Kd.slice 5 (Kd.int .u8)) _ _ l1 [.slice A1 l1.length c1] from (Kd.FK_slice_mk (Kd.V_reads' (Kd.V_mono (ok' := (fun k_ => ((P0_ k_ ∨ P1_ k_) ∨ w.heap.size ≤ k_))) (HO1.out) (fun k_ hk => hk))).2.1 (Kd.V_F (Kd.V_mono (ok' := (fun k_ => ((P0_ k_ ∨ P1_ k_) ∨ w.heap.size ≤ k_))) (HO1.out) (fun k_ hk => hk))))) (Reps.none _ _)))); intro v103 w5 ho6 hb hg_ hnew_; clear hg_ hnew_; (first | rw [← Ny102.out] at ho6 | (simp only [Int.reduceToNat] at ho6; rw [← Ny102.out] at ho6)); have n0_ := Aside0.mk (Kd.V_elder' (by (with_reducible repeat (first | apply Kd.V_alloc | apply Kd.V_drewN | apply Kd.V_drew)); exact HO0.out) (Kd.N_base ho6) hb); have n1_ := Aside0.mk (Kd.V_elder' (by (with_reducible repeat (first | apply Kd.V_alloc | apply Kd.V_drewN | apply Kd.V_drew)); exact HO1.out) (Kd.N_base ho6) hb); have n2_ := Aside0.mk (Kd.N_lower ho6 (below_size (by repeat (first | (with_reducible first | exact HB.out | apply below_alloc | apply pw_below_drewN | apply below_drew1) | exact HB.out)))); have n3_ := Aside0.mk (below_step (by repeat (first | (with_reducible first | exact HB.out | apply below_alloc | apply pw_below_drewN | apply below_drew1) | exact HB.out)) hb); clear HO0; clear HO1; clear HB; have HO0 := n0_; have HO1 := n1_; have HO104 := n2_; have HB := n3_; clear n0_ n1_ n2_ n3_; clear hb ho6; obtain ⟨Ao7, co7, eo7⟩ := Kd.N_slice HO104.out; subst eo7) | ((with_reducible refine gate_callee (f := 51) rfl ?_); refine goesL_ (some 17) rfl rfl Try.func51 (by kernel_rfl) rfl #[.slice Ao7 y102.length co7] rfl (by (try simp only [List.map_toArray, List.map_cons, List.map_nil]); first | done | rfl | (simp only [List.length_drop, List.length_take]; rfl)) ?_; (with_reducible refine (slices_Concat_byte_byte.calls _ _ y102 t105 _ ?side1 ?side2 A4.out).mono ?_); (case side1 => repeat (first | exact (Kd.N_reads' HO104.out).2.2 | (with_reducible refine Kd.C_alloc ?_ _) | (with_reducible refine Kd.C_drewN ?_ _) | (with_reducible refine Kd.C_drew ?_))); (case side2 => exact (Kd.N_reads' HO104.out).2.1); rintro e w8 ⟨v106, rfl, ho0, hb⟩; refine ⟨_, rfl, ?_⟩; have n0_ := Aside0.mk (Kd.V_elder' (by (with_reducible repeat (first | apply Kd.V_alloc | apply Kd.V_drewN | apply Kd.V_drew)); exact HO0.out) (Kd.R_base ho0) hb); have n1_ := Aside0.mk (Kd.V_elder' (by (with_reducible repeat (first | apply Kd.V_alloc | apply Kd.V_drewN | apply Kd.V_drew)); exact HO1.out) (Kd.R_base ho0) hb); have n2_ := Aside0.mk (Kd.N_elder' (by (with_reducible repeat (first | apply Kd.N_alloc | apply Kd.N_drewN | apply Kd.N_drew)); exact HO104.out) (Kd.R_base ho0) hb); have n3_ := Aside0.mk (Kd.R_lower (Kd.R_newM (M := fun k_ => (w.heap.size ≤ k_)) ho0 (below_size (by repeat (first | (with_reducible first | exact HB.out | apply below_alloc | apply pw_below_drewN | apply below_drew1) | exact HB.out))) (fun k_ h_ => h_)) (below_size (by repeat (first | (with_reducible first | exact HB.out | apply below_alloc | apply pw_below_drewN | apply below_drew1) | exact HB.out)))); have n4_ := Aside0.mk (below_step (by repeat (first | (with_reducible first | exact HB.out | apply below_alloc | apply pw_below_drewN | apply below_drew1) | exact HB.out)) hb); clear HO0; clear HO1; clear HO104; clear HB; have HO0 := n0_; have HO1 := n1_; have HO104 := n2_; have HO107 := n3_; have HB := n4_; clear n0_ n1_ n2_ n3_ n4_; (try clear hb); (try clear hb2); (try clear hk); (try clear hi); (try clear ho0)))
    go_loopg [7, 8] k (fun kq v7 v8 w' => ∃ (x7_1 : List Int) (x8_1 : List (List Int)), Aside0 (frame_Feed.l0 kq x7_1 x8_1 = some (r1, r2, r3)) ∧ Aside0 (kq ≤ k) ∧ Aside0 (Kd.Q (Kd.int .u8) 5 w' w.heap.size (fun k_ => (w.heap.size ≤ k_)) v7 x7_1) ∧ Aside0 (Kd.N (Kd.slice 5 (Kd.int .u8)) 30 w' w.heap.size (fun k_ => ((P0_ k_ ∨ P1_ k_) ∨ w.heap.size ≤ k_) ∧ some k_ ≠ (v7 : Value).ownBlock) v8 x8_1) ∧ Aside0 (Below w.heap.size w w'))
    case atStart => exact ⟨(t105), (([] : List (List Int))), H', ⟨Nat.le_refl _⟩, ⟨Kd.Q_of_R (by (with_reducible repeat (first | apply Kd.R_alloc | apply Kd.R_drewN | apply Kd.R_drew)); exact Kd.R_mono HO107.out (fun _ hk => hk.1))⟩, ⟨by first | exact Kd.S_nil _ _ _ _ _ | exact Kd.N_nil _ _ _ _ _ | exact Kd.V_nil _ _ _ _ _ | exact Kd.Q_nil _ _ _ _ _ | exact Kd.R_nil _ _ _ _ _⟩, ⟨by repeat (first | (with_reducible first | exact HB.out | apply below_alloc | apply pw_below_drewN | apply below_drew1) | exact HB.out)⟩⟩
    case round =>
      clear H'
      try clear c1
      try clear c2
      try clear p2
      try clear c3
      try clear c3b0
      try clear c3b1
      try clear c5
      obtain ⟨x7_1, x8_1, HA, HK1, HO_7, HO_8, HB⟩ := hrel
      cases gk with
      | zero => exact absurd HA.out (by simp [frame_Feed.l0])
      | succ k1 =>
        have H := HA.out
        clear HA
        simp only [frame_Feed.l0] at H
        by_cases c9 : (x7_1.length : Int) ≥ 4
        · rw [if_pos c9] at H
          have c9b0 : decide (4 ≤ (x7_1.length : Int)) = true := decide_eq_true c9
          have c9b1 : decide (4 ≤ x7_1.length) = true := decide_eq_true (by omega)
          clear c9
          by_cases c10 : 4 ≤ (x7_1.length : Int)
          · rw [if_pos c10] at H
            have c10b0 := eq_true c10
            have c10b1 : decide (4 ≤ (x7_1.length : Int)) = true := decide_eq_true c10
            clear c10
            obtain ⟨y111, hy111⟩ : ∃ y_ : List Int, y_ = (x7_1.take 4) := ⟨_, rfl⟩
            replace H : ((frame_Get.f k1 y111).bind fun t115 => (if t115 > 1024 then (some (([] : List (List Int)), ([] : List Int), 1)) else (if (x7_1.length : Int) < (wrap64 (4 + t115)) then ((slices_Clone_byte_byte.f x7_1).bind fun t116 => (some (x8_1, t116, 0))) else (if 4 ≤ (wrap64 (4 + t115)) then (if (wrap64 (4 + t115)) ≤ (x7_1.length : Int) then ((slices_Clone_byte_byte.f ((x7_1.take ((wrap64 (4 + t115)) : Int).toNat).drop 4)).bind fun t123 => (if x8_1.length < 5864062014805 then (if 0 ≤ (wrap64 (4 + t115)) then (frame_Feed.l0 k1 (x7_1.drop ((wrap64 (4 + t115)) : Int).toNat) (x8_1 ++ [t123])) else (none)) else (none))) else (none)) else (none))))) = some (r1, r2, r3) := by first | (rw [hy111]; with_reducible exact H) | (have H2_ := (Option.bind_some _ _).symm.trans H; rw [hy111]; with_reducible exact H2_) | (have H2_ := (Option.bind_some _ _).symm.trans H; with_reducible exact H2_) | with_reducible exact H | (rw [hy111]; exact H) | exact H
            have Ny111 := Aside0.mk hy111
            clear hy111
            replace H := Option.bind_eq_some_iff.mp H
            obtain ⟨t115, A110, H⟩ := H
            replace H : (if t115 > 1024 then (some (([] : List (List Int)), ([] : List Int), 1)) else (if (x7_1.length : Int) < (wrap64 (4 + t115)) then ((slices_Clone_byte_byte.f x7_1).bind fun t116 => (some (x8_1, t116, 0))) else (if 4 ≤ (wrap64 (4 + t115)) then (if (wrap64 (4 + t115)) ≤ (x7_1.length : Int) then ((slices_Clone_byte_byte.f ((x7_1.take ((wrap64 (4 + t115)) : Int).toNat).drop 4)).bind fun t123 => (if x8_1.length < 5864062014805 then (if 0 ≤ (wrap64 (4 + t115)) then (frame_Feed.l0 k1 (x7_1.drop ((wrap64 (4 + t115)) : Int).toNat) (x8_1 ++ [t123])) else (none)) else (none))) else (none)) else (none)))) = some (r1, r2, r3) := H
            have A11 := Aside0.mk A110
            clear A110
            by_cases c12 : t115 > 1024
            · rw [if_pos c12] at H
              have c12b0 : decide (1024 < t115) = true := decide_eq_true c12
              clear c12
              simp only [Option.some.injEq, Prod.mk.injEq] at H
              obtain ⟨rfl, rfl, rfl⟩ := H
              obtain ⟨Ao13, co13, eo13, _⟩ := Kd.Q_slice HO_7.out
              subst eo13
              have q14 : (4 : Int) ≤ ((x7_1.length : Int) : Int) := of_decide_eq_true (by first | (with_reducible assumption) | assumption)
              obtain ⟨i014, hi014, _, hsz14, _⟩ := info_parts info5
              have hroom14 : x7_1.length ≤ co13 := (Kd.Q_reads' HO_7.out).2.1
              have hC14 : Kd.C (Kd.int .u8) _ Ao13 x7_1.length x7_1 := (Kd.Q_reads' HO_7.out).2.2
              have hcut14 := cut_to (P := Try.prog) 30 5 .i64 Try.underlying30 hi014 Ao13 x7_1.length co13 4 (by omega) q14 hroom14
              have hr14 := Kd.C_take (m := 4) hC14 (by omega)
              have hy14 : y111.length = (4 : Int).toNat := (by rw [Ny111.out, List.length_take]; omega)
              rw [← Ny111.out] at hr14
              rw [← hy14] at hcut14
              have HR114 := Aside0.mk hr14
              have HC114 := Aside0.mk (show y111.length ≤ co13 from by omega)
              clear hr14 hC14 hroom14 hi014 hsz14
              have KY14 := Aside0.mk hy14
              clear hy14
              have KL14 := Aside0.mk (show 4 ≤ x7_1.length from by omega)
              replace q14 := eq_true q14
              go_wp2_with (first | ((with_reducible refine gate_callee (f := 52) rfl ?_); refine goesL_ (some 23) rfl rfl Try.func52 (by kernel_rfl) rfl #[.slice Ao13 y111.length co13] rfl (by (try simp only [List.map_toArray, List.map_cons, List.map_nil]); first | done | rfl | (simp only [List.length_drop, List.length_take]; rfl)) ?_; (with_reducible refine (frame_Get.calls k1 _ _ y111 t115 _ ?side1 ?side2 A11.out).mono ?_); (case side1 => repeat (first | exact (by repeat (first | (with_reducible exact HR114.out) | (with_reducible refine Kd.C_alloc ?_ _) | (with_reducible refine Kd.C_drewN ?_ _) | (with_reducible refine Kd.C_drew ?_) | exact HR114.out)) | (with_reducible refine Kd.C_alloc ?_ _) | (with_reducible refine Kd.C_drewN ?_ _) | (with_reducible refine Kd.C_drew ?_))); (case side2 => exact HC114.out); rintro e w' ⟨rfl, ⟨nd, rfl⟩⟩; refine ⟨_, rfl, ?_⟩))
              go_ret3
              exact ⟨_, _, by first | rfl | (simp [errW_none, errW_some] <;> rfl) | (simp [*, errW_none, errW_some] <;> rfl), by first | exact Kd.S_nil _ _ _ _ _ | exact Kd.N_nil _ _ _ _ _ | exact Kd.V_nil _ _ _ _ _ | exact Kd.Q_nil _ _ _ _ _ | exact Kd.R_nil _ _ _ _ _, by first | exact Kd.R_nil _ _ _ _ _ | exact Kd.N_nil _ _ _ _ _ | exact Kd.V_nil _ _ _ _ _ | exact Kd.Q_nil _ _ _ _ _ | exact Kd.S_nil _ _ _ _ _, by repeat (first | (with_reducible first | exact HB.out | apply below_alloc | apply pw_below_drewN | apply below_drew1) | exact HB.out)⟩
            · rw [if_neg c12] at H
              have c12b0 : decide (1024 < t115) = false := decide_eq_false c12
              clear c12
              by_cases c15 : (x7_1.length : Int) < (wrap64 (4 + t115))
              · rw [if_pos c15] at H
                have c15b0 : decide ((x7_1.length : Int) < (wrap64 (4 + t115))) = true := decide_eq_true c15
                clear c15
                replace H := Option.bind_eq_some_iff.mp H
                obtain ⟨t116, A160, H⟩ := H
                replace H : (some (x8_1, t116, 0)) = some (r1, r2, r3) := H
                have A16 := Aside0.mk A160
                clear A160
                simp only [Option.some.injEq, Prod.mk.injEq] at H
                obtain ⟨rfl, rfl, rfl⟩ := H
                obtain ⟨Ao17, co17, eo17, _⟩ := Kd.Q_slice HO_7.out
                subst eo17
                have q18 : (4 : Int) ≤ ((x7_1.length : Int) : Int) := of_decide_eq_true (by first | (with_reducible assumption) | assumption)
                obtain ⟨i018, hi018, _, hsz18, _⟩ := info_parts info5
                have hroom18 : x7_1.length ≤ co17 := (Kd.Q_reads' HO_7.out).2.1
                have hC18 : Kd.C (Kd.int .u8) _ Ao17 x7_1.length x7_1 := (Kd.Q_reads' HO_7.out).2.2
                have hcut18 := cut_to (P := Try.prog) 30 5 .i64 Try.underlying30 hi018 Ao17 x7_1.length co17 4 (by omega) q18 hroom18
                have hr18 := Kd.C_take (m := 4) hC18 (by omega)
                have hy18 : y111.length = (4 : Int).toNat := (by rw [Ny111.out, List.length_take]; omega)
                rw [← Ny111.out] at hr18
                rw [← hy18] at hcut18
                have HR114 := Aside0.mk hr18
                have HC114 := Aside0.mk (show y111.length ≤ co17 from by omega)
                clear hr18 hC18 hroom18 hi018 hsz18
                have KY18 := Aside0.mk hy18
                clear hy18
                have KL18 := Aside0.mk (show 4 ≤ x7_1.length from by omega)
                replace q18 := eq_true q18
                go_wp2_with (first | ((with_reducible refine gate_callee (f := 52) rfl ?_); refine goesL_ (some 23) rfl rfl Try.func52 (by kernel_rfl) rfl #[.slice Ao17 y111.length co17] rfl (by (try simp only [List.map_toArray, List.map_cons, List.map_nil]); first | done | rfl | (simp only [List.length_drop, List.length_take]; rfl)) ?_; (with_reducible refine (frame_Get.calls k1 _ _ y111 t115 _ ?side1 ?side2 A11.out).mono ?_); (case side1 => repeat (first | exact (by repeat (first | (with_reducible exact HR114.out) | (with_reducible refine Kd.C_alloc ?_ _) | (with_reducible refine Kd.C_drewN ?_ _) | (with_reducible refine Kd.C_drew ?_) | exact HR114.out)) | (with_reducible refine Kd.C_alloc ?_ _) | (with_reducible refine Kd.C_drewN ?_ _) | (with_reducible refine Kd.C_drew ?_))); (case side2 => exact HC114.out); rintro e w' ⟨rfl, ⟨nd, rfl⟩⟩; refine ⟨_, rfl, ?_⟩) | ((with_reducible refine gate_callee (f := 53) rfl ?_); refine goesL_ (some 44) rfl rfl Try.func53 (by kernel_rfl) rfl #[.slice Ao17 x7_1.length co17] rfl (by (try simp only [List.map_toArray, List.map_cons, List.map_nil]); first | done | rfl | (simp only [List.length_drop, List.length_take]; rfl)) ?_; (with_reducible refine (slices_Clone_byte_byte.calls _ _ x7_1 t116 _ ?side1 ?side2 A16.out).mono ?_); (case side1 => repeat (first | exact (Kd.Q_reads' HO_7.out).2.2 | (with_reducible refine Kd.C_alloc ?_ _) | (with_reducible refine Kd.C_drewN ?_ _) | (with_reducible refine Kd.C_drew ?_))); (case side2 => exact (Kd.Q_reads' HO_7.out).2.1); rintro e w19 ⟨v117, rfl, ho0, hb⟩; refine ⟨_, rfl, ?_⟩; have n0_ := Aside0.mk (Kd.Q_elder' (by (with_reducible repeat (first | apply Kd.Q_alloc | apply Kd.Q_drewN | apply Kd.Q_drew)); exact HO_7.out) (Kd.R_base ho0) hb); have n1_ := Aside0.mk (Kd.N_elder' (by (with_reducible repeat (first | apply Kd.N_alloc | apply Kd.N_drewN | apply Kd.N_drew)); exact HO_8.out) (Kd.R_base ho0) hb); have n2_ := Aside0.mk (Kd.R_lower (Kd.R_new' (Kd.R_newM (M := fun k_ => (w.heap.size ≤ k_)) ho0 (below_size (by repeat (first | (with_reducible first | exact HB.out | apply below_alloc | apply pw_below_drewN | apply below_drew1) | exact HB.out))) (fun k_ h_ => h_)) (Kd.Q_lt (by (with_reducible repeat (first | apply Kd.Q_alloc | apply Kd.Q_drewN | apply Kd.Q_drew)); exact HO_7.out))) (below_size (by repeat (first | (with_reducible first | exact HB.out | apply below_alloc | apply pw_below_drewN | apply below_drew1) | exact HB.out)))); have n3_ := Aside0.mk (Kd.C_below (by repeat (first | (with_reducible exact HR114.out) | (with_reducible refine Kd.C_alloc ?_ _) | (with_reducible refine Kd.C_drewN ?_ _) | (with_reducible refine Kd.C_drew ?_) | exact HR114.out)) hb); have n4_ := Aside0.mk (below_step (by repeat (first | (with_reducible first | exact HB.out | apply below_alloc | apply pw_below_drewN | apply below_drew1) | exact HB.out)) hb); clear HO_7; clear HO_8; clear HR114; clear HB; have HO_7 := n0_; have HO_8 := n1_; have HO118 := n2_; have HR114 := n3_; have HB := n4_; clear n0_ n1_ n2_ n3_ n4_; (try clear hb); (try clear hb2); (try clear hk); (try clear hi); (try clear ho0)))
                go_ret3
                exact ⟨_, _, by first | rfl | (simp [errW_none, errW_some] <;> rfl) | (simp [*, errW_none, errW_some] <;> rfl), by (with_reducible repeat (first | apply Kd.N_alloc | apply Kd.N_drewN | apply Kd.N_drew)); exact Kd.N_mono HO_8.out (fun _ hk => ⟨hk.1.1, hk.2⟩), by (with_reducible repeat (first | apply Kd.R_alloc | apply Kd.R_drewN | apply Kd.R_drew)); exact Kd.R_mono HO118.out (fun _ hk => hk.1.1), by repeat (first | (with_reducible first | exact HB.out | apply below_alloc | apply pw_below_drewN | apply below_drew1) | exact HB.out)⟩
              · rw [if_neg c15] at H
                have c15b0 : decide ((x7_1.length : Int) < (wrap64 (4 + t115))) = false := decide_eq_false c15
                clear c15
                by_cases c20 : 4 ≤ (wrap64 (4 + t115))
                · rw [if_pos c20] at H
                  have c20b0 := eq_true c20
                  have c20b1 : decide (4 ≤ (wrap64 (4 + t115))) = true := decide_eq_true c20
                  by_cases c21 : (wrap64 (4 + t115)) ≤ (x7_1.length : Int)
                  · rw [if_pos c21] at H
                    have c21b0 := eq_true c21
                    have c21b1 : decide ((wrap64 (4 + t115)) ≤ (x7_1.length : Int)) = true := decide_eq_true c21
                    obtain ⟨y119, hy119⟩ : ∃ y_ : List Int, y_ = ((x7_1.take ((wrap64 (4 + t115)) : Int).toNat).drop 4) := ⟨_, rfl⟩
                    replace H : ((slices_Clone_byte_byte.f y119).bind fun t123 => (if x8_1.length < 5864062014805 then (if 0 ≤ (wrap64 (4 + t115)) then (frame_Feed.l0 k1 (x7_1.drop ((wrap64 (4 + t115)) : Int).toNat) (x8_1 ++ [t123])) else (none)) else (none))) = some (r1, r2, r3) := by first | (rw [hy119]; with_reducible exact H) | (have H2_ := (Option.bind_some _ _).symm.trans H; rw [hy119]; with_reducible exact H2_) | (have H2_ := (Option.bind_some _ _).symm.trans H; with_reducible exact H2_) | with_reducible exact H | (rw [hy119]; exact H) | exact H
                    have Ny119 := Aside0.mk hy119
                    clear hy119
                    replace H := Option.bind_eq_some_iff.mp H
                    obtain ⟨t123, A220, H⟩ := H
                    replace H : (if x8_1.length < 5864062014805 then (if 0 ≤ (wrap64 (4 + t115)) then (frame_Feed.l0 k1 (x7_1.drop ((wrap64 (4 + t115)) : Int).toNat) (x8_1 ++ [t123])) else (none)) else (none)) = some (r1, r2, r3) := H
                    have A22 := Aside0.mk A220
                    clear A220
                    by_cases c23 : x8_1.length < 5864062014805
                    · rw [if_pos c23] at H
                      have LMc23 := Aside0.mk c23
                      clear c23
                      obtain ⟨y126, hy126⟩ : ∃ y_ : List (List Int), y_ = (x8_1 ++ [t123]) := ⟨_, rfl⟩
                      replace H : (if 0 ≤ (wrap64 (4 + t115)) then (frame_Feed.l0 k1 (x7_1.drop ((wrap64 (4 + t115)) : Int).toNat) y126) else (none)) = some (r1, r2, r3) := by first | (rw [hy126]; with_reducible exact H) | (have H2_ := (Option.bind_some _ _).symm.trans H; rw [hy126]; with_reducible exact H2_) | (have H2_ := (Option.bind_some _ _).symm.trans H; with_reducible exact H2_) | with_reducible exact H | (rw [hy126]; exact H) | exact H
                      have Ny126 := Aside0.mk hy126
                      clear hy126
                      obtain ⟨ji24, hji24⟩ : ∃ j_ : Int, (wrap64 (4 + t115)) = j_ := ⟨_, rfl⟩
                      replace H : (if 0 ≤ (ji24) then (frame_Feed.l0 k1 (x7_1.drop ((ji24) : Int).toNat) y126) else (none)) = some (r1, r2, r3) := by first | (rw [hji24] at H; exact H) | (simp only [hji24] at H ⊢; exact H)
                      (try rw [hji24] at c15b0)
                      (try rw [hji24] at c20b0)
                      (try rw [hji24] at c20b1)
                      (try rw [hji24] at c20)
                      (try rw [hji24] at c21b0)
                      (try rw [hji24] at c21b1)
                      (try rw [hji24] at c21)
                      (try rw [hji24] at A11)
                      (try rw [hji24] at Ny119)
                      (try rw [hji24] at A22)
                      have hji24w : (IntKind.i64.wrap (4 + t115)) = ji24 := (i64_w _).trans hji24
                      by_cases c25 : 0 ≤ (ji24)
                      · rw [if_pos c25] at H
                        have c25b0 := eq_true c25
                        have c25b1 : decide (0 ≤ (ji24)) = true := decide_eq_true c25
                        clear c25
                        have c26b0 := eq_true (of_decide_eq_true (by first | (with_reducible assumption) | assumption) : (ji24) ≤ (x7_1.length : Int))
                        obtain ⟨y129, hy129⟩ : ∃ y_ : List Int, y_ = (x7_1.drop ((ji24) : Int).toNat) := ⟨_, rfl⟩
                        replace H : (frame_Feed.l0 k1 y129 y126) = some (r1, r2, r3) := by first | (rw [hy129]; with_reducible exact H) | (have H2_ := (Option.bind_some _ _).symm.trans H; rw [hy129]; with_reducible exact H2_) | (have H2_ := (Option.bind_some _ _).symm.trans H; with_reducible exact H2_) | with_reducible exact H | (rw [hy129]; exact H) | exact H
                        have Ny129 := Aside0.mk hy129
                        clear hy129
                        have H' := Aside0.mk H
                        clear H
                        obtain ⟨Ao27, co27, eo27, _⟩ := Kd.Q_slice HO_7.out
                        subst eo27
                        have q28 : (4 : Int) ≤ ((x7_1.length : Int) : Int) := of_decide_eq_true (by first | (with_reducible assumption) | assumption)
                        obtain ⟨i028, hi028, _, hsz28, _⟩ := info_parts info5
                        have hroom28 : x7_1.length ≤ co27 := (Kd.Q_reads' HO_7.out).2.1
                        have hC28 : Kd.C (Kd.int .u8) _ Ao27 x7_1.length x7_1 := (Kd.Q_reads' HO_7.out).2.2
                        have hcut28 := cut_to (P := Try.prog) 30 5 .i64 Try.underlying30 hi028 Ao27 x7_1.length co27 4 (by omega) q28 hroom28
                        have hr28 := Kd.C_take (m := 4) hC28 (by omega)
                        have hy28 : y111.length = (4 : Int).toNat := (by rw [Ny111.out, List.length_take]; omega)
                        rw [← Ny111.out] at hr28
                        rw [← hy28] at hcut28
                        have HR114 := Aside0.mk hr28
                        have HC114 := Aside0.mk (show y111.length ≤ co27 from by omega)
                        clear hr28 hC28 hroom28 hi028 hsz28
                        have KY28 := Aside0.mk hy28
                        clear hy28
                        have KL28 := Aside0.mk (show 4 ≤ x7_1.length from by omega)
                        replace q28 := eq_true q28
                        go_wp2_with (first | ((with_reducible refine gate_callee (f := 52) rfl ?_); refine goesL_ (some 23) rfl rfl Try.func52 (by kernel_rfl) rfl #[.slice Ao27 y111.length co27] rfl (by (try simp only [List.map_toArray, List.map_cons, List.map_nil]); first | done | rfl | (simp only [List.length_drop, List.length_take]; rfl)) ?_; (with_reducible refine (frame_Get.calls k1 _ _ y111 t115 _ ?side1 ?side2 A11.out).mono ?_); (case side1 => repeat (first | exact (by repeat (first | (with_reducible exact HR114.out) | (with_reducible refine Kd.C_alloc ?_ _) | (with_reducible refine Kd.C_drewN ?_ _) | (with_reducible refine Kd.C_drew ?_) | exact HR114.out)) | (with_reducible refine Kd.C_alloc ?_ _) | (with_reducible refine Kd.C_drewN ?_ _) | (with_reducible refine Kd.C_drew ?_))); (case side2 => exact HC114.out); rintro e w' ⟨rfl, ⟨nd, rfl⟩⟩; refine ⟨_, rfl, ?_⟩; have q29 : ((ji24) : Int) ≤ ((x7_1.length : Int) : Int) := of_decide_eq_true (by first | (with_reducible assumption) | assumption); obtain ⟨i029, hi029, _, hsz29, _⟩ := info_parts info5; have hroom29 : x7_1.length ≤ co27 := (Kd.Q_reads' HO_7.out).2.1; have hC29 : Kd.C (Kd.int .u8) _ Ao27 x7_1.length x7_1 := (Kd.Q_reads' HO_7.out).2.2; have ql29 : (4 : Int) ≤ ((ji24) : Int) := of_decide_eq_true (by first | (with_reducible assumption) | assumption); have hcut29 := cut_mid (P := Try.prog) 30 5 .i64 .i64 Try.underlying30 hi029 1 hsz29 Ao27 x7_1.length co27 4 (ji24) (by omega) ql29 q29 hroom29; have hr29 := Kd.C_mid (lo := (4 : Int).toNat) (hi := ((ji24) : Int).toNat) (c := co27) hC29 (by omega) (by omega) hroom29; obtain ⟨A29, hA29⟩ : ∃ A1, A1 = (if co27 = (4 : Int).toNat then Ao27 else (Ao27 : Option Addr).map (·.add ((4 : Int).toNat * 1))) := ⟨_, rfl⟩; obtain ⟨c29, hc29⟩ : ∃ c1, c1 = co27 - (4 : Int).toNat := ⟨_, rfl⟩; have hy29 : y119.length = ((ji24) : Int).toNat - (4 : Int).toNat := (by rw [Ny119.out, List.length_drop, List.length_take] <;> omega); rw [show ((x7_1).take ((ji24) : Int).toNat).drop (4 : Int).toNat = y119 from Ny119.out.symm] at hr29; replace hr29 : Kd.C (Kd.int .u8) _ A29 y119.length y119 := (by rw [hA29]; exact hr29); rw [← hy29, ← hA29, ← hc29] at hcut29; have HR122 := Aside0.mk hr29; have HC122 := Aside0.mk (show y119.length ≤ c29 from by rw [hy29, hc29]; exact Nat.sub_le_sub_right (Nat.le_trans (by omega) hroom29) _); clear hr29 hC29 hroom29 hi029 hsz29 hc29; have KY29 := Aside0.mk hy29; have KA29 := Aside0.mk hA29; clear hy29 hA29; have KL29 := Aside0.mk (show ((ji24) : Int).toNat ≤ x7_1.length from by omega); have KM29 := Aside0.mk (show 4 ≤ ((ji24) : Int).toNat from by omega); replace q29 := eq_true q29) | ((with_reducible refine gate_callee (f := 53) rfl ?_); refine goesL_ (some 36) rfl rfl Try.func53 (by kernel_rfl) rfl #[.slice A29 y119.length c29] rfl (by (try simp only [List.map_toArray, List.map_cons, List.map_nil]); first | done | rfl | (simp only [List.length_drop, List.length_take]; rfl)) ?_; (with_reducible refine (slices_Clone_byte_byte.calls _ _ y119 t123 _ ?side1 ?side2 A22.out).mono ?_); (case side1 => repeat (first | exact (by repeat (first | (with_reducible exact HR122.out) | (with_reducible refine Kd.C_alloc ?_ _) | (with_reducible refine Kd.C_drewN ?_ _) | (with_reducible refine Kd.C_drew ?_) | exact HR122.out)) | (with_reducible refine Kd.C_alloc ?_ _) | (with_reducible refine Kd.C_drewN ?_ _) | (with_reducible refine Kd.C_drew ?_))); (case side2 => exact HC122.out); rintro e w30 ⟨v124, rfl, ho0, hb⟩; refine ⟨_, rfl, ?_⟩; have n0_ := Aside0.mk (Kd.Q_elder' (by (with_reducible repeat (first | apply Kd.Q_alloc | apply Kd.Q_drewN | apply Kd.Q_drew)); exact HO_7.out) (Kd.R_base ho0) hb); have n1_ := Aside0.mk (Kd.N_elder' (by (with_reducible repeat (first | apply Kd.N_alloc | apply Kd.N_drewN | apply Kd.N_drew)); exact HO_8.out) (Kd.R_base ho0) hb); have n2_ := Aside0.mk (Kd.R_lower (Kd.R_new' (Kd.R_newM (M := fun k_ => (w.heap.size ≤ k_)) ho0 (below_size (by repeat (first | (with_reducible first | exact HB.out | apply below_alloc | apply pw_below_drewN | apply below_drew1) | exact HB.out))) (fun k_ h_ => h_)) (Kd.Q_lt (by (with_reducible repeat (first | apply Kd.Q_alloc | apply Kd.Q_drewN | apply Kd.Q_drew)); exact HO_7.out))) (below_size (by repeat (first | (with_reducible first | exact HB.out | apply below_alloc | apply pw_below_drewN | apply below_drew1) | exact HB.out)))); have n3_ := Aside0.mk (Kd.C_below (by repeat (first | (with_reducible exact HR114.out) | (with_reducible refine Kd.C_alloc ?_ _) | (with_reducible refine Kd.C_drewN ?_ _) | (with_reducible refine Kd.C_drew ?_) | exact HR114.out)) hb); have n4_ := Aside0.mk (Kd.C_below (by repeat (first | (with_reducible exact HR122.out) | (with_reducible refine Kd.C_alloc ?_ _) | (with_reducible refine Kd.C_drewN ?_ _) | (with_reducible refine Kd.C_drew ?_) | exact HR122.out)) hb); have n5_ := Aside0.mk (below_step (by repeat (first | (with_reducible first | exact HB.out | apply below_alloc | apply pw_below_drewN | apply below_drew1) | exact HB.out)) hb); clear HO_7; clear HO_8; clear HR114; clear HR122; clear HB; have HO_7 := n0_; have HO_8 := n1_; have HO125 := n2_; have HR114 := n3_; have HR122 := n4_; have HB := n5_; clear n0_ n1_ n2_ n3_ n4_ n5_; (try clear hb); (try clear hb2); (try clear hk); (try clear hi); (try clear ho0); obtain ⟨Ao32, co32, eo32⟩ := Kd.R_slice HO125.out; subst eo32) | ((with_reducible refine gate_builtin (b := .append) (xs := #[.tmp 32, .tmp 37]) rfl ?_); at_builtin; refine Kd.N_append (Kd.slice 5 (Kd.int .u8)) (w0 := w) w.heap.size rfl (.tmp 32) (.tmp 37) 42 30 (.slice none 0 0) 24 rfl Try.underlying42 info30 rfl (by decide) (by omega) u8 x8_1 t123 [.slice Ao32 t123.length co32] (fun k_ => ((P0_ k_ ∨ P1_ k_) ∨ w.heap.size ≤ k_) ∧ some k_ ≠ (.slice Ao27 x7_1.length co27 : Value).ownBlock) (fun k_ => ((fun k_ => ((P0_ k_ ∨ P1_ k_) ∨ w.heap.size ≤ k_) ∧ some k_ ≠ (.slice Ao27 x7_1.length co27 : Value).ownBlock)) k_ ∧ some k_ ≠ (u8 : Value).ownBlock) rfl rfl ?aP (fun _ hk => hk) ?aF ?aO ?aB ?aS ?aL ?_; (case aP => exact (Kd.FK_slice_mk (Kd.R_reads' (Kd.R_mono (ok' := (fun k_ => ((fun k_ => ((P0_ k_ ∨ P1_ k_) ∨ w.heap.size ≤ k_) ∧ some k_ ≠ (.slice Ao27 x7_1.length co27 : Value).ownBlock)) k_ ∧ some k_ ≠ (u8 : Value).ownBlock)) (Kd.R_apart' (HO125.out) (Kd.N_typed HO_8.out) (by decide)) (fun k_ hk => ⟨⟨(.inr (hk.1.1.1)), hk.1.2⟩, hk.2⟩))).2.1 (Kd.R_F (Kd.R_mono (ok' := (fun k_ => ((fun k_ => ((P0_ k_ ∨ P1_ k_) ∨ w.heap.size ≤ k_) ∧ some k_ ≠ (.slice Ao27 x7_1.length co27 : Value).ownBlock)) k_ ∧ some k_ ≠ (u8 : Value).ownBlock)) (Kd.R_apart' (HO125.out) (Kd.N_typed HO_8.out) (by decide)) (fun k_ hk => ⟨⟨(.inr (hk.1.1.1)), hk.1.2⟩, hk.2⟩))))); (case aB => exact (by repeat (first | (with_reducible first | exact HB.out | apply below_alloc | apply pw_below_drewN | apply below_drew1) | exact HB.out))); (case aF => exact (fun k_ hk => ⟨(.inr (Nat.le_trans (below_size (by repeat (first | (with_reducible first | exact HB.out | apply below_alloc | apply pw_below_drewN | apply below_drew1) | exact HB.out))) hk)), Kd.fresh' (Kd.Q_lt (by (with_reducible repeat (first | apply Kd.Q_alloc | apply Kd.Q_drewN | apply Kd.Q_drew)); exact HO_7.out)) k_ hk⟩)); (case aO => exact (by (with_reducible repeat (first | apply Kd.N_alloc | apply Kd.N_drewN | apply Kd.N_drew)); exact Kd.N_mono HO_8.out (fun _ hk => ⟨hk.1.1, hk.1.2⟩))); (case aS => exact (below_size (by repeat (first | (with_reducible first | exact HB.out | apply below_alloc | apply pw_below_drewN | apply below_drew1) | exact HB.out)))); (case aL => have := LMc23.out; omega); intro v127 w31 ho hb hg hat; rw [← Ny126.out] at ho; have n0_ := Aside0.mk (Kd.Q_over' (by (with_reducible repeat (first | apply Kd.Q_alloc | apply Kd.Q_drewN | apply Kd.Q_drew)); exact HO_7.out) (Kd.N_typed (by (with_reducible repeat (first | apply Kd.N_alloc | apply Kd.N_drewN | apply Kd.N_drew)); exact HO_8.out)) (by decide) hg); have n1_ := Aside0.mk (hb); have n2_ := Aside0.mk ((show Kd.C (Kd.int .u8) w31 Ao27 y111.length y111 from by rw [Ny111.out]; exact Kd.C_take (m := 4) ((Kd.Q_reads' (Kd.Q_over' (by (with_reducible repeat (first | apply Kd.Q_alloc | apply Kd.Q_drewN | apply Kd.Q_drew)); exact HO_7.out) (Kd.N_typed (by (with_reducible repeat (first | apply Kd.N_alloc | apply Kd.N_drewN | apply Kd.N_drew)); exact HO_8.out)) (by decide) hg)).2.2) KL28.out)); have n3_ := Aside0.mk ((show Kd.C (Kd.int .u8) w31 A29 y119.length y119 from by rw [Ny119.out, KA29.out]; exact Kd.C_mid (lo := 4) (hi := ((ji24) : Int).toNat) (c := co27) ((Kd.Q_reads' (Kd.Q_over' (by (with_reducible repeat (first | apply Kd.Q_alloc | apply Kd.Q_drewN | apply Kd.Q_drew)); exact HO_7.out) (Kd.N_typed (by (with_reducible repeat (first | apply Kd.N_alloc | apply Kd.N_drewN | apply Kd.N_drew)); exact HO_8.out)) (by decide) hg)).2.2) KM29.out KL29.out ((Kd.Q_reads' (Kd.Q_over' (by (with_reducible repeat (first | apply Kd.Q_alloc | apply Kd.Q_drewN | apply Kd.Q_drew)); exact HO_7.out) (Kd.N_typed (by (with_reducible repeat (first | apply Kd.N_alloc | apply Kd.N_drewN | apply Kd.N_drew)); exact HO_8.out)) (by decide) hg)).2.1))); have n4_ := Aside0.mk (ho); clear HO_7; clear HB; clear HR114; clear HR122; clear HO_8; clear HO125; have HO_7 := n0_; have HB := n1_; have HR114 := n2_; have HR122 := n3_; have HO128 := n4_; clear n0_ n1_ n2_ n3_ n4_; clear ho hb hg hat; have n_ := Aside0.mk (Kd.Q_mono (ok' := (fun k_ => (w.heap.size ≤ k_))) HO_7.out (fun k_ hk => hk.1)); clear HO_7; have HO_7 := n_; clear n_; have q33 : ((ji24) : Int) ≤ ((x7_1.length : Int) : Int) := of_decide_eq_true (by first | (with_reducible assumption) | assumption); obtain ⟨i033, hi033, _, hsz33, _⟩ := info_parts info5; have hcut33 := cut_from (P := Try.prog) 30 5 .i64 Try.underlying30 hi033 1 hsz33 Ao27 x7_1.length co27 (ji24) (of_decide_eq_true (by first | (with_reducible assumption) | assumption)) q33; have hr33 := Kd.Q_drop (k := ((ji24) : Int).toNat) HO_7.out (by omega); obtain ⟨A33, hA33⟩ : ∃ A1, A1 = (if co27 = ((ji24) : Int).toNat then Ao27 else (Ao27 : Option Addr).map (·.add (((ji24) : Int).toNat * 1))) := ⟨_, rfl⟩; obtain ⟨c33, hc33⟩ : ∃ c1, c1 = co27 - ((ji24) : Int).toNat := ⟨_, rfl⟩; have hy33 : y129.length = x7_1.length - ((ji24) : Int).toNat := (by rw [Ny129.out, List.length_drop]); rw [← Ny129.out] at hr33; rw [← hy33, ← hA33, ← hc33] at hcut33; replace hr33 : Kd.Q (Kd.int .u8) 5 w31 w.heap.size (fun k_ => (w.heap.size ≤ k_)) (.slice A33 y129.length c33) y129 := (by rw [hA33, hc33, hy33]; exact hr33); have HE33 : Aside0 ((Value.slice A33 y129.length c33).ownBlock = (.slice Ao27 x7_1.length co27 : Value).ownBlock) := ⟨by rw [hA33]; split <;> (cases (Ao27 : Option Addr) <;> first | rfl | (simp [Value.ownBlock]; unfold Addr.add; split <;> rfl))⟩; clear hy33 hi033 hsz33 HO_7 hA33 hc33; have HO131 := Aside0.mk hr33; clear hr33; replace q33 := eq_true q33; have n_ := Aside0.mk (Kd.N_mono (ok' := fun k_ => ((((P0_ k_ ∨ P1_ k_) ∨ w.heap.size ≤ k_)) ∧ some k_ ≠ (.slice A33 y129.length c33 : Value).ownBlock)) HO128.out (fun k_ hk => ⟨hk.1, (by rw [HE33.out]; exact hk.2)⟩)); clear HO128; have HO128 := n_; clear n_))
                        go_roundg k1
                        case measure => have := HK1.out; omega
                        case rel => exact ⟨(y129), (y126), H', ⟨by have := HK1.out; omega⟩, ⟨by (with_reducible repeat (first | apply Kd.Q_alloc | apply Kd.Q_drewN | apply Kd.Q_drew)); exact HO131.out⟩, ⟨by (with_reducible repeat (first | apply Kd.N_alloc | apply Kd.N_drewN | apply Kd.N_drew)); exact HO128.out⟩, ⟨by repeat (first | (with_reducible first | exact HB.out | apply below_alloc | apply pw_below_drewN | apply below_drew1) | exact HB.out)⟩⟩
                      · rw [if_neg c25] at H
                        exact absurd H (by simp)
                    · rw [if_neg c23] at H
                      exact absurd H (by simp)
                  · rw [if_neg c21] at H
                    exact absurd H (by simp)
                · rw [if_neg c20] at H
                  exact absurd H (by simp)
          · rw [if_neg c10] at H
            exact absurd H (by simp)
        · rw [if_neg c9] at H
          have c9b0 : decide (4 ≤ (x7_1.length : Int)) = false := decide_eq_false c9
          have c9b1 : decide (4 ≤ x7_1.length) = false := decide_eq_false (by omega)
          clear c9
          replace H := Option.bind_eq_some_iff.mp H
          obtain ⟨t108, A340, H⟩ := H
          replace H : (some (x8_1, t108, 0)) = some (r1, r2, r3) := H
          have A34 := Aside0.mk A340
          clear A340
          simp only [Option.some.injEq, Prod.mk.injEq] at H
          obtain ⟨rfl, rfl, rfl⟩ := H
          obtain ⟨Ao35, co35, eo35, _⟩ := Kd.Q_slice HO_7.out
          subst eo35
          go_wp2_with (first | ((with_reducible refine gate_callee (f := 53) rfl ?_); refine goesL_ (some 44) rfl rfl Try.func53 (by kernel_rfl) rfl #[.slice Ao35 x7_1.length co35] rfl (by (try simp only [List.map_toArray, List.map_cons, List.map_nil]); first | done | rfl | (simp only [List.length_drop, List.length_take]; rfl)) ?_; (with_reducible refine (slices_Clone_byte_byte.calls _ _ x7_1 t108 _ ?side1 ?side2 A34.out).mono ?_); (case side1 => repeat (first | exact (Kd.Q_reads' HO_7.out).2.2 | (with_reducible refine Kd.C_alloc ?_ _) | (with_reducible refine Kd.C_drewN ?_ _) | (with_reducible refine Kd.C_drew ?_))); (case side2 => exact (Kd.Q_reads' HO_7.out).2.1); rintro e w36 ⟨v109, rfl, ho0, hb⟩; refine ⟨_, rfl, ?_⟩; have n0_ := Aside0.mk (Kd.Q_elder' (by (with_reducible repeat (first | apply Kd.Q_alloc | apply Kd.Q_drewN | apply Kd.Q_drew)); exact HO_7.out) (Kd.R_base ho0) hb); have n1_ := Aside0.mk (Kd.N_elder' (by (with_reducible repeat (first | apply Kd.N_alloc | apply Kd.N_drewN | apply Kd.N_drew)); exact HO_8.out) (Kd.R_base ho0) hb); have n2_ := Aside0.mk (Kd.R_lower (Kd.R_new' (Kd.R_newM (M := fun k_ => (w.heap.size ≤ k_)) ho0 (below_size (by repeat (first | (with_reducible first | exact HB.out | apply below_alloc | apply pw_below_drewN | apply below_drew1) | exact HB.out))) (fun k_ h_ => h_)) (Kd.Q_lt (by (with_reducible repeat (first | apply Kd.Q_alloc | apply Kd.Q_drewN | apply Kd.Q_drew)); exact HO_7.out))) (below_size (by repeat (first | (with_reducible first | exact HB.out | apply below_alloc | apply pw_below_drewN | apply below_drew1) | exact HB.out)))); have n3_ := Aside0.mk (below_step (by repeat (first | (with_reducible first | exact HB.out | apply below_alloc | apply pw_below_drewN | apply below_drew1) | exact HB.out)) hb); clear HO_7; clear HO_8; clear HB; have HO_7 := n0_; have HO_8 := n1_; have HO110 := n2_; have HB := n3_; clear n0_ n1_ n2_ n3_; (try clear hb); (try clear hb2); (try clear hk); (try clear hi); (try clear ho0)))
          go_ret3
          exact ⟨_, _, by first | rfl | (simp [errW_none, errW_some] <;> rfl) | (simp [*, errW_none, errW_some] <;> rfl), by (with_reducible repeat (first | apply Kd.N_alloc | apply Kd.N_drewN | apply Kd.N_drew)); exact Kd.N_mono HO_8.out (fun _ hk => ⟨hk.1.1, hk.2⟩), by (with_reducible repeat (first | apply Kd.R_alloc | apply Kd.R_drewN | apply Kd.R_drew)); exact Kd.R_mono HO110.out (fun _ hk => hk.1.1), by repeat (first | (with_reducible first | exact HB.out | apply below_alloc | apply pw_below_drewN | apply below_drew1) | exact HB.out)⟩

end Go.Proofs.Ytjhmjgcebijmiaa.HFrameFeeds
