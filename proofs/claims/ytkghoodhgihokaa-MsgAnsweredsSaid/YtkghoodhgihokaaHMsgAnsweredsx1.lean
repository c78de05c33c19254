/- The contracts of the functions that the law MsgAnswereds reaches: Go's code comes to what these Lean functions tell (written by a program of ours and the kit's, out of the translation). -/
import Derived.Test.YtkghoodhgihokaaXMsgAe
import Derived.Test.YtkghoodhgihokaaXMsgG
import Derived.Test.YtkghoodhgihokaaXMsgZ
import Derived.Test.YtkghoodhgihokaaHMsgAnsweredsx0
namespace Go.Proofs.Ytkghoodhgihokaa.HMsgAnswereds
open Go.RowKit Go.Proofs.YtkghoodhgihokaaW.PrintWords Go.Proofs.YtkghoodhgihokaaW.PrintLast Go.Proofs.YtkghoodhgihokaaW.PrintMore
attribute [local go_sem] max2_int min2_int max_two min_two max_three min_three max_four min_four   -- for this text's walks alone
set_option linter.unusedVariables false
set_option linter.unusedSimpArgs false

/-! ### frame_Get: function 83 -/
def frame_Get.l0 : Nat → Int → List Int → Int → Int → Option (Int)
  | 0, _, _, _, _ => none
  | k + 1, x3, x6, x7, x8 => if x8 < x7 then (if 0 ≤ x8 then (if x8 < (x6.length : Int) then (frame_Get.l0 k (Go.bits .or .i64 (wrap64 (x3 * 256)) (wrap64 (rd x6 x8))) x6 x7 (wrap64 (x8 + 1))) else (none)) else (none)) else (some x3)
def frame_Get.f (k : Nat) (l0 : List Int) : Option (Int) := frame_Get.l0 k 0 l0 (l0.length : Int) 0
theorem frame_Get.mono_l : ∀ k, (∀ y0 y1 y2 y3, LeO (frame_Get.l0 k y0 y1 y2 y3) (frame_Get.l0 (k + 1) y0 y1 y2 y3))
  | 0 => fun _ _ _ _ r h => by simp [frame_Get.l0] at h
  | k + 1 => by
    have ih0 := frame_Get.mono_l k
    · intro y0 y1 y2 y3
      unfold frame_Get.l0
      repeat' first
      | (with_reducible exact ih0 _ _ _ _)
      | (with_reducible exact LeO.refl _)
      | (with_reducible exact LeO.none _)
      | (with_reducible refine LeO.ite ?_ ?_)
      | (with_reducible refine LeO.bind ?_ (fun _ => ?_))
      | exact ih0 _ _ _ _
      | exact LeO.none _
      | refine LeO.ite ?_ ?_
      | refine LeO.bind ?_ (fun _ => ?_)
theorem frame_Get.mono : ∀ a0 k, LeO (frame_Get.f k a0) (frame_Get.f (k + 1) a0) := by
  intro a0 k
  have ih0 := frame_Get.mono_l k
  unfold frame_Get.f
  repeat' first
      | (with_reducible exact ih0 _ _ _ _)
      | (with_reducible exact LeO.refl _)
      | (with_reducible exact LeO.none _)
      | (with_reducible refine LeO.ite ?_ ?_)
      | (with_reducible refine LeO.bind ?_ (fun _ => ?_))
      | exact ih0 _ _ _ _
      | exact LeO.none _
      | refine LeO.ite ?_ ?_
      | refine LeO.bind ?_ (fun _ => ?_)
set_option maxHeartbeats 8000000 in
set_option maxRecDepth 100000 in
theorem frame_Get.calls (k : Nat) (A0 : Option Addr) (c0 : Nat) (l0 : List Int) (r : Int) (w : World) (hr0 : Kd.C (Kd.int .u8) w A0 l0.length l0) (hc0 : l0.length ≤ c0) (h : frame_Get.f k l0 = some r) :
    Calls Try.prog 83 #[.slice A0 l0.length c0] w fun e w' => e = .returned (.int .i64 r) ∧ Drawn0 w w' := by
  have HR0 := Aside0.mk hr0
  have HC0 := Aside0.mk hc0
  clear hr0 hc0
  have H : (frame_Get.l0 k 0 l0 (l0.length : Int) 0) = some r := h
  clear h
  have H' := Aside0.mk H
  clear H
  go_enter Try.func83, Try.ntmps83
  go_wp2
  go_loopg [3, 8] k (fun kq v3 v8 w' => ∃ (x3_1 : Int) (x8_1 : Int), v3 = .int .i64 x3_1 ∧ v8 = .int .i64 x8_1 ∧ Aside0 (frame_Get.l0 kq x3_1 l0 (l0.length : Int) x8_1 = some r) ∧ Aside0 (kq ≤ k) ∧ Drawn0 w w')
  case atStart => exact ⟨(0), (0), (by first | rfl | (simp; done) | (simp [*]; done)), (by first | rfl | (simp; done) | (simp [*]; done)), H', ⟨Nat.le_refl _⟩, by repeat (first | exact Drawn0.refl _ | apply Drawn0.step)⟩
  case round =>
    clear H'
    obtain ⟨x3_1, x8_1, rfl, rfl, HA, HK1, ⟨m1, rfl⟩⟩ := hrel
    cases gk with
    | zero => exact absurd HA.out (by simp [frame_Get.l0])
    | succ k1 =>
      have H := HA.out
      clear HA
      simp only [frame_Get.l0] at H
      by_cases c2 : x8_1 < (l0.length : Int)
      · rw [if_pos c2] at H
        have c2b0 : decide (x8_1 < (l0.length : Int)) = true := decide_eq_true c2
        clear c2
        by_cases c3 : 0 ≤ x8_1
        · rw [if_pos c3] at H
          have c3b0 : decide (0 ≤ x8_1) = true := decide_eq_true c3
          clear c3
          by_cases c4 : x8_1 < (l0.length : Int)
          · rw [if_pos c4] at H
            have c4b0 : decide (x8_1 < (l0.length : Int)) = true := decide_eq_true c4
            clear c4
            have H' := Aside0.mk H
            clear H
            have p101 : 0 ≤ (x8_1 : Int) := of_decide_eq_true (by first | (with_reducible assumption) | assumption)
            have q101 : x8_1 < (l0.length : Int) := of_decide_eq_true (by first | (with_reducible assumption) | assumption)
            obtain ⟨ad101, e101, hx101_0⟩ := Kd.at_int HR0.out x8_1 p101 q101
            cases e101
            replace p101 := eq_true p101
            replace q101 := eq_true q101
            go_wp2
            go_roundg k1
            case measure => have := HK1.out; omega
            case rel => exact ⟨(Go.bits .or .i64 (wrap64 (x3_1 * 256)) (wrap64 (rd l0 x8_1))), (wrap64 (x8_1 + 1)), (by first | rfl | (simp; done) | (simp [*]; done)), (by first | rfl | (simp; done) | (simp [*]; done)), H', ⟨by have := HK1.out; omega⟩, by repeat (first | exact Drawn0.refl _ | apply Drawn0.step)⟩
          · rw [if_neg c4] at H
            exact absurd H (by simp)
        · rw [if_neg c3] at H
          exact absurd H (by simp)
      · rw [if_neg c2] at H
        have c2b0 : decide (x8_1 < (l0.length : Int)) = false := decide_eq_false c2
        clear c2
        obtain rfl := Option.some.inj H
        go_wp2
        go_ret
        exact ⟨by first | rfl | (simp; done) | (simp [*]; done), by repeat (first | exact Drawn0.refl _ | apply Drawn0.step)⟩

/-! ### slices_Clone_byte_byte: function 84 -/
def slices_Clone_byte_byte.f (l0 : List Int) : Option (List Int) := if l0.length < 140737488355328 then some l0 else none
set_option maxHeartbeats 1000000 in
set_option maxRecDepth 100000 in
theorem slices_Clone_byte_byte.calls (A0 : Option Addr) (c0 : Nat) (l0 : List Int) (r : List Int) (w : World) (hr0 : Kd.C (Kd.int .u8) w A0 l0.length l0) (hc0 : l0.length ≤ c0) (h : slices_Clone_byte_byte.f l0 = some r) :
    Calls Try.prog 84 #[.slice A0 l0.length c0] w fun e w' => ∃ v0_ : Value, e = .returned (v0_) ∧ Kd.R (Kd.int .u8) 5 w' w.heap.size (fun _ => True) v0_ r ∧ Below w.heap.size w w' := by
  have HR0 := Aside0.mk hr0
  have hl : l0.length < 140737488355328 ∧ l0 = r := by
    unfold slices_Clone_byte_byte.f at h
    split at h
    · exact ⟨by assumption, Option.some.inj h⟩
    · cases h
  clear h
  obtain ⟨hl, rfl⟩ := hl
  have HL := Aside0.mk hl
  have HB := Aside0.mk (Below.refl w.heap.size w)
  cases A0 with
  | none =>
    have hn : l0 = [] := by
      have := hr0.2.2
      cases l0 with
      | nil => rfl
      | cons a l => obtain ⟨ad, h, _⟩ := this (by simp); cases h
    subst hn
    clear hr0 hc0 hl
    go_enter Try.func84, Try.ntmps84
    have he := Lib.run_eql_slice_nil (P := Try.prog)
    go_wp2
    go_ret
    exact ⟨_, rfl, Kd.R_nil _ _ _ _ _, HB.out⟩
  | some ad =>
    clear hr0 hc0 hl
    go_enter Try.func84, Try.ntmps84
    have he := Lib.run_eql_slice_nil (P := Try.prog)
    go_wp2_with (first | ((with_reducible refine gate_dst (N := 5) rfl ?_); refine Kd.R_lit (Kd.int .u8) _ 5 ?hg (N := 5) ?hd (xs := ([] : List Int)) (inner := []) (ok := fun _ => True) (okp := fun _ => True) ?hr ?hp (fun _ hk => hk) trivial (Below.refl _ _) (Nat.le_refl _) (by simp) ?_; (case hd => rfl); (case hg => rfl); (case hr => first | (go_simp; done) | (go_simp; rfl)); (case hp => exact (Reps.none _ _)); intro v111 w4 ho5 hb hg_ hnew_; clear hg_ hnew_; have n0_ := Aside0.mk ho5; have n1_ := Aside0.mk hb; clear hb ho5) | ((with_reducible refine gate_builtin (b := .append) (xs := #[.tmp 5, .tmp 6]) rfl ?_); at_builtin; refine Kd.R_append_rows (Kd.int .u8) (w0 := w) w.heap.size rfl (.tmp 5) (.tmp 6) 27 5 (.int .u8 0) 1 rfl Try.underlying27 info5 rfl (by decide) (by omega) v111 [] l0 _ _ _ (fun _ => True) (fun _ => False) rfl rfl ?aO ?aR (fun _ _ h => h) (fun _ h => h.elim) ?aF ?aB ?aS ?aL ?_; (case aR => exact (Kd.C_below HR0.out n1_.out)); (case aB => exact n1_.out); (case aF => exact (fun _ _ => trivial)); (case aO => exact n0_.out); (case aS => exact n1_.out.size); (case aL => have := HL.out; simp; omega); intro v114 w6 ho hb hg hat; have m0_ := Aside0.mk hb; have m1_ := Aside0.mk ho; clear ho hb hg hat))
    go_ret
    exact ⟨_, rfl, m1_.out, m0_.out⟩

-- NOT PRINTED: function 57 (msg_part_get)

-- NOT PRINTED: function 50 (msg_take)

-- NOT PRINTED: function 77 (msg_part_fits)

-- NOT PRINTED: function 44 (msg_all)

-- NOT PRINTED: function 75 (msg_number)

-- NOT PRINTED: function 76 (msg_data)

-- NOT PRINTED: function 54 (msg_replied)

-- NOT PRINTED: function 96 (slices_IndexFunc_string_string)

-- NOT PRINTED: function 68 (slices_ContainsFunc_string_string)

-- NOT PRINTED: function 53 (msg_fault)

-- NOT PRINTED: function 55 (msg_text)

/-! ### msg_Answered: function 23 -/
/-- What msg.Answered answers. -/
def msg_Answered.f (l : List Int) : Option (Msg.Rp × Int) := if Msg.bytesB l = true ∧ l.length < 140737488351233 then some (Msg.answeredF 0 1 2 l) else none
theorem msg_Answered.calls (A : Option Addr) (c : Nat) (l : List Int) (q : Msg.Rp) (er : Int) (w : World) (hr : Kd.C (Kd.int .u8) w A l.length l) (hc : l.length ≤ c) (h : msg_Answered.f l = some (q, er)) :
    Calls Try.prog 23 #[.slice A l.length c] w fun e w' => Msg.PPost w (q, er) e w' := by
  unfold msg_Answered.f at h
  by_cases hl : Msg.bytesB l = true ∧ l.length < 140737488351233
  · rw [if_pos hl] at h
    have h2 := Option.some.inj h
    rw [← h2]
    rw [← Msg.answered_b (w.heap.size + 1) (w.heap.size + 2) (w.heap.size + 3) (by omega) (by omega) (by omega) l]
    exact Msg.answered_calls A c l w hr hc (Msg.bytesB_in hl.1) (by omega)
  · rw [if_neg hl] at h; cases h

-- NOT PRINTED: function 51 (packthreadref_reader_num)

-- NOT PRINTED: function 52 (packthreadref_reader_text)

/-! ### packthreadref_nameMay: function 74 -/
mutual
def packthreadref_nameMay.j0 : Nat → ByteArray → Bool → Option (Bool)
  | 0, _, _ => none
  | k + 1, x0, x19 => if x19 = true then (some false) else (packthreadref_nameMay.l0 k x0 0)
def packthreadref_nameMay.l0 : Nat → ByteArray → Int → Option (Bool)
  | 0, _, _ => none
  | k + 1, x0, x3 => if x3 < (x0.size : Int) then (if 0 ≤ x3 then (if (bt x0 x3) = 0 then (some false) else (if (bt x0 x3) = 47 then (some false) else (packthreadref_nameMay.l0 k x0 (wrap64 (x3 + 1))))) else (none)) else (some true)
end
def packthreadref_nameMay.f (k : Nat) (a0 : ByteArray) : Option (Bool) := if (a0.size : Int) = 0 then (packthreadref_nameMay.j0 k a0 true) else (if (a0.size : Int) > 16 then (packthreadref_nameMay.j0 k a0 true) else (if a0.toList = ([46] : List UInt8) then (packthreadref_nameMay.j0 k a0 true) else (packthreadref_nameMay.j0 k a0 (a0.toList == ([46, 46] : List UInt8)))))
theorem packthreadref_nameMay.mono_l : ∀ k, (∀ y0 y1, LeO (packthreadref_nameMay.j0 k y0 y1) (packthreadref_nameMay.j0 (k + 1) y0 y1)) ∧ (∀ y0 y1, LeO (packthreadref_nameMay.l0 k y0 y1) (packthreadref_nameMay.l0 (k + 1) y0 y1))
  | 0 => ⟨fun _ _ r h => by simp [packthreadref_nameMay.j0] at h, fun _ _ r h => by simp [packthreadref_nameMay.l0] at h⟩
  | k + 1 => by
    obtain ⟨ih0, ih1⟩ := packthreadref_nameMay.mono_l k
    refine ⟨?_, ?_⟩
    · intro y0 y1
      unfold packthreadref_nameMay.j0
      repeat' first
      | (with_reducible exact ih0 _ _)
      | (with_reducible exact ih1 _ _)
      | (with_reducible exact LeO.refl _)
      | (with_reducible exact LeO.none _)
      | (with_reducible refine LeO.ite ?_ ?_)
      | (with_reducible refine LeO.bind ?_ (fun _ => ?_))
      | exact ih0 _ _
      | exact ih1 _ _
      | exact LeO.none _
      | refine LeO.ite ?_ ?_
      | refine LeO.bind ?_ (fun _ => ?_)
    · intro y0 y1
      unfold packthreadref_nameMay.l0
      repeat' first
      | (with_reducible exact ih0 _ _)
      | (with_reducible exact ih1 _ _)
      | (with_reducible exact LeO.refl _)
      | (with_reducible exact LeO.none _)
      | (with_reducible refine LeO.ite ?_ ?_)
      | (with_reducible refine LeO.bind ?_ (fun _ => ?_))
      | exact ih0 _ _
      | exact ih1 _ _
      | exact LeO.none _
      | refine LeO.ite ?_ ?_
      | refine LeO.bind ?_ (fun _ => ?_)
theorem packthreadref_nameMay.mono : ∀ a0 k, LeO (packthreadref_nameMay.f k a0) (packthreadref_nameMay.f (k + 1) a0) := by
  intro a0 k
  obtain ⟨ih0, ih1⟩ := packthreadref_nameMay.mono_l k
  unfold packthreadref_nameMay.f
  repeat' first
      | (with_reducible exact ih0 _ _)
      | (with_reducible exact ih1 _ _)
      | (with_reducible exact LeO.refl _)
      | (with_reducible exact LeO.none _)
      | (with_reducible refine LeO.ite ?_ ?_)
      | (with_reducible refine LeO.bind ?_ (fun _ => ?_))
      | exact ih0 _ _
      | exact ih1 _ _
      | exact LeO.none _
      | refine LeO.ite ?_ ?_
      | refine LeO.bind ?_ (fun _ => ?_)
set_option maxHeartbeats 8000000 in
set_option maxRecDepth 100000 in
theorem packthreadref_nameMay.calls (k : Nat) (a0 : ByteArray) (r : Bool) (w : World) (h : packthreadref_nameMay.f k a0 = some r) :
    Calls Try.prog 74 #[.string a0] w fun e w' => e = .returned (.bool r) ∧ Drawn0 w w' := by
  have H : (if (a0.size : Int) = 0 then (packthreadref_nameMay.j0 k a0 true) else (if (a0.size : Int) > 16 then (packthreadref_nameMay.j0 k a0 true) else (if a0.toList = ([46] : List UInt8) then (packthreadref_nameMay.j0 k a0 true) else (packthreadref_nameMay.j0 k a0 (a0.toList == ([46, 46] : List UInt8)))))) = some r := h
  clear h
  have HC2 := Aside0.mk H
  clear H
  go_enter Try.func74, Try.ntmps74
  go_upto_region 1 with (fail)
  go_cut [19] (fun v19 wc => ∃ (kq : Nat) (x19_1 : Bool), v19 = .bool x19_1 ∧ Aside0 (packthreadref_nameMay.j0 kq a0 x19_1 = some r) ∧ Aside0 (kq ≤ k) ∧ Drawn0 w wc)
  case first =>
    have H := HC2.out
    clear HC2
    by_cases c3 : (a0.size : Int) = 0
    · rw [if_pos c3] at H
      have c3b0 : ((a0.size : Int) == 0) = true := beq_iff_eq.mpr c3
      have c3b1 : ((a0.size : Int) != 0) = false := bne_eq_false_iff_eq.mpr c3
      clear c3
      (first | rw [c3b0] | (simp only [i64_w, i32_w]; rw [c3b0]) | skip)
      have H' := Aside0.mk H
      clear H
      go_wp2
      go_meet
      case rel => exact ⟨_, (true), (by first | rfl | (simp; done) | (simp [*]; done)), H', ⟨by first | omega | exact Nat.le_refl _⟩, by repeat (first | exact Drawn0.refl _ | apply Drawn0.step)⟩
    · rw [if_neg c3] at H
      have c3b0 : ((a0.size : Int) == 0) = false := beq_eq_false_iff_ne.mpr c3
      have c3b1 : ((a0.size : Int) != 0) = true := bne_iff_ne.mpr c3
      (first | rw [c3b0] | (simp only [i64_w, i32_w]; rw [c3b0]) | skip)
      by_cases c4 : (a0.size : Int) > 16
      · rw [if_pos c4] at H
        have c4b0 : decide (16 < (a0.size : Int)) = true := decide_eq_true c4
        have c4b1 : decide (16 < a0.size) = true := decide_eq_true (by omega)
        clear c4
        have H' := Aside0.mk H
        clear H
        go_wp2
        go_meet
        case rel => exact ⟨_, (true), (by first | rfl | (simp; done) | (simp [*]; done)), H', ⟨by first | omega | exact Nat.le_refl _⟩, by repeat (first | exact Drawn0.refl _ | apply Drawn0.step)⟩
      · rw [if_neg c4] at H
        have c4b0 : decide (16 < (a0.size : Int)) = false := decide_eq_false c4
        have c4b1 : decide (16 < a0.size) = false := decide_eq_false (by omega)
        clear c4
        by_cases c5 : a0.toList = ([46] : List UInt8)
        · rw [if_pos c5] at H
          have c5b0 : (a0.toList == ([46] : List UInt8)) = true := beq_iff_eq.mpr c5
          have c5b1 : (a0.toList != ([46] : List UInt8)) = false := bne_eq_false_iff_eq.mpr c5
          clear c5
          have H' := Aside0.mk H
          clear H
          go_wp2
          go_meet
          case rel => exact ⟨_, (true), (by first | rfl | (simp; done) | (simp [*]; done)), H', ⟨by first | omega | exact Nat.le_refl _⟩, by repeat (first | exact Drawn0.refl _ | apply Drawn0.step)⟩
        · rw [if_neg c5] at H
          have c5b0 : (a0.toList == ([46] : List UInt8)) = false := beq_eq_false_iff_ne.mpr c5
          have c5b1 : (a0.toList != ([46] : List UInt8)) = true := bne_iff_ne.mpr c5
          have H' := Aside0.mk H
          clear H
          go_wp2
          go_meet
          case rel => exact ⟨_, ((a0.toList == ([46, 46] : List UInt8))), (by first | rfl | (simp; done) | (simp [*]; done)), H', ⟨by first | omega | exact Nat.le_refl _⟩, by repeat (first | exact Drawn0.refl _ | apply Drawn0.step)⟩
  case rest =>
    clear HC2
    try clear p2
    try clear c3
    try clear c3b0
    try clear c3b1
    try clear c4
    try clear c4b0
    try clear c4b1
    try clear c5
    try clear c5b0
    try clear c5b1
    obtain ⟨kq, x19_1, rfl, HA, HJ1, ⟨mc1, rfl⟩⟩ := hcut
    cases kq with
    | zero => exact absurd HA.out (by simp [packthreadref_nameMay.j0])
    | succ kj1 =>
      have H := HA.out
      clear HA
      simp only [packthreadref_nameMay.j0] at H
      by_cases c6 : x19_1 = true
      · subst c6
        have H1 : (some false) = some r := by rw [if_pos rfl] at H; exact H
        clear H
        have H := H1
        clear H1
        obtain rfl := Option.some.inj H
        go_wp2
        go_ret
        exact ⟨by first | rfl | (simp; done) | (simp [*]; done), by repeat (first | exact Drawn0.refl _ | apply Drawn0.step)⟩
      · replace c6 := Bool.eq_false_iff.mpr c6
        subst c6
        have H1 : (packthreadref_nameMay.l0 kj1 a0 0) = some r := by rw [if_neg (show ¬ (false = true) by decide)] at H; exact H
        clear H
        have H := H1
        clear H1
        have H' := Aside0.mk H
        clear H
        go_wp2
        go_loopg [3] kj1 (fun kq v3 w' => ∃ (x3_2 : Int), v3 = .int .i64 x3_2 ∧ Aside0 (packthreadref_nameMay.l0 kq a0 x3_2 = some r) ∧ Aside0 (kq ≤ kj1) ∧ Drawn0 w w')
        case atStart => exact ⟨(0), (by first | rfl | (simp; done) | (simp [*]; done)), H', ⟨Nat.le_refl _⟩, by repeat (first | exact Drawn0.refl _ | apply Drawn0.step)⟩
        case round =>
          clear H'
          try clear c1
          try clear p2
          try clear c3
          try clear c3b0
          try clear c3b1
          try clear c4
          try clear c4b0
          try clear c4b1
          try clear c5
          try clear c5b0
          try clear c5b1
          try clear c6
          try clear p2
          obtain ⟨x3_2, rfl, HA, HK2, ⟨m2, rfl⟩⟩ := hrel
          cases gk with
          | zero => exact absurd HA.out (by simp [packthreadref_nameMay.l0])
          | succ k2 =>
            have H := HA.out
            clear HA
            simp only [packthreadref_nameMay.l0] at H
            by_cases c7 : x3_2 < (a0.size : Int)
            · rw [if_pos c7] at H
              have c7b0 : decide (x3_2 < (a0.size : Int)) = true := decide_eq_true c7
              clear c7
              by_cases c8 : 0 ≤ x3_2
              · rw [if_pos c8] at H
                have c8b0 : decide (0 ≤ x3_2) = true := decide_eq_true c8
                clear c8
                by_cases c10 : (bt a0 x3_2) = 0
                · rw [if_pos c10] at H
                  have c10b0 : ((bt a0 x3_2) == 0) = true := beq_iff_eq.mpr c10
                  have c10b1 : ((bt a0 x3_2) != 0) = false := bne_eq_false_iff_eq.mpr c10
                  clear c10
                  obtain rfl := Option.some.inj H
                  have p9 : 0 ≤ (x3_2 : Int) := of_decide_eq_true (by first | (with_reducible assumption) | assumption)
                  have q9 : x3_2 < (a0.size : Int) := of_decide_eq_true (by first | (with_reducible assumption) | assumption)
                  have hx9 := bt_at a0 x3_2
                  replace p9 := eq_true p9
                  replace q9 := eq_true q9
                  go_wp2
                  go_ret
                  exact ⟨by first | rfl | (simp; done) | (simp [*]; done), by repeat (first | exact Drawn0.refl _ | apply Drawn0.step)⟩
                · rw [if_neg c10] at H
                  have c10b0 : ((bt a0 x3_2) == 0) = false := beq_eq_false_iff_ne.mpr c10
                  have c10b1 : ((bt a0 x3_2) != 0) = true := bne_iff_ne.mpr c10
                  by_cases c12 : (bt a0 x3_2) = 47
                  · rw [if_pos c12] at H
                    have c12b0 : ((bt a0 x3_2) == 47) = true := beq_iff_eq.mpr c12
                    have c12b1 : ((bt a0 x3_2) != 47) = false := bne_eq_false_iff_eq.mpr c12
                    clear c12
                    obtain rfl := Option.some.inj H
                    have p9 : 0 ≤ (x3_2 : Int) := of_decide_eq_true (by first | (with_reducible assumption) | assumption)
                    have q9 : x3_2 < (a0.size : Int) := of_decide_eq_true (by first | (with_reducible assumption) | assumption)
                    have hx9 := bt_at a0 x3_2
                    replace p9 := eq_true p9
                    replace q9 := eq_true q9
                    have p11 : 0 ≤ (x3_2 : Int) := of_decide_eq_true (by first | (with_reducible assumption) | assumption)
                    have q11 : x3_2 < (a0.size : Int) := of_decide_eq_true (by first | (with_reducible assumption) | assumption)
                    have hx11 := bt_at a0 x3_2
                    replace p11 := eq_true p11
                    replace q11 := eq_true q11
                    go_wp2
                    go_ret
                    exact ⟨by first | rfl | (simp; done) | (simp [*]; done), by repeat (first | exact Drawn0.refl _ | apply Drawn0.step)⟩
                  · rw [if_neg c12] at H
                    have c12b0 : ((bt a0 x3_2) == 47) = false := beq_eq_false_iff_ne.mpr c12
                    have c12b1 : ((bt a0 x3_2) != 47) = true := bne_iff_ne.mpr c12
                    have H' := Aside0.mk H
                    clear H
                    have p9 : 0 ≤ (x3_2 : Int) := of_decide_eq_true (by first | (with_reducible assumption) | assumption)
                    have q9 : x3_2 < (a0.size : Int) := of_decide_eq_true (by first | (with_reducible assumption) | assumption)
                    have hx9 := bt_at a0 x3_2
                    replace p9 := eq_true p9
                    replace q9 := eq_true q9
                    have p11 : 0 ≤ (x3_2 : Int) := of_decide_eq_true (by first | (with_reducible assumption) | assumption)
                    have q11 : x3_2 < (a0.size : Int) := of_decide_eq_true (by first | (with_reducible assumption) | assumption)
                    have hx11 := bt_at a0 x3_2
                    replace p11 := eq_true p11
                    replace q11 := eq_true q11
                    go_wp2
                    go_roundg k2
                    case measure => have := HJ1.out; have := HK2.out; omega
                    case rel => exact ⟨(wrap64 (x3_2 + 1)), (by first | rfl | (simp; done) | (simp [*]; done)), H', ⟨by have := HJ1.out; have := HK2.out; omega⟩, by repeat (first | exact Drawn0.refl _ | apply Drawn0.step)⟩
              · rw [if_neg c8] at H
                exact absurd H (by simp)
            · rw [if_neg c7] at H
              have c7b0 : decide (x3_2 < (a0.size : Int)) = false := decide_eq_false c7
              clear c7
              obtain rfl := Option.some.inj H
              go_wp2
              go_ret
              exact ⟨by first | rfl | (simp; done) | (simp [*]; done), by repeat (first | exact Drawn0.refl _ | apply Drawn0.step)⟩

/-! ### packthreadref_answerFault: function 56 -/
theorem w64n {x : Int} (h : -9223372036854775808 ≤ x) (h' : x ≤ 9223372036854775807) : wrap64 x = x := by unfold wrap64; omega
theorem af_bt (s : ByteArray) (i : Nat) (h : i < s.size) : bt s (i : Int) = ((s[i]'h).toNat : Int) := by
  simp [bt, getElem!_pos, h]
theorem af_two (x : UInt8) : two.data.toList.contains x = (x.toNat == 47 || x.toNat == 0) := by
  show ([47, 0] : List UInt8).contains x = _
  have h1 : (x == 47) = (x.toNat == 47) := by
    rw [Bool.eq_iff_iff, beq_iff_eq, beq_iff_eq]
    exact ⟨fun e => by rw [e]; rfl, fun e => UInt8.toNat_inj.1 e⟩
  have h2 : (x == 0) = (x.toNat == 0) := by
    rw [Bool.eq_iff_iff, beq_iff_eq, beq_iff_eq]
    exact ⟨fun e => by rw [e]; rfl, fun e => UInt8.toNat_inj.1 e⟩
  simp only [List.contains_cons, List.contains_nil, Bool.or_false, h1, h2]
theorem af_mayl (s : ByteArray) (hs : s.size ≤ 16) : ∀ (d k i : Nat), s.size - i = d → i ≤ s.size → d < k → Lib.NoAny s.data.toList two.data.toList i →
    packthreadref_nameMay.l0 k s (i : Int) = some (!Lib.containsAny s.data.toList two.data.toList) := by
  intro d
  induction d with
  | zero =>
    intro k i hd hi hk hn
    obtain ⟨k, rfl⟩ : ∃ m, k = m + 1 := ⟨k - 1, by omega⟩
    rw [packthreadref_nameMay.l0, if_neg (by omega)]
    have he : i = s.data.toList.length := by have := Lib.size_eq s; omega
    unfold Lib.containsAny
    rw [Lib.indexAny_none (he ▸ hn)]
    rfl
  | succ d ih =>
    intro k i hd hi hk hn
    obtain ⟨k, rfl⟩ : ∃ m, k = m + 1 := ⟨k - 1, by omega⟩
    have hlt : i < s.size := by omega
    have hx := Lib.data_getElem? s i hlt
    rw [packthreadref_nameMay.l0, if_pos (by omega), if_pos (by omega), af_bt s i hlt]
    have hc := af_two (s[i]'hlt)
    by_cases h0 : ((s[i]'hlt).toNat : Int) = 0
    · rw [if_pos h0]
      have : two.data.toList.contains (s[i]'hlt) = true := by rw [hc]; simp; omega
      unfold Lib.containsAny
      rw [Lib.indexAny_hit hn hx this, decide_eq_true (by omega)]
      rfl
    · rw [if_neg h0]
      by_cases h1 : ((s[i]'hlt).toNat : Int) = 47
      · rw [if_pos h1]
        have : two.data.toList.contains (s[i]'hlt) = true := by rw [hc]; simp; omega
        unfold Lib.containsAny
        rw [Lib.indexAny_hit hn hx this, decide_eq_true (by omega)]
        rfl
      · rw [if_neg h1]
        have hno : two.data.toList.contains (s[i]'hlt) = false := by
          rw [hc, Bool.or_eq_false_iff, beq_eq_false_iff_ne, beq_eq_false_iff_ne]
          omega
        have e : wrap64 ((i : Int) + 1) = ((i + 1 : Nat) : Int) := by rw [w64n (by omega) (by omega)]; omega
        rw [e]
        exact ih k (i + 1) (by omega) (by omega) (by omega) (hn.succ hx hno)
theorem af_may (s : ByteArray) (k : Nat) (hk : 20 < k) : packthreadref_nameMay.f k s = some (nameB s) := by
  obtain ⟨k, rfl⟩ : ∃ m, k = m + 1 := ⟨k - 1, by omega⟩
  unfold packthreadref_nameMay.f nameB
  by_cases h0 : (s.size : Int) = 0
  · rw [if_pos h0, packthreadref_nameMay.j0, if_pos rfl, decide_eq_false (by omega)]; rfl
  · rw [if_neg h0, decide_eq_true (show 1 ≤ s.size by omega)]
    by_cases h1 : (s.size : Int) > 16
    · rw [if_pos h1, packthreadref_nameMay.j0, if_pos rfl, decide_eq_false (by omega)]; rfl
    · rw [if_neg h1, decide_eq_true (show s.size ≤ 16 by omega)]
      by_cases h2 : s.toList = [46]
      · rw [if_pos h2, packthreadref_nameMay.j0, if_pos rfl, h2]; rfl
      · rw [if_neg h2, packthreadref_nameMay.j0]
        have b2 : (s.toList == [46]) = false := beq_eq_false_iff_ne.2 h2
        rw [b2]
        by_cases h3 : s.toList = [46, 46]
        · rw [h3]; rfl
        · have b3 : (s.toList == [46, 46]) = false := beq_eq_false_iff_ne.2 h3
          rw [b3, if_neg (by simp)]
          have := af_mayl s (by omega) s.size k 0 rfl (by omega) (by omega) (Lib.NoAny.zero _ _)
          rw [show ((0 : Nat) : Int) = 0 from rfl] at this
          rw [this]
          simp
set_option maxHeartbeats 4000000 in
set_option maxRecDepth 100000 in
theorem four2_calls (n : Int) (w : World) : Calls Try.prog 82 #[.int .i64 n] w fun e w' => e = .returned (.bool (Msg.four n)) ∧ w' = w := by
  by_cases h0 : 0 ≤ n
  · have d0 : decide (0 ≤ n) = true := decide_eq_true h0
    have hf : Msg.four n = decide (n ≤ 4294967295) := by unfold Msg.four; rw [d0, Bool.true_and]
    obtain ⟨r, hr⟩ : ∃ r, decide (n ≤ 4294967295) = r := ⟨_, rfl⟩
    rw [hr] at hf
    rw [hf]
    go_enter Try.func82, Try.ntmps82
    go_wp2
    go_ret
    exact ⟨rfl, rfl⟩
  · have d0 : decide (0 ≤ n) = false := decide_eq_false h0
    have hf : Msg.four n = false := by unfold Msg.four; rw [d0]; rfl
    rw [hf]
    go_enter Try.func82, Try.ntmps82
    go_wp2
    go_ret
    exact ⟨rfl, rfl⟩
def rangeP (q : Msg.Rp) : Bool := !Msg.four q.mark || (decide (q.code < 0) || (decide (255 < q.code) || (!Msg.four q.handle || (decide (q.kind < 0) || (decide (255 < q.kind) || !Msg.four q.size)))))
def sizeP (q : Msg.Rp) : Bool := decide (100 < q.data.length) || decide (40 < q.names.length)
/-- What the reference refuses of a reply. -/
def rfaultF (q : Msg.Rp) : Int := if rangeP q = true then 2 else if sizeP q = true then 1 else if q.names.any (fun s => !nameB s) = true then 4 else 0
set_option maxHeartbeats 8000000 in
set_option maxRecDepth 100000 in
theorem rfault_calls (q : Msg.Rp) (w : World) (hdl : q.data.length ≤ 140737488351232) (hnl : q.names.length ≤ 140737488351232) (hnc : q.names.length ≤ q.nc) (hn : Kd.C Kd.string w q.nA q.names.length q.names) :
    Calls Try.prog 56 #[.agg q.cells] w fun e w' => e = .returned (.int .i64 (rfaultF q)) ∧ Below w.heap.size w w' := by
  have hq0 := heap_alloc_new w (.cells q.cells 39)
  have HB := Aside0.mk ((Below.refl _ w).alloc (Nat.le_refl _) (.cells q.cells 39))
  obtain ⟨W1, hW1⟩ : ∃ W, w.alloc (.cells q.cells 39) = W := ⟨_, rfl⟩
  obtain ⟨b1, hb1⟩ : ∃ b, w.heap.size = b := ⟨_, rfl⟩
  have hW1' : w.alloc (.cells #[.int .i64 q.mark, .int .i64 q.code, .int .i64 q.handle, .int .i64 q.kind, .int .i64 q.size, .slice q.dA q.data.length q.dc, .slice q.nA q.names.length q.nc] 39) = W1 := hW1
  rw [hW1] at hq0 HB
  rw [hb1] at hq0
  obtain ⟨hy0, hy1, hy2, hy3, hy4, hy5, hy6⟩ := Msg.seven_cells hq0
  have HN := Aside0.mk (Kd.C_below hn HB.out)
  clear hq0 hW1 hn
  obtain ⟨RES, hRES⟩ : ∃ r, rfaultF q = r := ⟨_, rfl⟩
  rw [hRES]
  have HF1 := Aside0.mk (show RES = if rangeP q = true then 2 else if sizeP q = true then 1 else if q.names.any (fun s => !nameB s) = true then 4 else 0 from hRES.symm)
  clear hRES
  show Calls Try.prog 56 #[.agg #[.int .i64 q.mark, .int .i64 q.code, .int .i64 q.handle, .int .i64 q.kind, .int .i64 q.size, .slice q.dA q.data.length q.dc, .slice q.nA q.names.length q.nc]] w _
  go_enter Try.func56, Try.ntmps56
  go_upto_region 2 with fail
  (try rw [hW1'])
  (try rw [hb1])
  clear hW1' hb1
  by_cases rm : Msg.four q.mark = false
  case pos =>
    have hR : (2 : Int) = RES := by rw [HF1.out]; simp [rangeP, rm]
    clear HF1
    subst hR
    go_wp2_with (first | (go_at_call 82; (try (refine gate_guard (by rfl) ?_; dsimp only)); (first | (with_reducible refine (four2_calls q.mark _).mono ?_) | (with_reducible refine (four2_calls q.handle _).mono ?_) | (with_reducible refine (four2_calls q.size _).mono ?_)); rintro e w_ ⟨rfl, hw_⟩; rw [hw_]; clear hw_; (first | rw [rm] | rw [rn] | rw [rs])))
    go_ret
    exact ⟨rfl, HB.out⟩
  have rm : Msg.four q.mark = true := by cases h : Msg.four q.mark with | true => rfl | false => exact absurd h rm
  by_cases rc0 : q.code < 0
  case pos =>
    have rc0 : decide (q.code < 0) = true := decide_eq_true rc0
    have hR : (2 : Int) = RES := by rw [HF1.out]; simp [rangeP, rm, rc0]
    clear HF1
    subst hR
    go_wp2_with (first | (go_at_call 82; (try (refine gate_guard (by rfl) ?_; dsimp only)); (first | (with_reducible refine (four2_calls q.mark _).mono ?_) | (with_reducible refine (four2_calls q.handle _).mono ?_) | (with_reducible refine (four2_calls q.size _).mono ?_)); rintro e w_ ⟨rfl, hw_⟩; rw [hw_]; clear hw_; (first | rw [rm] | rw [rn] | rw [rs])))
    go_ret
    exact ⟨rfl, HB.out⟩
  have rc0 : decide (q.code < 0) = false := decide_eq_false rc0
  by_cases rc1 : 255 < q.code
  case pos =>
    have rc1 : decide (255 < q.code) = true := decide_eq_true rc1
    have hR : (2 : Int) = RES := by rw [HF1.out]; simp [rangeP, rm, rc0, rc1]
    clear HF1
    subst hR
    go_wp2_with (first | (go_at_call 82; (try (refine gate_guard (by rfl) ?_; dsimp only)); (first | (with_reducible refine (four2_calls q.mark _).mono ?_) | (with_reducible refine (four2_calls q.handle _).mono ?_) | (with_reducible refine (four2_calls q.size _).mono ?_)); rintro e w_ ⟨rfl, hw_⟩; rw [hw_]; clear hw_; (first | rw [rm] | rw [rn] | rw [rs])))
    go_ret
    exact ⟨rfl, HB.out⟩
  have rc1 : decide (255 < q.code) = false := decide_eq_false rc1
  by_cases rn : Msg.four q.handle = false
  case pos =>
    have hR : (2 : Int) = RES := by rw [HF1.out]; simp [rangeP, rm, rc0, rc1, rn]
    clear HF1
    subst hR
    go_wp2_with (first | (go_at_call 82; (try (refine gate_guard (by rfl) ?_; dsimp only)); (first | (with_reducible refine (four2_calls q.mark _).mono ?_) | (with_reducible refine (four2_calls q.handle _).mono ?_) | (with_reducible refine (four2_calls q.size _).mono ?_)); rintro e w_ ⟨rfl, hw_⟩; rw [hw_]; clear hw_; (first | rw [rm] | rw [rn] | rw [rs])))
    go_ret
    exact ⟨rfl, HB.out⟩
  have rn : Msg.four q.handle = true := by cases h : Msg.four q.handle with | true => rfl | false => exact absurd h rn
  by_cases rk0 : q.kind < 0
  case pos =>
    have rk0 : decide (q.kind < 0) = true := decide_eq_true rk0
    have hR : (2 : Int) = RES := by rw [HF1.out]; simp [rangeP, rm, rc0, rc1, rn, rk0]
    clear HF1
    subst hR
    go_wp2_with (first | (go_at_call 82; (try (refine gate_guard (by rfl) ?_; dsimp only)); (first | (with_reducible refine (four2_calls q.mark _).mono ?_) | (with_reducible refine (four2_calls q.handle _).mono ?_) | (with_reducible refine (four2_calls q.size _).mono ?_)); rintro e w_ ⟨rfl, hw_⟩; rw [hw_]; clear hw_; (first | rw [rm] | rw [rn] | rw [rs])))
    go_ret
    exact ⟨rfl, HB.out⟩
  have rk0 : decide (q.kind < 0) = false := decide_eq_false rk0
  by_cases rk1 : 255 < q.kind
  case pos =>
    have rk1 : decide (255 < q.kind) = true := decide_eq_true rk1
    have hR : (2 : Int) = RES := by rw [HF1.out]; simp [rangeP, rm, rc0, rc1, rn, rk0, rk1]
    clear HF1
    subst hR
    go_wp2_with (first | (go_at_call 82; (try (refine gate_guard (by rfl) ?_; dsimp only)); (first | (with_reducible refine (four2_calls q.mark _).mono ?_) | (with_reducible refine (four2_calls q.handle _).mono ?_) | (with_reducible refine (four2_calls q.size _).mono ?_)); rintro e w_ ⟨rfl, hw_⟩; rw [hw_]; clear hw_; (first | rw [rm] | rw [rn] | rw [rs])))
    go_ret
    exact ⟨rfl, HB.out⟩
  have rk1 : decide (255 < q.kind) = false := decide_eq_false rk1
  by_cases rs : Msg.four q.size = false
  case pos =>
    have hR : (2 : Int) = RES := by rw [HF1.out]; simp [rangeP, rm, rc0, rc1, rn, rk0, rk1, rs]
    clear HF1
    subst hR
    go_wp2_with (first | (go_at_call 82; (try (refine gate_guard (by rfl) ?_; dsimp only)); (first | (with_reducible refine (four2_calls q.mark _).mono ?_) | (with_reducible refine (four2_calls q.handle _).mono ?_) | (with_reducible refine (four2_calls q.size _).mono ?_)); rintro e w_ ⟨rfl, hw_⟩; rw [hw_]; clear hw_; (first | rw [rm] | rw [rn] | rw [rs])))
    go_ret
    exact ⟨rfl, HB.out⟩
  have rs : Msg.four q.size = true := by cases h : Msg.four q.size with | true => rfl | false => exact absurd h rs
  have HF2 := Aside0.mk (show RES = if sizeP q = true then 1 else if q.names.any (fun s => !nameB s) = true then 4 else 0 by rw [HF1.out, if_neg (by simp [rangeP, rm, rc0, rc1, rn, rk0, rk1, rs])])
  clear HF1
  go_upto_region 4 with (first | (go_at_call 82; (try (refine gate_guard (by rfl) ?_; dsimp only)); (first | (with_reducible refine (four2_calls q.mark _).mono ?_) | (with_reducible refine (four2_calls q.handle _).mono ?_) | (with_reducible refine (four2_calls q.size _).mono ?_)); rintro e w_ ⟨rfl, hw_⟩; rw [hw_]; clear hw_; (first | rw [rm] | rw [rn] | rw [rs])))
  by_cases z1 : 100 < q.data.length
  · have z1i : decide ((100 : Int) < (q.data.length : Int)) = true := decide_eq_true (by omega)
    have z1n : decide (100 < q.data.length) = true := decide_eq_true z1
    have hR : (1 : Int) = RES := by rw [HF2.out]; simp [sizeP, z1]
    clear HF2
    subst hR
    go_wp2
    go_ret
    exact ⟨rfl, HB.out⟩
  have z1i : decide ((100 : Int) < (q.data.length : Int)) = false := decide_eq_false (by omega)
  have z1n : decide (100 < q.data.length) = false := decide_eq_false z1
  by_cases z2 : 40 < q.names.length
  · have z2i : decide ((40 : Int) < (q.names.length : Int)) = true := decide_eq_true (by omega)
    have z2n : decide (40 < q.names.length) = true := decide_eq_true z2
    have hR : (1 : Int) = RES := by rw [HF2.out]; simp [sizeP, z2]
    clear HF2
    subst hR
    go_wp2
    go_ret
    exact ⟨rfl, HB.out⟩
  have z2i : decide ((40 : Int) < (q.names.length : Int)) = false := decide_eq_false (by omega)
  have z2n : decide (40 < q.names.length) = false := decide_eq_false z2
  have HF3 := Aside0.mk (show RES = if q.names.any (fun s => !nameB s) = true then 4 else 0 by rw [HF2.out, if_neg (by simp [sizeP, z1n, z2n])])
  have HLE := Aside0.mk (show q.names.length ≤ 40 by omega)
  clear HF2 z1 z2
  go_wp2
  go_loopg [58] q.names.length (fun g s58 wx => ∃ i : Nat, i + g = q.names.length ∧ s58 = .int .i64 (i : Int) ∧ Aside0 ((q.names.take i).any (fun s => !nameB s) = false) ∧ Aside0 (Below W1.heap.size W1 wx))
  case atStart => exact ⟨0, by omega, rfl, ⟨rfl⟩, ⟨Below.refl _ _⟩⟩
  case round =>
    obtain ⟨i, hig, rfl, HO, HBx⟩ := hrel
    have HIG := Aside0.mk hig
    cases gk with
    | zero =>
      obtain rfl : i = q.names.length := by omega
      have d1 : decide (((q.names.length : Nat) : Int) < ((q.names.length : Nat) : Int)) = false := decide_eq_false (by omega)
      have ho := HO.out
      rw [List.take_length] at ho
      have hR : (0 : Int) = RES := by rw [HF3.out, ho]; rfl
      clear HF3 ho HO
      subst hR
      go_wp2
      go_ret
      exact ⟨rfl, HB.out.trans (HBx.out.mono HB.out.size)⟩
    | succ g =>
      have hi : i < q.names.length := by omega
      have d1 : decide ((i : Int) < (q.names.length : Int)) = true := decide_eq_true (by omega)
      have d1n : decide (i < q.names.length) = true := decide_eq_true hi
      have p1 : (0 : Int) ≤ (i : Int) := by omega
      have q1 : (i : Int) < (q.names.length : Int) := by omega
      obtain ⟨ad, had, h0⟩ := Kd.at_string (Kd.C_below HN.out HBx.out) (i : Int) p1 q1
      rw [Int.toNat_natCast] at h0
      replace p1 := eq_true p1
      replace q1 := eq_true q1
      have hm0 : rdOf ByteArray.empty q.names (i : Int) = q.names[i] := by simp [rdOf, List.getD_eq_getElem?_getD, List.getElem?_eq_getElem hi]
      have hmem := List.getElem_mem hi
      have hstep : (q.names.take (i + 1)).any (fun s => !nameB s) = !nameB q.names[i] := by
        rw [List.take_succ_eq_append_getElem hi, List.any_append, HO.out]; simp
      obtain ⟨s, hs⟩ : ∃ s, q.names[i] = s := ⟨_, rfl⟩
      rw [hm0, hs] at h0
      rw [hs] at hmem hstep
      have hw4 : wrap64 ((i : Int) + 1) = ((i + 1 : Nat) : Int) := by have := HLE.out; unfold wrap64; omega
      have HST := Aside0.mk hstep
      have HMEM := Aside0.mk hmem
      clear hm0 hmem hstep hs hi hig HO
      go_upto_region 9 with fail
      clear had
      cases hb : nameB s with
      | false =>
        have HHB := Aside0.mk (af_may s 30 (by omega))
        have hR : (4 : Int) = RES := by rw [HF3.out, if_pos (List.any_eq_true.2 ⟨s, HMEM.out, by rw [hb]; rfl⟩)]
        rw [hb] at HHB
        clear HF3 hb
        subst hR
        go_wp2_with (go_at_call 74; (with_reducible refine (packthreadref_nameMay.calls 30 s _ _ HHB.out).mono ?_); rintro e w3 ⟨rfl, hd_⟩; have HB3 := Aside0.mk (HBx.out.trans ((Drawn0.below hd_).mono HBx.out.size)); clear hd_)
        go_ret
        exact ⟨rfl, HB.out.trans (HB3.out.mono HB.out.size)⟩
      | true =>
        have HHB := Aside0.mk (af_may s 30 (by omega))
        rw [hb] at HHB
        have HST2 := Aside0.mk (show (q.names.take (i + 1)).any (fun s => !nameB s) = false by rw [HST.out, hb]; rfl)
        clear hb
        go_wp2_with (go_at_call 74; (with_reducible refine (packthreadref_nameMay.calls 30 s _ _ HHB.out).mono ?_); rintro e w3 ⟨rfl, hd_⟩; have HB3 := Aside0.mk (HBx.out.trans ((Drawn0.below hd_).mono HBx.out.size)); clear hd_)
        go_roundg g
        case measure => omega
        case rel => exact ⟨i + 1, by have := HIG.out; omega, by rw [hw4], HST2, HB3⟩
def packthreadref_answerFault.f (a0 a1 a2 a3 a4 : Int) (l5 : List Int) (l6 : List ByteArray) : Option Int :=
  if l5.length < 140737488351233 ∧ l6.length < 140737488351233 then some (rfaultF ⟨a0, a1, a2, a3, a4, none, l5, 0, none, l6, 0⟩) else none
theorem packthreadref_answerFault.calls (a0 a1 a2 a3 a4 : Int) (A5 : Option Addr) (c5 : Nat) (l5 : List Int) (A6 : Option Addr) (c6 : Nat) (l6 : List ByteArray) (r : Int) (w : World) (hr5 : Kd.C (Kd.int .u8) w A5 l5.length l5) (hc5 : l5.length ≤ c5) (hr6 : Kd.C Kd.string w A6 l6.length l6) (hc6 : l6.length ≤ c6) (h : packthreadref_answerFault.f a0 a1 a2 a3 a4 l5 l6 = some r) :
    Calls Try.prog 56 #[.agg #[.int .i64 a0, .int .i64 a1, .int .i64 a2, .int .i64 a3, .int .i64 a4, .slice A5 l5.length c5, .slice A6 l6.length c6]] w fun e w' => e = .returned (.int .i64 r) ∧ Below w.heap.size w w' := by
  unfold packthreadref_answerFault.f at h
  by_cases hl : l5.length < 140737488351233 ∧ l6.length < 140737488351233
  · rw [if_pos hl] at h
    cases h
    exact rfault_calls ⟨a0, a1, a2, a3, a4, A5, l5, c5, A6, l6, c6⟩ w (by show l5.length ≤ _; omega) (by show l6.length ≤ _; omega) hc6 hr6
  · rw [if_neg hl] at h; cases h

end Go.Proofs.Ytkghoodhgihokaa.HMsgAnswereds
