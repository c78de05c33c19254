/- The contracts of the functions that the law SegDecodes reaches: Go's code comes to what these Lean functions tell (written by a program of ours and the kit's, out of the translation). -/
import Derived.Test.YtjhmjgcebijmiaaHSegDecodesx0
namespace Go.Proofs.Ytjhmjgcebijmiaa.HSegDecodes
open Go.RowKit Go.Proofs.YtjhmjgcebijmiaaW.PrintWords Go.Proofs.YtjhmjgcebijmiaaW.PrintLast Go.Proofs.YtjhmjgcebijmiaaW.PrintMore
attribute [local go_sem] max2_int min2_int max_two min_two max_three min_three max_four min_four   -- for this text's walks alone
set_option linter.unusedVariables false
set_option linter.unusedSimpArgs false

/-! ### slices_Clone_byte_byte: function 53 -/
def slices_Clone_byte_byte.f (l0 : List Int) : Option (List Int) := if l0.length < 140737488355328 then some l0 else none
set_option maxHeartbeats 1000000 in
set_option maxRecDepth 100000 in
theorem slices_Clone_byte_byte.calls (A0 : Option Addr) (c0 : Nat) (l0 : List Int) (r : List Int) (w : World) (hr0 : Kd.C (Kd.int .u8) w A0 l0.length l0) (hc0 : l0.length ≤ c0) (h : slices_Clone_byte_byte.f l0 = some r) :
    Calls Try.prog 53 #[.slice A0 l0.length c0] w fun e w' => ∃ v0_ : Value, e = .returned (v0_) ∧ Kd.R (Kd.int .u8) 5 w' w.heap.size (fun _ => True) v0_ r ∧ Below w.heap.size w w' := by
  have HR0 := Aside0.mk hr0
  have hl : l0.length < 140737488355328 ∧ l0 = r := by
    unfold slices_Clone_byte_byte.f at h
    split at h
    · exact ⟨by assumption, Option.some.inj h⟩
    · cases h
  clear h
  obtain ⟨hl, rfl⟩ := hl
  have HL := Aside0.mk hl
  have HB := Aside0.mk (Below.refl w.heap.size w)
  cases A0 with
  | none =>
    have hn : l0 = [] := by
      have := hr0.2.2
      cases l0 with
      | nil => rfl
      | cons a l => obtain ⟨ad, h, _⟩ := this (by simp); cases h
    subst hn
    clear hr0 hc0 hl
    go_enter Try.func53, Try.ntmps53
    have he := Lib.run_eql_slice_nil (P := Try.prog)
    go_wp2
    go_ret
    exact ⟨_, rfl, Kd.R_nil _ _ _ _ _, HB.out⟩
  | some ad =>
    clear hr0 hc0 hl
    go_enter Try.func53, Try.ntmps53
    have he := Lib.run_eql_slice_nil (P := Try.prog)
    go_wp2_with (first | ((with_reducible refine gate_dst (N := 5) rfl ?_); refine Kd.R_lit (Kd.int .u8) _ 5 ?hg (N := 5) ?hd (xs := ([] : List Int)) (inner := []) (ok := fun _ => True) (okp := fun _ => True) ?hr ?hp (fun _ hk => hk) trivial (Below.refl _ _) (Nat.le_refl _) (by simp) ?_; (case hd => rfl); (case hg => rfl); (case hr => first | (go_simp; done) | (go_simp; rfl)); (case hp => exact (Reps.none _ _)); intro v111 w4 ho5 hb hg_ hnew_; clear hg_ hnew_; have n0_ := Aside0.mk ho5; have n1_ := Aside0.mk hb; clear hb ho5) | ((with_reducible refine gate_builtin (b := .append) (xs := #[.tmp 5, .tmp 6]) rfl ?_); at_builtin; refine Kd.R_append_rows (Kd.int .u8) (w0 := w) w.heap.size rfl (.tmp 5) (.tmp 6) 30 5 (.int .u8 0) 1 rfl Try.underlying30 info5 rfl (by decide) (by omega) v111 [] l0 _ _ _ (fun _ => True) (fun _ => False) rfl rfl ?aO ?aR (fun _ _ h => h) (fun _ h => h.elim) ?aF ?aB ?aS ?aL ?_; (case aR => exact (Kd.C_below HR0.out n1_.out)); (case aB => exact n1_.out); (case aF => exact (fun _ _ => trivial)); (case aO => exact n0_.out); (case aS => exact n1_.out.size); (case aL => have := HL.out; simp; omega); intro v114 w6 ho hb hg hat; have m0_ := Aside0.mk hb; have m1_ := Aside0.mk ho; clear ho hb hg hat))
    go_ret
    exact ⟨_, rfl, m1_.out, m0_.out⟩

/-! ### seg_serial: function 85 -/
def seg_serial.f (a0 : Int) : Option (Bool) := if a0 ≥ 0 then (some (decide (a0 < 65536))) else (some false)
set_option maxHeartbeats 8000000 in
set_option maxRecDepth 100000 in
theorem seg_serial.calls (a0 : Int) (r : Bool) (w : World) (h : seg_serial.f a0 = some r) :
    Calls Try.prog 85 #[.int .i64 a0] w fun e w' => e = .returned (.bool r) ∧ Drawn0 w w' := by
  have H : (if a0 ≥ 0 then (some (decide (a0 < 65536))) else (some false)) = some r := h
  clear h
  by_cases c2 : a0 ≥ 0
  · rw [if_pos c2] at H
    have c2b0 : decide (0 ≤ a0) = true := decide_eq_true c2
    clear c2
    obtain rfl := Option.some.inj H
    go_enter Try.func85, Try.ntmps85
    go_wp2
    go_ret
    exact ⟨by first | rfl | (simp; done) | (simp [*]; done), by repeat (first | exact Drawn0.refl _ | apply Drawn0.step)⟩
  · rw [if_neg c2] at H
    have c2b0 : decide (0 ≤ a0) = false := decide_eq_false c2
    clear c2
    obtain rfl := Option.some.inj H
    go_enter Try.func85, Try.ntmps85
    go_wp2
    go_ret
    exact ⟨by first | rfl | (simp; done) | (simp [*]; done), by repeat (first | exact Drawn0.refl _ | apply Drawn0.step)⟩

-- NOT PRINTED: function 102 (api_Range_102)

-- NOT PRINTED: function 86 (api_Range_86)

/-! ### seg_fault: function 54 -/
def ser (a : Int) : Bool := decide (0 ≤ a ∧ a < 65536)
theorem ser_is (a : Int) : seg_serial.f a = some (ser a) := by
  unfold seg_serial.f ser
  by_cases h : a ≥ 0
  · rw [if_pos h]
    simp [h]
  · rw [if_neg h]
    simp; omega
theorem serial_goes (a : Int) (w : World) : Calls Try.prog 85 #[.int .i64 a] w fun e w' => e = .returned (.bool (ser a)) ∧ Drawn0 w w' := seg_serial.calls a _ w (ser_is a)
/-- One end or the other is none. -/
def odd (r : S54) : Bool := !ser r.f0 || !ser r.f1
set_option maxHeartbeats 2000000 in
set_option maxRecDepth 100000 in
theorem odd_calls (r : S54) (w : World) : Calls Try.prog 84 #[.agg #[.int .i64 r.f0, .int .i64 r.f1]] w fun e w' => e = .returned (.bool (odd r)) ∧ Below w.heap.size w w' := by
  obtain ⟨a, b⟩ := r
  cases h1 : ser a with
  | false =>
    go_enter Try.func84, Try.ntmps84
    go_wp2_with (first | ((with_reducible refine gate_callee (f := 85) rfl ?_); (try (refine gate_guard (by rfl) ?_; dsimp only)); refine goesL_ (some 5) rfl rfl Try.func85 (by kernel_rfl) rfl #[.int .i64 a] rfl (by (try simp only [List.map_toArray, List.map_cons, List.map_nil]); first | done | rfl) ?_; refine (serial_goes a _).mono ?_; rintro e w1 ⟨rfl, ⟨m1, rfl⟩⟩; refine ⟨_, rfl, ?_⟩; rw [h1]))
    go_ret
    exact ⟨by simp [odd, h1], pw_below_drewN (below_alloc (Below.refl _ _) _) m1⟩
  | true =>
    obtain ⟨hb, hh⟩ : ∃ hb, ser b = hb := ⟨_, rfl⟩
    go_enter Try.func84, Try.ntmps84
    go_wp2_with (first | ((with_reducible refine gate_callee (f := 85) rfl ?_); (try (refine gate_guard (by rfl) ?_; dsimp only)); refine goesL_ (some 5) rfl rfl Try.func85 (by kernel_rfl) rfl #[.int .i64 a] rfl (by (try simp only [List.map_toArray, List.map_cons, List.map_nil]); first | done | rfl) ?_; refine (serial_goes a _).mono ?_; rintro e w1 ⟨rfl, ⟨m1, rfl⟩⟩; refine ⟨_, rfl, ?_⟩; rw [h1]) | ((with_reducible refine gate_callee (f := 85) rfl ?_); (try (refine gate_guard (by rfl) ?_; dsimp only)); refine goesL_ (some 10) rfl rfl Try.func85 (by kernel_rfl) rfl #[.int .i64 b] rfl (by (try simp only [List.map_toArray, List.map_cons, List.map_nil]); first | done | rfl) ?_; refine (serial_goes b _).mono ?_; rintro e w1 ⟨rfl, ⟨m2, rfl⟩⟩; refine ⟨_, rfl, ?_⟩; rw [hh]))
    go_ret
    exact ⟨by simp [odd, h1, hh], pw_below_drewN (below_alloc (Below.refl _ _) _) (m1 + m2)⟩
set_option maxHeartbeats 2000000 in
set_option maxRecDepth 100000 in
theorem indexFunc_calls (A : Option Addr) (c : Nat) (l : List S54) (w : World) (hr : Kd.C k54 w A l.length l) (hc : l.length ≤ c) (hl : l.length ≤ 3) :
    Calls Try.prog 102 #[.slice A l.length c, .func (.func 84) #[] #[]] w fun e w' => ∃ i : Int, e = .returned (.int .i64 i) ∧ (0 ≤ i ↔ l.any odd = true) ∧ Below w.heap.size w w' := by
  have HR := Aside0.mk hr
  clear hr
  go_enter Try.func102, Try.ntmps102
  go_wp2
  go_loopw [8] (fun v8 wr => ∃ j : Nat, v8 = .int .i64 (j : Int) ∧ Aside0 (j ≤ l.length) ∧ Aside0 ((l.take j).any odd = false) ∧ Aside0 (Below w.heap.size w wr)) (fun v8 _ => l.length - (intOf v8).toNat)
  case atStart => exact ⟨0, rfl, ⟨Nat.zero_le _⟩, ⟨rfl⟩, ⟨Below.refl _ _⟩⟩
  case round =>
    obtain ⟨j, rfl, HJ, HN, HB⟩ := hrel
    by_cases hj : j < l.length
    · have e1_ : decide ((j : Int) < (l.length : Int)) = true := decide_eq_true (by omega)
      have p1 : (0 : Int) ≤ (j : Int) := by omega
      have q1 : (j : Int) < (l.length : Int) := by omega
      obtain ⟨ad, rfl, h0, h1⟩ := at_T54 (Kd.C_below HR.out HB.out) (j : Int) p1 q1
      rw [Int.toNat_natCast] at h0 h1
      replace p1 := eq_true p1
      replace q1 := eq_true q1
      have hj4 : j ≤ 3 := by omega
      have hm : rd_T54 l (j : Int) = l[j] := by unfold rd_T54; rw [Int.toNat_natCast, List.getD_eq_getElem?_getD, List.getElem?_eq_getElem hj]; rfl
      have hx : (l.take (j + 1)).any odd = ((l.take j).any odd || odd (rd_T54 l (j : Int))) := by rw [List.take_add_one, List.getElem?_eq_getElem hj, Option.toList_some, List.any_append, hm]; simp
      have HX := Aside0.mk hx
      have HM := Aside0.mk hm
      clear hx hm
      cases ho : odd (rd_T54 l (j : Int)) with
      | true =>
        go_wp2_with (first | (go_at_call 84; refine (odd_calls (rd_T54 l (j : Int)) _).mono ?_; rintro e w1 ⟨rfl, hb1⟩; have HB1 := Aside0.mk hb1; clear hb1; rw [ho]))
        go_ret
        refine ⟨_, rfl, ⟨fun _ => List.any_eq_true.2 ⟨l[j], List.getElem_mem hj, by rw [← HM.out]; exact ho⟩, fun _ => by omega⟩, HB.out.trans (HB1.out.mono HB.out.size)⟩
      | false =>
        go_wp2_with (first | (go_at_call 84; refine (odd_calls (rd_T54 l (j : Int)) _).mono ?_; rintro e w1 ⟨rfl, hb1⟩; have HB1 := Aside0.mk hb1; clear hb1; rw [ho]))
        go_roundw
        case measure => simp only [intOf]; omega
        case rel => exact ⟨j + 1, rfl, ⟨by omega⟩, ⟨by rw [HX.out, HN.out, ho]; rfl⟩, ⟨HB.out.trans (HB1.out.mono HB.out.size)⟩⟩
    · have e1_ : decide ((j : Int) < (l.length : Int)) = false := decide_eq_false (by omega)
      have hN := HN.out
      have hJ := HJ.out
      rw [List.take_of_length_le (by omega)] at hN
      go_wp2
      go_ret
      refine ⟨_, rfl, ⟨fun h => absurd h (by decide), fun h => by rw [hN] at h; cases h⟩, HB.out⟩
set_option maxHeartbeats 2000000 in
set_option maxRecDepth 100000 in
theorem containsFunc_calls (A : Option Addr) (c : Nat) (l : List S54) (w : World) (hr : Kd.C k54 w A l.length l) (hc : l.length ≤ c) (hl : l.length ≤ 3) :
    Calls Try.prog 86 #[.slice A l.length c, .func (.func 84) #[] #[]] w fun e w' => e = .returned (.bool (l.any odd)) ∧ Below w.heap.size w w' := by
  have HR := Aside0.mk hr
  clear hr
  obtain ⟨bo, hbo⟩ : ∃ bo, l.any odd = bo := ⟨_, rfl⟩
  go_enter Try.func86, Try.ntmps86
  go_wp2_with (first | ((with_reducible refine gate_callee (f := 102) rfl ?_); refine goesL_ (some 7) rfl rfl Try.func102 (by kernel_rfl) rfl #[.slice A l.length c, .func (.func 84) #[] #[]] rfl (by (try simp only [List.map_toArray, List.map_cons, List.map_nil]); first | done | rfl) ?_; refine (indexFunc_calls A c l _ HR.out hc hl).mono ?_; rintro e w1 ⟨i, rfl, hi, hb⟩; refine ⟨_, rfl, ?_⟩; have HB1 := Aside0.mk hb; have HI := Aside0.mk hi; clear hi hb; obtain ⟨hd, hhd⟩ : ∃ hd, decide (0 ≤ i) = hd := ⟨_, rfl⟩))
  go_ret
  have e : hd = l.any odd := by
    rw [← hhd]
    cases hv : l.any odd with
    | true => exact decide_eq_true (HI.out.2 hv)
    | false => exact decide_eq_false (fun h => by have := HI.out.1 h; rw [hv] at this; cases this)
  exact ⟨by rw [← e]; rfl, HB1.out⟩
/-- What is refused of a segment. -/
def seg_fault.f (a0 a1 a2 : Int) (a6 : Bool) (l7 : List S54) (l8 : List Int) : Int :=
  if ser a0 = true ∧ ser a1 = true ∧ 0 ≤ a2 ∧ a2 ≤ 65535 then
    (if l7.length > 3 ∨ l8.length > 64 then 1 else (if l7.any odd = true then 2 else (if a6 = false ∧ (a1 ≠ 0 ∨ a2 ≠ 0 ∨ 0 < l7.length) then 4 else 0)))
  else 2
set_option maxHeartbeats 4000000 in
set_option maxRecDepth 100000 in
theorem seg_fault.calls (a0 a1 a2 : Int) (a3 a4 a5 a6 : Bool) (A7 : Option Addr) (c7 : Nat) (l7 : List S54) (A8 : Option Addr) (c8 : Nat) (l8 : List Int) (w : World) (hr7 : Kd.C k54 w A7 l7.length l7) (hc7 : l7.length ≤ c7) :
    Calls Try.prog 54 #[.agg #[.int .i64 a0, .int .i64 a1, .int .i64 a2, .bool a3, .bool a4, .bool a5, .bool a6, .slice A7 l7.length c7, .slice A8 l8.length c8]] w fun e w' => e = .returned (.int .i64 (seg_fault.f a0 a1 a2 a6 l7 l8)) ∧ Below w.heap.size w w' := by
  have HR7 := Aside0.mk hr7
  have HC7 := Aside0.mk hc7
  clear hr7 hc7
  unfold seg_fault.f
  cases s0 : ser a0 with
  | false =>
    rw [if_neg (by simp)]
    go_enter Try.func54, Try.ntmps54
    go_wp2_with (first | ((with_reducible refine gate_callee (f := 85) rfl ?_); (try (refine gate_guard (by rfl) ?_; dsimp only)); refine goesL_ (some 7) rfl rfl Try.func85 (by kernel_rfl) rfl #[.int .i64 a0] rfl (by (try simp only [List.map_toArray, List.map_cons, List.map_nil]); first | done | rfl) ?_; refine (serial_goes a0 _).mono ?_; rintro e w1 ⟨rfl, ⟨m1, rfl⟩⟩; refine ⟨_, rfl, ?_⟩; rw [s0]))
    go_ret
    exact ⟨by first | rfl | (simp; done), (by repeat (first | exact Below.refl _ _ | apply pw_below_drewN | apply below_alloc))⟩
  | true =>
    cases s1 : ser a1 with
    | false =>
      rw [if_neg (by simp)]
      go_enter Try.func54, Try.ntmps54
      go_wp2_with (first | ((with_reducible refine gate_callee (f := 85) rfl ?_); (try (refine gate_guard (by rfl) ?_; dsimp only)); refine goesL_ (some 7) rfl rfl Try.func85 (by kernel_rfl) rfl #[.int .i64 a0] rfl (by (try simp only [List.map_toArray, List.map_cons, List.map_nil]); first | done | rfl) ?_; refine (serial_goes a0 _).mono ?_; rintro e w1 ⟨rfl, ⟨m1, rfl⟩⟩; refine ⟨_, rfl, ?_⟩; rw [s0]) | ((with_reducible refine gate_callee (f := 85) rfl ?_); (try (refine gate_guard (by rfl) ?_; dsimp only)); refine goesL_ (some 12) rfl rfl Try.func85 (by kernel_rfl) rfl #[.int .i64 a1] rfl (by (try simp only [List.map_toArray, List.map_cons, List.map_nil]); first | done | rfl) ?_; refine (serial_goes a1 _).mono ?_; rintro e w1 ⟨rfl, ⟨m2, rfl⟩⟩; refine ⟨_, rfl, ?_⟩; rw [s1]))
      go_ret
      exact ⟨by first | rfl | (simp; done), (by repeat (first | exact Below.refl _ _ | apply pw_below_drewN | apply below_alloc))⟩
    | true =>
      by_cases h2 : a2 < 0
      · rw [if_neg (by omega)]
        have d1_ : decide (a2 < 0) = true := decide_eq_true h2
        go_enter Try.func54, Try.ntmps54
        go_wp2_with (first | ((with_reducible refine gate_callee (f := 85) rfl ?_); (try (refine gate_guard (by rfl) ?_; dsimp only)); refine goesL_ (some 7) rfl rfl Try.func85 (by kernel_rfl) rfl #[.int .i64 a0] rfl (by (try simp only [List.map_toArray, List.map_cons, List.map_nil]); first | done | rfl) ?_; refine (serial_goes a0 _).mono ?_; rintro e w1 ⟨rfl, ⟨m1, rfl⟩⟩; refine ⟨_, rfl, ?_⟩; rw [s0]) | ((with_reducible refine gate_callee (f := 85) rfl ?_); (try (refine gate_guard (by rfl) ?_; dsimp only)); refine goesL_ (some 12) rfl rfl Try.func85 (by kernel_rfl) rfl #[.int .i64 a1] rfl (by (try simp only [List.map_toArray, List.map_cons, List.map_nil]); first | done | rfl) ?_; refine (serial_goes a1 _).mono ?_; rintro e w1 ⟨rfl, ⟨m2, rfl⟩⟩; refine ⟨_, rfl, ?_⟩; rw [s1]))
        go_ret
        exact ⟨by first | rfl | (simp; done), (by repeat (first | exact Below.refl _ _ | apply pw_below_drewN | apply below_alloc))⟩
      · have d1_ : decide (a2 < 0) = false := decide_eq_false h2
        by_cases h3 : 65535 < a2
        · rw [if_neg (by omega)]
          have d2_ : decide (65535 < a2) = true := decide_eq_true h3
          go_enter Try.func54, Try.ntmps54
          go_wp2_with (first | ((with_reducible refine gate_callee (f := 85) rfl ?_); (try (refine gate_guard (by rfl) ?_; dsimp only)); refine goesL_ (some 7) rfl rfl Try.func85 (by kernel_rfl) rfl #[.int .i64 a0] rfl (by (try simp only [List.map_toArray, List.map_cons, List.map_nil]); first | done | rfl) ?_; refine (serial_goes a0 _).mono ?_; rintro e w1 ⟨rfl, ⟨m1, rfl⟩⟩; refine ⟨_, rfl, ?_⟩; rw [s0]) | ((with_reducible refine gate_callee (f := 85) rfl ?_); (try (refine gate_guard (by rfl) ?_; dsimp only)); refine goesL_ (some 12) rfl rfl Try.func85 (by kernel_rfl) rfl #[.int .i64 a1] rfl (by (try simp only [List.map_toArray, List.map_cons, List.map_nil]); first | done | rfl) ?_; refine (serial_goes a1 _).mono ?_; rintro e w1 ⟨rfl, ⟨m2, rfl⟩⟩; refine ⟨_, rfl, ?_⟩; rw [s1]))
          go_ret
          exact ⟨by first | rfl | (simp; done), (by repeat (first | exact Below.refl _ _ | apply pw_below_drewN | apply below_alloc))⟩
        · have d2_ : decide (65535 < a2) = false := decide_eq_false h3
          rw [if_pos ⟨rfl, rfl, by omega, by omega⟩]
          by_cases h7 : 3 < l7.length
          · rw [if_pos (.inl h7)]
            have d3_ : decide (3 < (l7.length : Int)) = true := decide_eq_true (by omega)
            have d3n_ : decide (3 < l7.length) = true := decide_eq_true h7
            go_enter Try.func54, Try.ntmps54
            go_wp2_with (first | ((with_reducible refine gate_callee (f := 85) rfl ?_); (try (refine gate_guard (by rfl) ?_; dsimp only)); refine goesL_ (some 7) rfl rfl Try.func85 (by kernel_rfl) rfl #[.int .i64 a0] rfl (by (try simp only [List.map_toArray, List.map_cons, List.map_nil]); first | done | rfl) ?_; refine (serial_goes a0 _).mono ?_; rintro e w1 ⟨rfl, ⟨m1, rfl⟩⟩; refine ⟨_, rfl, ?_⟩; rw [s0]) | ((with_reducible refine gate_callee (f := 85) rfl ?_); (try (refine gate_guard (by rfl) ?_; dsimp only)); refine goesL_ (some 12) rfl rfl Try.func85 (by kernel_rfl) rfl #[.int .i64 a1] rfl (by (try simp only [List.map_toArray, List.map_cons, List.map_nil]); first | done | rfl) ?_; refine (serial_goes a1 _).mono ?_; rintro e w1 ⟨rfl, ⟨m2, rfl⟩⟩; refine ⟨_, rfl, ?_⟩; rw [s1]))
            go_ret
            exact ⟨by first | rfl | (simp; done), (by repeat (first | exact Below.refl _ _ | apply pw_below_drewN | apply below_alloc))⟩
          · have d3_ : decide (3 < (l7.length : Int)) = false := decide_eq_false (by omega)
            have d3n_ : decide (3 < l7.length) = false := decide_eq_false h7
            have h73 : l7.length ≤ 3 := by omega
            by_cases h8 : 64 < l8.length
            · rw [if_pos (.inr h8)]
              have d4_ : decide (64 < (l8.length : Int)) = true := decide_eq_true (by omega)
              have d4n_ : decide (64 < l8.length) = true := decide_eq_true h8
              go_enter Try.func54, Try.ntmps54
              go_wp2_with (first | ((with_reducible refine gate_callee (f := 85) rfl ?_); (try (refine gate_guard (by rfl) ?_; dsimp only)); refine goesL_ (some 7) rfl rfl Try.func85 (by kernel_rfl) rfl #[.int .i64 a0] rfl (by (try simp only [List.map_toArray, List.map_cons, List.map_nil]); first | done | rfl) ?_; refine (serial_goes a0 _).mono ?_; rintro e w1 ⟨rfl, ⟨m1, rfl⟩⟩; refine ⟨_, rfl, ?_⟩; rw [s0]) | ((with_reducible refine gate_callee (f := 85) rfl ?_); (try (refine gate_guard (by rfl) ?_; dsimp only)); refine goesL_ (some 12) rfl rfl Try.func85 (by kernel_rfl) rfl #[.int .i64 a1] rfl (by (try simp only [List.map_toArray, List.map_cons, List.map_nil]); first | done | rfl) ?_; refine (serial_goes a1 _).mono ?_; rintro e w1 ⟨rfl, ⟨m2, rfl⟩⟩; refine ⟨_, rfl, ?_⟩; rw [s1]))
              go_ret
              exact ⟨by first | rfl | (simp; done), (by repeat (first | exact Below.refl _ _ | apply pw_below_drewN | apply below_alloc))⟩
            · have d4_ : decide (64 < (l8.length : Int)) = false := decide_eq_false (by omega)
              have d4n_ : decide (64 < l8.length) = false := decide_eq_false h8
              rw [if_neg (by omega)]
              cases hodd : l7.any odd with
              | true =>
                rw [if_pos rfl]
                go_enter Try.func54, Try.ntmps54
                go_wp2_with (first | ((with_reducible refine gate_callee (f := 85) rfl ?_); (try (refine gate_guard (by rfl) ?_; dsimp only)); refine goesL_ (some 7) rfl rfl Try.func85 (by kernel_rfl) rfl #[.int .i64 a0] rfl (by (try simp only [List.map_toArray, List.map_cons, List.map_nil]); first | done | rfl) ?_; refine (serial_goes a0 _).mono ?_; rintro e w1 ⟨rfl, ⟨m1, rfl⟩⟩; refine ⟨_, rfl, ?_⟩; rw [s0]) | ((with_reducible refine gate_callee (f := 85) rfl ?_); (try (refine gate_guard (by rfl) ?_; dsimp only)); refine goesL_ (some 12) rfl rfl Try.func85 (by kernel_rfl) rfl #[.int .i64 a1] rfl (by (try simp only [List.map_toArray, List.map_cons, List.map_nil]); first | done | rfl) ?_; refine (serial_goes a1 _).mono ?_; rintro e w1 ⟨rfl, ⟨m2, rfl⟩⟩; refine ⟨_, rfl, ?_⟩; rw [s1]) | ((with_reducible refine gate_callee (f := 86) rfl ?_); refine goesL_ (some 40) rfl rfl Try.func86 (by kernel_rfl) rfl #[.slice A7 l7.length c7, .func (.func 84) #[] #[]] rfl (by (try simp only [List.map_toArray, List.map_cons, List.map_nil]); first | done | rfl) ?_; refine (containsFunc_calls A7 c7 l7 _ (Kd.C_below HR7.out (by repeat (first | exact Below.refl _ _ | apply pw_below_drewN | apply below_alloc))) HC7.out h73).mono ?_; rintro e w2 ⟨rfl, hb2⟩; refine ⟨_, rfl, ?_⟩; have HB2 := Aside0.mk hb2; clear hb2; rw [hodd]))
                go_ret
                exact ⟨by first | rfl | (simp; done), below_step (by repeat (first | exact Below.refl _ _ | apply pw_below_drewN | apply below_alloc)) HB2.out⟩
              | false =>
                rw [if_neg (by simp)]
                cases a6 with
                | true =>
                  rw [if_neg (by simp)]
                  go_enter Try.func54, Try.ntmps54
                  go_wp2_with (first | ((with_reducible refine gate_callee (f := 85) rfl ?_); (try (refine gate_guard (by rfl) ?_; dsimp only)); refine goesL_ (some 7) rfl rfl Try.func85 (by kernel_rfl) rfl #[.int .i64 a0] rfl (by (try simp only [List.map_toArray, List.map_cons, List.map_nil]); first | done | rfl) ?_; refine (serial_goes a0 _).mono ?_; rintro e w1 ⟨rfl, ⟨m1, rfl⟩⟩; refine ⟨_, rfl, ?_⟩; rw [s0]) | ((with_reducible refine gate_callee (f := 85) rfl ?_); (try (refine gate_guard (by rfl) ?_; dsimp only)); refine goesL_ (some 12) rfl rfl Try.func85 (by kernel_rfl) rfl #[.int .i64 a1] rfl (by (try simp only [List.map_toArray, List.map_cons, List.map_nil]); first | done | rfl) ?_; refine (serial_goes a1 _).mono ?_; rintro e w1 ⟨rfl, ⟨m2, rfl⟩⟩; refine ⟨_, rfl, ?_⟩; rw [s1]) | ((with_reducible refine gate_callee (f := 86) rfl ?_); refine goesL_ (some 40) rfl rfl Try.func86 (by kernel_rfl) rfl #[.slice A7 l7.length c7, .func (.func 84) #[] #[]] rfl (by (try simp only [List.map_toArray, List.map_cons, List.map_nil]); first | done | rfl) ?_; refine (containsFunc_calls A7 c7 l7 _ (Kd.C_below HR7.out (by repeat (first | exact Below.refl _ _ | apply pw_below_drewN | apply below_alloc))) HC7.out h73).mono ?_; rintro e w2 ⟨rfl, hb2⟩; refine ⟨_, rfl, ?_⟩; have hbk := blk_below (g := w.heap.size) (o := .cells #[.int .i64 a0, .int .i64 a1, .int .i64 a2, .bool a3, .bool a4, .bool a5, .bool true, .slice A7 l7.length c7, .slice A8 l8.length c8] 48 (0, 0)) (by (with_reducible repeat (first | refine blk_drewN ?_ _ | refine blk_drew ?_ | exact heap_alloc_new w _ | refine blk_alloc ?_ _)); try exact heap_alloc_new w _) hb2; have hz1 : w2.cell? ⟨w.heap.size, 1, none⟩ = some (.int .i64 a1) := (blk_cell hbk 1).trans rfl; have hz2 : w2.cell? ⟨w.heap.size, 2, none⟩ = some (.int .i64 a2) := (blk_cell hbk 2).trans rfl; have hz6 : w2.cell? ⟨w.heap.size, 6, none⟩ = some (.bool true) := (blk_cell hbk 6).trans rfl; have hz7 : w2.cell? ⟨w.heap.size, 7, none⟩ = some (.slice A7 l7.length c7) := (blk_cell hbk 7).trans rfl; have HB2 := Aside0.mk hb2; clear hb2; rw [hodd]))
                  go_ret
                  exact ⟨by first | rfl | (simp; done), below_step (by repeat (first | exact Below.refl _ _ | apply pw_below_drewN | apply below_alloc)) HB2.out⟩
                | false =>
                  by_cases h1 : a1 = 0
                  · subst h1
                    by_cases h2' : a2 = 0
                    · subst h2'
                      by_cases hl : 0 < l7.length
                      · rw [if_pos ⟨rfl, .inr (.inr hl)⟩]
                        have e3_ : decide (0 < (l7.length : Int)) = true := decide_eq_true (by omega)
                        go_enter Try.func54, Try.ntmps54
                        go_wp2_with (first | ((with_reducible refine gate_callee (f := 85) rfl ?_); (try (refine gate_guard (by rfl) ?_; dsimp only)); refine goesL_ (some 7) rfl rfl Try.func85 (by kernel_rfl) rfl #[.int .i64 a0] rfl (by (try simp only [List.map_toArray, List.map_cons, List.map_nil]); first | done | rfl) ?_; refine (serial_goes a0 _).mono ?_; rintro e w1 ⟨rfl, ⟨m1, rfl⟩⟩; refine ⟨_, rfl, ?_⟩; rw [s0]) | ((with_reducible refine gate_callee (f := 85) rfl ?_); (try (refine gate_guard (by rfl) ?_; dsimp only)); refine goesL_ (some 12) rfl rfl Try.func85 (by kernel_rfl) rfl #[.int .i64 0] rfl (by (try simp only [List.map_toArray, List.map_cons, List.map_nil]); first | done | rfl) ?_; refine (serial_goes 0 _).mono ?_; rintro e w1 ⟨rfl, ⟨m2, rfl⟩⟩; refine ⟨_, rfl, ?_⟩; rw [s1]) | ((with_reducible refine gate_callee (f := 86) rfl ?_); refine goesL_ (some 40) rfl rfl Try.func86 (by kernel_rfl) rfl #[.slice A7 l7.length c7, .func (.func 84) #[] #[]] rfl (by (try simp only [List.map_toArray, List.map_cons, List.map_nil]); first | done | rfl) ?_; refine (containsFunc_calls A7 c7 l7 _ (Kd.C_below HR7.out (by repeat (first | exact Below.refl _ _ | apply pw_below_drewN | apply below_alloc))) HC7.out h73).mono ?_; rintro e w2 ⟨rfl, hb2⟩; refine ⟨_, rfl, ?_⟩; have hbk := blk_below (g := w.heap.size) (o := .cells #[.int .i64 a0, .int .i64 0, .int .i64 0, .bool a3, .bool a4, .bool a5, .bool false, .slice A7 l7.length c7, .slice A8 l8.length c8] 48 (0, 0)) (by (with_reducible repeat (first | refine blk_drewN ?_ _ | refine blk_drew ?_ | exact heap_alloc_new w _ | refine blk_alloc ?_ _)); try exact heap_alloc_new w _) hb2; have hz1 : w2.cell? ⟨w.heap.size, 1, none⟩ = some (.int .i64 0) := (blk_cell hbk 1).trans rfl; have hz2 : w2.cell? ⟨w.heap.size, 2, none⟩ = some (.int .i64 0) := (blk_cell hbk 2).trans rfl; have hz6 : w2.cell? ⟨w.heap.size, 6, none⟩ = some (.bool false) := (blk_cell hbk 6).trans rfl; have hz7 : w2.cell? ⟨w.heap.size, 7, none⟩ = some (.slice A7 l7.length c7) := (blk_cell hbk 7).trans rfl; have HB2 := Aside0.mk hb2; clear hb2; rw [hodd]))
                        go_ret
                        exact ⟨by first | rfl | (simp; done), below_step (by repeat (first | exact Below.refl _ _ | apply pw_below_drewN | apply below_alloc)) HB2.out⟩
                      · rw [if_neg (fun h => by rcases h.2 with h | h | h <;> contradiction)]
                        have e3_ : decide (0 < (l7.length : Int)) = false := decide_eq_false (by omega)
                        go_enter Try.func54, Try.ntmps54
                        go_wp2_with (first | ((with_reducible refine gate_callee (f := 85) rfl ?_); (try (refine gate_guard (by rfl) ?_; dsimp only)); refine goesL_ (some 7) rfl rfl Try.func85 (by kernel_rfl) rfl #[.int .i64 a0] rfl (by (try simp only [List.map_toArray, List.map_cons, List.map_nil]); first | done | rfl) ?_; refine (serial_goes a0 _).mono ?_; rintro e w1 ⟨rfl, ⟨m1, rfl⟩⟩; refine ⟨_, rfl, ?_⟩; rw [s0]) | ((with_reducible refine gate_callee (f := 85) rfl ?_); (try (refine gate_guard (by rfl) ?_; dsimp only)); refine goesL_ (some 12) rfl rfl Try.func85 (by kernel_rfl) rfl #[.int .i64 0] rfl (by (try simp only [List.map_toArray, List.map_cons, List.map_nil]); first | done | rfl) ?_; refine (serial_goes 0 _).mono ?_; rintro e w1 ⟨rfl, ⟨m2, rfl⟩⟩; refine ⟨_, rfl, ?_⟩; rw [s1]) | ((with_reducible refine gate_callee (f := 86) rfl ?_); refine goesL_ (some 40) rfl rfl Try.func86 (by kernel_rfl) rfl #[.slice A7 l7.length c7, .func (.func 84) #[] #[]] rfl (by (try simp only [List.map_toArray, List.map_cons, List.map_nil]); first | done | rfl) ?_; refine (containsFunc_calls A7 c7 l7 _ (Kd.C_below HR7.out (by repeat (first | exact Below.refl _ _ | apply pw_below_drewN | apply below_alloc))) HC7.out h73).mono ?_; rintro e w2 ⟨rfl, hb2⟩; refine ⟨_, rfl, ?_⟩; have hbk := blk_below (g := w.heap.size) (o := .cells #[.int .i64 a0, .int .i64 0, .int .i64 0, .bool a3, .bool a4, .bool a5, .bool false, .slice A7 l7.length c7, .slice A8 l8.length c8] 48 (0, 0)) (by (with_reducible repeat (first | refine blk_drewN ?_ _ | refine blk_drew ?_ | exact heap_alloc_new w _ | refine blk_alloc ?_ _)); try exact heap_alloc_new w _) hb2; have hz1 : w2.cell? ⟨w.heap.size, 1, none⟩ = some (.int .i64 0) := (blk_cell hbk 1).trans rfl; have hz2 : w2.cell? ⟨w.heap.size, 2, none⟩ = some (.int .i64 0) := (blk_cell hbk 2).trans rfl; have hz6 : w2.cell? ⟨w.heap.size, 6, none⟩ = some (.bool false) := (blk_cell hbk 6).trans rfl; have hz7 : w2.cell? ⟨w.heap.size, 7, none⟩ = some (.slice A7 l7.length c7) := (blk_cell hbk 7).trans rfl; have HB2 := Aside0.mk hb2; clear hb2; rw [hodd]))
                        go_ret
                        exact ⟨by first | rfl | (simp; done), below_step (by repeat (first | exact Below.refl _ _ | apply pw_below_drewN | apply below_alloc)) HB2.out⟩
                    · rw [if_pos ⟨rfl, .inr (.inl h2')⟩]
                      have e2_ : (a2 != 0) = true := bne_iff_ne.2 h2'
                      have e2b_ : (a2 == 0) = false := beq_eq_false_iff_ne.2 h2'
                      go_enter Try.func54, Try.ntmps54
                      go_wp2_with (first | ((with_reducible refine gate_callee (f := 85) rfl ?_); (try (refine gate_guard (by rfl) ?_; dsimp only)); refine goesL_ (some 7) rfl rfl Try.func85 (by kernel_rfl) rfl #[.int .i64 a0] rfl (by (try simp only [List.map_toArray, List.map_cons, List.map_nil]); first | done | rfl) ?_; refine (serial_goes a0 _).mono ?_; rintro e w1 ⟨rfl, ⟨m1, rfl⟩⟩; refine ⟨_, rfl, ?_⟩; rw [s0]) | ((with_reducible refine gate_callee (f := 85) rfl ?_); (try (refine gate_guard (by rfl) ?_; dsimp only)); refine goesL_ (some 12) rfl rfl Try.func85 (by kernel_rfl) rfl #[.int .i64 0] rfl (by (try simp only [List.map_toArray, List.map_cons, List.map_nil]); first | done | rfl) ?_; refine (serial_goes 0 _).mono ?_; rintro e w1 ⟨rfl, ⟨m2, rfl⟩⟩; refine ⟨_, rfl, ?_⟩; rw [s1]) | ((with_reducible refine gate_callee (f := 86) rfl ?_); refine goesL_ (some 40) rfl rfl Try.func86 (by kernel_rfl) rfl #[.slice A7 l7.length c7, .func (.func 84) #[] #[]] rfl (by (try simp only [List.map_toArray, List.map_cons, List.map_nil]); first | done | rfl) ?_; refine (containsFunc_calls A7 c7 l7 _ (Kd.C_below HR7.out (by repeat (first | exact Below.refl _ _ | apply pw_below_drewN | apply below_alloc))) HC7.out h73).mono ?_; rintro e w2 ⟨rfl, hb2⟩; refine ⟨_, rfl, ?_⟩; have hbk := blk_below (g := w.heap.size) (o := .cells #[.int .i64 a0, .int .i64 0, .int .i64 a2, .bool a3, .bool a4, .bool a5, .bool false, .slice A7 l7.length c7, .slice A8 l8.length c8] 48 (0, 0)) (by (with_reducible repeat (first | refine blk_drewN ?_ _ | refine blk_drew ?_ | exact heap_alloc_new w _ | refine blk_alloc ?_ _)); try exact heap_alloc_new w _) hb2; have hz1 : w2.cell? ⟨w.heap.size, 1, none⟩ = some (.int .i64 0) := (blk_cell hbk 1).trans rfl; have hz2 : w2.cell? ⟨w.heap.size, 2, none⟩ = some (.int .i64 a2) := (blk_cell hbk 2).trans rfl; have hz6 : w2.cell? ⟨w.heap.size, 6, none⟩ = some (.bool false) := (blk_cell hbk 6).trans rfl; have hz7 : w2.cell? ⟨w.heap.size, 7, none⟩ = some (.slice A7 l7.length c7) := (blk_cell hbk 7).trans rfl; have HB2 := Aside0.mk hb2; clear hb2; rw [hodd]))
                      go_ret
                      exact ⟨by first | rfl | (simp; done), below_step (by repeat (first | exact Below.refl _ _ | apply pw_below_drewN | apply below_alloc)) HB2.out⟩
                  · rw [if_pos ⟨rfl, .inl h1⟩]
                    have e1_ : (a1 != 0) = true := bne_iff_ne.2 h1
                    have e1b_ : (a1 == 0) = false := beq_eq_false_iff_ne.2 h1
                    go_enter Try.func54, Try.ntmps54
                    go_wp2_with (first | ((with_reducible refine gate_callee (f := 85) rfl ?_); (try (refine gate_guard (by rfl) ?_; dsimp only)); refine goesL_ (some 7) rfl rfl Try.func85 (by kernel_rfl) rfl #[.int .i64 a0] rfl (by (try simp only [List.map_toArray, List.map_cons, List.map_nil]); first | done | rfl) ?_; refine (serial_goes a0 _).mono ?_; rintro e w1 ⟨rfl, ⟨m1, rfl⟩⟩; refine ⟨_, rfl, ?_⟩; rw [s0]) | ((with_reducible refine gate_callee (f := 85) rfl ?_); (try (refine gate_guard (by rfl) ?_; dsimp only)); refine goesL_ (some 12) rfl rfl Try.func85 (by kernel_rfl) rfl #[.int .i64 a1] rfl (by (try simp only [List.map_toArray, List.map_cons, List.map_nil]); first | done | rfl) ?_; refine (serial_goes a1 _).mono ?_; rintro e w1 ⟨rfl, ⟨m2, rfl⟩⟩; refine ⟨_, rfl, ?_⟩; rw [s1]) | ((with_reducible refine gate_callee (f := 86) rfl ?_); refine goesL_ (some 40) rfl rfl Try.func86 (by kernel_rfl) rfl #[.slice A7 l7.length c7, .func (.func 84) #[] #[]] rfl (by (try simp only [List.map_toArray, List.map_cons, List.map_nil]); first | done | rfl) ?_; refine (containsFunc_calls A7 c7 l7 _ (Kd.C_below HR7.out (by repeat (first | exact Below.refl _ _ | apply pw_below_drewN | apply below_alloc))) HC7.out h73).mono ?_; rintro e w2 ⟨rfl, hb2⟩; refine ⟨_, rfl, ?_⟩; have hbk := blk_below (g := w.heap.size) (o := .cells #[.int .i64 a0, .int .i64 a1, .int .i64 a2, .bool a3, .bool a4, .bool a5, .bool false, .slice A7 l7.length c7, .slice A8 l8.length c8] 48 (0, 0)) (by (with_reducible repeat (first | refine blk_drewN ?_ _ | refine blk_drew ?_ | exact heap_alloc_new w _ | refine blk_alloc ?_ _)); try exact heap_alloc_new w _) hb2; have hz1 : w2.cell? ⟨w.heap.size, 1, none⟩ = some (.int .i64 a1) := (blk_cell hbk 1).trans rfl; have hz2 : w2.cell? ⟨w.heap.size, 2, none⟩ = some (.int .i64 a2) := (blk_cell hbk 2).trans rfl; have hz6 : w2.cell? ⟨w.heap.size, 6, none⟩ = some (.bool false) := (blk_cell hbk 6).trans rfl; have hz7 : w2.cell? ⟨w.heap.size, 7, none⟩ = some (.slice A7 l7.length c7) := (blk_cell hbk 7).trans rfl; have HB2 := Aside0.mk hb2; clear hb2; rw [hodd]))
                    go_ret
                    exact ⟨by first | rfl | (simp; done), below_step (by repeat (first | exact Below.refl _ _ | apply pw_below_drewN | apply below_alloc)) HB2.out⟩

/-! ### seg_flags: function 56 -/
def seg_flags.T1 : Bool × List (List Nat × List Nat) := (true, [([], []), ([0], [0]), ([1], [1]), ([], []), ([3], [3]), ([4], [4]), ([], []), ([6], [6]), ([7], [7]), ([], []), ([9], [9]), ([10], [10]), ([2, 5, 8, 11], [2, 5, 8, 11]), ([12, 0, 1, 2, 3, 4, 5, 6, 7, 8, 9, 10, 11, 12], [12])])
def seg_flags.B1 : List Nat := [0, 1, 3, 0, 8, 24, 0, 64, 192, 0, 512, 1536, 4095, 8191]
theorem seg_flags.tab1 : rtab .any (opsOf Try.f56 1) = seg_flags.T1 := by kernel_rfl
theorem seg_flags.bits1 : waitsOk seg_flags.T1.2 seg_flags.B1 = true := by kernel_rfl
theorem set_four {W : World} {g : Nat} {t : TypeId} {a b c d a' b' c' d' : Value} (h : W.heap[g]? = some (.cells #[a, b, c, d] t (0, 0))) : ((((W.setCell ⟨g, 0, none⟩ a').setCell ⟨g, 1, none⟩ b').setCell ⟨g, 2, none⟩ c').setCell ⟨g, 3, none⟩ d').heap[g]? = some (.cells #[a', b', c', d'] t (0, 0)) := by
  have h1 : (W.setCell ⟨g, 0, none⟩ a').heap[g]? = some (.cells #[a', b, c, d] t (0, 0)) := by simpa using blk_set h 0 a'
  have h2 : ((W.setCell ⟨g, 0, none⟩ a').setCell ⟨g, 1, none⟩ b').heap[g]? = some (.cells #[a', b', c, d] t (0, 0)) := by simpa using blk_set h1 1 b'
  have h3 : (((W.setCell ⟨g, 0, none⟩ a').setCell ⟨g, 1, none⟩ b').setCell ⟨g, 2, none⟩ c').heap[g]? = some (.cells #[a', b', c', d] t (0, 0)) := by simpa using blk_set h2 2 c'
  simpa using blk_set h3 3 d'
set_option maxHeartbeats 4000000 in
set_option maxRecDepth 100000 in
theorem seg_flags.calls (g : Nat) (w : World) : Calls Try.prog 56 #[.pointer (some ⟨g, 0, none⟩)] w fun e w' => e = .returned (.agg #[.pointer (some ⟨g, 3, none⟩), .pointer (some ⟨g, 4, none⟩), .pointer (some ⟨g, 5, none⟩), .pointer (some ⟨g, 6, none⟩)]) ∧ Below w.heap.size w w' := by
  go_enter Try.func56, Try.ntmps56
  go_upto_region 1 with (fail)
  obtain ⟨W1, hW1⟩ : ∃ W, w.alloc (Obj.cells #[Value.pointer none, Value.pointer none, Value.pointer none, Value.pointer none] 109) = W := ⟨_, rfl⟩
  rw [hW1]
  have hB1 : Below w.heap.size w W1 := by rw [← hW1]; exact below_alloc (Below.refl _ _) _
  have hc1 : W1.heap[w.heap.size]? = some (.cells #[Value.pointer none, Value.pointer none, Value.pointer none, Value.pointer none] 109 (0, 0)) := by rw [← hW1]; exact heap_alloc_new w _
  clear hW1
  have hc2 : W1.drew.heap[w.heap.size]? = some (.cells #[Value.pointer none, Value.pointer none, Value.pointer none, Value.pointer none] 109 (0, 0)) := hc1
  have hB2 := below_drew1 hB1
  have hk0 := (blk_cell hc2 0).trans rfl
  have hk1 := (blk_cell hc2 1).trans rfl
  have hk2 := (blk_cell hc2 2).trans rfl
  have hk3 := (blk_cell hc2 3).trans rfl
  have hf0 := blk_frozen hc2 0
  have hf1 := blk_frozen hc2 1
  have hf2 := blk_frozen hc2 2
  have hf3 := blk_frozen hc2 3
  refine start_ (n := 14) (S := fun _ => True) (ds := [13]) #[false, false, false, false, false, false, false, false, false, false, false, false, false, false] (by kernel_rfl) rfl rfl trivial (fun hHeld => ?_); refine with_tabW seg_flags.tab1 seg_flags.bits1 (fun HT_ HW_ => ?_)
  generalize W1.drew = W2 at hc2 hB2 hk0 hk1 hk2 hk3 hf0 hf1 hf2 hf3 ⊢
  refine pure_ (i := 0) (N := some 3) (v := ?_) (a' := ?_) #[true, false, false, false, false, false, false, false, false, false, false, false, false, false] rfl rfl (any_of HT_.out (by kernel_rfl)) (fun _ _ _ h => h) (Or.inl ⟨by rfl, ?_⟩) ?_ ?_
  rotate_left
  · intro w''
    go_simp
    with_reducible rfl
  rotate_left
  · simp only [Act.put, List.setIfInBounds_toArray, List.set_cons_zero, List.set_cons_succ, i64_w, i32_w]
    rfl
  refine pure_ (i := 1) (N := some 4) (v := ?_) (a' := ?_) #[true, true, false, false, false, false, false, false, false, false, false, false, false, false] rfl rfl (any_of HT_.out (by kernel_rfl)) (fun _ _ _ h => h) (Or.inl ⟨by rfl, ?_⟩) ?_ ?_
  rotate_left
  · intro w''
    go_simp
    with_reducible rfl
  rotate_left
  · simp only [Act.put, List.setIfInBounds_toArray, List.set_cons_zero, List.set_cons_succ, i64_w, i32_w]
    rfl
  refine pure_ (i := 2) (N := some 5) (v := ?_) (a' := ?_) #[true, true, true, false, false, false, false, false, false, false, false, false, false, false] rfl rfl (any_of HT_.out (by kernel_rfl)) (fun _ _ _ h => h) (Or.inl ⟨by rfl, ?_⟩) ?_ ?_
  rotate_left
  · intro w''
    go_simp
    with_reducible rfl
  rotate_left
  · simp only [Act.put, List.setIfInBounds_toArray, List.set_cons_zero, List.set_cons_succ, i64_w, i32_w]
    rfl
  refine pure_ (i := 3) (N := some 6) (v := ?_) (a' := ?_) #[true, true, true, true, false, false, false, false, false, false, false, false, false, false] rfl rfl (any_of HT_.out (by kernel_rfl)) (fun _ _ _ h => h) (Or.inl ⟨by rfl, ?_⟩) ?_ ?_
  rotate_left
  · intro w''
    go_simp
    with_reducible rfl
  rotate_left
  · simp only [Act.put, List.setIfInBounds_toArray, List.set_cons_zero, List.set_cons_succ, i64_w, i32_w]
    rfl
  refine pure_ (i := 4) (N := some 7) (v := ?_) (a' := ?_) #[true, true, true, true, true, false, false, false, false, false, false, false, false, false] rfl rfl (any_of HT_.out (by kernel_rfl)) (fun _ _ _ h => h) (Or.inl ⟨by rfl, ?_⟩) ?_ ?_
  rotate_left
  · intro w''
    go_simp
    with_reducible rfl
  rotate_left
  · simp only [Act.put, List.setIfInBounds_toArray, List.set_cons_zero, List.set_cons_succ, i64_w, i32_w]
    rfl
  refine pure_ (i := 5) (N := some 8) (v := ?_) (a' := ?_) #[true, true, true, true, true, true, false, false, false, false, false, false, false, false] rfl rfl (any_of HT_.out (by kernel_rfl)) (fun _ _ _ h => h) (Or.inl ⟨by rfl, ?_⟩) ?_ ?_
  rotate_left
  · intro w''
    go_simp
    with_reducible rfl
  rotate_left
  · simp only [Act.put, List.setIfInBounds_toArray, List.set_cons_zero, List.set_cons_succ, i64_w, i32_w]
    rfl
  refine pure_ (i := 6) (N := some 9) (v := ?_) (a' := ?_) #[true, true, true, true, true, true, true, false, false, false, false, false, false, false] rfl rfl (any_of HT_.out (by kernel_rfl)) (fun _ _ _ h => h) (Or.inl ⟨by rfl, ?_⟩) ?_ ?_
  rotate_left
  · intro w''
    go_simp
    with_reducible rfl
  rotate_left
  · simp only [Act.put, List.setIfInBounds_toArray, List.set_cons_zero, List.set_cons_succ, i64_w, i32_w]
    rfl
  refine pure_ (i := 7) (N := some 10) (v := ?_) (a' := ?_) #[true, true, true, true, true, true, true, true, false, false, false, false, false, false] rfl rfl (any_of HT_.out (by kernel_rfl)) (fun _ _ _ h => h) (Or.inl ⟨by rfl, ?_⟩) ?_ ?_
  rotate_left
  · intro w''
    go_simp
    with_reducible rfl
  rotate_left
  · simp only [Act.put, List.setIfInBounds_toArray, List.set_cons_zero, List.set_cons_succ, i64_w, i32_w]
    rfl
  refine pure_ (i := 8) (N := some 11) (v := ?_) (a' := ?_) #[true, true, true, true, true, true, true, true, true, false, false, false, false, false] rfl rfl (any_of HT_.out (by kernel_rfl)) (fun _ _ _ h => h) (Or.inl ⟨by rfl, ?_⟩) ?_ ?_
  rotate_left
  · intro w''
    go_simp
    with_reducible rfl
  rotate_left
  · simp only [Act.put, List.setIfInBounds_toArray, List.set_cons_zero, List.set_cons_succ, i64_w, i32_w]
    rfl
  refine pure_ (i := 9) (N := some 12) (v := ?_) (a' := ?_) #[true, true, true, true, true, true, true, true, true, true, false, false, false, false] rfl rfl (any_of HT_.out (by kernel_rfl)) (fun _ _ _ h => h) (Or.inl ⟨by rfl, ?_⟩) ?_ ?_
  rotate_left
  · intro w''
    go_simp
    with_reducible rfl
  rotate_left
  · simp only [Act.put, List.setIfInBounds_toArray, List.set_cons_zero, List.set_cons_succ, i64_w, i32_w]
    rfl
  refine pure_ (i := 10) (N := some 13) (v := ?_) (a' := ?_) #[true, true, true, true, true, true, true, true, true, true, true, false, false, false] rfl rfl (any_of HT_.out (by kernel_rfl)) (fun _ _ _ h => h) (Or.inl ⟨by rfl, ?_⟩) ?_ ?_
  rotate_left
  · intro w''
    go_simp
    with_reducible rfl
  rotate_left
  · simp only [Act.put, List.setIfInBounds_toArray, List.set_cons_zero, List.set_cons_succ, i64_w, i32_w]
    rfl
  refine pure_ (i := 11) (N := some 14) (v := ?_) (a' := ?_) #[true, true, true, true, true, true, true, true, true, true, true, true, false, false] rfl rfl (any_of HT_.out (by kernel_rfl)) (fun _ _ _ h => h) (Or.inl ⟨by rfl, ?_⟩) ?_ ?_
  rotate_left
  · intro w''
    go_simp
    with_reducible rfl
  rotate_left
  · simp only [Act.put, List.setIfInBounds_toArray, List.set_cons_zero, List.set_cons_succ, i64_w, i32_w]
    rfl
  refine pure_ (i := 12) (N := some 15) (v := ?_) (a' := ?_) #[true, true, true, true, true, true, true, true, true, true, true, true, true, false] rfl rfl (any_of HT_.out (by kernel_rfl)) (fun _ _ _ h => h) (Or.inl ⟨by rfl, ?_⟩) ?_ ?_
  rotate_left
  · intro w''
    go_simp
    with_reducible rfl
  rotate_left
  · simp only [Act.put, List.setIfInBounds_toArray, List.set_cons_zero, List.set_cons_succ, i64_w, i32_w]
    rfl
  refine last_ (i := 13) (N := none) #[true, true, true, true, true, true, true, true, true, true, true, true, true, true] rfl rfl (one_of HT_.out (by kernel_rfl)) (by decide) (fun K hK => ?_)
  refine skip_ (w1 := ?_) (by rfl) rfl ?_ ?_
  rotate_left
  · go_simp
    rfl
  refine hK.out _ _ ?_
  clear hK K
  refine done_ (done_of HT_.out (by kernel_rfl)) ?_
  try go_wp2
  (try simp only [Exit.inBlock, Exit.then])
  refine bodyPost_ret (results_cell_row rfl _ _ w.heap.size 109 #[.pointer (some ⟨g, 3, none⟩), .pointer (some ⟨g, 4, none⟩), .pointer (some ⟨g, 5, none⟩), .pointer (some ⟨g, 6, none⟩)] (0, 0) _ rfl (set_four hc2) Try.underlying109 rfl (by kernel_rfl)) rfl ?_
  exact ⟨rfl, below_set (below_set (below_set (below_set hB2 (Nat.le_refl _)) (Nat.le_refl _)) (Nat.le_refl _)) (Nat.le_refl _)⟩

/-! ### inet_fold: function 103 -/
def inet_fold.l0 : Nat → Int → Option (Int)
  | 0, _ => none
  | k + 1, x0 => if x0 > 65535 then (inet_fold.l0 k (wrap64 ((x0 / 65536) + (Go.bits .and .i64 x0 65535)))) else (some x0)
def inet_fold.f (k : Nat) (a0 : Int) : Option (Int) := inet_fold.l0 k a0
theorem inet_fold.mono_l : ∀ k, (∀ y0, LeO (inet_fold.l0 k y0) (inet_fold.l0 (k + 1) y0))
  | 0 => fun _ r h => by simp [inet_fold.l0] at h
  | k + 1 => by
    have ih0 := inet_fold.mono_l k
    · intro y0
      unfold inet_fold.l0
      repeat' first
      | (with_reducible exact ih0 _)
      | (with_reducible exact LeO.refl _)
      | (with_reducible exact LeO.none _)
      | (with_reducible refine LeO.ite ?_ ?_)
      | (with_reducible refine LeO.bind ?_ (fun _ => ?_))
      | exact ih0 _
      | exact LeO.none _
      | refine LeO.ite ?_ ?_
      | refine LeO.bind ?_ (fun _ => ?_)
theorem inet_fold.mono : ∀ a0 k, LeO (inet_fold.f k a0) (inet_fold.f (k + 1) a0) := by
  intro a0 k
  have ih0 := inet_fold.mono_l k
  unfold inet_fold.f
  repeat' first
      | (with_reducible exact ih0 _)
      | (with_reducible exact LeO.refl _)
      | (with_reducible exact LeO.none _)
      | (with_reducible refine LeO.ite ?_ ?_)
      | (with_reducible refine LeO.bind ?_ (fun _ => ?_))
      | exact ih0 _
      | exact LeO.none _
      | refine LeO.ite ?_ ?_
      | refine LeO.bind ?_ (fun _ => ?_)
set_option maxHeartbeats 8000000 in
set_option maxRecDepth 100000 in
theorem inet_fold.calls (k : Nat) (a0 : Int) (r : Int) (w : World) (h : inet_fold.f k a0 = some r) :
    Calls Try.prog 103 #[.int .i64 a0] w fun e w' => e = .returned (.int .i64 r) ∧ Drawn0 w w' := by
  have H : (inet_fold.l0 k a0) = some r := h
  clear h
  have H' := Aside0.mk H
  clear H
  go_enter Try.func103, Try.ntmps103
  go_wp2
  go_loopg [0] k (fun kq v0 w' => ∃ (x0_1 : Int), v0 = .int .i64 x0_1 ∧ Aside0 (inet_fold.l0 kq x0_1 = some r) ∧ Aside0 (kq ≤ k) ∧ Drawn0 w w')
  case atStart => exact ⟨(a0), (by first | rfl | (simp; done) | (simp [*]; done)), H', ⟨Nat.le_refl _⟩, by repeat (first | exact Drawn0.refl _ | apply Drawn0.step)⟩
  case round =>
    clear H'
    try clear c1
    obtain ⟨x0_1, rfl, HA, HK1, ⟨m1, rfl⟩⟩ := hrel
    cases gk with
    | zero => exact absurd HA.out (by simp [inet_fold.l0])
    | succ k1 =>
      have H := HA.out
      clear HA
      simp only [inet_fold.l0] at H
      by_cases c2 : x0_1 > 65535
      · rw [if_pos c2] at H
        have c2b0 : decide (65535 < x0_1) = true := decide_eq_true c2
        clear c2
        have H' := Aside0.mk H
        clear H
        go_wp2
        go_roundg k1
        case measure => have := HK1.out; omega
        case rel => exact ⟨(wrap64 ((x0_1 / 65536) + (Go.bits .and .i64 x0_1 65535))), (by first | rfl | (simp; done) | (simp [*]; done)), H', ⟨by have := HK1.out; omega⟩, by repeat (first | exact Drawn0.refl _ | apply Drawn0.step)⟩
      · rw [if_neg c2] at H
        have c2b0 : decide (65535 < x0_1) = false := decide_eq_false c2
        clear c2
        obtain rfl := Option.some.inj H
        go_wp2
        go_ret
        exact ⟨by first | rfl | (simp; done) | (simp [*]; done), by repeat (first | exact Drawn0.refl _ | apply Drawn0.step)⟩

/-! ### inet_Fold: function 87 -/
def inet_Fold.l0 : Nat → Int → List Int → Int → Int → Option (Int)
  | 0, _, _, _, _ => none
  | k + 1, x3, x6, x7, x8 => if x8 < x7 then (if 0 ≤ x8 then (if x8 < (x6.length : Int) then (if (Int.tmod x8 2) = 0 then (inet_Fold.l0 k (wrap64 (x3 + (wrap64 ((wrap64 (rd x6 x8)) * 256)))) x6 x7 (wrap64 (x8 + 1))) else (inet_Fold.l0 k (wrap64 (x3 + (wrap64 (rd x6 x8)))) x6 x7 (wrap64 (x8 + 1)))) else (none)) else (none)) else ((inet_fold.f k x3).bind fun t102 => (some t102))
def inet_Fold.f (k : Nat) (l0 : List Int) : Option (Int) := inet_Fold.l0 k 0 l0 (l0.length : Int) 0
theorem inet_Fold.mono_l : ∀ k, (∀ y0 y1 y2 y3, LeO (inet_Fold.l0 k y0 y1 y2 y3) (inet_Fold.l0 (k + 1) y0 y1 y2 y3))
  | 0 => fun _ _ _ _ r h => by simp [inet_Fold.l0] at h
  | k + 1 => by
    have ih0 := inet_Fold.mono_l k
    · intro y0 y1 y2 y3
      unfold inet_Fold.l0
      repeat' first
      | (with_reducible exact ih0 _ _ _ _)
      | (with_reducible exact inet_fold.mono _ _)
      | (with_reducible exact LeO.refl _)
      | (with_reducible exact LeO.none _)
      | (with_reducible refine LeO.ite ?_ ?_)
      | (with_reducible refine LeO.bind ?_ (fun _ => ?_))
      | exact ih0 _ _ _ _
      | exact inet_fold.mono _ _
      | exact LeO.none _
      | refine LeO.ite ?_ ?_
      | refine LeO.bind ?_ (fun _ => ?_)
theorem inet_Fold.mono : ∀ a0 k, LeO (inet_Fold.f k a0) (inet_Fold.f (k + 1) a0) := by
  intro a0 k
  have ih0 := inet_Fold.mono_l k
  unfold inet_Fold.f
  repeat' first
      | (with_reducible exact ih0 _ _ _ _)
      | (with_reducible exact inet_fold.mono _ _)
      | (with_reducible exact LeO.refl _)
      | (with_reducible exact LeO.none _)
      | (with_reducible refine LeO.ite ?_ ?_)
      | (with_reducible refine LeO.bind ?_ (fun _ => ?_))
      | exact ih0 _ _ _ _
      | exact inet_fold.mono _ _
      | exact LeO.none _
      | refine LeO.ite ?_ ?_
      | refine LeO.bind ?_ (fun _ => ?_)
set_option maxHeartbeats 8000000 in
set_option maxRecDepth 100000 in
theorem inet_Fold.calls (k : Nat) (A0 : Option Addr) (c0 : Nat) (l0 : List Int) (r : Int) (w : World) (hr0 : Kd.C (Kd.int .u8) w A0 l0.length l0) (hc0 : l0.length ≤ c0) (h : inet_Fold.f k l0 = some r) :
    Calls Try.prog 87 #[.slice A0 l0.length c0] w fun e w' => e = .returned (.int .i64 r) ∧ Drawn0 w w' := by
  have HR0 := Aside0.mk hr0
  have HC0 := Aside0.mk hc0
  clear hr0 hc0
  have H : (inet_Fold.l0 k 0 l0 (l0.length : Int) 0) = some r := h
  clear h
  have H' := Aside0.mk H
  clear H
  go_enter Try.func87, Try.ntmps87
  go_wp2
  go_loopg [3, 8] k (fun kq v3 v8 w' => ∃ (x3_1 : Int) (x8_1 : Int), v3 = .int .i64 x3_1 ∧ v8 = .int .i64 x8_1 ∧ Aside0 (inet_Fold.l0 kq x3_1 l0 (l0.length : Int) x8_1 = some r) ∧ Aside0 (kq ≤ k) ∧ Drawn0 w w')
  case atStart => exact ⟨(0), (0), (by first | rfl | (simp; done) | (simp [*]; done)), (by first | rfl | (simp; done) | (simp [*]; done)), H', ⟨Nat.le_refl _⟩, by repeat (first | exact Drawn0.refl _ | apply Drawn0.step)⟩
  case round =>
    clear H'
    obtain ⟨x3_1, x8_1, rfl, rfl, HA, HK1, ⟨m1, rfl⟩⟩ := hrel
    cases gk with
    | zero => exact absurd HA.out (by simp [inet_Fold.l0])
    | succ k1 =>
      have H := HA.out
      clear HA
      simp only [inet_Fold.l0] at H
      by_cases c2 : x8_1 < (l0.length : Int)
      · rw [if_pos c2] at H
        have c2b0 : decide (x8_1 < (l0.length : Int)) = true := decide_eq_true c2
        clear c2
        by_cases c3 : 0 ≤ x8_1
        · rw [if_pos c3] at H
          have c3b0 : decide (0 ≤ x8_1) = true := decide_eq_true c3
          clear c3
          by_cases c4 : x8_1 < (l0.length : Int)
          · rw [if_pos c4] at H
            have c4b0 : decide (x8_1 < (l0.length : Int)) = true := decide_eq_true c4
            clear c4
            by_cases c5 : (Int.tmod x8_1 2) = 0
            · rw [if_pos c5] at H
              have c5b0 : ((Int.tmod x8_1 2) == 0) = true := beq_iff_eq.mpr c5
              have c5b1 : ((Int.tmod x8_1 2) != 0) = false := bne_eq_false_iff_eq.mpr c5
              clear c5
              have H' := Aside0.mk H
              clear H
              have p101 : 0 ≤ (x8_1 : Int) := of_decide_eq_true (by first | (with_reducible assumption) | assumption)
              have q101 : x8_1 < (l0.length : Int) := of_decide_eq_true (by first | (with_reducible assumption) | assumption)
              obtain ⟨ad101, e101, hx101_0⟩ := Kd.at_int HR0.out x8_1 p101 q101
              cases e101
              replace p101 := eq_true p101
              replace q101 := eq_true q101
              go_wp2
              go_roundg k1
              case measure => have := HK1.out; omega
              case rel => exact ⟨(wrap64 (x3_1 + (wrap64 ((wrap64 (rd l0 x8_1)) * 256)))), (wrap64 (x8_1 + 1)), (by first | rfl | (simp; done) | (simp [*]; done)), (by first | rfl | (simp; done) | (simp [*]; done)), H', ⟨by have := HK1.out; omega⟩, by repeat (first | exact Drawn0.refl _ | apply Drawn0.step)⟩
            · rw [if_neg c5] at H
              have c5b0 : ((Int.tmod x8_1 2) == 0) = false := beq_eq_false_iff_ne.mpr c5
              have c5b1 : ((Int.tmod x8_1 2) != 0) = true := bne_iff_ne.mpr c5
              have H' := Aside0.mk H
              clear H
              have p101 : 0 ≤ (x8_1 : Int) := of_decide_eq_true (by first | (with_reducible assumption) | assumption)
              have q101 : x8_1 < (l0.length : Int) := of_decide_eq_true (by first | (with_reducible assumption) | assumption)
              obtain ⟨ad101, e101, hx101_0⟩ := Kd.at_int HR0.out x8_1 p101 q101
              cases e101
              replace p101 := eq_true p101
              replace q101 := eq_true q101
              go_wp2
              go_roundg k1
              case measure => have := HK1.out; omega
              case rel => exact ⟨(wrap64 (x3_1 + (wrap64 (rd l0 x8_1)))), (wrap64 (x8_1 + 1)), (by first | rfl | (simp; done) | (simp [*]; done)), (by first | rfl | (simp; done) | (simp [*]; done)), H', ⟨by have := HK1.out; omega⟩, by repeat (first | exact Drawn0.refl _ | apply Drawn0.step)⟩
          · rw [if_neg c4] at H
            exact absurd H (by simp)
        · rw [if_neg c3] at H
          exact absurd H (by simp)
      · rw [if_neg c2] at H
        have c2b0 : decide (x8_1 < (l0.length : Int)) = false := decide_eq_false c2
        clear c2
        replace H := Option.bind_eq_some_iff.mp H
        obtain ⟨t102, A60, H⟩ := H
        replace H : (some t102) = some r := H
        have A6 := Aside0.mk A60
        clear A60
        obtain rfl := Option.some.inj H
        go_wp2_with (first | ((with_reducible refine gate_callee (f := 103) rfl ?_); refine goesL_ (some 27) rfl rfl Try.func103 (by kernel_rfl) rfl #[.int .i64 x3_1] rfl (by (try simp only [List.map_toArray, List.map_cons, List.map_nil]); first | done | rfl | (simp only [List.length_drop, List.length_take]; rfl)) ?_; (with_reducible refine (inet_fold.calls k1 x3_1 t102 _ A6.out).mono ?_); rintro e w' ⟨rfl, ⟨nd, rfl⟩⟩; refine ⟨_, rfl, ?_⟩))
        go_ret
        exact ⟨by first | rfl | (simp; done) | (simp [*]; done), by repeat (first | exact Drawn0.refl _ | apply Drawn0.step)⟩

/-! ### inet_Sum: function 57 -/
def inet_Sum.f (k : Nat) (l0 : List Int) : Option (Int) := (inet_Fold.f k l0).bind fun t103 => (some (wrap64 (65535 - t103)))
theorem inet_Sum.mono : ∀ a0 k, LeO (inet_Sum.f k a0) (inet_Sum.f (k + 1) a0) := by
  intro a0 k
  unfold inet_Sum.f
  repeat' first
      | (with_reducible exact inet_Fold.mono _ _)
      | (with_reducible exact LeO.refl _)
      | (with_reducible exact LeO.none _)
      | (with_reducible refine LeO.ite ?_ ?_)
      | (with_reducible refine LeO.bind ?_ (fun _ => ?_))
      | exact inet_Fold.mono _ _
      | exact LeO.none _
      | refine LeO.ite ?_ ?_
      | refine LeO.bind ?_ (fun _ => ?_)
set_option maxHeartbeats 8000000 in
set_option maxRecDepth 100000 in
theorem inet_Sum.calls (k : Nat) (A0 : Option Addr) (c0 : Nat) (l0 : List Int) (r : Int) (w : World) (hr0 : Kd.C (Kd.int .u8) w A0 l0.length l0) (hc0 : l0.length ≤ c0) (h : inet_Sum.f k l0 = some r) :
    Calls Try.prog 57 #[.slice A0 l0.length c0] w fun e w' => e = .returned (.int .i64 r) ∧ Drawn0 w w' := by
  have HR0 := Aside0.mk hr0
  have HC0 := Aside0.mk hc0
  clear hr0 hc0
  have H : ((inet_Fold.f k l0).bind fun t103 => (some (wrap64 (65535 - t103)))) = some r := h
  clear h
  replace H := Option.bind_eq_some_iff.mp H
  obtain ⟨t103, A20, H⟩ := H
  replace H : (some (wrap64 (65535 - t103))) = some r := H
  have A2 := Aside0.mk A20
  clear A20
  obtain rfl := Option.some.inj H
  go_enter Try.func57, Try.ntmps57
  go_wp2_with (first | ((with_reducible refine gate_callee (f := 87) rfl ?_); refine goesL_ (some 4) rfl rfl Try.func87 (by kernel_rfl) rfl #[.slice A0 l0.length c0] rfl (by (try simp only [List.map_toArray, List.map_cons, List.map_nil]); first | done | rfl | (simp only [List.length_drop, List.length_take]; rfl)) ?_; (with_reducible refine (inet_Fold.calls k _ _ l0 t103 _ ?side1 ?side2 A2.out).mono ?_); (case side1 => repeat (first | exact HR0.out | (with_reducible refine Kd.C_alloc ?_ _) | (with_reducible refine Kd.C_drewN ?_ _) | (with_reducible refine Kd.C_drew ?_))); (case side2 => exact HC0.out); rintro e w' ⟨rfl, ⟨nd, rfl⟩⟩; refine ⟨_, rfl, ?_⟩))
  go_ret
  exact ⟨by first | rfl | (simp; done) | (simp [*]; done), by repeat (first | exact Drawn0.refl _ | apply Drawn0.step)⟩

end Go.Proofs.Ytjhmjgcebijmiaa.HSegDecodes
