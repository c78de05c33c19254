/- The contracts of the functions that the law SegEncodes reaches: Go's code comes to what these Lean functions tell (written by a program of ours and the kit's, out of the translation). -/
import Derived.Test.YtjhmjgcebijmiaaHSegEncodesx0
import Derived.Test.YtjhmjgcebijmiaaHSegEncodesx1
namespace Go.Proofs.Ytjhmjgcebijmiaa.HSegEncodes
open Go.RowKit Go.Proofs.YtjhmjgcebijmiaaW.PrintWords Go.Proofs.YtjhmjgcebijmiaaW.PrintLast Go.Proofs.YtjhmjgcebijmiaaW.PrintMore
attribute [local go_sem] max2_int min2_int max_two min_two max_three min_three max_four min_four   -- for this text's walks alone
set_option linter.unusedVariables false
set_option linter.unusedSimpArgs false

/-! ### seg_Encode: function 26 -/
def ser (a : Int) : Bool := decide (0 ≤ a ∧ a < 65536)
theorem ser_is (a : Int) : seg_serial.f a = some (ser a) := by
  unfold seg_serial.f ser
  by_cases h : a ≥ 0
  · rw [if_pos h]
    simp [h]
  · rw [if_neg h]
    simp; omega
theorem serial_goes (a : Int) (w : World) : Calls Try.prog 85 #[.int .i64 a] w fun e w' => e = .returned (.bool (ser a)) ∧ Drawn0 w w' := seg_serial.calls a _ w (ser_is a)
/-- One end or the other is none. -/
def odd (r : S54) : Bool := !ser r.f0 || !ser r.f1
set_option maxHeartbeats 2000000 in
set_option maxRecDepth 100000 in
theorem odd_calls (r : S54) (w : World) : Calls Try.prog 84 #[.agg #[.int .i64 r.f0, .int .i64 r.f1]] w fun e w' => e = .returned (.bool (odd r)) ∧ Below w.heap.size w w' := by
  obtain ⟨a, b⟩ := r
  cases h1 : ser a with
  | false =>
    go_enter Try.func84, Try.ntmps84
    go_wp2_with (first | ((with_reducible refine gate_callee (f := 85) rfl ?_); (try (refine gate_guard (by rfl) ?_; dsimp only)); refine goesL_ (some 5) rfl rfl Try.func85 (by kernel_rfl) rfl #[.int .i64 a] rfl (by (try simp only [List.map_toArray, List.map_cons, List.map_nil]); first | done | rfl) ?_; refine (serial_goes a _).mono ?_; rintro e w1 ⟨rfl, ⟨m1, rfl⟩⟩; refine ⟨_, rfl, ?_⟩; rw [h1]))
    go_ret
    exact ⟨by simp [odd, h1], pw_below_drewN (below_alloc (Below.refl _ _) _) m1⟩
  | true =>
    obtain ⟨hb, hh⟩ : ∃ hb, ser b = hb := ⟨_, rfl⟩
    go_enter Try.func84, Try.ntmps84
    go_wp2_with (first | ((with_reducible refine gate_callee (f := 85) rfl ?_); (try (refine gate_guard (by rfl) ?_; dsimp only)); refine goesL_ (some 5) rfl rfl Try.func85 (by kernel_rfl) rfl #[.int .i64 a] rfl (by (try simp only [List.map_toArray, List.map_cons, List.map_nil]); first | done | rfl) ?_; refine (serial_goes a _).mono ?_; rintro e w1 ⟨rfl, ⟨m1, rfl⟩⟩; refine ⟨_, rfl, ?_⟩; rw [h1]) | ((with_reducible refine gate_callee (f := 85) rfl ?_); (try (refine gate_guard (by rfl) ?_; dsimp only)); refine goesL_ (some 10) rfl rfl Try.func85 (by kernel_rfl) rfl #[.int .i64 b] rfl (by (try simp only [List.map_toArray, List.map_cons, List.map_nil]); first | done | rfl) ?_; refine (serial_goes b _).mono ?_; rintro e w1 ⟨rfl, ⟨m2, rfl⟩⟩; refine ⟨_, rfl, ?_⟩; rw [hh]))
    go_ret
    exact ⟨by simp [odd, h1, hh], pw_below_drewN (below_alloc (Below.refl _ _) _) (m1 + m2)⟩
set_option maxHeartbeats 2000000 in
set_option maxRecDepth 100000 in
theorem indexFunc_calls (A : Option Addr) (c : Nat) (l : List S54) (w : World) (hr : Kd.C k54 w A l.length l) (hc : l.length ≤ c) (hl : l.length ≤ 3) :
    Calls Try.prog 102 #[.slice A l.length c, .func (.func 84) #[] #[]] w fun e w' => ∃ i : Int, e = .returned (.int .i64 i) ∧ (0 ≤ i ↔ l.any odd = true) ∧ Below w.heap.size w w' := by
  have HR := Aside0.mk hr
  clear hr
  go_enter Try.func102, Try.ntmps102
  go_wp2
  go_loopw [8] (fun v8 wr => ∃ j : Nat, v8 = .int .i64 (j : Int) ∧ Aside0 (j ≤ l.length) ∧ Aside0 ((l.take j).any odd = false) ∧ Aside0 (Below w.heap.size w wr)) (fun v8 _ => l.length - (intOf v8).toNat)
  case atStart => exact ⟨0, rfl, ⟨Nat.zero_le _⟩, ⟨rfl⟩, ⟨Below.refl _ _⟩⟩
  case round =>
    obtain ⟨j, rfl, HJ, HN, HB⟩ := hrel
    by_cases hj : j < l.length
    · have e1_ : decide ((j : Int) < (l.length : Int)) = true := decide_eq_true (by omega)
      have p1 : (0 : Int) ≤ (j : Int) := by omega
      have q1 : (j : Int) < (l.length : Int) := by omega
      obtain ⟨ad, rfl, h0, h1⟩ := at_T54 (Kd.C_below HR.out HB.out) (j : Int) p1 q1
      rw [Int.toNat_natCast] at h0 h1
      replace p1 := eq_true p1
      replace q1 := eq_true q1
      have hj4 : j ≤ 3 := by omega
      have hm : rd_T54 l (j : Int) = l[j] := by unfold rd_T54; rw [Int.toNat_natCast, List.getD_eq_getElem?_getD, List.getElem?_eq_getElem hj]; rfl
      have hx : (l.take (j + 1)).any odd = ((l.take j).any odd || odd (rd_T54 l (j : Int))) := by rw [List.take_add_one, List.getElem?_eq_getElem hj, Option.toList_some, List.any_append, hm]; simp
      have HX := Aside0.mk hx
      have HM := Aside0.mk hm
      clear hx hm
      cases ho : odd (rd_T54 l (j : Int)) with
      | true =>
        go_wp2_with (first | (go_at_call 84; refine (odd_calls (rd_T54 l (j : Int)) _).mono ?_; rintro e w1 ⟨rfl, hb1⟩; have HB1 := Aside0.mk hb1; clear hb1; rw [ho]))
        go_ret
        refine ⟨_, rfl, ⟨fun _ => List.any_eq_true.2 ⟨l[j], List.getElem_mem hj, by rw [← HM.out]; exact ho⟩, fun _ => by omega⟩, HB.out.trans (HB1.out.mono HB.out.size)⟩
      | false =>
        go_wp2_with (first | (go_at_call 84; refine (odd_calls (rd_T54 l (j : Int)) _).mono ?_; rintro e w1 ⟨rfl, hb1⟩; have HB1 := Aside0.mk hb1; clear hb1; rw [ho]))
        go_roundw
        case measure => simp only [intOf]; omega
        case rel => exact ⟨j + 1, rfl, ⟨by omega⟩, ⟨by rw [HX.out, HN.out, ho]; rfl⟩, ⟨HB.out.trans (HB1.out.mono HB.out.size)⟩⟩
    · have e1_ : decide ((j : Int) < (l.length : Int)) = false := decide_eq_false (by omega)
      have hN := HN.out
      have hJ := HJ.out
      rw [List.take_of_length_le (by omega)] at hN
      go_wp2
      go_ret
      refine ⟨_, rfl, ⟨fun h => absurd h (by decide), fun h => by rw [hN] at h; cases h⟩, HB.out⟩
set_option maxHeartbeats 2000000 in
set_option maxRecDepth 100000 in
theorem containsFunc_calls (A : Option Addr) (c : Nat) (l : List S54) (w : World) (hr : Kd.C k54 w A l.length l) (hc : l.length ≤ c) (hl : l.length ≤ 3) :
    Calls Try.prog 86 #[.slice A l.length c, .func (.func 84) #[] #[]] w fun e w' => e = .returned (.bool (l.any odd)) ∧ Below w.heap.size w w' := by
  have HR := Aside0.mk hr
  clear hr
  obtain ⟨bo, hbo⟩ : ∃ bo, l.any odd = bo := ⟨_, rfl⟩
  go_enter Try.func86, Try.ntmps86
  go_wp2_with (first | ((with_reducible refine gate_callee (f := 102) rfl ?_); refine goesL_ (some 7) rfl rfl Try.func102 (by kernel_rfl) rfl #[.slice A l.length c, .func (.func 84) #[] #[]] rfl (by (try simp only [List.map_toArray, List.map_cons, List.map_nil]); first | done | rfl) ?_; refine (indexFunc_calls A c l _ HR.out hc hl).mono ?_; rintro e w1 ⟨i, rfl, hi, hb⟩; refine ⟨_, rfl, ?_⟩; have HB1 := Aside0.mk hb; have HI := Aside0.mk hi; clear hi hb; obtain ⟨hd, hhd⟩ : ∃ hd, decide (0 ≤ i) = hd := ⟨_, rfl⟩))
  go_ret
  have e : hd = l.any odd := by
    rw [← hhd]
    cases hv : l.any odd with
    | true => exact decide_eq_true (HI.out.2 hv)
    | false => exact decide_eq_false (fun h => by have := HI.out.1 h; rw [hv] at this; cases this)
  exact ⟨by rw [← e]; rfl, HB1.out⟩
/-- What is refused of a segment. -/
def seg_fault.f (a0 a1 a2 : Int) (a6 : Bool) (l7 : List S54) (l8 : List Int) : Int :=
  if ser a0 = true ∧ ser a1 = true ∧ 0 ≤ a2 ∧ a2 ≤ 65535 then
    (if l7.length > 3 ∨ l8.length > 64 then 1 else (if l7.any odd = true then 2 else (if a6 = false ∧ (a1 ≠ 0 ∨ a2 ≠ 0 ∨ 0 < l7.length) then 4 else 0)))
  else 2
set_option maxHeartbeats 4000000 in
set_option maxRecDepth 100000 in
theorem seg_fault.calls (a0 a1 a2 : Int) (a3 a4 a5 a6 : Bool) (A7 : Option Addr) (c7 : Nat) (l7 : List S54) (A8 : Option Addr) (c8 : Nat) (l8 : List Int) (w : World) (hr7 : Kd.C k54 w A7 l7.length l7) (hc7 : l7.length ≤ c7) :
    Calls Try.prog 54 #[.agg #[.int .i64 a0, .int .i64 a1, .int .i64 a2, .bool a3, .bool a4, .bool a5, .bool a6, .slice A7 l7.length c7, .slice A8 l8.length c8]] w fun e w' => e = .returned (.int .i64 (seg_fault.f a0 a1 a2 a6 l7 l8)) ∧ Below w.heap.size w w' := by
  have HR7 := Aside0.mk hr7
  have HC7 := Aside0.mk hc7
  clear hr7 hc7
  unfold seg_fault.f
  cases s0 : ser a0 with
  | false =>
    rw [if_neg (by simp)]
    go_enter Try.func54, Try.ntmps54
    go_wp2_with (first | ((with_reducible refine gate_callee (f := 85) rfl ?_); (try (refine gate_guard (by rfl) ?_; dsimp only)); refine goesL_ (some 7) rfl rfl Try.func85 (by kernel_rfl) rfl #[.int .i64 a0] rfl (by (try simp only [List.map_toArray, List.map_cons, List.map_nil]); first | done | rfl) ?_; refine (serial_goes a0 _).mono ?_; rintro e w1 ⟨rfl, ⟨m1, rfl⟩⟩; refine ⟨_, rfl, ?_⟩; rw [s0]))
    go_ret
    exact ⟨by first | rfl | (simp; done), (by repeat (first | exact Below.refl _ _ | apply pw_below_drewN | apply below_alloc))⟩
  | true =>
    cases s1 : ser a1 with
    | false =>
      rw [if_neg (by simp)]
      go_enter Try.func54, Try.ntmps54
      go_wp2_with (first | ((with_reducible refine gate_callee (f := 85) rfl ?_); (try (refine gate_guard (by rfl) ?_; dsimp only)); refine goesL_ (some 7) rfl rfl Try.func85 (by kernel_rfl) rfl #[.int .i64 a0] rfl (by (try simp only [List.map_toArray, List.map_cons, List.map_nil]); first | done | rfl) ?_; refine (serial_goes a0 _).mono ?_; rintro e w1 ⟨rfl, ⟨m1, rfl⟩⟩; refine ⟨_, rfl, ?_⟩; rw [s0]) | ((with_reducible refine gate_callee (f := 85) rfl ?_); (try (refine gate_guard (by rfl) ?_; dsimp only)); refine goesL_ (some 12) rfl rfl Try.func85 (by kernel_rfl) rfl #[.int .i64 a1] rfl (by (try simp only [List.map_toArray, List.map_cons, List.map_nil]); first | done | rfl) ?_; refine (serial_goes a1 _).mono ?_; rintro e w1 ⟨rfl, ⟨m2, rfl⟩⟩; refine ⟨_, rfl, ?_⟩; rw [s1]))
      go_ret
      exact ⟨by first | rfl | (simp; done), (by repeat (first | exact Below.refl _ _ | apply pw_below_drewN | apply below_alloc))⟩
    | true =>
      by_cases h2 : a2 < 0
      · rw [if_neg (by omega)]
        have d1_ : decide (a2 < 0) = true := decide_eq_true h2
        go_enter Try.func54, Try.ntmps54
        go_wp2_with (first | ((with_reducible refine gate_callee (f := 85) rfl ?_); (try (refine gate_guard (by rfl) ?_; dsimp only)); refine goesL_ (some 7) rfl rfl Try.func85 (by kernel_rfl) rfl #[.int .i64 a0] rfl (by (try simp only [List.map_toArray, List.map_cons, List.map_nil]); first | done | rfl) ?_; refine (serial_goes a0 _).mono ?_; rintro e w1 ⟨rfl, ⟨m1, rfl⟩⟩; refine ⟨_, rfl, ?_⟩; rw [s0]) | ((with_reducible refine gate_callee (f := 85) rfl ?_); (try (refine gate_guard (by rfl) ?_; dsimp only)); refine goesL_ (some 12) rfl rfl Try.func85 (by kernel_rfl) rfl #[.int .i64 a1] rfl (by (try simp only [List.map_toArray, List.map_cons, List.map_nil]); first | done | rfl) ?_; refine (serial_goes a1 _).mono ?_; rintro e w1 ⟨rfl, ⟨m2, rfl⟩⟩; refine ⟨_, rfl, ?_⟩; rw [s1]))
        go_ret
        exact ⟨by first | rfl | (simp; done), (by repeat (first | exact Below.refl _ _ | apply pw_below_drewN | apply below_alloc))⟩
      · have d1_ : decide (a2 < 0) = false := decide_eq_false h2
        by_cases h3 : 65535 < a2
        · rw [if_neg (by omega)]
          have d2_ : decide (65535 < a2) = true := decide_eq_true h3
          go_enter Try.func54, Try.ntmps54
          go_wp2_with (first | ((with_reducible refine gate_callee (f := 85) rfl ?_); (try (refine gate_guard (by rfl) ?_; dsimp only)); refine goesL_ (some 7) rfl rfl Try.func85 (by kernel_rfl) rfl #[.int .i64 a0] rfl (by (try simp only [List.map_toArray, List.map_cons, List.map_nil]); first | done | rfl) ?_; refine (serial_goes a0 _).mono ?_; rintro e w1 ⟨rfl, ⟨m1, rfl⟩⟩; refine ⟨_, rfl, ?_⟩; rw [s0]) | ((with_reducible refine gate_callee (f := 85) rfl ?_); (try (refine gate_guard (by rfl) ?_; dsimp only)); refine goesL_ (some 12) rfl rfl Try.func85 (by kernel_rfl) rfl #[.int .i64 a1] rfl (by (try simp only [List.map_toArray, List.map_cons, List.map_nil]); first | done | rfl) ?_; refine (serial_goes a1 _).mono ?_; rintro e w1 ⟨rfl, ⟨m2, rfl⟩⟩; refine ⟨_, rfl, ?_⟩; rw [s1]))
          go_ret
          exact ⟨by first | rfl | (simp; done), (by repeat (first | exact Below.refl _ _ | apply pw_below_drewN | apply below_alloc))⟩
        · have d2_ : decide (65535 < a2) = false := decide_eq_false h3
          rw [if_pos ⟨rfl, rfl, by omega, by omega⟩]
          by_cases h7 : 3 < l7.length
          · rw [if_pos (.inl h7)]
            have d3_ : decide (3 < (l7.length : Int)) = true := decide_eq_true (by omega)
            have d3n_ : decide (3 < l7.length) = true := decide_eq_true h7
            go_enter Try.func54, Try.ntmps54
            go_wp2_with (first | ((with_reducible refine gate_callee (f := 85) rfl ?_); (try (refine gate_guard (by rfl) ?_; dsimp only)); refine goesL_ (some 7) rfl rfl Try.func85 (by kernel_rfl) rfl #[.int .i64 a0] rfl (by (try simp only [List.map_toArray, List.map_cons, List.map_nil]); first | done | rfl) ?_; refine (serial_goes a0 _).mono ?_; rintro e w1 ⟨rfl, ⟨m1, rfl⟩⟩; refine ⟨_, rfl, ?_⟩; rw [s0]) | ((with_reducible refine gate_callee (f := 85) rfl ?_); (try (refine gate_guard (by rfl) ?_; dsimp only)); refine goesL_ (some 12) rfl rfl Try.func85 (by kernel_rfl) rfl #[.int .i64 a1] rfl (by (try simp only [List.map_toArray, List.map_cons, List.map_nil]); first | done | rfl) ?_; refine (serial_goes a1 _).mono ?_; rintro e w1 ⟨rfl, ⟨m2, rfl⟩⟩; refine ⟨_, rfl, ?_⟩; rw [s1]))
            go_ret
            exact ⟨by first | rfl | (simp; done), (by repeat (first | exact Below.refl _ _ | apply pw_below_drewN | apply below_alloc))⟩
          · have d3_ : decide (3 < (l7.length : Int)) = false := decide_eq_false (by omega)
            have d3n_ : decide (3 < l7.length) = false := decide_eq_false h7
            have h73 : l7.length ≤ 3 := by omega
            by_cases h8 : 64 < l8.length
            · rw [if_pos (.inr h8)]
              have d4_ : decide (64 < (l8.length : Int)) = true := decide_eq_true (by omega)
              have d4n_ : decide (64 < l8.length) = true := decide_eq_true h8
              go_enter Try.func54, Try.ntmps54
              go_wp2_with (first | ((with_reducible refine gate_callee (f := 85) rfl ?_); (try (refine gate_guard (by rfl) ?_; dsimp only)); refine goesL_ (some 7) rfl rfl Try.func85 (by kernel_rfl) rfl #[.int .i64 a0] rfl (by (try simp only [List.map_toArray, List.map_cons, List.map_nil]); first | done | rfl) ?_; refine (serial_goes a0 _).mono ?_; rintro e w1 ⟨rfl, ⟨m1, rfl⟩⟩; refine ⟨_, rfl, ?_⟩; rw [s0]) | ((with_reducible refine gate_callee (f := 85) rfl ?_); (try (refine gate_guard (by rfl) ?_; dsimp only)); refine goesL_ (some 12) rfl rfl Try.func85 (by kernel_rfl) rfl #[.int .i64 a1] rfl (by (try simp only [List.map_toArray, List.map_cons, List.map_nil]); first | done | rfl) ?_; refine (serial_goes a1 _).mono ?_; rintro e w1 ⟨rfl, ⟨m2, rfl⟩⟩; refine ⟨_, rfl, ?_⟩; rw [s1]))
              go_ret
              exact ⟨by first | rfl | (simp; done), (by repeat (first | exact Below.refl _ _ | apply pw_below_drewN | apply below_alloc))⟩
            · have d4_ : decide (64 < (l8.length : Int)) = false := decide_eq_false (by omega)
              have d4n_ : decide (64 < l8.length) = false := decide_eq_false h8
              rw [if_neg (by omega)]
              cases hodd : l7.any odd with
              | true =>
                rw [if_pos rfl]
                go_enter Try.func54, Try.ntmps54
                go_wp2_with (first | ((with_reducible refine gate_callee (f := 85) rfl ?_); (try (refine gate_guard (by rfl) ?_; dsimp only)); refine goesL_ (some 7) rfl rfl Try.func85 (by kernel_rfl) rfl #[.int .i64 a0] rfl (by (try simp only [List.map_toArray, List.map_cons, List.map_nil]); first | done | rfl) ?_; refine (serial_goes a0 _).mono ?_; rintro e w1 ⟨rfl, ⟨m1, rfl⟩⟩; refine ⟨_, rfl, ?_⟩; rw [s0]) | ((with_reducible refine gate_callee (f := 85) rfl ?_); (try (refine gate_guard (by rfl) ?_; dsimp only)); refine goesL_ (some 12) rfl rfl Try.func85 (by kernel_rfl) rfl #[.int .i64 a1] rfl (by (try simp only [List.map_toArray, List.map_cons, List.map_nil]); first | done | rfl) ?_; refine (serial_goes a1 _).mono ?_; rintro e w1 ⟨rfl, ⟨m2, rfl⟩⟩; refine ⟨_, rfl, ?_⟩; rw [s1]) | ((with_reducible refine gate_callee (f := 86) rfl ?_); refine goesL_ (some 40) rfl rfl Try.func86 (by kernel_rfl) rfl #[.slice A7 l7.length c7, .func (.func 84) #[] #[]] rfl (by (try simp only [List.map_toArray, List.map_cons, List.map_nil]); first | done | rfl) ?_; refine (containsFunc_calls A7 c7 l7 _ (Kd.C_below HR7.out (by repeat (first | exact Below.refl _ _ | apply pw_below_drewN | apply below_alloc))) HC7.out h73).mono ?_; rintro e w2 ⟨rfl, hb2⟩; refine ⟨_, rfl, ?_⟩; have HB2 := Aside0.mk hb2; clear hb2; rw [hodd]))
                go_ret
                exact ⟨by first | rfl | (simp; done), below_step (by repeat (first | exact Below.refl _ _ | apply pw_below_drewN | apply below_alloc)) HB2.out⟩
              | false =>
                rw [if_neg (by simp)]
                cases a6 with
                | true =>
                  rw [if_neg (by simp)]
                  go_enter Try.func54, Try.ntmps54
                  go_wp2_with (first | ((with_reducible refine gate_callee (f := 85) rfl ?_); (try (refine gate_guard (by rfl) ?_; dsimp only)); refine goesL_ (some 7) rfl rfl Try.func85 (by kernel_rfl) rfl #[.int .i64 a0] rfl (by (try simp only [List.map_toArray, List.map_cons, List.map_nil]); first | done | rfl) ?_; refine (serial_goes a0 _).mono ?_; rintro e w1 ⟨rfl, ⟨m1, rfl⟩⟩; refine ⟨_, rfl, ?_⟩; rw [s0]) | ((with_reducible refine gate_callee (f := 85) rfl ?_); (try (refine gate_guard (by rfl) ?_; dsimp only)); refine goesL_ (some 12) rfl rfl Try.func85 (by kernel_rfl) rfl #[.int .i64 a1] rfl (by (try simp only [List.map_toArray, List.map_cons, List.map_nil]); first | done | rfl) ?_; refine (serial_goes a1 _).mono ?_; rintro e w1 ⟨rfl, ⟨m2, rfl⟩⟩; refine ⟨_, rfl, ?_⟩; rw [s1]) | ((with_reducible refine gate_callee (f := 86) rfl ?_); refine goesL_ (some 40) rfl rfl Try.func86 (by kernel_rfl) rfl #[.slice A7 l7.length c7, .func (.func 84) #[] #[]] rfl (by (try simp only [List.map_toArray, List.map_cons, List.map_nil]); first | done | rfl) ?_; refine (containsFunc_calls A7 c7 l7 _ (Kd.C_below HR7.out (by repeat (first | exact Below.refl _ _ | apply pw_below_drewN | apply below_alloc))) HC7.out h73).mono ?_; rintro e w2 ⟨rfl, hb2⟩; refine ⟨_, rfl, ?_⟩; have hbk := blk_below (g := w.heap.size) (o := .cells #[.int .i64 a0, .int .i64 a1, .int .i64 a2, .bool a3, .bool a4, .bool a5, .bool true, .slice A7 l7.length c7, .slice A8 l8.length c8] 48 (0, 0)) (by (with_reducible repeat (first | refine blk_drewN ?_ _ | refine blk_drew ?_ | exact heap_alloc_new w _ | refine blk_alloc ?_ _)); try exact heap_alloc_new w _) hb2; have hz1 : w2.cell? ⟨w.heap.size, 1, none⟩ = some (.int .i64 a1) := (blk_cell hbk 1).trans rfl; have hz2 : w2.cell? ⟨w.heap.size, 2, none⟩ = some (.int .i64 a2) := (blk_cell hbk 2).trans rfl; have hz6 : w2.cell? ⟨w.heap.size, 6, none⟩ = some (.bool true) := (blk_cell hbk 6).trans rfl; have hz7 : w2.cell? ⟨w.heap.size, 7, none⟩ = some (.slice A7 l7.length c7) := (blk_cell hbk 7).trans rfl; have HB2 := Aside0.mk hb2; clear hb2; rw [hodd]))
                  go_ret
                  exact ⟨by first | rfl | (simp; done), below_step (by repeat (first | exact Below.refl _ _ | apply pw_below_drewN | apply below_alloc)) HB2.out⟩
                | false =>
                  by_cases h1 : a1 = 0
                  · subst h1
                    by_cases h2' : a2 = 0
                    · subst h2'
                      by_cases hl : 0 < l7.length
                      · rw [if_pos ⟨rfl, .inr (.inr hl)⟩]
                        have e3_ : decide (0 < (l7.length : Int)) = true := decide_eq_true (by omega)
                        go_enter Try.func54, Try.ntmps54
                        go_wp2_with (first | ((with_reducible refine gate_callee (f := 85) rfl ?_); (try (refine gate_guard (by rfl) ?_; dsimp only)); refine goesL_ (some 7) rfl rfl Try.func85 (by kernel_rfl) rfl #[.int .i64 a0] rfl (by (try simp only [List.map_toArray, List.map_cons, List.map_nil]); first | done | rfl) ?_; refine (serial_goes a0 _).mono ?_; rintro e w1 ⟨rfl, ⟨m1, rfl⟩⟩; refine ⟨_, rfl, ?_⟩; rw [s0]) | ((with_reducible refine gate_callee (f := 85) rfl ?_); (try (refine gate_guard (by rfl) ?_; dsimp only)); refine goesL_ (some 12) rfl rfl Try.func85 (by kernel_rfl) rfl #[.int .i64 0] rfl (by (try simp only [List.map_toArray, List.map_cons, List.map_nil]); first | done | rfl) ?_; refine (serial_goes 0 _).mono ?_; rintro e w1 ⟨rfl, ⟨m2, rfl⟩⟩; refine ⟨_, rfl, ?_⟩; rw [s1]) | ((with_reducible refine gate_callee (f := 86) rfl ?_); refine goesL_ (some 40) rfl rfl Try.func86 (by kernel_rfl) rfl #[.slice A7 l7.length c7, .func (.func 84) #[] #[]] rfl (by (try simp only [List.map_toArray, List.map_cons, List.map_nil]); first | done | rfl) ?_; refine (containsFunc_calls A7 c7 l7 _ (Kd.C_below HR7.out (by repeat (first | exact Below.refl _ _ | apply pw_below_drewN | apply below_alloc))) HC7.out h73).mono ?_; rintro e w2 ⟨rfl, hb2⟩; refine ⟨_, rfl, ?_⟩; have hbk := blk_below (g := w.heap.size) (o := .cells #[.int .i64 a0, .int .i64 0, .int .i64 0, .bool a3, .bool a4, .bool a5, .bool false, .slice A7 l7.length c7, .slice A8 l8.length c8] 48 (0, 0)) (by (with_reducible repeat (first | refine blk_drewN ?_ _ | refine blk_drew ?_ | exact heap_alloc_new w _ | refine blk_alloc ?_ _)); try exact heap_alloc_new w _) hb2; have hz1 : w2.cell? ⟨w.heap.size, 1, none⟩ = some (.int .i64 0) := (blk_cell hbk 1).trans rfl; have hz2 : w2.cell? ⟨w.heap.size, 2, none⟩ = some (.int .i64 0) := (blk_cell hbk 2).trans rfl; have hz6 : w2.cell? ⟨w.heap.size, 6, none⟩ = some (.bool false) := (blk_cell hbk 6).trans rfl; have hz7 : w2.cell? ⟨w.heap.size, 7, none⟩ = some (.slice A7 l7.length c7) := (blk_cell hbk 7).trans rfl; have HB2 := Aside0.mk hb2; clear hb2; rw [hodd]))
                        go_ret
                        exact ⟨by first | rfl | (simp; done), below_step (by repeat (first | exact Below.refl _ _ | apply pw_below_drewN | apply below_alloc)) HB2.out⟩
                      · rw [if_neg (fun h => by rcases h.2 with h | h | h <;> contradiction)]
                        have e3_ : decide (0 < (l7.length : Int)) = false := decide_eq_false (by omega)
                        go_enter Try.func54, Try.ntmps54
                        go_wp2_with (first | ((with_reducible refine gate_callee (f := 85) rfl ?_); (try (refine gate_guard (by rfl) ?_; dsimp only)); refine goesL_ (some 7) rfl rfl Try.func85 (by kernel_rfl) rfl #[.int .i64 a0] rfl (by (try simp only [List.map_toArray, List.map_cons, List.map_nil]); first | done | rfl) ?_; refine (serial_goes a0 _).mono ?_; rintro e w1 ⟨rfl, ⟨m1, rfl⟩⟩; refine ⟨_, rfl, ?_⟩; rw [s0]) | ((with_reducible refine gate_callee (f := 85) rfl ?_); (try (refine gate_guard (by rfl) ?_; dsimp only)); refine goesL_ (some 12) rfl rfl Try.func85 (by kernel_rfl) rfl #[.int .i64 0] rfl (by (try simp only [List.map_toArray, List.map_cons, List.map_nil]); first | done | rfl) ?_; refine (serial_goes 0 _).mono ?_; rintro e w1 ⟨rfl, ⟨m2, rfl⟩⟩; refine ⟨_, rfl, ?_⟩; rw [s1]) | ((with_reducible refine gate_callee (f := 86) rfl ?_); refine goesL_ (some 40) rfl rfl Try.func86 (by kernel_rfl) rfl #[.slice A7 l7.length c7, .func (.func 84) #[] #[]] rfl (by (try simp only [List.map_toArray, List.map_cons, List.map_nil]); first | done | rfl) ?_; refine (containsFunc_calls A7 c7 l7 _ (Kd.C_below HR7.out (by repeat (first | exact Below.refl _ _ | apply pw_below_drewN | apply below_alloc))) HC7.out h73).mono ?_; rintro e w2 ⟨rfl, hb2⟩; refine ⟨_, rfl, ?_⟩; have hbk := blk_below (g := w.heap.size) (o := .cells #[.int .i64 a0, .int .i64 0, .int .i64 0, .bool a3, .bool a4, .bool a5, .bool false, .slice A7 l7.length c7, .slice A8 l8.length c8] 48 (0, 0)) (by (with_reducible repeat (first | refine blk_drewN ?_ _ | refine blk_drew ?_ | exact heap_alloc_new w _ | refine blk_alloc ?_ _)); try exact heap_alloc_new w _) hb2; have hz1 : w2.cell? ⟨w.heap.size, 1, none⟩ = some (.int .i64 0) := (blk_cell hbk 1).trans rfl; have hz2 : w2.cell? ⟨w.heap.size, 2, none⟩ = some (.int .i64 0) := (blk_cell hbk 2).trans rfl; have hz6 : w2.cell? ⟨w.heap.size, 6, none⟩ = some (.bool false) := (blk_cell hbk 6).trans rfl; have hz7 : w2.cell? ⟨w.heap.size, 7, none⟩ = some (.slice A7 l7.length c7) := (blk_cell hbk 7).trans rfl; have HB2 := Aside0.mk hb2; clear hb2; rw [hodd]))
                        go_ret
                        exact ⟨by first | rfl | (simp; done), below_step (by repeat (first | exact Below.refl _ _ | apply pw_below_drewN | apply below_alloc)) HB2.out⟩
                    · rw [if_pos ⟨rfl, .inr (.inl h2')⟩]
                      have e2_ : (a2 != 0) = true := bne_iff_ne.2 h2'
                      have e2b_ : (a2 == 0) = false := beq_eq_false_iff_ne.2 h2'
                      go_enter Try.func54, Try.ntmps54
                      go_wp2_with (first | ((with_reducible refine gate_callee (f := 85) rfl ?_); (try (refine gate_guard (by rfl) ?_; dsimp only)); refine goesL_ (some 7) rfl rfl Try.func85 (by kernel_rfl) rfl #[.int .i64 a0] rfl (by (try simp only [List.map_toArray, List.map_cons, List.map_nil]); first | done | rfl) ?_; refine (serial_goes a0 _).mono ?_; rintro e w1 ⟨rfl, ⟨m1, rfl⟩⟩; refine ⟨_, rfl, ?_⟩; rw [s0]) | ((with_reducible refine gate_callee (f := 85) rfl ?_); (try (refine gate_guard (by rfl) ?_; dsimp only)); refine goesL_ (some 12) rfl rfl Try.func85 (by kernel_rfl) rfl #[.int .i64 0] rfl (by (try simp only [List.map_toArray, List.map_cons, List.map_nil]); first | done | rfl) ?_; refine (serial_goes 0 _).mono ?_; rintro e w1 ⟨rfl, ⟨m2, rfl⟩⟩; refine ⟨_, rfl, ?_⟩; rw [s1]) | ((with_reducible refine gate_callee (f := 86) rfl ?_); refine goesL_ (some 40) rfl rfl Try.func86 (by kernel_rfl) rfl #[.slice A7 l7.length c7, .func (.func 84) #[] #[]] rfl (by (try simp only [List.map_toArray, List.map_cons, List.map_nil]); first | done | rfl) ?_; refine (containsFunc_calls A7 c7 l7 _ (Kd.C_below HR7.out (by repeat (first | exact Below.refl _ _ | apply pw_below_drewN | apply below_alloc))) HC7.out h73).mono ?_; rintro e w2 ⟨rfl, hb2⟩; refine ⟨_, rfl, ?_⟩; have hbk := blk_below (g := w.heap.size) (o := .cells #[.int .i64 a0, .int .i64 0, .int .i64 a2, .bool a3, .bool a4, .bool a5, .bool false, .slice A7 l7.length c7, .slice A8 l8.length c8] 48 (0, 0)) (by (with_reducible repeat (first | refine blk_drewN ?_ _ | refine blk_drew ?_ | exact heap_alloc_new w _ | refine blk_alloc ?_ _)); try exact heap_alloc_new w _) hb2; have hz1 : w2.cell? ⟨w.heap.size, 1, none⟩ = some (.int .i64 0) := (blk_cell hbk 1).trans rfl; have hz2 : w2.cell? ⟨w.heap.size, 2, none⟩ = some (.int .i64 a2) := (blk_cell hbk 2).trans rfl; have hz6 : w2.cell? ⟨w.heap.size, 6, none⟩ = some (.bool false) := (blk_cell hbk 6).trans rfl; have hz7 : w2.cell? ⟨w.heap.size, 7, none⟩ = some (.slice A7 l7.length c7) := (blk_cell hbk 7).trans rfl; have HB2 := Aside0.mk hb2; clear hb2; rw [hodd]))
                      go_ret
                      exact ⟨by first | rfl | (simp; done), below_step (by repeat (first | exact Below.refl _ _ | apply pw_below_drewN | apply below_alloc)) HB2.out⟩
                  · rw [if_pos ⟨rfl, .inl h1⟩]
                    have e1_ : (a1 != 0) = true := bne_iff_ne.2 h1
                    have e1b_ : (a1 == 0) = false := beq_eq_false_iff_ne.2 h1
                    go_enter Try.func54, Try.ntmps54
                    go_wp2_with (first | ((with_reducible refine gate_callee (f := 85) rfl ?_); (try (refine gate_guard (by rfl) ?_; dsimp only)); refine goesL_ (some 7) rfl rfl Try.func85 (by kernel_rfl) rfl #[.int .i64 a0] rfl (by (try simp only [List.map_toArray, List.map_cons, List.map_nil]); first | done | rfl) ?_; refine (serial_goes a0 _).mono ?_; rintro e w1 ⟨rfl, ⟨m1, rfl⟩⟩; refine ⟨_, rfl, ?_⟩; rw [s0]) | ((with_reducible refine gate_callee (f := 85) rfl ?_); (try (refine gate_guard (by rfl) ?_; dsimp only)); refine goesL_ (some 12) rfl rfl Try.func85 (by kernel_rfl) rfl #[.int .i64 a1] rfl (by (try simp only [List.map_toArray, List.map_cons, List.map_nil]); first | done | rfl) ?_; refine (serial_goes a1 _).mono ?_; rintro e w1 ⟨rfl, ⟨m2, rfl⟩⟩; refine ⟨_, rfl, ?_⟩; rw [s1]) | ((with_reducible refine gate_callee (f := 86) rfl ?_); refine goesL_ (some 40) rfl rfl Try.func86 (by kernel_rfl) rfl #[.slice A7 l7.length c7, .func (.func 84) #[] #[]] rfl (by (try simp only [List.map_toArray, List.map_cons, List.map_nil]); first | done | rfl) ?_; refine (containsFunc_calls A7 c7 l7 _ (Kd.C_below HR7.out (by repeat (first | exact Below.refl _ _ | apply pw_below_drewN | apply below_alloc))) HC7.out h73).mono ?_; rintro e w2 ⟨rfl, hb2⟩; refine ⟨_, rfl, ?_⟩; have hbk := blk_below (g := w.heap.size) (o := .cells #[.int .i64 a0, .int .i64 a1, .int .i64 a2, .bool a3, .bool a4, .bool a5, .bool false, .slice A7 l7.length c7, .slice A8 l8.length c8] 48 (0, 0)) (by (with_reducible repeat (first | refine blk_drewN ?_ _ | refine blk_drew ?_ | exact heap_alloc_new w _ | refine blk_alloc ?_ _)); try exact heap_alloc_new w _) hb2; have hz1 : w2.cell? ⟨w.heap.size, 1, none⟩ = some (.int .i64 a1) := (blk_cell hbk 1).trans rfl; have hz2 : w2.cell? ⟨w.heap.size, 2, none⟩ = some (.int .i64 a2) := (blk_cell hbk 2).trans rfl; have hz6 : w2.cell? ⟨w.heap.size, 6, none⟩ = some (.bool false) := (blk_cell hbk 6).trans rfl; have hz7 : w2.cell? ⟨w.heap.size, 7, none⟩ = some (.slice A7 l7.length c7) := (blk_cell hbk 7).trans rfl; have HB2 := Aside0.mk hb2; clear hb2; rw [hodd]))
                    go_ret
                    exact ⟨by first | rfl | (simp; done), below_step (by repeat (first | exact Below.refl _ _ | apply pw_below_drewN | apply below_alloc)) HB2.out⟩
def seg_flags.T1 : Bool × List (List Nat × List Nat) := (true, [([], []), ([0], [0]), ([1], [1]), ([], []), ([3], [3]), ([4], [4]), ([], []), ([6], [6]), ([7], [7]), ([], []), ([9], [9]), ([10], [10]), ([2, 5, 8, 11], [2, 5, 8, 11]), ([12, 0, 1, 2, 3, 4, 5, 6, 7, 8, 9, 10, 11, 12], [12])])
def seg_flags.B1 : List Nat := [0, 1, 3, 0, 8, 24, 0, 64, 192, 0, 512, 1536, 4095, 8191]
theorem seg_flags.tab1 : rtab .any (opsOf Try.f56 1) = seg_flags.T1 := by kernel_rfl
theorem seg_flags.bits1 : waitsOk seg_flags.T1.2 seg_flags.B1 = true := by kernel_rfl
theorem set_four {W : World} {g : Nat} {t : TypeId} {a b c d a' b' c' d' : Value} (h : W.heap[g]? = some (.cells #[a, b, c, d] t (0, 0))) : ((((W.setCell ⟨g, 0, none⟩ a').setCell ⟨g, 1, none⟩ b').setCell ⟨g, 2, none⟩ c').setCell ⟨g, 3, none⟩ d').heap[g]? = some (.cells #[a', b', c', d'] t (0, 0)) := by
  have h1 : (W.setCell ⟨g, 0, none⟩ a').heap[g]? = some (.cells #[a', b, c, d] t (0, 0)) := by simpa using blk_set h 0 a'
  have h2 : ((W.setCell ⟨g, 0, none⟩ a').setCell ⟨g, 1, none⟩ b').heap[g]? = some (.cells #[a', b', c, d] t (0, 0)) := by simpa using blk_set h1 1 b'
  have h3 : (((W.setCell ⟨g, 0, none⟩ a').setCell ⟨g, 1, none⟩ b').setCell ⟨g, 2, none⟩ c').heap[g]? = some (.cells #[a', b', c', d] t (0, 0)) := by simpa using blk_set h2 2 c'
  simpa using blk_set h3 3 d'
set_option maxHeartbeats 4000000 in
set_option maxRecDepth 100000 in
theorem seg_flags.calls (g : Nat) (w : World) : Calls Try.prog 56 #[.pointer (some ⟨g, 0, none⟩)] w fun e w' => e = .returned (.agg #[.pointer (some ⟨g, 3, none⟩), .pointer (some ⟨g, 4, none⟩), .pointer (some ⟨g, 5, none⟩), .pointer (some ⟨g, 6, none⟩)]) ∧ Below w.heap.size w w' := by
  go_enter Try.func56, Try.ntmps56
  go_upto_region 1 with (fail)
  obtain ⟨W1, hW1⟩ : ∃ W, w.alloc (Obj.cells #[Value.pointer none, Value.pointer none, Value.pointer none, Value.pointer none] 109) = W := ⟨_, rfl⟩
  rw [hW1]
  have hB1 : Below w.heap.size w W1 := by rw [← hW1]; exact below_alloc (Below.refl _ _) _
  have hc1 : W1.heap[w.heap.size]? = some (.cells #[Value.pointer none, Value.pointer none, Value.pointer none, Value.pointer none] 109 (0, 0)) := by rw [← hW1]; exact heap_alloc_new w _
  clear hW1
  have hc2 : W1.drew.heap[w.heap.size]? = some (.cells #[Value.pointer none, Value.pointer none, Value.pointer none, Value.pointer none] 109 (0, 0)) := hc1
  have hB2 := below_drew1 hB1
  have hk0 := (blk_cell hc2 0).trans rfl
  have hk1 := (blk_cell hc2 1).trans rfl
  have hk2 := (blk_cell hc2 2).trans rfl
  have hk3 := (blk_cell hc2 3).trans rfl
  have hf0 := blk_frozen hc2 0
  have hf1 := blk_frozen hc2 1
  have hf2 := blk_frozen hc2 2
  have hf3 := blk_frozen hc2 3
  refine start_ (n := 14) (S := fun _ => True) (ds := [13]) #[false, false, false, false, false, false, false, false, false, false, false, false, false, false] (by kernel_rfl) rfl rfl trivial (fun hHeld => ?_); refine with_tabW seg_flags.tab1 seg_flags.bits1 (fun HT_ HW_ => ?_)
  generalize W1.drew = W2 at hc2 hB2 hk0 hk1 hk2 hk3 hf0 hf1 hf2 hf3 ⊢
  refine pure_ (i := 0) (N := some 3) (v := ?_) (a' := ?_) #[true, false, false, false, false, false, false, false, false, false, false, false, false, false] rfl rfl (any_of HT_.out (by kernel_rfl)) (fun _ _ _ h => h) (Or.inl ⟨by rfl, ?_⟩) ?_ ?_
  rotate_left
  · intro w''
    go_simp
    with_reducible rfl
  rotate_left
  · simp only [Act.put, List.setIfInBounds_toArray, List.set_cons_zero, List.set_cons_succ, i64_w, i32_w]
    rfl
  refine pure_ (i := 1) (N := some 4) (v := ?_) (a' := ?_) #[true, true, false, false, false, false, false, false, false, false, false, false, false, false] rfl rfl (any_of HT_.out (by kernel_rfl)) (fun _ _ _ h => h) (Or.inl ⟨by rfl, ?_⟩) ?_ ?_
  rotate_left
  · intro w''
    go_simp
    with_reducible rfl
  rotate_left
  · simp only [Act.put, List.setIfInBounds_toArray, List.set_cons_zero, List.set_cons_succ, i64_w, i32_w]
    rfl
  refine pure_ (i := 2) (N := some 5) (v := ?_) (a' := ?_) #[true, true, true, false, false, false, false, false, false, false, false, false, false, false] rfl rfl (any_of HT_.out (by kernel_rfl)) (fun _ _ _ h => h) (Or.inl ⟨by rfl, ?_⟩) ?_ ?_
  rotate_left
  · intro w''
    go_simp
    with_reducible rfl
  rotate_left
  · simp only [Act.put, List.setIfInBounds_toArray, List.set_cons_zero, List.set_cons_succ, i64_w, i32_w]
    rfl
  refine pure_ (i := 3) (N := some 6) (v := ?_) (a' := ?_) #[true, true, true, true, false, false, false, false, false, false, false, false, false, false] rfl rfl (any_of HT_.out (by kernel_rfl)) (fun _ _ _ h => h) (Or.inl ⟨by rfl, ?_⟩) ?_ ?_
  rotate_left
  · intro w''
    go_simp
    with_reducible rfl
  rotate_left
  · simp only [Act.put, List.setIfInBounds_toArray, List.set_cons_zero, List.set_cons_succ, i64_w, i32_w]
    rfl
  refine pure_ (i := 4) (N := some 7) (v := ?_) (a' := ?_) #[true, true, true, true, true, false, false, false, false, false, false, false, false, false] rfl rfl (any_of HT_.out (by kernel_rfl)) (fun _ _ _ h => h) (Or.inl ⟨by rfl, ?_⟩) ?_ ?_
  rotate_left
  · intro w''
    go_simp
    with_reducible rfl
  rotate_left
  · simp only [Act.put, List.setIfInBounds_toArray, List.set_cons_zero, List.set_cons_succ, i64_w, i32_w]
    rfl
  refine pure_ (i := 5) (N := some 8) (v := ?_) (a' := ?_) #[true, true, true, true, true, true, false, false, false, false, false, false, false, false] rfl rfl (any_of HT_.out (by kernel_rfl)) (fun _ _ _ h => h) (Or.inl ⟨by rfl, ?_⟩) ?_ ?_
  rotate_left
  · intro w''
    go_simp
    with_reducible rfl
  rotate_left
  · simp only [Act.put, List.setIfInBounds_toArray, List.set_cons_zero, List.set_cons_succ, i64_w, i32_w]
    rfl
  refine pure_ (i := 6) (N := some 9) (v := ?_) (a' := ?_) #[true, true, true, true, true, true, true, false, false, false, false, false, false, false] rfl rfl (any_of HT_.out (by kernel_rfl)) (fun _ _ _ h => h) (Or.inl ⟨by rfl, ?_⟩) ?_ ?_
  rotate_left
  · intro w''
    go_simp
    with_reducible rfl
  rotate_left
  · simp only [Act.put, List.setIfInBounds_toArray, List.set_cons_zero, List.set_cons_succ, i64_w, i32_w]
    rfl
  refine pure_ (i := 7) (N := some 10) (v := ?_) (a' := ?_) #[true, true, true, true, true, true, true, true, false, false, false, false, false, false] rfl rfl (any_of HT_.out (by kernel_rfl)) (fun _ _ _ h => h) (Or.inl ⟨by rfl, ?_⟩) ?_ ?_
  rotate_left
  · intro w''
    go_simp
    with_reducible rfl
  rotate_left
  · simp only [Act.put, List.setIfInBounds_toArray, List.set_cons_zero, List.set_cons_succ, i64_w, i32_w]
    rfl
  refine pure_ (i := 8) (N := some 11) (v := ?_) (a' := ?_) #[true, true, true, true, true, true, true, true, true, false, false, false, false, false] rfl rfl (any_of HT_.out (by kernel_rfl)) (fun _ _ _ h => h) (Or.inl ⟨by rfl, ?_⟩) ?_ ?_
  rotate_left
  · intro w''
    go_simp
    with_reducible rfl
  rotate_left
  · simp only [Act.put, List.setIfInBounds_toArray, List.set_cons_zero, List.set_cons_succ, i64_w, i32_w]
    rfl
  refine pure_ (i := 9) (N := some 12) (v := ?_) (a' := ?_) #[true, true, true, true, true, true, true, true, true, true, false, false, false, false] rfl rfl (any_of HT_.out (by kernel_rfl)) (fun _ _ _ h => h) (Or.inl ⟨by rfl, ?_⟩) ?_ ?_
  rotate_left
  · intro w''
    go_simp
    with_reducible rfl
  rotate_left
  · simp only [Act.put, List.setIfInBounds_toArray, List.set_cons_zero, List.set_cons_succ, i64_w, i32_w]
    rfl
  refine pure_ (i := 10) (N := some 13) (v := ?_) (a' := ?_) #[true, true, true, true, true, true, true, true, true, true, true, false, false, false] rfl rfl (any_of HT_.out (by kernel_rfl)) (fun _ _ _ h => h) (Or.inl ⟨by rfl, ?_⟩) ?_ ?_
  rotate_left
  · intro w''
    go_simp
    with_reducible rfl
  rotate_left
  · simp only [Act.put, List.setIfInBounds_toArray, List.set_cons_zero, List.set_cons_succ, i64_w, i32_w]
    rfl
  refine pure_ (i := 11) (N := some 14) (v := ?_) (a' := ?_) #[true, true, true, true, true, true, true, true, true, true, true, true, false, false] rfl rfl (any_of HT_.out (by kernel_rfl)) (fun _ _ _ h => h) (Or.inl ⟨by rfl, ?_⟩) ?_ ?_
  rotate_left
  · intro w''
    go_simp
    with_reducible rfl
  rotate_left
  · simp only [Act.put, List.setIfInBounds_toArray, List.set_cons_zero, List.set_cons_succ, i64_w, i32_w]
    rfl
  refine pure_ (i := 12) (N := some 15) (v := ?_) (a' := ?_) #[true, true, true, true, true, true, true, true, true, true, true, true, true, false] rfl rfl (any_of HT_.out (by kernel_rfl)) (fun _ _ _ h => h) (Or.inl ⟨by rfl, ?_⟩) ?_ ?_
  rotate_left
  · intro w''
    go_simp
    with_reducible rfl
  rotate_left
  · simp only [Act.put, List.setIfInBounds_toArray, List.set_cons_zero, List.set_cons_succ, i64_w, i32_w]
    rfl
  refine last_ (i := 13) (N := none) #[true, true, true, true, true, true, true, true, true, true, true, true, true, true] rfl rfl (one_of HT_.out (by kernel_rfl)) (by decide) (fun K hK => ?_)
  refine skip_ (w1 := ?_) (by rfl) rfl ?_ ?_
  rotate_left
  · go_simp
    rfl
  refine hK.out _ _ ?_
  clear hK K
  refine done_ (done_of HT_.out (by kernel_rfl)) ?_
  try go_wp2
  (try simp only [Exit.inBlock, Exit.then])
  refine bodyPost_ret (results_cell_row rfl _ _ w.heap.size 109 #[.pointer (some ⟨g, 3, none⟩), .pointer (some ⟨g, 4, none⟩), .pointer (some ⟨g, 5, none⟩), .pointer (some ⟨g, 6, none⟩)] (0, 0) _ rfl (set_four hc2) Try.underlying109 rfl (by kernel_rfl)) rfl ?_
  exact ⟨rfl, below_set (below_set (below_set (below_set hB2 (Nat.le_refl _)) (Nat.le_refl _)) (Nat.le_refl _)) (Nat.le_refl _)⟩
def flag (i : Int) (b : Bool) (f : Int) : Int := if b = true then Go.bits .or .u8 f i else f
def sacksB : List S54 → List Int
  | [] => []
  | r :: t => (r.f0 / 256) % 256 :: r.f0 % 256 :: (r.f1 / 256) % 256 :: r.f1 % 256 :: sacksB t
def flagsB (a3 a4 a5 a6 : Bool) : Int := flag 8 a6 (flag 4 a5 (flag 2 a4 (flag 1 a3 0)))
def headB (a0 a1 a2 : Int) : List Int := [(a0 / 256) % 256, a0 % 256, (a1 / 256) % 256, a1 % 256, (a2 / 256) % 256, a2 % 256]
def encB (a0 a1 a2 : Int) (a3 a4 a5 a6 : Bool) (l7 : List S54) (l8 : List Int) : List Int := headB a0 a1 a2 ++ [flagsB a3 a4 a5 a6, (l7.length : Int)] ++ [0, 0] ++ sacksB l7 ++ l8
def seg_Encode.f (k : Nat) (a0 a1 a2 : Int) (a3 a4 a5 a6 : Bool) (l7 : List S54) (l8 : List Int) : Option (List Int × Int) :=
  if seg_fault.f a0 a1 a2 a6 l7 l8 = 0 then (inet_Sum.f k (encB a0 a1 a2 a3 a4 a5 a6 l7 l8)).bind fun s => some (((encB a0 a1 a2 a3 a4 a5 a6 l7 l8).set 8 ((s / 256) % 256)).set 9 (s % 256), 0)
  else some ([], seg_fault.f a0 a1 a2 a6 l7 l8)
theorem two_is (l : List Int) (a : Int) (h : l.length < 1000000) : seg_two.f l a = some (l ++ [(a / 256) % 256, a % 256]) := by
  unfold seg_two.f
  rw [Option.bind_some, if_pos (by simp only [List.length_cons, List.length_nil]; omega)]
def seg_Encode.T4 : Bool × List (List Nat × List Nat) := (true, [([], []), ([0], [0]), ([1], [1]), ([], []), ([3], [3]), ([2, 4, 2], [2, 4]), ([], []), ([6], [6]), ([5, 7, 5], [5, 7]), ([8, 8, 0, 1, 2, 3, 4, 5, 6, 7, 8], [8])])
def seg_Encode.B4 : List Nat := [0, 1, 3, 0, 8, 31, 0, 64, 255, 511]
theorem seg_Encode.tab4 : rtab .any (opsOf Try.f26 4) = seg_Encode.T4 := by kernel_rfl
theorem seg_Encode.bits4 : waitsOk seg_Encode.T4.2 seg_Encode.B4 = true := by kernel_rfl
def seg_Encode.T16 : Bool × List (List Nat × List Nat) := (true, [([], []), ([], []), ([1], [1]), ([0, 2], [0, 2]), ([], []), ([4], [4]), ([3, 5, 3], [3, 5]), ([6, 6, 0, 1, 2, 3, 4, 5, 6], [0, 6])])
def seg_Encode.B16 : List Nat := [0, 0, 2, 7, 0, 16, 63, 127]
theorem seg_Encode.tab16 : rtab .any (opsOf Try.f26 16) = seg_Encode.T16 := by kernel_rfl
theorem seg_Encode.bits16 : waitsOk seg_Encode.T16.2 seg_Encode.B16 = true := by kernel_rfl
theorem fault_small {a0 a1 a2 : Int} {a6 : Bool} {l7 : List S54} {l8 : List Int} (h : seg_fault.f a0 a1 a2 a6 l7 l8 = 0) : l7.length ≤ 3 ∧ l8.length ≤ 64 := by
  unfold seg_fault.f at h
  split at h
  · split at h
    · cases h
    · omega
  · cases h
theorem sacks_append (a b : List S54) : sacksB (a ++ b) = sacksB a ++ sacksB b := by
  induction a with
  | nil => rfl
  | cons x t ih => simp [sacksB, ih]
theorem sacks_length (a : List S54) : (sacksB a).length = 4 * a.length := by
  induction a with
  | nil => rfl
  | cons x t ih => simp [sacksB, ih]; omega
def preB (a0 a1 a2 : Int) (a3 a4 a5 a6 : Bool) (n : Nat) : List Int := headB a0 a1 a2 ++ [flagsB a3 a4 a5 a6, (n : Int)] ++ [0 / 256 % 256, 0 % 256]
theorem index_four (p0 p1 p2 p3 : Option Addr) (W : World) : (Instr.index 109 (.agg #[.pointer p0, .pointer p1, .pointer p2, .pointer p3]) (.int .i64 0)).run Try.prog W = .ok (.pointer p0) W ∧ (Instr.index 109 (.agg #[.pointer p0, .pointer p1, .pointer p2, .pointer p3]) (.int .i64 1)).run Try.prog W = .ok (.pointer p1) W ∧ (Instr.index 109 (.agg #[.pointer p0, .pointer p1, .pointer p2, .pointer p3]) (.int .i64 2)).run Try.prog W = .ok (.pointer p2) W ∧ (Instr.index 109 (.agg #[.pointer p0, .pointer p1, .pointer p2, .pointer p3]) (.int .i64 3)).run Try.prog W = .ok (.pointer p3) W := by
  refine ⟨?_, ?_, ?_, ?_⟩ <;> kernel_rfl
theorem blk_lt {W : World} {g : Nat} {o : Obj} (h : W.heap[g]? = some o) : g < W.heap.size := (Array.getElem?_eq_some_iff.1 h).1
def flj (a3 a4 a5 a6 : Bool) : Nat → Int
  | 0 => 0
  | 1 => flag 1 a3 0
  | 2 => flag 2 a4 (flag 1 a3 0)
  | 3 => flag 4 a5 (flag 2 a4 (flag 1 a3 0))
  | _ => flagsB a3 a4 a5 a6
set_option maxHeartbeats 4000000 in
set_option maxRecDepth 100000 in
theorem seg_Encode.calls (k : Nat) (a0 a1 a2 : Int) (a3 a4 a5 a6 : Bool) (A7 : Option Addr) (c7 : Nat) (l7 : List S54) (A8 : Option Addr) (c8 : Nat) (l8 : List Int) (r1 : List Int) (r2 : Int) (w : World) (hr7 : Kd.C k54 w A7 l7.length l7) (hc7 : l7.length ≤ c7) (hr8 : Kd.C (Kd.int .u8) w A8 l8.length l8) (hc8 : l8.length ≤ c8) (h : seg_Encode.f k a0 a1 a2 a3 a4 a5 a6 l7 l8 = some (r1, r2)) :
    Calls Try.prog 26 #[.agg #[.int .i64 a0, .int .i64 a1, .int .i64 a2, .bool a3, .bool a4, .bool a5, .bool a6, .slice A7 l7.length c7, .slice A8 l8.length c8]] w fun e w' => ∃ v0_ : Value, e = .returned (.tuple #[v0_, .int .i64 r2]) ∧ Kd.R (Kd.int .u8) 5 w' w.heap.size (fun _ => True) v0_ r1 ∧ Below w.heap.size w w' := by
  have HR7 := Aside0.mk hr7
  have HC7 := Aside0.mk hc7
  have HR8 := Aside0.mk hr8
  have HC8 := Aside0.mk hc8
  clear hr7 hc7 hr8 hc8
  obtain ⟨e, he⟩ : ∃ e, seg_fault.f a0 a1 a2 a6 l7 l8 = e := ⟨_, rfl⟩
  have HE := Aside0.mk he
  unfold seg_Encode.f at h
  have HH := Aside0.mk h
  clear h
  go_enter Try.func26, Try.ntmps26
  go_upto_region 1 with (fail)
  obtain ⟨W1, hW1⟩ : ∃ W, w.alloc (Obj.cells #[.int .i64 a0, .int .i64 a1, .int .i64 a2, .bool a3, .bool a4, .bool a5, .bool a6, .slice A7 l7.length c7, .slice A8 l8.length c8] 48) = W := ⟨_, rfl⟩
  rw [hW1]
  have hB1 : Below w.heap.size w W1 := by rw [← hW1]; exact below_alloc (Below.refl _ _) _
  have hc1 : W1.heap[w.heap.size]? = some (.cells #[.int .i64 a0, .int .i64 a1, .int .i64 a2, .bool a3, .bool a4, .bool a5, .bool a6, .slice A7 l7.length c7, .slice A8 l8.length c8] 48 (0, 0)) := by rw [← hW1]; exact heap_alloc_new w _
  clear hW1
  have hk0 : W1.cell? ⟨w.heap.size, 0, none⟩ = some (.int .i64 a0) := (blk_cell hc1 0).trans rfl
  have hk1 : W1.cell? ⟨w.heap.size, 1, none⟩ = some (.int .i64 a1) := (blk_cell hc1 1).trans rfl
  have hk2 : W1.cell? ⟨w.heap.size, 2, none⟩ = some (.int .i64 a2) := (blk_cell hc1 2).trans rfl
  have hk3 : W1.cell? ⟨w.heap.size, 3, none⟩ = some (.bool a3) := (blk_cell hc1 3).trans rfl
  have hk4 : W1.cell? ⟨w.heap.size, 4, none⟩ = some (.bool a4) := (blk_cell hc1 4).trans rfl
  have hk5 : W1.cell? ⟨w.heap.size, 5, none⟩ = some (.bool a5) := (blk_cell hc1 5).trans rfl
  have hk6 : W1.cell? ⟨w.heap.size, 6, none⟩ = some (.bool a6) := (blk_cell hc1 6).trans rfl
  have hk7 : W1.cell? ⟨w.heap.size, 7, none⟩ = some (.slice A7 l7.length c7) := (blk_cell hc1 7).trans rfl
  have hk8 : W1.cell? ⟨w.heap.size, 8, none⟩ = some (.slice A8 l8.length c8) := (blk_cell hc1 8).trans rfl
  have HB1 := Aside0.mk hB1
  have HC1 := Aside0.mk hc1
  clear hB1 hc1
  by_cases hz : e = 0
  · have z_ : (e != 0) = false := bne_eq_false_iff_eq.2 hz
    have z2_ : (e == 0) = true := beq_iff_eq.2 hz
    have hHH := HH.out
    rw [HE.out, if_pos hz] at hHH
    obtain ⟨sum, hsum, hHH⟩ := Option.bind_eq_some_iff.1 hHH
    have HSM := Aside0.mk hsum
    simp only [Option.some.injEq, Prod.mk.injEq] at hHH
    obtain ⟨rfl, rfl⟩ := hHH
    obtain ⟨h73, h864⟩ := fault_small (HE.out.trans hz)
    clear hsum hz
    go_upto_region 4 with (first | ((with_reducible refine gate_callee (f := 54) rfl ?_); refine goesL_ (some 13) rfl rfl Try.func54 (by kernel_rfl) rfl #[.agg #[.int .i64 a0, .int .i64 a1, .int .i64 a2, .bool a3, .bool a4, .bool a5, .bool a6, .slice A7 l7.length c7, .slice A8 l8.length c8]] rfl (by (try simp only [List.map_toArray, List.map_cons, List.map_nil]); first | done | rfl) ?_; refine (seg_fault.calls a0 a1 a2 a3 a4 a5 a6 A7 c7 l7 A8 c8 l8 _ (Kd.C_below HR7.out HB1.out) HC7.out).mono ?_; rintro e' w2 ⟨rfl, hb2⟩; refine ⟨_, rfl, ?_⟩; rw [HE.out]; have HB2 := Aside0.mk (below_step HB1.out hb2); have HC2 := Aside0.mk (blk_below (g := w.heap.size) (o := .cells #[.int .i64 a0, .int .i64 a1, .int .i64 a2, .bool a3, .bool a4, .bool a5, .bool a6, .slice A7 l7.length c7, .slice A8 l8.length c8] 48 (0, 0)) HC1.out hb2); clear hb2))
    have HO2 : Aside0 (Kd.R (Kd.int .u8) 5 w2.drew w.heap.size (fun k_ => k_ ≠ w.heap.size) (.slice none 0 0) []) := ⟨Kd.R_nil _ _ _ _ _⟩
    have HB2d := Aside0.mk (below_drew1 HB2.out)
    have HC2d : Aside0 (w2.drew.heap[w.heap.size]? = some (.cells #[.int .i64 a0, .int .i64 a1, .int .i64 a2, .bool a3, .bool a4, .bool a5, .bool a6, .slice A7 l7.length c7, .slice A8 l8.length c8] 48 (0, 0))) := ⟨HC2.out⟩
    refine start_ (n := 10) (S := fun w'' => w''.cell? ⟨w.heap.size, 0, none⟩ = some (.int .i64 a0) ∧ w''.cell? ⟨w.heap.size, 1, none⟩ = some (.int .i64 a1) ∧ w''.cell? ⟨w.heap.size, 2, none⟩ = some (.int .i64 a2)) (ds := []) #[false, false, false, false, false, false, false, false, false, false] (by kernel_rfl) rfl rfl ⟨(blk_cell HC2d.out 0).trans rfl, (blk_cell HC2d.out 1).trans rfl, (blk_cell HC2d.out 2).trans rfl⟩ (fun hHeld => ?_); refine with_tabW seg_Encode.tab4 seg_Encode.bits4 (fun HT_ HW_ => ?_)
    generalize w2.drew = w3 at HO2 HB2d HC2d hHeld ⊢
    refine pure_ (i := 0) (N := some 17) (v := ?_) (a' := ?_) #[true, false, false, false, false, false, false, false, false, false] rfl rfl (any_of HT_.out (by kernel_rfl)) (fun _ _ _ h => h) (Or.inl ⟨by rfl, ?_⟩) ?_ ?_
    rotate_left
    · intro w''
      go_simp
      with_reducible rfl
    rotate_left
    · simp only [Act.put, List.setIfInBounds_toArray, List.set_cons_zero, List.set_cons_succ, i64_w, i32_w]
      rfl
    refine pure_ (i := 3) (N := some 20) (v := ?_) (a' := ?_) #[true, false, false, true, false, false, false, false, false, false] rfl rfl (any_of HT_.out (by kernel_rfl)) (fun _ _ _ h => h) (Or.inl ⟨by rfl, ?_⟩) ?_ ?_
    rotate_left
    · intro w''
      go_simp
      with_reducible rfl
    rotate_left
    · simp only [Act.put, List.setIfInBounds_toArray, List.set_cons_zero, List.set_cons_succ, i64_w, i32_w]
      rfl
    refine pure_ (i := 6) (N := some 23) (v := ?_) (a' := ?_) #[true, false, false, true, false, false, true, false, false, false] rfl rfl (any_of HT_.out (by kernel_rfl)) (fun _ _ _ h => h) (Or.inl ⟨by rfl, ?_⟩) ?_ ?_
    rotate_left
    · intro w''
      go_simp
      with_reducible rfl
    rotate_left
    · simp only [Act.put, List.setIfInBounds_toArray, List.set_cons_zero, List.set_cons_succ, i64_w, i32_w]
      rfl
    refine take_ (i := 1) (N := some 18) (v := ?_) (a' := ?_) #[true, true, false, true, false, false, true, false, false, false] rfl rfl (take_ofW HT_.out HW_.out (by kernel_rfl)) (fun _ _ _ h => h) (Or.inl ⟨by rfl, ?_⟩) hHeld ?_ ?_
    rotate_left
    · rintro w'' ⟨s0, s1, s2⟩
      go_simp
      with_reducible rfl
    rotate_left
    · simp only [Act.put, List.setIfInBounds_toArray, List.set_cons_zero, List.set_cons_succ, i64_w, i32_w]
      rfl
    refine take_ (i := 4) (N := some 21) (v := ?_) (a' := ?_) #[true, true, false, true, true, false, true, false, false, false] rfl rfl (take_ofW HT_.out HW_.out (by kernel_rfl)) (fun _ _ _ h => h) (Or.inl ⟨by rfl, ?_⟩) hHeld ?_ ?_
    rotate_left
    · rintro w'' ⟨s0, s1, s2⟩
      go_simp
      with_reducible rfl
    rotate_left
    · simp only [Act.put, List.setIfInBounds_toArray, List.set_cons_zero, List.set_cons_succ, i64_w, i32_w]
      rfl
    refine take_ (i := 7) (N := some 24) (v := ?_) (a' := ?_) #[true, true, false, true, true, false, true, true, false, false] rfl rfl (take_ofW HT_.out HW_.out (by kernel_rfl)) (fun _ _ _ h => h) (Or.inl ⟨by rfl, ?_⟩) hHeld ?_ ?_
    rotate_left
    · rintro w'' ⟨s0, s1, s2⟩
      go_simp
      with_reducible rfl
    rotate_left
    · simp only [Act.put, List.setIfInBounds_toArray, List.set_cons_zero, List.set_cons_succ, i64_w, i32_w]
      rfl
    refine one_ (i := 2) (N := some 19) #[true, true, true, true, true, false, true, true, false, false] rfl rfl (one_of HT_.out (by kernel_rfl)) (by decide) (fun K hK => ?_)
    refine goes_ Try.func55 (by kernel_rfl) rfl #[(.slice none 0 0), .int .i64 a0] (by rfl) rfl rfl (by (try simp only [List.map_toArray, List.map_cons, List.map_nil]); first | done | rfl) ?_
    refine (seg_two.calls (fun k_ => k_ ≠ w.heap.size) (.slice none 0 0) [] a0 _ w _ HB2d.out HO2.out (two_is _ _ (by simp))).mono ?_
    rintro e' w4 ⟨v4, rfl, ho4, hb4, hkp4⟩
    refine ⟨v4, rfl, ?_⟩
    have HC4 : Aside0 (w4.heap[w.heap.size]? = some (.cells #[.int .i64 a0, .int .i64 a1, .int .i64 a2, .bool a3, .bool a4, .bool a5, .bool a6, .slice A7 l7.length c7, .slice A8 l8.length c8] 48 (0, 0))) := ⟨(hkp4.2 _ (blk_lt HC2d.out) (by simp)).trans HC2d.out⟩
    have HB4 := Aside0.mk hb4
    have HO4 := Aside0.mk (Kd.R_mono (ok' := fun k_ => k_ ≠ w.heap.size) ho4 (fun k_ hk_ => hk_.elim id (fun h_ => by have := blk_lt HC2d.out; omega)))
    clear ho4 hb4 hkp4
    refine hK.out _ _ ⟨(blk_cell HC4.out 0).trans rfl, (blk_cell HC4.out 1).trans rfl, (blk_cell HC4.out 2).trans rfl⟩ (fun hHeld => ?_)
    clear hK K
    refine norm_ (a' := ?_) ?_ ?_
    rotate_left
    · show Act.put _ (some 19) _ = _
      simp only [Act.put, List.setIfInBounds_toArray, List.set_cons_zero, List.set_cons_succ, i64_w, i32_w]
      rfl
    refine one_ (i := 5) (N := some 22) #[true, true, true, true, true, true, true, true, false, false] rfl rfl (one_of HT_.out (by kernel_rfl)) (by decide) (fun K hK => ?_)
    refine goes_ Try.func55 (by kernel_rfl) rfl #[v4, .int .i64 a1] (by rfl) rfl rfl (by (try simp only [List.map_toArray, List.map_cons, List.map_nil]); first | done | rfl) ?_
    refine (seg_two.calls (fun k_ => k_ ≠ w.heap.size) v4 _ a1 _ w _ HB4.out HO4.out (two_is _ _ (by simp))).mono ?_
    rintro e' w5 ⟨v5, rfl, ho5, hb5, hkp5⟩
    refine ⟨v5, rfl, ?_⟩
    have HC5 : Aside0 (w5.heap[w.heap.size]? = some (.cells #[.int .i64 a0, .int .i64 a1, .int .i64 a2, .bool a3, .bool a4, .bool a5, .bool a6, .slice A7 l7.length c7, .slice A8 l8.length c8] 48 (0, 0))) := ⟨(hkp5.2 _ (blk_lt HC4.out) (by simp)).trans HC4.out⟩
    have HB5 := Aside0.mk hb5
    have HO5 := Aside0.mk (Kd.R_mono (ok' := fun k_ => k_ ≠ w.heap.size) ho5 (fun k_ hk_ => hk_.elim id (fun h_ => by have := blk_lt HC4.out; omega)))
    clear ho5 hb5 hkp5
    refine hK.out _ _ ⟨(blk_cell HC5.out 0).trans rfl, (blk_cell HC5.out 1).trans rfl, (blk_cell HC5.out 2).trans rfl⟩ (fun hHeld => ?_)
    clear hK K
    refine norm_ (a' := ?_) ?_ ?_
    rotate_left
    · show Act.put _ (some 22) _ = _
      simp only [Act.put, List.setIfInBounds_toArray, List.set_cons_zero, List.set_cons_succ, i64_w, i32_w]
      rfl
    refine one_ (i := 8) (N := some 25) #[true, true, true, true, true, true, true, true, true, false] rfl rfl (one_of HT_.out (by kernel_rfl)) (by decide) (fun K hK => ?_)
    refine goes_ Try.func55 (by kernel_rfl) rfl #[v5, .int .i64 a2] (by rfl) rfl rfl (by (try simp only [List.map_toArray, List.map_cons, List.map_nil]); first | done | rfl) ?_
    refine (seg_two.calls (fun k_ => k_ ≠ w.heap.size) v5 _ a2 _ w _ HB5.out HO5.out (two_is _ _ (by simp))).mono ?_
    rintro e' w6 ⟨v6, rfl, ho6, hb6, hkp6⟩
    refine ⟨v6, rfl, ?_⟩
    have HC6 : Aside0 (w6.heap[w.heap.size]? = some (.cells #[.int .i64 a0, .int .i64 a1, .int .i64 a2, .bool a3, .bool a4, .bool a5, .bool a6, .slice A7 l7.length c7, .slice A8 l8.length c8] 48 (0, 0))) := ⟨(hkp6.2 _ (blk_lt HC5.out) (by simp)).trans HC5.out⟩
    have HB6 := Aside0.mk hb6
    have HO6 := Aside0.mk (Kd.R_mono (ok' := fun k_ => k_ ≠ w.heap.size) ho6 (fun k_ hk_ => hk_.elim id (fun h_ => by have := blk_lt HC5.out; omega)))
    clear ho6 hb6 hkp6
    refine hK.out _ _ ⟨(blk_cell HC6.out 0).trans rfl, (blk_cell HC6.out 1).trans rfl, (blk_cell HC6.out 2).trans rfl⟩ (fun hHeld => ?_)
    clear hK K
    refine norm_ (a' := ?_) ?_ ?_
    rotate_left
    · show Act.put _ (some 25) _ = _
      simp only [Act.put, List.setIfInBounds_toArray, List.set_cons_zero, List.set_cons_succ, i64_w, i32_w]
      rfl
    refine pure_ (i := 9) (N := some 5) (v := ?_) (a' := ?_) #[true, true, true, true, true, true, true, true, true, true] rfl rfl (any_of HT_.out (by kernel_rfl)) (fun _ _ _ h => h) (Or.inl ⟨by rfl, ?_⟩) ?_ ?_
    rotate_left
    · intro w''
      go_simp
      with_reducible rfl
    rotate_left
    · simp only [Act.put, List.setIfInBounds_toArray, List.set_cons_zero, List.set_cons_succ, i64_w, i32_w]
      rfl
    refine done_ (done_of HT_.out (by kernel_rfl)) ?_
    go_upto_region 7 with (first | ((with_reducible refine gate_callee (f := 56) rfl ?_); refine goesL_ (some 26) rfl rfl Try.func56 (by kernel_rfl) rfl #[.pointer (some ⟨w.heap.size, 0, none⟩)] rfl (by (try simp only [List.map_toArray, List.map_cons, List.map_nil]); first | done | rfl) ?_; refine (seg_flags.calls w.heap.size _).mono ?_; rintro e' w7 ⟨rfl, hb7⟩; refine ⟨_, rfl, ?_⟩; have HB7 := Aside0.mk (below_then HB6.out HB6.out.size hb7); have HC7b := Aside0.mk (blk_below (g := w.heap.size) (o := .cells #[.int .i64 a0, .int .i64 a1, .int .i64 a2, .bool a3, .bool a4, .bool a5, .bool a6, .slice A7 l7.length c7, .slice A8 l8.length c8] 48 (0, 0)) HC6.out hb7); have HO7 := Aside0.mk (Kd.R_below HO6.out hb7); clear hb7))
    have hq3 : w7.cell? ⟨w.heap.size, 3, none⟩ = some (.bool a3) := (blk_cell HC7b.out 3).trans rfl
    have hq4 : w7.cell? ⟨w.heap.size, 4, none⟩ = some (.bool a4) := (blk_cell HC7b.out 4).trans rfl
    have hq5 : w7.cell? ⟨w.heap.size, 5, none⟩ = some (.bool a5) := (blk_cell HC7b.out 5).trans rfl
    have hq6 : w7.cell? ⟨w.heap.size, 6, none⟩ = some (.bool a6) := (blk_cell HC7b.out 6).trans rfl
    have hq7 : w7.cell? ⟨w.heap.size, 7, none⟩ = some (.slice A7 l7.length c7) := (blk_cell HC7b.out 7).trans rfl
    have hi0 := fun W : World => (index_four (some ⟨w.heap.size, 3, none⟩) (some ⟨w.heap.size, 4, none⟩) (some ⟨w.heap.size, 5, none⟩) (some ⟨w.heap.size, 6, none⟩) W).1
    have hi1 := fun W : World => (index_four (some ⟨w.heap.size, 3, none⟩) (some ⟨w.heap.size, 4, none⟩) (some ⟨w.heap.size, 5, none⟩) (some ⟨w.heap.size, 6, none⟩) W).2.1
    have hi2 := fun W : World => (index_four (some ⟨w.heap.size, 3, none⟩) (some ⟨w.heap.size, 4, none⟩) (some ⟨w.heap.size, 5, none⟩) (some ⟨w.heap.size, 6, none⟩) W).2.2.1
    have hi3 := fun W : World => (index_four (some ⟨w.heap.size, 3, none⟩) (some ⟨w.heap.size, 4, none⟩) (some ⟨w.heap.size, 5, none⟩) (some ⟨w.heap.size, 6, none⟩) W).2.2.2
    go_loopw [27, 6] (fun v27 v6 wr => ∃ j : Nat, v27 = .int .i64 (j : Int) ∧ v6 = .int .u8 (flj a3 a4 a5 a6 j) ∧ Aside0 (j ≤ 4) ∧ wr = w7) (fun v27 v6 _ => 4 - (intOf v27).toNat)
    case atStart => exact ⟨0, rfl, rfl, ⟨by omega⟩, by first | rfl | trivial⟩
    case round =>
      obtain ⟨j, rfl, rfl, HJ, rfl⟩ := hrel
      have hj4 := HJ.out
      match j, hj4 with
      | 0, _ =>
        cases h3 : a3 with
        | true =>
          rw [h3] at hq3
          go_wp2
          go_roundw
          case measure => simp only [intOf]; omega
          case rel => exact ⟨1, rfl, by simp [flj, flag, h3], ⟨by omega⟩, by first | rfl | trivial⟩
        | false =>
          rw [h3] at hq3
          go_wp2
          go_roundw
          case measure => simp only [intOf]; omega
          case rel => exact ⟨1, rfl, by simp [flj, flag, h3], ⟨by omega⟩, by first | rfl | trivial⟩
      | 1, _ =>
        cases h4 : a4 with
        | true =>
          rw [h4] at hq4
          go_wp2
          go_roundw
          case measure => simp only [intOf]; omega
          case rel => exact ⟨2, rfl, by simp [flj, flag, h4], ⟨by omega⟩, by first | rfl | trivial⟩
        | false =>
          rw [h4] at hq4
          go_wp2
          go_roundw
          case measure => simp only [intOf]; omega
          case rel => exact ⟨2, rfl, by simp [flj, flag, h4], ⟨by omega⟩, by first | rfl | trivial⟩
      | 2, _ =>
        cases h5 : a5 with
        | true =>
          rw [h5] at hq5
          go_wp2
          go_roundw
          case measure => simp only [intOf]; omega
          case rel => exact ⟨3, rfl, by simp [flj, flag, h5], ⟨by omega⟩, by first | rfl | trivial⟩
        | false =>
          rw [h5] at hq5
          go_wp2
          go_roundw
          case measure => simp only [intOf]; omega
          case rel => exact ⟨3, rfl, by simp [flj, flag, h5], ⟨by omega⟩, by first | rfl | trivial⟩
      | 3, _ =>
        cases h6 : a6 with
        | true =>
          rw [h6] at hq6
          go_wp2
          go_roundw
          case measure => simp only [intOf]; omega
          case rel => exact ⟨4, rfl, by simp [flj, flagsB, flag, h6], ⟨by omega⟩, by first | rfl | trivial⟩
        | false =>
          rw [h6] at hq6
          go_wp2
          go_roundw
          case measure => simp only [intOf]; omega
          case rel => exact ⟨4, rfl, by simp [flj, flagsB, flag, h6], ⟨by omega⟩, by first | rfl | trivial⟩
      | 4, _ =>
        go_upto_region 12 with (fail)
        have hn3 : (l7.length : Int) ≤ 3 := by omega
        rw [show flj a3 a4 a5 a6 4 = flagsB a3 a4 a5 a6 from rfl]
        have hh6 : (([] ++ [a0 / 256 % 256, a0 % 256]) ++ [a1 / 256 % 256, a1 % 256]) ++ [a2 / 256 % 256, a2 % 256] = headB a0 a1 a2 := rfl
        have HOh : Aside0 (Kd.R (Kd.int .u8) 5 wr w.heap.size (fun k_ => k_ ≠ w.heap.size) v6 (headB a0 a1 a2)) := HO7
        have hg7 := blk_lt HC7b.out
        go_upto_region 13 with (first
          | ((with_reducible refine gate_dst (N := 45) rfl ?_); refine Kd.R_lit (Kd.int .u8) _ 5 ?hg (N := 45) ?hd (xs := ([flagsB a3 a4 a5 a6, (l7.length : Int)] : List Int)) (inner := [.int .u8 (flagsB a3 a4 a5 a6), .int .u8 (l7.length : Int)]) (ok := fun _ => True) (okp := fun _ => True) ?hr ?hp (fun _ hk => hk) trivial (Below.refl _ _) (Nat.le_refl _) (by simp) ?_; (case hd => rfl); (case hg => rfl); (case hr => first | (go_simp; done) | (go_simp; rfl)); (case hp => exact (Reps.one (show Kd.M (Kd.int .u8) _ _ _ (flagsB a3 a4 a5 a6) [.int .u8 (flagsB a3 a4 a5 a6)] from rfl) (Reps.one (show Kd.M (Kd.int .u8) _ _ _ (l7.length : Int) [.int .u8 (l7.length : Int)] from rfl) (Reps.none _ _)))); intro v8 w8 ho8 hb8 hg_ hnew_; clear hg_ hnew_; have HC8b := Aside0.mk (blk_below (g := w.heap.size) (o := .cells #[.int .i64 a0, .int .i64 a1, .int .i64 a2, .bool a3, .bool a4, .bool a5, .bool a6, .slice A7 l7.length c7, .slice A8 l8.length c8] 48 (0, 0)) HC7b.out hb8); have HB8 := Aside0.mk (below_then HB7.out HB7.out.size hb8); have HO8 := Aside0.mk (Kd.R_below HOh.out hb8); obtain ⟨Ao8, co8, eo8⟩ := Kd.R_slice ho8; subst eo8; have HL8 := Aside0.mk (Kd.R_reads' ho8).2.2; clear ho8 hb8)
          | ((with_reducible refine gate_builtin (b := .append) (xs := #[.tmp 39, .tmp 45]) rfl ?_); at_builtin; refine Kd.R_append_rows (Kd.int .u8) (w0 := w) w.heap.size rfl (.tmp 39) (.tmp 45) 30 5 (.int .u8 0) 1 rfl Try.underlying30 info5 rfl (by decide) (by omega) v6 (headB a0 a1 a2) [flagsB a3 a4 a5 a6, (l7.length : Int)] _ _ _ (fun k_ => k_ ≠ w.heap.size) (fun _ => False) rfl rfl ?aO ?aR (fun _ _ h => h) (fun _ h => h.elim) ?aF ?aB ?aS ?aL ?_; (case aR => exact HL8.out); (case aO => exact HO8.out); (case aF => exact (fun k_ hk_ => by have := blk_lt HC8b.out; omega)); (case aB => exact HB8.out); (case aS => exact HB8.out.size); (case aL => simp [headB]); intro v9 w9 ho hb hg hat; have HC9 : Aside0 (w9.heap[w.heap.size]? = some (.cells #[.int .i64 a0, .int .i64 a1, .int .i64 a2, .bool a3, .bool a4, .bool a5, .bool a6, .slice A7 l7.length c7, .slice A8 l8.length c8] 48 (0, 0))) := ⟨(hg.block _ (blk_lt HC8b.out) (fun e_ => HO8.out.1 _ e_.symm rfl)).trans HC8b.out⟩; have HB9 := Aside0.mk hb; have HO9 := Aside0.mk ho; clear ho hb hg hat)
          | ((with_reducible refine gate_callee (f := 55) rfl ?_); refine goesL_ (some 47) rfl rfl Try.func55 (by kernel_rfl) rfl #[v9, .int .i64 0] rfl (by (try simp only [List.map_toArray, List.map_cons, List.map_nil]); first | done | rfl) ?_; refine (seg_two.calls (fun k_ => k_ ≠ w.heap.size) v9 _ 0 _ w _ HB9.out HO9.out (two_is _ _ (by simp [headB]))).mono ?_; rintro e' w10 ⟨v10, rfl, ho, hb, hkp⟩; refine ⟨v10, rfl, ?_⟩; have HC10 : Aside0 (w10.heap[w.heap.size]? = some (.cells #[.int .i64 a0, .int .i64 a1, .int .i64 a2, .bool a3, .bool a4, .bool a5, .bool a6, .slice A7 l7.length c7, .slice A8 l8.length c8] 48 (0, 0))) := ⟨(hkp.2 _ (blk_lt HC9.out) (by simp)).trans HC9.out⟩; have HB10 := Aside0.mk hb; have HO10 := Aside0.mk (Kd.R_mono (ok' := fun k_ => k_ ≠ w.heap.size) ho (fun k_ hk_ => hk_.elim id (fun h_ => by have := blk_lt HC9.out; omega))); clear ho hb hkp))
        have HO11 : Aside0 (Kd.R (Kd.int .u8) 5 w10 w.heap.size (fun k_ => k_ ≠ w.heap.size) v10 (preB a0 a1 a2 a3 a4 a5 a6 l7.length)) := HO10
        have hq7 : w10.cell? ⟨w.heap.size, 7, none⟩ = some (.slice A7 l7.length c7) := (blk_cell HC10.out 7).trans rfl
        clear HO10
        go_wp2
        go_loopw [5, 51] (fun v5 v51 wr => ∃ j : Nat, v51 = .int .i64 (j : Int) ∧ Aside0 (j ≤ l7.length) ∧ Aside0 (Kd.R (Kd.int .u8) 5 wr w.heap.size (fun k_ => k_ ≠ w.heap.size) v5 (preB a0 a1 a2 a3 a4 a5 a6 l7.length ++ sacksB (l7.take j))) ∧ Aside0 (Below w.heap.size w wr) ∧ Aside0 (wr.heap[w.heap.size]? = some (.cells #[.int .i64 a0, .int .i64 a1, .int .i64 a2, .bool a3, .bool a4, .bool a5, .bool a6, .slice A7 l7.length c7, .slice A8 l8.length c8] 48 (0, 0)))) (fun v5 v51 _ => l7.length - (intOf v51).toNat)
        case atStart => exact ⟨0, rfl, ⟨Nat.zero_le _⟩, ⟨by rw [List.take_zero, show sacksB [] = [] from rfl, List.append_nil]; exact HO11.out⟩, HB10, HC10⟩
        case round =>
          obtain ⟨j, rfl, HJ, HOj, HBj, HCj⟩ := hrel
          by_cases hj : j < l7.length
          · have e1_ : decide ((j : Int) < (l7.length : Int)) = true := decide_eq_true (by omega)
            have p1 : (0 : Int) ≤ (j : Int) := by omega
            have q1 : (j : Int) < (l7.length : Int) := by omega
            obtain ⟨ad, rfl, hx0, hx1⟩ := at_T54 (Kd.C_below HR7.out HBj.out) (j : Int) p1 q1
            rw [Int.toNat_natCast] at hx0 hx1
            replace p1 := eq_true p1
            replace q1 := eq_true q1
            have hm : rd_T54 l7 (j : Int) = l7[j] := by unfold rd_T54; rw [Int.toNat_natCast, List.getD_eq_getElem?_getD, List.getElem?_eq_getElem hj]; rfl
            rw [hm] at hx0 hx1
            have hsk : (preB a0 a1 a2 a3 a4 a5 a6 l7.length ++ sacksB (l7.take j)) ++ [l7[j].f0 / 256 % 256, l7[j].f0 % 256] ++ [l7[j].f1 / 256 % 256, l7[j].f1 % 256] = preB a0 a1 a2 a3 a4 a5 a6 l7.length ++ sacksB (l7.take (j + 1)) := by
              rw [List.take_add_one, List.getElem?_eq_getElem hj, Option.toList_some, sacks_append, List.append_assoc, List.append_assoc]
              rfl
            have hlen : (preB a0 a1 a2 a3 a4 a5 a6 l7.length ++ sacksB (l7.take j)).length < 100 := by
              rw [List.length_append, sacks_length, List.length_take]
              simp [preB, headB]
              omega
            have HSK := Aside0.mk hsk
            have HLEN := Aside0.mk hlen
            clear hsk hlen hm
            go_upto_region 16 with (fail)
            obtain ⟨W2, hW2⟩ : ∃ W, wr.alloc (Obj.cells #[Value.int .i64 l7[j].f0, Value.int .i64 l7[j].f1] 54) = W := ⟨_, rfl⟩
            rw [hW2]
            have hb2 : Below wr.heap.size wr W2.drew := by rw [← hW2]; exact below_drew1 (below_alloc (Below.refl _ _) _)
            have hct : W2.drew.heap[wr.heap.size]? = some (.cells #[Value.int .i64 l7[j].f0, Value.int .i64 l7[j].f1] 54 (0, 0)) := by rw [← hW2]; exact heap_alloc_new wr _
            clear hW2
            have HCTd := Aside0.mk hct
            have HCd := Aside0.mk (blk_below (g := w.heap.size) (o := .cells #[.int .i64 a0, .int .i64 a1, .int .i64 a2, .bool a3, .bool a4, .bool a5, .bool a6, .slice (some ad) l7.length c7, .slice A8 l8.length c8] 48 (0, 0)) HCj.out hb2)
            have HBd := Aside0.mk (below_then HBj.out HBj.out.size hb2)
            have HOd := Aside0.mk (Kd.R_below (Kd.R_mono (ok' := fun k_ => k_ ≠ w.heap.size ∧ k_ ≠ wr.heap.size) (Kd.R_bound HOj.out) (fun k_ hk_ => ⟨hk_.1, by have := hk_.2.2.1; omega⟩)) hb2)
            clear hct hb2
            refine start_ (n := 8) (S := fun w'' => w''.cell? ⟨wr.heap.size, 0, none⟩ = some (.int .i64 l7[j].f0) ∧ w''.cell? ⟨wr.heap.size, 1, none⟩ = some (.int .i64 l7[j].f1)) (ds := []) #[false, false, false, false, false, false, false, false] (by kernel_rfl) rfl rfl ⟨(blk_cell HCTd.out 0).trans rfl, (blk_cell HCTd.out 1).trans rfl⟩ (fun hHeld => ?_); refine with_tabW seg_Encode.tab16 seg_Encode.bits16 (fun HT_ HW_ => ?_)
            generalize W2.drew = w3 at HOd HBd HCd HCTd hHeld ⊢
            refine pure_ (i := 0) (N := some 55) (v := ?_) (a' := ?_) #[true, false, false, false, false, false, false, false] rfl rfl (any_of HT_.out (by kernel_rfl)) (fun _ _ _ h => h) (Or.inl ⟨by rfl, ?_⟩) ?_ ?_
            rotate_left
            · intro w''
              go_simp
              with_reducible rfl
            rotate_left
            · simp only [Act.put, List.setIfInBounds_toArray, List.set_cons_zero, List.set_cons_succ, i64_w, i32_w]
              rfl
            refine pure_ (i := 1) (N := some 56) (v := ?_) (a' := ?_) #[true, true, false, false, false, false, false, false] rfl rfl (any_of HT_.out (by kernel_rfl)) (fun _ _ _ h => h) (Or.inl ⟨by rfl, ?_⟩) ?_ ?_
            rotate_left
            · intro w''
              go_simp
              with_reducible rfl
            rotate_left
            · simp only [Act.put, List.setIfInBounds_toArray, List.set_cons_zero, List.set_cons_succ, i64_w, i32_w]
              rfl
            refine pure_ (i := 4) (N := some 59) (v := ?_) (a' := ?_) #[true, true, false, false, true, false, false, false] rfl rfl (any_of HT_.out (by kernel_rfl)) (fun _ _ _ h => h) (Or.inl ⟨by rfl, ?_⟩) ?_ ?_
            rotate_left
            · intro w''
              go_simp
              with_reducible rfl
            rotate_left
            · simp only [Act.put, List.setIfInBounds_toArray, List.set_cons_zero, List.set_cons_succ, i64_w, i32_w]
              rfl
            refine take_ (i := 2) (N := some 57) (v := ?_) (a' := ?_) #[true, true, true, false, true, false, false, false] rfl rfl (take_ofW HT_.out HW_.out (by kernel_rfl)) (fun _ _ _ h => h) (Or.inl ⟨by rfl, ?_⟩) hHeld ?_ ?_
            rotate_left
            · rintro w'' ⟨s0, s1⟩
              go_simp
              with_reducible rfl
            rotate_left
            · simp only [Act.put, List.setIfInBounds_toArray, List.set_cons_zero, List.set_cons_succ, i64_w, i32_w]
              rfl
            refine take_ (i := 5) (N := some 60) (v := ?_) (a' := ?_) #[true, true, true, false, true, true, false, false] rfl rfl (take_ofW HT_.out HW_.out (by kernel_rfl)) (fun _ _ _ h => h) (Or.inl ⟨by rfl, ?_⟩) hHeld ?_ ?_
            rotate_left
            · rintro w'' ⟨s0, s1⟩
              go_simp
              with_reducible rfl
            rotate_left
            · simp only [Act.put, List.setIfInBounds_toArray, List.set_cons_zero, List.set_cons_succ, i64_w, i32_w]
              rfl
            refine one_ (i := 3) (N := some 58) #[true, true, true, true, true, true, false, false] rfl rfl (one_of HT_.out (by kernel_rfl)) (by decide) (fun K hK => ?_)
            refine goes_ Try.func55 (by kernel_rfl) rfl #[u5, .int .i64 l7[j].f0] (by rfl) rfl rfl (by (try simp only [List.map_toArray, List.map_cons, List.map_nil]); first | done | rfl) ?_
            refine (seg_two.calls (fun k_ => k_ ≠ w.heap.size ∧ k_ ≠ wr.heap.size) u5 _ l7[j].f0 _ w _ HBd.out HOd.out (two_is _ _ (by have := HLEN.out; omega))).mono ?_
            rintro e' w61 ⟨v61, rfl, ho61, hb61, hkp61⟩
            refine ⟨v61, rfl, ?_⟩
            have HC61 : Aside0 (w61.heap[w.heap.size]? = some (.cells #[.int .i64 a0, .int .i64 a1, .int .i64 a2, .bool a3, .bool a4, .bool a5, .bool a6, .slice (some ad) l7.length c7, .slice A8 l8.length c8] 48 (0, 0))) := ⟨(hkp61.2 _ (blk_lt HCd.out) (fun h_ => h_.1 rfl)).trans HCd.out⟩
            have HCT61 : Aside0 (w61.heap[wr.heap.size]? = some (.cells #[Value.int .i64 l7[j].f0, Value.int .i64 l7[j].f1] 54 (0, 0))) := ⟨(hkp61.2 _ (blk_lt HCTd.out) (fun h_ => h_.2 rfl)).trans HCTd.out⟩
            have HB61 := Aside0.mk hb61
            have HO61 := Aside0.mk (Kd.R_mono (ok' := fun k_ => k_ ≠ w.heap.size ∧ k_ ≠ wr.heap.size) ho61 (fun k_ hk_ => hk_.elim id (fun h_ => ⟨by have := blk_lt HCd.out; omega, by have := blk_lt HCTd.out; omega⟩)))
            clear ho61 hb61 hkp61
            refine hK.out _ _ ⟨(blk_cell HCT61.out 0).trans rfl, (blk_cell HCT61.out 1).trans rfl⟩ (fun hHeld => ?_)
            clear hK K
            refine norm_ (a' := ?_) ?_ ?_
            rotate_left
            · show Act.put _ (some 58) _ = _
              simp only [Act.put, List.setIfInBounds_toArray, List.set_cons_zero, List.set_cons_succ, i64_w, i32_w]
              rfl
            refine one_ (i := 6) (N := some 61) #[true, true, true, true, true, true, true, false] rfl rfl (one_of HT_.out (by kernel_rfl)) (by decide) (fun K hK => ?_)
            refine goes_ Try.func55 (by kernel_rfl) rfl #[v61, .int .i64 l7[j].f1] (by rfl) rfl rfl (by (try simp only [List.map_toArray, List.map_cons, List.map_nil]); first | done | rfl) ?_
            refine (seg_two.calls (fun k_ => k_ ≠ w.heap.size ∧ k_ ≠ wr.heap.size) v61 _ l7[j].f1 _ w _ HB61.out HO61.out (two_is _ _ (by have := HLEN.out; rw [List.length_append]; simp only [List.length_cons, List.length_nil]; omega))).mono ?_
            rintro e' w62 ⟨v62, rfl, ho62, hb62, hkp62⟩
            refine ⟨v62, rfl, ?_⟩
            have HC62 : Aside0 (w62.heap[w.heap.size]? = some (.cells #[.int .i64 a0, .int .i64 a1, .int .i64 a2, .bool a3, .bool a4, .bool a5, .bool a6, .slice (some ad) l7.length c7, .slice A8 l8.length c8] 48 (0, 0))) := ⟨(hkp62.2 _ (blk_lt HC61.out) (fun h_ => h_.1 rfl)).trans HC61.out⟩
            have HCT62 : Aside0 (w62.heap[wr.heap.size]? = some (.cells #[Value.int .i64 l7[j].f0, Value.int .i64 l7[j].f1] 54 (0, 0))) := ⟨(hkp62.2 _ (blk_lt HCT61.out) (fun h_ => h_.2 rfl)).trans HCT61.out⟩
            have HB62 := Aside0.mk hb62
            have HO62 := Aside0.mk (Kd.R_mono (ok' := fun k_ => k_ ≠ w.heap.size ∧ k_ ≠ wr.heap.size) ho62 (fun k_ hk_ => hk_.elim id (fun h_ => ⟨by have := blk_lt HC61.out; omega, by have := blk_lt HCT61.out; omega⟩)))
            clear ho62 hb62 hkp62
            refine hK.out _ _ ⟨(blk_cell HCT62.out 0).trans rfl, (blk_cell HCT62.out 1).trans rfl⟩ (fun hHeld => ?_)
            clear hK K
            refine norm_ (a' := ?_) ?_ ?_
            rotate_left
            · show Act.put _ (some 61) _ = _
              simp only [Act.put, List.setIfInBounds_toArray, List.set_cons_zero, List.set_cons_succ, i64_w, i32_w]
              rfl
            refine pure_ (i := 7) (N := some 5) (v := ?_) (a' := ?_) #[true, true, true, true, true, true, true, true] rfl rfl (any_of HT_.out (by kernel_rfl)) (fun _ _ _ h => h) (Or.inl ⟨by rfl, ?_⟩) ?_ ?_
            rotate_left
            · intro w''
              go_simp
              with_reducible rfl
            rotate_left
            · simp only [Act.put, List.setIfInBounds_toArray, List.set_cons_zero, List.set_cons_succ, i64_w, i32_w]
              rfl
            refine done_ (done_of HT_.out (by kernel_rfl)) ?_
            try go_wp2
            go_roundw
            case measure => simp only [intOf]; omega
            case rel => exact ⟨j + 1, rfl, ⟨by omega⟩, ⟨by rw [← HSK.out]; exact Kd.R_mono HO62.out (fun _ hk_ => hk_.1)⟩, HB62, HC62⟩
          · have e1_ : decide ((j : Int) < (l7.length : Int)) = false := decide_eq_false (by omega)
            obtain rfl : j = l7.length := by have := HJ.out; omega
            have HOe : Aside0 (Kd.R (Kd.int .u8) 5 wr w.heap.size (fun k_ => k_ ≠ w.heap.size) u5 (preB a0 a1 a2 a3 a4 a5 a6 l7.length ++ sacksB l7)) := ⟨by have := HOj.out; rw [List.take_length] at this; exact this⟩
            have hq8 : wr.cell? ⟨w.heap.size, 8, none⟩ = some (.slice A8 l8.length c8) := (blk_cell HCj.out 8).trans rfl
            go_upto_region 18 with (fail)
            go_upto_region 19 with (first | ((with_reducible refine gate_builtin (b := .append) (xs := #[.tmp 63, .tmp 65]) rfl ?_); at_builtin; refine Kd.R_append_rows (Kd.int .u8) (w0 := w) w.heap.size rfl (.tmp 63) (.tmp 65) 30 5 (.int .u8 0) 1 rfl Try.underlying30 info5 rfl (by decide) (by omega) u5 (preB a0 a1 a2 a3 a4 a5 a6 l7.length ++ sacksB l7) l8 _ _ _ (fun k_ => k_ ≠ w.heap.size) (fun _ => False) rfl rfl ?aO ?aR (fun _ _ h => h) (fun _ h => h.elim) ?aF ?aB ?aS ?aL ?_; (case aR => exact Kd.C_below HR8.out HBj.out); (case aO => exact HOe.out); (case aF => exact (fun k_ hk_ => by have := blk_lt HCj.out; omega)); (case aB => exact HBj.out); (case aS => exact HBj.out.size); (case aL => rw [List.length_append, sacks_length]; simp [preB, headB]; omega); intro v12 w12 ho hb hg hat; have HB12 := Aside0.mk hb; have HO12 : Aside0 (Kd.R (Kd.int .u8) 5 w12 w.heap.size (fun k_ => k_ ≠ w.heap.size) v12 (encB a0 a1 a2 a3 a4 a5 a6 l7 l8)) := ⟨ho⟩; clear ho hb hg hat))
            have hel : (encB a0 a1 a2 a3 a4 a5 a6 l7 l8).length = 10 + 4 * l7.length + l8.length := by
              unfold encB
              rw [List.length_append, List.length_append, sacks_length]
              simp [headB]
            obtain ⟨g12, cap12, hv12, hgb, hgl, cells12, hcl12⟩ := Kd.R_form HO12.out (by omega)
            subst hv12
            have HGB := Aside0.mk hgb
            have HR12 := Aside0.mk (Kd.R_reads' HO12.out)
            obtain ⟨_, ea8, hx8⟩ := Kd.at_int HR12.out.2.2 8 (by decide) (by omega)
            cases ea8
            obtain ⟨_, ea9, hx9⟩ := Kd.at_int HR12.out.2.2 9 (by decide) (by omega)
            cases ea9
            rw [add_plain] at hx8 hx9
            have hx8 : w12.cell? ⟨g12, 8, none⟩ = some (.int .u8 (rd (encB a0 a1 a2 a3 a4 a5 a6 l7 l8) 8)) := hx8
            have hx9 : w12.cell? ⟨g12, 9, none⟩ = some (.int .u8 (rd (encB a0 a1 a2 a3 a4 a5 a6 l7 l8) 9)) := hx9
            have hf8 := blk_frozen hcl12 8
            have hf9 := blk_frozen hcl12 9
            have q8 : ((8 : Int) < ((encB a0 a1 a2 a3 a4 a5 a6 l7 l8).length : Int)) = True := eq_true (by omega)
            have q9 : ((9 : Int) < ((encB a0 a1 a2 a3 a4 a5 a6 l7 l8).length : Int)) = True := eq_true (by omega)
            have q8n : (8 < (encB a0 a1 a2 a3 a4 a5 a6 l7 l8).length) = True := eq_true (by omega)
            have q9n : (9 < (encB a0 a1 a2 a3 a4 a5 a6 l7 l8).length) = True := eq_true (by omega)
            clear hgb hgl hcl12 hel
            generalize hE : (encB a0 a1 a2 a3 a4 a5 a6 l7 l8) = enc at HO12 HR12 HSM hx8 hx9 q8 q9 q8n q9n ⊢
            go_wp2_with (first | ((with_reducible refine gate_callee (f := 57) rfl ?_); refine goesL_ (some 68) rfl rfl Try.func57 (by kernel_rfl) rfl #[.slice (some ⟨g12, 0, none⟩) enc.length cap12] rfl (by (try simp only [List.map_toArray, List.map_cons, List.map_nil]); first | done | rfl) ?_; refine (inet_Sum.calls k _ _ enc sum _ HR12.out.2.2 HR12.out.2.1 HSM.out).mono ?_; rintro e' w13 ⟨rfl, ⟨m1, rfl⟩⟩; refine ⟨_, rfl, ?_⟩))
            go_ret2
            exact ⟨_, rfl, Kd.R_mono (Kd.R_putn (Kd.R_putn (Kd.R_drewN HO12.out m1) 8 (sum / 256 % 256)) 9 (sum % 256)) (fun _ _ => trivial), below_set (below_set (pw_below_drewN HB12.out m1) HGB.out) HGB.out⟩
  · have z_ : (e != 0) = true := bne_iff_ne.2 hz
    have z2_ : (e == 0) = false := beq_eq_false_iff_ne.2 hz
    have hHH := HH.out
    rw [HE.out, if_neg hz] at hHH
    simp only [Option.some.injEq, Prod.mk.injEq] at hHH
    obtain ⟨rfl, rfl⟩ := hHH
    clear hz
    go_wp2_with (first | ((with_reducible refine gate_callee (f := 54) rfl ?_); refine goesL_ (some 13) rfl rfl Try.func54 (by kernel_rfl) rfl #[.agg #[.int .i64 a0, .int .i64 a1, .int .i64 a2, .bool a3, .bool a4, .bool a5, .bool a6, .slice A7 l7.length c7, .slice A8 l8.length c8]] rfl (by (try simp only [List.map_toArray, List.map_cons, List.map_nil]); first | done | rfl) ?_; refine (seg_fault.calls a0 a1 a2 a3 a4 a5 a6 A7 c7 l7 A8 c8 l8 _ (Kd.C_below HR7.out HB1.out) HC7.out).mono ?_; rintro e' w2 ⟨rfl, hb2⟩; refine ⟨_, rfl, ?_⟩; rw [HE.out]; have HB2 := Aside0.mk (below_step HB1.out hb2); clear hb2))
    go_ret2
    exact ⟨_, rfl, Kd.R_nil _ _ _ _ _, HB2.out⟩
theorem seg_Encode.mono : ∀ (a0 a1 a2 : Int) (a3 a4 a5 a6 : Bool) (l7 : List S54) (l8 : List Int) (k : Nat), LeO (seg_Encode.f k a0 a1 a2 a3 a4 a5 a6 l7 l8) (seg_Encode.f (k + 1) a0 a1 a2 a3 a4 a5 a6 l7 l8) := by
  intro a0 a1 a2 a3 a4 a5 a6 l7 l8 k
  unfold seg_Encode.f
  exact LeO.ite (LeO.bind (inet_Sum.mono _ _) (fun _ => LeO.refl _)) (LeO.refl _)

/-! ### packthreadref_serialMay: function 88 -/
def packthreadref_serialMay.f (a0 : Int) : Option (Bool) := if 0 ≤ a0 then (some (decide (a0 ≤ 65535))) else (some false)
set_option maxHeartbeats 8000000 in
set_option maxRecDepth 100000 in
theorem packthreadref_serialMay.calls (a0 : Int) (r : Bool) (w : World) (h : packthreadref_serialMay.f a0 = some r) :
    Calls Try.prog 88 #[.int .i64 a0] w fun e w' => e = .returned (.bool r) ∧ Drawn0 w w' := by
  have H : (if 0 ≤ a0 then (some (decide (a0 ≤ 65535))) else (some false)) = some r := h
  clear h
  by_cases c2 : 0 ≤ a0
  · rw [if_pos c2] at H
    have c2b0 : decide (0 ≤ a0) = true := decide_eq_true c2
    clear c2
    obtain rfl := Option.some.inj H
    go_enter Try.func88, Try.ntmps88
    go_wp2
    go_ret
    exact ⟨by first | rfl | (simp; done) | (simp [*]; done), by repeat (first | exact Drawn0.refl _ | apply Drawn0.step)⟩
  · rw [if_neg c2] at H
    have c2b0 : decide (0 ≤ a0) = false := decide_eq_false c2
    clear c2
    obtain rfl := Option.some.inj H
    go_enter Try.func88, Try.ntmps88
    go_wp2
    go_ret
    exact ⟨by first | rfl | (simp; done) | (simp [*]; done), by repeat (first | exact Drawn0.refl _ | apply Drawn0.step)⟩

end Go.Proofs.Ytjhmjgcebijmiaa.HSegEncodes
