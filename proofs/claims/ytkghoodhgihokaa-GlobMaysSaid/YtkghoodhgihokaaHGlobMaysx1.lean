/- The contracts of the functions that the law GlobMays reaches: Go's code comes to what these Lean functions tell (written by a program of ours and the kit's, out of the translation). -/
import Derived.Test.YtkghoodhgihokaaXGlobG
import Derived.Test.YtkghoodhgihokaaXGlobE
import Derived.Test.YtkghoodhgihokaaHGlobMaysx0
namespace Go.Proofs.Ytkghoodhgihokaa.HGlobMays
open Go.RowKit Go.Proofs.YtkghoodhgihokaaW.PrintWords Go.Proofs.YtkghoodhgihokaaW.PrintLast Go.Proofs.YtkghoodhgihokaaW.PrintMore
attribute [local go_sem] max2_int min2_int max_two min_two max_three min_three max_four min_four   -- for this text's walks alone
set_option linter.unusedVariables false
set_option linter.unusedSimpArgs false

-- NOT PRINTED: function 85 (glob_any)

/-! ### glob_plain: function 100 -/
def glob_plain.f (a0 : ByteArray) : Option (Bool) := if a0.toList = ([] : List UInt8) then (some false) else (if 0 < (a0.size : Int) then (if (bt a0 0) = 93 then (some false) else (some ((bt a0 0) != 92))) else (none))
set_option maxHeartbeats 8000000 in
set_option maxRecDepth 100000 in
theorem glob_plain.calls (a0 : ByteArray) (r : Bool) (w : World) (h : glob_plain.f a0 = some r) :
    Calls Try.prog 100 #[.string a0] w fun e w' => e = .returned (.bool r) ∧ Drawn0 w w' := by
  have H : (if a0.toList = ([] : List UInt8) then (some false) else (if 0 < (a0.size : Int) then (if (bt a0 0) = 93 then (some false) else (some ((bt a0 0) != 92))) else (none))) = some r := h
  clear h
  by_cases c2 : a0.toList = ([] : List UInt8)
  · rw [if_pos c2] at H
    have c2b0 : (a0.toList == ([] : List UInt8)) = true := beq_iff_eq.mpr c2
    have c2b1 : (a0.toList != ([] : List UInt8)) = false := bne_eq_false_iff_eq.mpr c2
    clear c2
    obtain rfl := Option.some.inj H
    go_enter Try.func100, Try.ntmps100
    go_wp2
    go_ret
    exact ⟨by first | rfl | (simp; done) | (simp [*]; done), by repeat (first | exact Drawn0.refl _ | apply Drawn0.step)⟩
  · rw [if_neg c2] at H
    have c2b0 : (a0.toList == ([] : List UInt8)) = false := beq_eq_false_iff_ne.mpr c2
    have c2b1 : (a0.toList != ([] : List UInt8)) = true := bne_iff_ne.mpr c2
    by_cases c3 : 0 < (a0.size : Int)
    · rw [if_pos c3] at H
      have c3b0 : decide (0 < (a0.size : Int)) = true := decide_eq_true c3
      have c3b1 : decide (0 < a0.size) = true := decide_eq_true (by omega)
      clear c3
      by_cases c5 : (bt a0 0) = 93
      · rw [if_pos c5] at H
        have c5b0 : ((bt a0 0) == 93) = true := beq_iff_eq.mpr c5
        have c5b1 : ((bt a0 0) != 93) = false := bne_eq_false_iff_eq.mpr c5
        clear c5
        obtain rfl := Option.some.inj H
        have p4 : 0 ≤ (0 : Int) := (by omega)
        have q4 : 0 < a0.size := (by have : (0 : Int) < (a0.size : Int) := of_decide_eq_true (by first | (with_reducible assumption) | assumption); omega)
        have hx4 : ∀ h : 0 < a0.size, ((a0[0]'h).toNat : Int) = bt a0 0 := bt_at a0 0
        clear p4
        have qi4 : (0 < (a0.size : Int)) = True := eq_true (of_decide_eq_true (by first | (with_reducible assumption) | assumption))
        replace q4 := eq_true q4
        go_enter Try.func100, Try.ntmps100
        go_wp2
        go_ret
        exact ⟨by first | rfl | (simp; done) | (simp [*]; done), by repeat (first | exact Drawn0.refl _ | apply Drawn0.step)⟩
      · rw [if_neg c5] at H
        have c5b0 : ((bt a0 0) == 93) = false := beq_eq_false_iff_ne.mpr c5
        have c5b1 : ((bt a0 0) != 93) = true := bne_iff_ne.mpr c5
        obtain rfl := Option.some.inj H
        have p4 : 0 ≤ (0 : Int) := (by omega)
        have q4 : 0 < a0.size := (by have : (0 : Int) < (a0.size : Int) := of_decide_eq_true (by first | (with_reducible assumption) | assumption); omega)
        have hx4 : ∀ h : 0 < a0.size, ((a0[0]'h).toNat : Int) = bt a0 0 := bt_at a0 0
        clear p4
        have qi4 : (0 < (a0.size : Int)) = True := eq_true (of_decide_eq_true (by first | (with_reducible assumption) | assumption))
        replace q4 := eq_true q4
        have p6 : 0 ≤ (0 : Int) := (by omega)
        have q6 : 0 < a0.size := (by have : (0 : Int) < (a0.size : Int) := of_decide_eq_true (by first | (with_reducible assumption) | assumption); omega)
        have hx6 : ∀ h : 0 < a0.size, ((a0[0]'h).toNat : Int) = bt a0 0 := bt_at a0 0
        clear p6
        have qi6 : (0 < (a0.size : Int)) = True := eq_true (of_decide_eq_true (by first | (with_reducible assumption) | assumption))
        replace q6 := eq_true q6
        go_enter Try.func100, Try.ntmps100
        go_wp2
        go_ret
        exact ⟨by first | rfl | (simp; done) | (simp [*]; done), by repeat (first | exact Drawn0.refl _ | apply Drawn0.step)⟩
    · rw [if_neg c3] at H
      exact absurd H (by simp)

-- NOT PRINTED: function 86 (glob_set)

-- NOT PRINTED: function 87 (glob_one)

-- NOT PRINTED: function 58 (glob_parts)

/-! ### glob_May: function 26 -/
/-- glob.May. -/
def glob_May.f (l0 : ByteArray) : Option Bool := some (Glob.partsF l0.data.toList).isSome
theorem Glob.post_some {o : Option (List Glob.Pt)} {w w' : World} {v : Value} {ok : Bool} (h : Glob.PartsPost o w w' v ok) : ok = o.isSome := by
  cases o with
  | none => exact h
  | some x => exact h.1
set_option maxHeartbeats 4000000 in
set_option maxRecDepth 100000 in
theorem glob_May.calls (l0 : ByteArray) (r : Bool) (w : World) (h : glob_May.f l0 = some r) :
    Calls Try.prog 26 #[.string l0] w fun e w' => e = .returned (.bool r) ∧ Below w.heap.size w w' := by
  unfold glob_May.f at h
  have hr := Option.some.inj h
  clear h
  go_enter Try.func26, Try.ntmps26
  go_wp2_with (go_at_call 58; refine (Glob.parts_calls l0.data.toList _).mono ?_; rintro e w1 ⟨⟨v, ok, rfl, hp⟩, hb1⟩; have HB1 := Aside0.mk hb1; have HK := Aside0.mk ((Glob.post_some hp).trans hr); clear hb1 hp)
  go_ret
  exact ⟨by rw [← HK.out]; rfl, HB1.out⟩

-- NOT PRINTED: function 59 (packthreadref_globItems)

/-! ### packthreadref_GlobMay: function 27 -/
/-- packthreadref.GlobMay. -/
def packthreadref_GlobMay.f (l0 : ByteArray) : Option Bool := some (Glob.partsF l0.data.toList).isSome
set_option maxHeartbeats 4000000 in
set_option maxRecDepth 100000 in
theorem packthreadref_GlobMay.calls (l0 : ByteArray) (r : Bool) (w : World) (h : packthreadref_GlobMay.f l0 = some r) :
    Calls Try.prog 27 #[.string l0] w fun e w' => e = .returned (.bool r) ∧ Below w.heap.size w w' := by
  unfold packthreadref_GlobMay.f at h
  have hr := Option.some.inj h
  clear h
  obtain ⟨RES, hRES⟩ : ∃ x, (Glob.partsF l0.data.toList).isSome = x := ⟨_, rfl⟩
  rw [hRES] at hr
  subst hr
  go_enter Try.func27, Try.ntmps27
  go_wp2_with (go_at_call 59; refine (Glob.items_calls l0.data.toList _).mono ?_; rintro e w1 ⟨⟨v, rfl⟩, hb1⟩; rw [hRES]; have HB1 := Aside0.mk hb1; clear hb1)
  go_ret
  exact ⟨rfl, HB1.out⟩

/-! ### packthreadlaw_GlobMays: function 8 -/
def packthreadlaw_GlobMays.f (a0 : ByteArray) : Option (Bool) := (glob_May.f a0).bind fun t101 => ((packthreadref_GlobMay.f a0).bind fun t102 => (some (t101 == t102)))
set_option maxHeartbeats 8000000 in
set_option maxRecDepth 100000 in
theorem packthreadlaw_GlobMays.calls (a0 : ByteArray) (r : Bool) (w : World) (h : packthreadlaw_GlobMays.f a0 = some r) :
    Calls Try.prog 8 #[.string a0] w fun e w' => e = .returned (.bool r) ∧ Below w.heap.size w w' := by
  have HB := Aside0.mk (Below.refl w.heap.size w)
  have H : ((glob_May.f a0).bind fun t101 => ((packthreadref_GlobMay.f a0).bind fun t102 => (some (t101 == t102)))) = some r := h
  clear h
  replace H := Option.bind_eq_some_iff.mp H
  obtain ⟨t101, A20, H⟩ := H
  replace H : ((packthreadref_GlobMay.f a0).bind fun t102 => (some (t101 == t102))) = some r := H
  have A2 := Aside0.mk A20
  clear A20
  replace H := Option.bind_eq_some_iff.mp H
  obtain ⟨t102, A30, H⟩ := H
  replace H : (some (t101 == t102)) = some r := H
  have A3 := Aside0.mk A30
  clear A30
  obtain rfl := Option.some.inj H
  go_enter Try.func8, Try.ntmps8
  go_wp2_with (first | ((with_reducible refine gate_callee (f := 26) rfl ?_); refine goesL_ (some 4) rfl rfl Try.func26 (by kernel_rfl) rfl #[.string a0] rfl (by (try simp only [List.map_toArray, List.map_cons, List.map_nil]); first | done | rfl | (simp only [List.length_drop, List.length_take]; rfl)) ?_; (with_reducible refine (glob_May.calls a0 t101 _ A2.out).mono ?_); rintro e w4 ⟨rfl, hb⟩; refine ⟨_, rfl, ?_⟩; have n0_ := Aside0.mk (below_step (by repeat (first | (with_reducible first | exact HB.out | apply below_alloc | apply pw_below_drewN | apply below_drew1) | exact HB.out)) hb); clear HB; have HB := n0_; clear n0_; (try clear hb); (try clear hb2); (try clear hk); (try clear hi)) | ((with_reducible refine gate_callee (f := 27) rfl ?_); refine goesL_ (some 6) rfl rfl Try.func27 (by kernel_rfl) rfl #[.string a0] rfl (by (try simp only [List.map_toArray, List.map_cons, List.map_nil]); first | done | rfl | (simp only [List.length_drop, List.length_take]; rfl)) ?_; (with_reducible refine (packthreadref_GlobMay.calls a0 t102 _ A3.out).mono ?_); rintro e w5 ⟨rfl, hb⟩; refine ⟨_, rfl, ?_⟩; have n0_ := Aside0.mk (below_step (by repeat (first | (with_reducible first | exact HB.out | apply below_alloc | apply pw_below_drewN | apply below_drew1) | exact HB.out)) hb); clear HB; have HB := n0_; clear n0_; (try clear hb); (try clear hb2); (try clear hk); (try clear hi)))
  go_ret
  exact ⟨by first | rfl | (simp [errW_none, errW_some] <;> rfl) | (simp [*, errW_none, errW_some] <;> rfl), by repeat (first | (with_reducible first | exact HB.out | apply below_alloc | apply pw_below_drewN | apply below_drew1) | exact HB.out)⟩

/-- THE ONE PURE STATEMENT of packthreadlaw_GlobMays: yours. -/
def packthreadlaw_GlobMays.Pure : Prop := ∀ (a0 : ByteArray), a0.size ≤ 140737488351232 → packthreadlaw_GlobMays.f a0 = some true
theorem packthreadlaw_GlobMays.walk (P : packthreadlaw_GlobMays.Pure) (a0 : ByteArray) (w : World) (w0 : a0.size ≤ 140737488351232) :
    Calls Try.prog 8 #[.string a0] w fun e w' => e = .returned (.bool true) ∧ Below w.heap.size w w' := by
  have h := P a0 w0
  refine (packthreadlaw_GlobMays.calls a0 true w h).mono ?_
  rintro e w' ⟨rfl, hd⟩
  exact ⟨rfl, hd⟩

end Go.Proofs.Ytkghoodhgihokaa.HGlobMays
