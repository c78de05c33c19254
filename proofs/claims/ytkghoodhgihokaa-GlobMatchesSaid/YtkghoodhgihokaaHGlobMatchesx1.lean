/- The contracts of the functions that the law GlobMatches reaches: Go's code comes to what these Lean functions tell (written by a program of ours and the kit's, out of the translation). -/
import Derived.Test.YtkghoodhgihokaaXGlobE
import Derived.Test.YtkghoodhgihokaaXGlobN
import Derived.Test.YtkghoodhgihokaaHGlobMatchesx0
namespace Go.Proofs.Ytkghoodhgihokaa.HGlobMatches
open Go.RowKit Go.Proofs.YtkghoodhgihokaaW.PrintWords Go.Proofs.YtkghoodhgihokaaW.PrintLast Go.Proofs.YtkghoodhgihokaaW.PrintMore
attribute [local go_sem] max2_int min2_int max_two min_two max_three min_three max_four min_four   -- for this text's walks alone
set_option linter.unusedVariables false
set_option linter.unusedSimpArgs false

-- NOT PRINTED: function 85 (glob_any)

/-! ### glob_plain: function 100 -/
def glob_plain.f (a0 : ByteArray) : Option (Bool) := if a0.toList = ([] : List UInt8) then (some false) else (if 0 < (a0.size : Int) then (if (bt a0 0) = 93 then (some false) else (some ((bt a0 0) != 92))) else (none))
set_option maxHeartbeats 8000000 in
set_option maxRecDepth 100000 in
theorem glob_plain.calls (a0 : ByteArray) (r : Bool) (w : World) (h : glob_plain.f a0 = some r) :
    Calls Try.prog 100 #[.string a0] w fun e w' => e = .returned (.bool r) ∧ Drawn0 w w' := by
  have H : (if a0.toList = ([] : List UInt8) then (some false) else (if 0 < (a0.size : Int) then (if (bt a0 0) = 93 then (some false) else (some ((bt a0 0) != 92))) else (none))) = some r := h
  clear h
  by_cases c2 : a0.toList = ([] : List UInt8)
  · rw [if_pos c2] at H
    have c2b0 : (a0.toList == ([] : List UInt8)) = true := beq_iff_eq.mpr c2
    have c2b1 : (a0.toList != ([] : List UInt8)) = false := bne_eq_false_iff_eq.mpr c2
    clear c2
    obtain rfl := Option.some.inj H
    go_enter Try.func100, Try.ntmps100
    go_wp2
    go_ret
    exact ⟨by first | rfl | (simp; done) | (simp [*]; done), by repeat (first | exact Drawn0.refl _ | apply Drawn0.step)⟩
  · rw [if_neg c2] at H
    have c2b0 : (a0.toList == ([] : List UInt8)) = false := beq_eq_false_iff_ne.mpr c2
    have c2b1 : (a0.toList != ([] : List UInt8)) = true := bne_iff_ne.mpr c2
    by_cases c3 : 0 < (a0.size : Int)
    · rw [if_pos c3] at H
      have c3b0 : decide (0 < (a0.size : Int)) = true := decide_eq_true c3
      have c3b1 : decide (0 < a0.size) = true := decide_eq_true (by omega)
      clear c3
      by_cases c5 : (bt a0 0) = 93
      · rw [if_pos c5] at H
        have c5b0 : ((bt a0 0) == 93) = true := beq_iff_eq.mpr c5
        have c5b1 : ((bt a0 0) != 93) = false := bne_eq_false_iff_eq.mpr c5
        clear c5
        obtain rfl := Option.some.inj H
        have p4 : 0 ≤ (0 : Int) := (by omega)
        have q4 : 0 < a0.size := (by have : (0 : Int) < (a0.size : Int) := of_decide_eq_true (by first | (with_reducible assumption) | assumption); omega)
        have hx4 : ∀ h : 0 < a0.size, ((a0[0]'h).toNat : Int) = bt a0 0 := bt_at a0 0
        clear p4
        have qi4 : (0 < (a0.size : Int)) = True := eq_true (of_decide_eq_true (by first | (with_reducible assumption) | assumption))
        replace q4 := eq_true q4
        go_enter Try.func100, Try.ntmps100
        go_wp2
        go_ret
        exact ⟨by first | rfl | (simp; done) | (simp [*]; done), by repeat (first | exact Drawn0.refl _ | apply Drawn0.step)⟩
      · rw [if_neg c5] at H
        have c5b0 : ((bt a0 0) == 93) = false := beq_eq_false_iff_ne.mpr c5
        have c5b1 : ((bt a0 0) != 93) = true := bne_iff_ne.mpr c5
        obtain rfl := Option.some.inj H
        have p4 : 0 ≤ (0 : Int) := (by omega)
        have q4 : 0 < a0.size := (by have : (0 : Int) < (a0.size : Int) := of_decide_eq_true (by first | (with_reducible assumption) | assumption); omega)
        have hx4 : ∀ h : 0 < a0.size, ((a0[0]'h).toNat : Int) = bt a0 0 := bt_at a0 0
        clear p4
        have qi4 : (0 < (a0.size : Int)) = True := eq_true (of_decide_eq_true (by first | (with_reducible assumption) | assumption))
        replace q4 := eq_true q4
        have p6 : 0 ≤ (0 : Int) := (by omega)
        have q6 : 0 < a0.size := (by have : (0 : Int) < (a0.size : Int) := of_decide_eq_true (by first | (with_reducible assumption) | assumption); omega)
        have hx6 : ∀ h : 0 < a0.size, ((a0[0]'h).toNat : Int) = bt a0 0 := bt_at a0 0
        clear p6
        have qi6 : (0 < (a0.size : Int)) = True := eq_true (of_decide_eq_true (by first | (with_reducible assumption) | assumption))
        replace q6 := eq_true q6
        go_enter Try.func100, Try.ntmps100
        go_wp2
        go_ret
        exact ⟨by first | rfl | (simp; done) | (simp [*]; done), by repeat (first | exact Drawn0.refl _ | apply Drawn0.step)⟩
    · rw [if_neg c3] at H
      exact absurd H (by simp)

-- NOT PRINTED: function 86 (glob_set)

-- NOT PRINTED: function 87 (glob_one)

-- NOT PRINTED: function 58 (glob_parts)

-- NOT PRINTED: function 60 (glob_match)

/-! ### glob_Match: function 28 -/
/-- glob.Match. -/
def glob_Match.f (l0 l1 : ByteArray) : Option (Bool × Int) := some (Glob.matchF l0 l1)
set_option maxHeartbeats 4000000 in
set_option maxRecDepth 100000 in
theorem glob_Match.calls (l0 l1 : ByteArray) (r1 : Bool) (r2 : Int) (w : World) (h : glob_Match.f l0 l1 = some (r1, r2)) :
    Calls Try.prog 28 #[.string l0, .string l1] w fun e w' => e = .returned (.tuple #[.bool r1, .int .i64 r2]) ∧ Below w.heap.size w w' := by
  unfold glob_Match.f Glob.matchF at h
  have hr := Option.some.inj h
  clear h
  cases hF : Glob.partsF l0.data.toList with
  | none =>
    rw [hF] at hr
    cases hr
    go_enter Try.func28, Try.ntmps28
    go_wp2_with (go_at_call 58; refine (Glob.parts_calls l0.data.toList _).mono ?_; rintro e w1 ⟨⟨v, ok, rfl, hp⟩, hb1⟩; have HB1 := Aside0.mk hb1; rw [hF] at hp; have hok : ok = false := hp; clear hb1 hp; subst hok)
    go_ret2
    exact ⟨rfl, HB1.out⟩
  | some ps =>
    rw [hF] at hr
    dsimp only at hr
    have hsz : l1.size = l1.data.toList.length := Lib.size_eq l1
    have hlen := Glob.partsF_le hF
    by_cases h200 : 200 < l1.size
    · rw [if_pos h200] at hr
      cases hr
      have d1 : decide ((200 : Int) < (l1.size : Int)) = true := decide_eq_true (by omega)
      have d1n : decide (200 < l1.size) = true := decide_eq_true h200
      clear hsz
      go_enter Try.func28, Try.ntmps28
      go_wp2_with (go_at_call 58; refine (Glob.parts_calls l0.data.toList _).mono ?_; rintro e w1 ⟨⟨v, ok, rfl, hp⟩, hb1⟩; have HB1 := Aside0.mk hb1; rw [hF] at hp; have hok : ok = true := hp.1; clear hb1 hp; subst hok)
      go_ret2
      exact ⟨rfl, HB1.out⟩
    · rw [if_neg h200] at hr
      have hr1 : Glob.gB ps l1.data.toList = r1 := congrArg Prod.fst hr
      have hr2 : (0 : Int) = r2 := congrArg Prod.snd hr
      subst hr2
      clear hr
      have d1 : decide ((200 : Int) < (l1.size : Int)) = false := decide_eq_false (by omega)
      have d1n : decide (200 < l1.size) = false := decide_eq_false h200
      have hs1000 : l1.data.toList.length ≤ 1000 := by omega
      clear hsz
      have HK := Aside0.mk hr1
      clear hr1
      go_enter Try.func28, Try.ntmps28
      go_wp2_with (first
        | (go_at_call 58; refine (Glob.parts_calls l0.data.toList _).mono ?_; rintro e w1 ⟨⟨v, ok, rfl, hp⟩, hb1⟩; have HB1 := Aside0.mk hb1; rw [hF] at hp; have hok : ok = true := hp.1; have HP := Aside0.mk hp.2; clear hb1 hp; subst hok)
        | (go_at_call 60; refine (Glob.match_calls ps l1.data.toList _ _ _ _ HP.out hlen hs1000).mono ?_; rintro e w2 ⟨rfl, hb2⟩; have HB2 := Aside0.mk hb2; clear hb2; rw [HK.out]))
      go_ret2
      exact ⟨rfl, HB1.out.trans (HB2.out.mono HB1.out.size)⟩

-- NOT PRINTED: function 59 (packthreadref_globItems)

-- NOT PRINTED: function 89 (packthreadref_globItem_takes)

-- NOT PRINTED: function 61 (packthreadref_globOf)

/-! ### packthreadref_GlobMatch: function 29 -/
/-- packthreadref.GlobMatch. -/
def packthreadref_GlobMatch.f (l0 l1 : ByteArray) : Option (Bool × Int) := some (Glob.matchF l0 l1)
set_option maxHeartbeats 4000000 in
set_option maxRecDepth 100000 in
theorem packthreadref_GlobMatch.calls (l0 l1 : ByteArray) (r1 : Bool) (r2 : Int) (w : World) (h : packthreadref_GlobMatch.f l0 l1 = some (r1, r2)) :
    Calls Try.prog 29 #[.string l0, .string l1] w fun e w' => e = .returned (.tuple #[.bool r1, .int .i64 r2]) ∧ Below w.heap.size w w' := by
  unfold packthreadref_GlobMatch.f Glob.matchF at h
  have hr := Option.some.inj h
  clear h
  rw [Glob.partsF_items] at hr
  cases hF : Glob.itemsF l0.data.toList with
  | none =>
    rw [hF] at hr
    cases hr
    go_enter Try.func29, Try.ntmps29
    go_wp2_with (go_at_call 59; refine (Glob.itemsF_calls l0.data.toList _).mono ?_; rintro e w1 ⟨⟨v, ok, rfl, hp⟩, hb1⟩; have HB1 := Aside0.mk hb1; rw [hF] at hp; have hok : ok = false := hp; clear hb1 hp; subst hok)
    go_ret2
    exact ⟨rfl, HB1.out⟩
  | some ps =>
    rw [hF] at hr
    dsimp only [Option.map_some] at hr
    have hsz : l1.size = l1.data.toList.length := Lib.size_eq l1
    have hlen := (Glob.itemsF_le hF).1
    have hrr := (Glob.itemsF_le hF).2
    by_cases h200 : 200 < l1.size
    · rw [if_pos h200] at hr
      cases hr
      have d1 : decide ((200 : Int) < (l1.size : Int)) = true := decide_eq_true (by omega)
      have d1n : decide (200 < l1.size) = true := decide_eq_true h200
      clear hsz
      go_enter Try.func29, Try.ntmps29
      go_wp2_with (go_at_call 59; refine (Glob.itemsF_calls l0.data.toList _).mono ?_; rintro e w1 ⟨⟨v, ok, rfl, hp⟩, hb1⟩; have HB1 := Aside0.mk hb1; rw [hF] at hp; have hok : ok = true := hp.1; clear hb1 hp; subst hok)
      go_ret2
      exact ⟨rfl, HB1.out⟩
    · rw [if_neg h200] at hr
      have hr1 : Glob.gB (ps.map Glob.toPt) l1.data.toList = r1 := congrArg Prod.fst hr
      have hr2 : (0 : Int) = r2 := congrArg Prod.snd hr
      subst hr2
      clear hr
      have d1 : decide ((200 : Int) < (l1.size : Int)) = false := decide_eq_false (by omega)
      have d1n : decide (200 < l1.size) = false := decide_eq_false h200
      have hs1000 : l1.data.toList.length ≤ 1000 := by omega
      clear hsz
      have HK := Aside0.mk hr1
      clear hr1
      go_enter Try.func29, Try.ntmps29
      go_wp2_with (first
        | (go_at_call 59; refine (Glob.itemsF_calls l0.data.toList _).mono ?_; rintro e w1 ⟨⟨v, ok, rfl, hp⟩, hb1⟩; have HB1 := Aside0.mk hb1; rw [hF] at hp; have hok : ok = true := hp.1; have HP := Aside0.mk hp.2; clear hb1 hp; subst hok)
        | (go_at_call 61; refine (Glob.globOf_calls ps l1.data.toList _ _ _ _ HP.out hlen hs1000 hrr).mono ?_; rintro e w2 ⟨rfl, hb2⟩; have HB2 := Aside0.mk hb2; clear hb2; rw [HK.out]))
      go_ret2
      exact ⟨rfl, HB1.out.trans (HB2.out.mono HB1.out.size)⟩

/-! ### packthreadlaw_GlobMatches: function 9 -/
def packthreadlaw_GlobMatches.f (a0 : ByteArray) (a1 : ByteArray) : Option (Bool) := (glob_Match.f a0 a1).bind fun bt101 => ((packthreadref_GlobMatch.f a0 a1).bind fun bt103 => (if (bt101.1 == bt103.1) = true then (some (bt101.2 == bt103.2)) else (some false)))
set_option maxHeartbeats 8000000 in
set_option maxRecDepth 100000 in
theorem packthreadlaw_GlobMatches.calls (a0 : ByteArray) (a1 : ByteArray) (r : Bool) (w : World) (h : packthreadlaw_GlobMatches.f a0 a1 = some r) :
    Calls Try.prog 9 #[.string a0, .string a1] w fun e w' => e = .returned (.bool r) ∧ Below w.heap.size w w' := by
  have HB := Aside0.mk (Below.refl w.heap.size w)
  have H : ((glob_Match.f a0 a1).bind fun bt101 => ((packthreadref_GlobMatch.f a0 a1).bind fun bt103 => (if (bt101.1 == bt103.1) = true then (some (bt101.2 == bt103.2)) else (some false)))) = some r := h
  clear h
  replace H := Option.bind_eq_some_iff.mp H
  obtain ⟨⟨t101, t102⟩, A30, H⟩ := H
  replace H : ((packthreadref_GlobMatch.f a0 a1).bind fun bt103 => (if (t101 == bt103.1) = true then (some (t102 == bt103.2)) else (some false))) = some r := H
  have A3 := Aside0.mk A30
  clear A30
  replace H := Option.bind_eq_some_iff.mp H
  obtain ⟨⟨t103, t104⟩, A40, H⟩ := H
  replace H : (if (t101 == t103) = true then (some (t102 == t104)) else (some false)) = some r := H
  have A4 := Aside0.mk A40
  clear A40
  by_cases c5 : (t101 == t103) = true
  · rw [if_pos c5] at H
    have c5b0 : (t101 == t103) = true := c5
    (try (have c5b1 : decide (t101 = t103) = true := by simpa using c5))
    (try (have c5b2 : (t101 == t103) = true := by simpa using c5))
    clear c5
    obtain rfl := Option.some.inj H
    go_enter Try.func9, Try.ntmps9
    go_wp2_with (first | ((with_reducible refine gate_callee (f := 28) rfl ?_); refine goesL_ (some 12) rfl rfl Try.func28 (by kernel_rfl) rfl #[.string a0, .string a1] rfl (by (try simp only [List.map_toArray, List.map_cons, List.map_nil]); first | done | rfl | (simp only [List.length_drop, List.length_take]; rfl)) ?_; (with_reducible refine (glob_Match.calls a0 a1 t101 t102 _ A3.out).mono ?_); rintro e w6 ⟨rfl, hb⟩; refine ⟨_, rfl, ?_⟩; have n0_ := Aside0.mk (below_step (by repeat (first | (with_reducible first | exact HB.out | apply below_alloc | apply pw_below_drewN | apply below_drew1) | exact HB.out)) hb); clear HB; have HB := n0_; clear n0_; (try clear hb); (try clear hb2); (try clear hk); (try clear hi)) | ((with_reducible refine gate_callee (f := 29) rfl ?_); refine goesL_ (some 18) rfl rfl Try.func29 (by kernel_rfl) rfl #[.string a0, .string a1] rfl (by (try simp only [List.map_toArray, List.map_cons, List.map_nil]); first | done | rfl | (simp only [List.length_drop, List.length_take]; rfl)) ?_; (with_reducible refine (packthreadref_GlobMatch.calls a0 a1 t103 t104 _ A4.out).mono ?_); rintro e w7 ⟨rfl, hb⟩; refine ⟨_, rfl, ?_⟩; have n0_ := Aside0.mk (below_step (by repeat (first | (with_reducible first | exact HB.out | apply below_alloc | apply pw_below_drewN | apply below_drew1) | exact HB.out)) hb); clear HB; have HB := n0_; clear n0_; (try clear hb); (try clear hb2); (try clear hk); (try clear hi)))
    go_ret
    exact ⟨by first | rfl | (simp [errW_none, errW_some] <;> rfl) | (simp [*, errW_none, errW_some] <;> rfl), by repeat (first | (with_reducible first | exact HB.out | apply below_alloc | apply pw_below_drewN | apply below_drew1) | exact HB.out)⟩
  · rw [if_neg c5] at H
    have c5b0 : (t101 == t103) = false := by simpa using c5
    (try (have c5b1 : decide (t101 = t103) = false := by simpa using c5))
    (try (have c5b2 : (t101 == t103) = false := by simpa using c5))
    (try (have c5b3 : ¬ (t101 = t103) := by simpa using c5))
    clear c5
    obtain rfl := Option.some.inj H
    go_enter Try.func9, Try.ntmps9
    go_wp2_with (first | ((with_reducible refine gate_callee (f := 28) rfl ?_); refine goesL_ (some 12) rfl rfl Try.func28 (by kernel_rfl) rfl #[.string a0, .string a1] rfl (by (try simp only [List.map_toArray, List.map_cons, List.map_nil]); first | done | rfl | (simp only [List.length_drop, List.length_take]; rfl)) ?_; (with_reducible refine (glob_Match.calls a0 a1 t101 t102 _ A3.out).mono ?_); rintro e w8 ⟨rfl, hb⟩; refine ⟨_, rfl, ?_⟩; have n0_ := Aside0.mk (below_step (by repeat (first | (with_reducible first | exact HB.out | apply below_alloc | apply pw_below_drewN | apply below_drew1) | exact HB.out)) hb); clear HB; have HB := n0_; clear n0_; (try clear hb); (try clear hb2); (try clear hk); (try clear hi)) | ((with_reducible refine gate_callee (f := 29) rfl ?_); refine goesL_ (some 18) rfl rfl Try.func29 (by kernel_rfl) rfl #[.string a0, .string a1] rfl (by (try simp only [List.map_toArray, List.map_cons, List.map_nil]); first | done | rfl | (simp only [List.length_drop, List.length_take]; rfl)) ?_; (with_reducible refine (packthreadref_GlobMatch.calls a0 a1 t103 t104 _ A4.out).mono ?_); rintro e w9 ⟨rfl, hb⟩; refine ⟨_, rfl, ?_⟩; have n0_ := Aside0.mk (below_step (by repeat (first | (with_reducible first | exact HB.out | apply below_alloc | apply pw_below_drewN | apply below_drew1) | exact HB.out)) hb); clear HB; have HB := n0_; clear n0_; (try clear hb); (try clear hb2); (try clear hk); (try clear hi)))
    go_ret
    exact ⟨by first | rfl | (simp [errW_none, errW_some] <;> rfl) | (simp [*, errW_none, errW_some] <;> rfl), by repeat (first | (with_reducible first | exact HB.out | apply below_alloc | apply pw_below_drewN | apply below_drew1) | exact HB.out)⟩

/-- THE ONE PURE STATEMENT of packthreadlaw_GlobMatches: yours. -/
def packthreadlaw_GlobMatches.Pure : Prop := ∀ (a0 : ByteArray) (a1 : ByteArray), a0.size ≤ 140737488351232 → a1.size ≤ 140737488351232 → packthreadlaw_GlobMatches.f a0 a1 = some true
theorem packthreadlaw_GlobMatches.walk (P : packthreadlaw_GlobMatches.Pure) (a0 : ByteArray) (a1 : ByteArray) (w : World) (w0 : a0.size ≤ 140737488351232) (w1 : a1.size ≤ 140737488351232) :
    Calls Try.prog 9 #[.string a0, .string a1] w fun e w' => e = .returned (.bool true) ∧ Below w.heap.size w w' := by
  have h := P a0 a1 w0 w1
  refine (packthreadlaw_GlobMatches.calls a0 a1 true w h).mono ?_
  rintro e w' ⟨rfl, hd⟩
  exact ⟨rfl, hd⟩

end Go.Proofs.Ytkghoodhgihokaa.HGlobMatches
