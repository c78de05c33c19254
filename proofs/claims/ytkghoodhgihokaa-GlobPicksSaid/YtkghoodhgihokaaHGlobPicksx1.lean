/- The contracts of the functions that the law GlobPicks reaches: Go's code comes to what these Lean functions tell (written by a program of ours and the kit's, out of the translation). -/
import Derived.Test.YtkghoodhgihokaaXGlobE
import Derived.Test.YtkghoodhgihokaaXGlobN
import Derived.Test.YtkghoodhgihokaaHGlobPicksx0
namespace Go.Proofs.Ytkghoodhgihokaa.HGlobPicks
open Go.RowKit Go.Proofs.YtkghoodhgihokaaW.PrintWords Go.Proofs.YtkghoodhgihokaaW.PrintLast Go.Proofs.YtkghoodhgihokaaW.PrintMore
attribute [local go_sem] max2_int min2_int max_two min_two max_three min_three max_four min_four   -- for this text's walks alone
set_option linter.unusedVariables false
set_option linter.unusedSimpArgs false

-- NOT PRINTED: function 85 (glob_any)

/-! ### glob_plain: function 100 -/
def glob_plain.f (a0 : ByteArray) : Option (Bool) := if a0.toList = ([] : List UInt8) then (some false) else (if 0 < (a0.size : Int) then (if (bt a0 0) = 93 then (some false) else (some ((bt a0 0) != 92))) else (none))
set_option maxHeartbeats 8000000 in
set_option maxRecDepth 100000 in
theorem glob_plain.calls (a0 : ByteArray) (r : Bool) (w : World) (h : glob_plain.f a0 = some r) :
    Calls Try.prog 100 #[.string a0] w fun e w' => e = .returned (.bool r) ∧ Drawn0 w w' := by
  have H : (if a0.toList = ([] : List UInt8) then (some false) else (if 0 < (a0.size : Int) then (if (bt a0 0) = 93 then (some false) else (some ((bt a0 0) != 92))) else (none))) = some r := h
  clear h
  by_cases c2 : a0.toList = ([] : List UInt8)
  · rw [if_pos c2] at H
    have c2b0 : (a0.toList == ([] : List UInt8)) = true := beq_iff_eq.mpr c2
    have c2b1 : (a0.toList != ([] : List UInt8)) = false := bne_eq_false_iff_eq.mpr c2
    clear c2
    obtain rfl := Option.some.inj H
    go_enter Try.func100, Try.ntmps100
    go_wp2
    go_ret
    exact ⟨by first | rfl | (simp; done) | (simp [*]; done), by repeat (first | exact Drawn0.refl _ | apply Drawn0.step)⟩
  · rw [if_neg c2] at H
    have c2b0 : (a0.toList == ([] : List UInt8)) = false := beq_eq_false_iff_ne.mpr c2
    have c2b1 : (a0.toList != ([] : List UInt8)) = true := bne_iff_ne.mpr c2
    by_cases c3 : 0 < (a0.size : Int)
    · rw [if_pos c3] at H
      have c3b0 : decide (0 < (a0.size : Int)) = true := decide_eq_true c3
      have c3b1 : decide (0 < a0.size) = true := decide_eq_true (by omega)
      clear c3
      by_cases c5 : (bt a0 0) = 93
      · rw [if_pos c5] at H
        have c5b0 : ((bt a0 0) == 93) = true := beq_iff_eq.mpr c5
        have c5b1 : ((bt a0 0) != 93) = false := bne_eq_false_iff_eq.mpr c5
        clear c5
        obtain rfl := Option.some.inj H
        have p4 : 0 ≤ (0 : Int) := (by omega)
        have q4 : 0 < a0.size := (by have : (0 : Int) < (a0.size : Int) := of_decide_eq_true (by first | (with_reducible assumption) | assumption); omega)
        have hx4 : ∀ h : 0 < a0.size, ((a0[0]'h).toNat : Int) = bt a0 0 := bt_at a0 0
        clear p4
        have qi4 : (0 < (a0.size : Int)) = True := eq_true (of_decide_eq_true (by first | (with_reducible assumption) | assumption))
        replace q4 := eq_true q4
        go_enter Try.func100, Try.ntmps100
        go_wp2
        go_ret
        exact ⟨by first | rfl | (simp; done) | (simp [*]; done), by repeat (first | exact Drawn0.refl _ | apply Drawn0.step)⟩
      · rw [if_neg c5] at H
        have c5b0 : ((bt a0 0) == 93) = false := beq_eq_false_iff_ne.mpr c5
        have c5b1 : ((bt a0 0) != 93) = true := bne_iff_ne.mpr c5
        obtain rfl := Option.some.inj H
        have p4 : 0 ≤ (0 : Int) := (by omega)
        have q4 : 0 < a0.size := (by have : (0 : Int) < (a0.size : Int) := of_decide_eq_true (by first | (with_reducible assumption) | assumption); omega)
        have hx4 : ∀ h : 0 < a0.size, ((a0[0]'h).toNat : Int) = bt a0 0 := bt_at a0 0
        clear p4
        have qi4 : (0 < (a0.size : Int)) = True := eq_true (of_decide_eq_true (by first | (with_reducible assumption) | assumption))
        replace q4 := eq_true q4
        have p6 : 0 ≤ (0 : Int) := (by omega)
        have q6 : 0 < a0.size := (by have : (0 : Int) < (a0.size : Int) := of_decide_eq_true (by first | (with_reducible assumption) | assumption); omega)
        have hx6 : ∀ h : 0 < a0.size, ((a0[0]'h).toNat : Int) = bt a0 0 := bt_at a0 0
        clear p6
        have qi6 : (0 < (a0.size : Int)) = True := eq_true (of_decide_eq_true (by first | (with_reducible assumption) | assumption))
        replace q6 := eq_true q6
        go_enter Try.func100, Try.ntmps100
        go_wp2
        go_ret
        exact ⟨by first | rfl | (simp; done) | (simp [*]; done), by repeat (first | exact Drawn0.refl _ | apply Drawn0.step)⟩
    · rw [if_neg c3] at H
      exact absurd H (by simp)

-- NOT PRINTED: function 86 (glob_set)

-- NOT PRINTED: function 87 (glob_one)

-- NOT PRINTED: function 58 (glob_parts)

-- NOT PRINTED: function 60 (glob_match)

/-! ### glob_Pick: function 30 -/
/-- glob.Pick. -/
def glob_Pick.f (l0 : ByteArray) (l1 : List ByteArray) : Option (List ByteArray × Int) := some (Glob.pickF l0 l1)
set_option maxHeartbeats 4000000 in
set_option maxRecDepth 100000 in
theorem glob_Pick.calls (l0 : ByteArray) (A1 : Option Addr) (c1 : Nat) (l1 : List ByteArray) (r1 : List ByteArray) (r2 : Int) (w : World) (hr1 : Kd.C Kd.string w A1 l1.length l1) (hc1 : l1.length ≤ c1) (h : glob_Pick.f l0 l1 = some (r1, r2)) :
    Calls Try.prog 30 #[.string l0, .slice A1 l1.length c1] w fun e w' => ∃ v0_ : Value, e = .returned (.tuple #[v0_, .int .i64 r2]) ∧ Kd.R Kd.string 9 w' w.heap.size (fun _ => True) v0_ r1 ∧ Below w.heap.size w w' := by
  have HR := Aside0.mk hr1
  clear hr1
  unfold glob_Pick.f Glob.pickF at h
  have hr := Option.some.inj h
  clear h
  cases hF : Glob.partsF l0.data.toList with
  | none =>
    rw [hF] at hr
    cases hr
    go_enter Try.func30, Try.ntmps30
    go_wp2_with (go_at_call 58; refine (Glob.parts_calls l0.data.toList _).mono ?_; rintro e w1 ⟨⟨v, ok, rfl, hp⟩, hb1⟩; have HB1 := Aside0.mk hb1; rw [hF] at hp; have hok : ok = false := hp; clear hb1 hp; subst hok)
    go_ret2
    exact ⟨_, rfl, Kd.R_nil _ _ _ _ _, HB1.out⟩
  | some ps =>
    rw [hF] at hr
    dsimp only [Option.map_some] at hr
    have hlen := Glob.partsF_le hF
    by_cases h64 : 64 < l1.length
    · rw [if_pos h64] at hr
      cases hr
      have d1 : decide ((64 : Int) < (l1.length : Int)) = true := decide_eq_true (by omega)
      have d1n : decide (64 < l1.length) = true := decide_eq_true h64
      go_enter Try.func30, Try.ntmps30
      go_wp2_with (go_at_call 58; refine (Glob.parts_calls l0.data.toList _).mono ?_; rintro e w1 ⟨⟨v, ok, rfl, hp⟩, hb1⟩; have HB1 := Aside0.mk hb1; rw [hF] at hp; have hok : ok = true := hp.1; clear hb1 hp; subst hok)
      go_ret2
      exact ⟨_, rfl, Kd.R_nil _ _ _ _ _, HB1.out⟩
    · rw [if_neg h64] at hr
      have d1 : decide ((64 : Int) < (l1.length : Int)) = false := decide_eq_false (by omega)
      have d1n : decide (64 < l1.length) = false := decide_eq_false h64
      have HK : Aside0 ((l1.any (fun s => decide (200 < s.size)) = true → [] = r1 ∧ (1 : Int) = r2) ∧ (l1.any (fun s => decide (200 < s.size)) = false → (l1.filter fun s => Glob.gB ps s.data.toList) = r1 ∧ (0 : Int) = r2)) := by
        refine ⟨fun h => ?_, fun h => ?_⟩
        · rw [if_pos h] at hr; exact ⟨congrArg Prod.fst hr, congrArg Prod.snd hr⟩
        · rw [if_neg (by rw [h]; decide)] at hr; exact ⟨congrArg Prod.fst hr, congrArg Prod.snd hr⟩
      clear hr
      go_enter Try.func30, Try.ntmps30
      go_wp2_with (go_at_call 58; refine (Glob.parts_calls l0.data.toList _).mono ?_; rintro e w1 ⟨⟨v, ok, rfl, hp⟩, hb1⟩; have HB1 := Aside0.mk hb1; rw [hF] at hp; have hok : ok = true := hp.1; have HP := Aside0.mk hp.2; clear hb1 hp; subst hok)
      have HN := Aside0.mk (Kd.C_below HR.out HB1.out)
      go_loopg [8, 23] l1.length (fun g s8 s23 wx => ∃ i : Nat, i + g = l1.length ∧ s23 = .int .i64 (i : Int) ∧ Aside0 ((l1.take i).any (fun s => decide (200 < s.size)) = false) ∧ Aside0 (Kd.R Kd.string 9 wx w1.heap.size (fun _ => True) s8 ((l1.take i).filter fun s => Glob.gB ps s.data.toList)) ∧ Aside0 (Below w1.heap.size w1 wx))
      case atStart => exact ⟨0, by omega, rfl, ⟨rfl⟩, ⟨Kd.R_nil _ _ _ _ _⟩, ⟨Below.refl _ _⟩⟩
      case round =>
       obtain ⟨i, hig, rfl, HZ, HO, HB⟩ := hrel
       cases gk with
       | zero =>
        obtain rfl : i = l1.length := by omega
        have c1 : decide (((l1.length : Nat) : Int) < ((l1.length : Nat) : Int)) = false := decide_eq_false (by omega)
        rw [List.take_length] at HO
        obtain ⟨rfl, rfl⟩ := HK.out.2 (by have := HZ.out; rw [List.take_length] at this; exact this)
        go_wp2
        go_ret2
        exact ⟨_, rfl, Kd.R_lower HO.out HB1.out.size, HB1.out.trans (HB.out.mono HB1.out.size)⟩
       | succ g =>
        have hi : i < l1.length := by omega
        have c1 : decide ((i : Int) < ((l1.length : Nat) : Int)) = true := decide_eq_true (by omega)
        have c1n : decide (i < l1.length) = true := decide_eq_true hi
        have p1 : (0 : Int) ≤ (i : Int) := by omega
        have q1 : (i : Int) < (l1.length : Int) := by omega
        have HI := Aside0.mk hig
        obtain ⟨ad, rfl, h0⟩ := Kd.at_string (Kd.C_below HN.out HB.out) (i : Int) p1 q1
        rw [Int.toNat_natCast] at h0
        replace p1 := eq_true p1
        replace q1 := eq_true q1
        have hm0 : rdOf ByteArray.empty l1 (i : Int) = l1[i] := by simp [rdOf, List.getD_eq_getElem?_getD, List.getElem?_eq_getElem hi]
        have hmem := List.getElem_mem hi
        obtain ⟨s, hs⟩ : ∃ s, l1[i] = s := ⟨_, rfl⟩
        rw [hm0, hs] at h0
        rw [hs] at hmem
        have HS := Aside0.mk hs
        clear hm0 hs
        by_cases h200 : 200 < s.size
        · have e1 : decide ((200 : Int) < (s.size : Int)) = true := decide_eq_true (by omega)
          have e1n : decide (200 < s.size) = true := decide_eq_true h200
          go_wp2
          go_ret2
          obtain ⟨rfl, rfl⟩ := HK.out.1 (List.any_eq_true.2 ⟨s, hmem, decide_eq_true h200⟩)
          exact ⟨_, rfl, Kd.R_nil _ _ _ _ _, HB1.out.trans (HB.out.mono HB1.out.size)⟩
        · have e1 : decide ((200 : Int) < (s.size : Int)) = false := decide_eq_false (by omega)
          have e1n : decide (200 < s.size) = false := decide_eq_false h200
          have HZ2 := Aside0.mk (show (l1.take (i + 1)).any (fun s => decide (200 < s.size)) = false by rw [List.take_succ_eq_append_getElem hi, List.any_append, HZ.out, HS.out]; simp [h200])
          clear HZ
          obtain ⟨q, hm⟩ : ∃ q, Glob.gB ps s.data.toList = q := ⟨_, rfl⟩
          have hfl : (l1.take (i + 1)).filter (fun s => Glob.gB ps s.data.toList) = (l1.take i).filter (fun s => Glob.gB ps s.data.toList) ++ (if q = true then [s] else []) := by
            rw [List.take_succ_eq_append_getElem hi, List.filter_append, HS.out]
            cases q <;> simp [hm]
          have hln : ((l1.take i).filter fun s => Glob.gB ps s.data.toList).length ≤ 64 := Nat.le_trans (List.length_filter_le _ _) (by rw [List.length_take]; omega)
          obtain ⟨X, hX⟩ : ∃ X, (l1.take i).filter (fun s => Glob.gB ps s.data.toList) = X := ⟨_, rfl⟩
          rw [hX] at HO hfl hln
          have HFL := Aside0.mk hfl
          clear hfl hX
          cases q with
          | true =>
            go_wp2_with (first | (go_at_call 60; refine (Glob.match_calls ps s.data.toList _ _ _ _ (Kd.R_below HP.out HB.out) hlen (by have := Lib.size_eq s; omega)).mono ?_; rintro e w2 ⟨rfl, hb2⟩; have HB2 := Aside0.mk (HB.out.trans (hb2.mono HB.out.size)); have HO2 := Aside0.mk (Kd.R_below HO.out hb2); clear hb2; rw [hm]) | ((with_reducible refine gate_builtin (b := .append) (xs := #[.tmp 33, .tmp 35]) rfl ?_); at_builtin; refine Kd.R_append Kd.string (w0 := w1) w1.heap.size rfl (.tmp 33) (.tmp 35) 22 9 (.string ⟨#[]⟩) 16 rfl Try.underlying22 Glob.info9 rfl (by decide) (by decide) u8 _ s [.string s] (fun _ => True) (fun _ => False) rfl rfl rfl (fun _ hk => hk.elim) (fun _ _ => trivial) HO2.out HB2.out HB2.out.size (by omega) ?_; intro v8 w8 ho hb hg hat; have HO8 := Aside0.mk ho; have HB8 := Aside0.mk hb; clear ho hb hg hat))
            go_roundg g
            case measure => omega
            case rel => exact ⟨i + 1, by omega, by rfl, HZ2, ⟨by rw [HFL.out]; exact HO8.out⟩, HB8⟩
          | false =>
            go_wp2_with (first | (go_at_call 60; refine (Glob.match_calls ps s.data.toList _ _ _ _ (Kd.R_below HP.out HB.out) hlen (by have := Lib.size_eq s; omega)).mono ?_; rintro e w2 ⟨rfl, hb2⟩; have HB2 := Aside0.mk (HB.out.trans (hb2.mono HB.out.size)); have HO2 := Aside0.mk (Kd.R_below HO.out hb2); clear hb2; rw [hm]))
            go_roundg g
            case measure => omega
            case rel => exact ⟨i + 1, by omega, by rfl, HZ2, ⟨by rw [HFL.out, if_neg (by decide), List.append_nil]; exact HO2.out⟩, HB2⟩

-- NOT PRINTED: function 59 (packthreadref_globItems)

-- NOT PRINTED: function 89 (packthreadref_globItem_takes)

-- NOT PRINTED: function 61 (packthreadref_globOf)

/-! ### packthreadref_GlobPick: function 31 -/
/-- packthreadref.GlobPick. -/
def packthreadref_GlobPick.f (l0 : ByteArray) (l1 : List ByteArray) : Option (List ByteArray × Int) := some (Glob.pickF l0 l1)
set_option maxHeartbeats 4000000 in
set_option maxRecDepth 100000 in
theorem packthreadref_GlobPick.calls (l0 : ByteArray) (A1 : Option Addr) (c1 : Nat) (l1 : List ByteArray) (r1 : List ByteArray) (r2 : Int) (w : World) (hr1 : Kd.C Kd.string w A1 l1.length l1) (hc1 : l1.length ≤ c1) (h : packthreadref_GlobPick.f l0 l1 = some (r1, r2)) :
    Calls Try.prog 31 #[.string l0, .slice A1 l1.length c1] w fun e w' => ∃ v0_ : Value, e = .returned (.tuple #[v0_, .int .i64 r2]) ∧ Kd.R Kd.string 9 w' w.heap.size (fun _ => True) v0_ r1 ∧ Below w.heap.size w w' := by
  have HR := Aside0.mk hr1
  clear hr1
  unfold packthreadref_GlobPick.f Glob.pickF at h
  have hr := Option.some.inj h
  clear h
  rw [Glob.partsF_items] at hr
  cases hF : Glob.itemsF l0.data.toList with
  | none =>
    rw [hF] at hr
    cases hr
    go_enter Try.func31, Try.ntmps31
    go_wp2_with (go_at_call 59; refine (Glob.itemsF_calls l0.data.toList _).mono ?_; rintro e w1 ⟨⟨v, ok, rfl, hp⟩, hb1⟩; have HB1 := Aside0.mk hb1; rw [hF] at hp; have hok : ok = false := hp; clear hb1 hp; subst hok)
    go_ret2
    exact ⟨_, rfl, Kd.R_nil _ _ _ _ _, HB1.out⟩
  | some ps =>
    rw [hF] at hr
    dsimp only [Option.map_some] at hr
    have hlen := (Glob.itemsF_le hF).1
    have hrr := (Glob.itemsF_le hF).2
    by_cases h64 : 64 < l1.length
    · rw [if_pos h64] at hr
      cases hr
      have d1 : decide ((64 : Int) < (l1.length : Int)) = true := decide_eq_true (by omega)
      have d1n : decide (64 < l1.length) = true := decide_eq_true h64
      go_enter Try.func31, Try.ntmps31
      go_wp2_with (go_at_call 59; refine (Glob.itemsF_calls l0.data.toList _).mono ?_; rintro e w1 ⟨⟨v, ok, rfl, hp⟩, hb1⟩; have HB1 := Aside0.mk hb1; rw [hF] at hp; have hok : ok = true := hp.1; clear hb1 hp; subst hok)
      go_ret2
      exact ⟨_, rfl, Kd.R_nil _ _ _ _ _, HB1.out⟩
    · rw [if_neg h64] at hr
      have d1 : decide ((64 : Int) < (l1.length : Int)) = false := decide_eq_false (by omega)
      have d1n : decide (64 < l1.length) = false := decide_eq_false h64
      have HK : Aside0 ((l1.any (fun s => decide (200 < s.size)) = true → [] = r1 ∧ (1 : Int) = r2) ∧ (l1.any (fun s => decide (200 < s.size)) = false → (l1.filter fun s => Glob.gB (ps.map Glob.toPt) s.data.toList) = r1 ∧ (0 : Int) = r2)) := by
        refine ⟨fun h => ?_, fun h => ?_⟩
        · rw [if_pos h] at hr; exact ⟨congrArg Prod.fst hr, congrArg Prod.snd hr⟩
        · rw [if_neg (by rw [h]; decide)] at hr; exact ⟨congrArg Prod.fst hr, congrArg Prod.snd hr⟩
      clear hr
      go_enter Try.func31, Try.ntmps31
      go_wp2_with (go_at_call 59; refine (Glob.itemsF_calls l0.data.toList _).mono ?_; rintro e w1 ⟨⟨v, ok, rfl, hp⟩, hb1⟩; have HB1 := Aside0.mk hb1; rw [hF] at hp; have hok : ok = true := hp.1; have HP := Aside0.mk hp.2; clear hb1 hp; subst hok)
      have HN := Aside0.mk (Kd.C_below HR.out HB1.out)
      go_loopg [25] l1.length (fun g s25 wx => ∃ i : Nat, i + g = l1.length ∧ s25 = .int .i64 (i : Int) ∧ Aside0 ((l1.take i).any (fun s => decide (200 < s.size)) = false) ∧ Aside0 (Below w1.heap.size w1 wx))
      case atStart => exact ⟨0, by omega, rfl, ⟨rfl⟩, ⟨Below.refl _ _⟩⟩
      case round =>
       obtain ⟨i, hig, rfl, HZ, HB⟩ := hrel
       cases gk with
       | zero =>
        obtain rfl : i = l1.length := by omega
        have c1 : decide (((l1.length : Nat) : Int) < ((l1.length : Nat) : Int)) = false := decide_eq_false (by omega)
        have HZA := Aside0.mk (show l1.any (fun s => decide (200 < s.size)) = false by have := HZ.out; rw [List.take_length] at this; exact this)
        have HB0 := HB
        clear HZ HB
        go_wp2
        go_loopg [8, 35] l1.length (fun g s8 s35 wx => ∃ i : Nat, i + g = l1.length ∧ s35 = .int .i64 (i : Int) ∧ Aside0 (Kd.R Kd.string 9 wx w1.heap.size (fun _ => True) s8 ((l1.take i).filter fun s => Glob.gB (ps.map Glob.toPt) s.data.toList)) ∧ Aside0 (Below w1.heap.size w1 wx))
        case atStart => exact ⟨0, by omega, rfl, ⟨Kd.R_nil _ _ _ _ _⟩, HB0⟩
        case round =>
         obtain ⟨i, hig, rfl, HO, HB⟩ := hrel
         cases gk with
         | zero =>
          obtain rfl : i = l1.length := by omega
          have c1 : decide (((l1.length : Nat) : Int) < ((l1.length : Nat) : Int)) = false := decide_eq_false (by omega)
          rw [List.take_length] at HO
          obtain ⟨rfl, rfl⟩ := HK.out.2 HZA.out
          go_wp2
          go_ret2
          exact ⟨_, rfl, Kd.R_lower HO.out HB1.out.size, HB1.out.trans (HB.out.mono HB1.out.size)⟩
         | succ g =>
          have hi : i < l1.length := by omega
          have c1 : decide ((i : Int) < ((l1.length : Nat) : Int)) = true := decide_eq_true (by omega)
          have c1n : decide (i < l1.length) = true := decide_eq_true hi
          have p1 : (0 : Int) ≤ (i : Int) := by omega
          have q1 : (i : Int) < (l1.length : Int) := by omega
          have HI := Aside0.mk hig
          obtain ⟨ad, rfl, h0⟩ := Kd.at_string (Kd.C_below HN.out HB.out) (i : Int) p1 q1
          rw [Int.toNat_natCast] at h0
          replace p1 := eq_true p1
          replace q1 := eq_true q1
          have hm0 : rdOf ByteArray.empty l1 (i : Int) = l1[i] := by simp [rdOf, List.getD_eq_getElem?_getD, List.getElem?_eq_getElem hi]
          have hmem := List.getElem_mem hi
          obtain ⟨s, hs⟩ : ∃ s, l1[i] = s := ⟨_, rfl⟩
          rw [hm0, hs] at h0
          rw [hs] at hmem
          have HS := Aside0.mk hs
          clear hm0 hs
          have h200 : ¬ 200 < s.size := fun h => by have := HZA.out; rw [List.any_eq_true.2 ⟨s, hmem, decide_eq_true h⟩] at this; cases this
          obtain ⟨q, hm⟩ : ∃ q, Glob.gB (ps.map Glob.toPt) s.data.toList = q := ⟨_, rfl⟩
          have hfl : (l1.take (i + 1)).filter (fun s => Glob.gB (ps.map Glob.toPt) s.data.toList) = (l1.take i).filter (fun s => Glob.gB (ps.map Glob.toPt) s.data.toList) ++ (if q = true then [s] else []) := by
            rw [List.take_succ_eq_append_getElem hi, List.filter_append, HS.out]
            cases q <;> simp [hm]
          have hln : ((l1.take i).filter fun s => Glob.gB (ps.map Glob.toPt) s.data.toList).length ≤ 64 := Nat.le_trans (List.length_filter_le _ _) (by rw [List.length_take]; omega)
          obtain ⟨X, hX⟩ : ∃ X, (l1.take i).filter (fun s => Glob.gB (ps.map Glob.toPt) s.data.toList) = X := ⟨_, rfl⟩
          rw [hX] at HO hfl hln
          have HFL := Aside0.mk hfl
          clear hfl hX
          cases q with
          | true =>
            go_wp2_with (first | (go_at_call 61; refine (Glob.globOf_calls ps s.data.toList _ _ _ _ (Kd.R_below HP.out HB.out) hlen (by have := Lib.size_eq s; omega) hrr).mono ?_; rintro e w2 ⟨rfl, hb2⟩; have HB2 := Aside0.mk (HB.out.trans (hb2.mono HB.out.size)); have HO2 := Aside0.mk (Kd.R_below HO.out hb2); clear hb2; rw [hm]) | ((with_reducible refine gate_builtin (b := .append) (xs := #[.tmp 42, .tmp 44]) rfl ?_); at_builtin; refine Kd.R_append Kd.string (w0 := w1) w1.heap.size rfl (.tmp 42) (.tmp 44) 22 9 (.string ⟨#[]⟩) 16 rfl Try.underlying22 Glob.info9 rfl (by decide) (by decide) u8 _ s [.string s] (fun _ => True) (fun _ => False) rfl rfl rfl (fun _ hk => hk.elim) (fun _ _ => trivial) HO2.out HB2.out HB2.out.size (by omega) ?_; intro v8 w8 ho hb hg hat; have HO8 := Aside0.mk ho; have HB8 := Aside0.mk hb; clear ho hb hg hat))
            go_roundg g
            case measure => omega
            case rel => exact ⟨i + 1, by omega, by rfl, ⟨by rw [HFL.out]; exact HO8.out⟩, HB8⟩
          | false =>
            go_wp2_with (first | (go_at_call 61; refine (Glob.globOf_calls ps s.data.toList _ _ _ _ (Kd.R_below HP.out HB.out) hlen (by have := Lib.size_eq s; omega) hrr).mono ?_; rintro e w2 ⟨rfl, hb2⟩; have HB2 := Aside0.mk (HB.out.trans (hb2.mono HB.out.size)); have HO2 := Aside0.mk (Kd.R_below HO.out hb2); clear hb2; rw [hm]))
            go_roundg g
            case measure => omega
            case rel => exact ⟨i + 1, by omega, by rfl, ⟨by rw [HFL.out, if_neg (by decide), List.append_nil]; exact HO2.out⟩, HB2⟩
       | succ g =>
        have hi : i < l1.length := by omega
        have c1 : decide ((i : Int) < ((l1.length : Nat) : Int)) = true := decide_eq_true (by omega)
        have c1n : decide (i < l1.length) = true := decide_eq_true hi
        have p1 : (0 : Int) ≤ (i : Int) := by omega
        have q1 : (i : Int) < (l1.length : Int) := by omega
        have HI := Aside0.mk hig
        obtain ⟨ad, rfl, h0⟩ := Kd.at_string (Kd.C_below HN.out HB.out) (i : Int) p1 q1
        rw [Int.toNat_natCast] at h0
        replace p1 := eq_true p1
        replace q1 := eq_true q1
        have hm0 : rdOf ByteArray.empty l1 (i : Int) = l1[i] := by simp [rdOf, List.getD_eq_getElem?_getD, List.getElem?_eq_getElem hi]
        have hmem := List.getElem_mem hi
        obtain ⟨s, hs⟩ : ∃ s, l1[i] = s := ⟨_, rfl⟩
        rw [hm0, hs] at h0
        rw [hs] at hmem
        have HS := Aside0.mk hs
        clear hm0 hs
        by_cases h200 : 200 < s.size
        · have e1 : decide ((200 : Int) < (s.size : Int)) = true := decide_eq_true (by omega)
          have e1n : decide (200 < s.size) = true := decide_eq_true h200
          go_wp2
          go_ret2
          obtain ⟨rfl, rfl⟩ := HK.out.1 (List.any_eq_true.2 ⟨s, hmem, decide_eq_true h200⟩)
          exact ⟨_, rfl, Kd.R_nil _ _ _ _ _, HB1.out.trans (HB.out.mono HB1.out.size)⟩
        · have e1 : decide ((200 : Int) < (s.size : Int)) = false := decide_eq_false (by omega)
          have e1n : decide (200 < s.size) = false := decide_eq_false h200
          go_wp2
          go_roundg g
          case measure => omega
          case rel => exact ⟨i + 1, by omega, by rfl, ⟨by rw [List.take_succ_eq_append_getElem hi, List.any_append, HZ.out, HS.out]; simp [h200]⟩, HB⟩

/-! ### packthreadlaw_sameTexts: function 32 -/
def packthreadlaw_sameTexts.l0 : Nat → List ByteArray → List ByteArray → Int → Option (Bool)
  | 0, _, _, _ => none
  | k + 1, x0, x1, x5 => if x5 < (x0.length : Int) then (if 0 ≤ x5 then (if x5 < (x1.length : Int) then (if (rdOf ByteArray.empty x0 x5).toList = (rdOf ByteArray.empty x1 x5).toList then (packthreadlaw_sameTexts.l0 k x0 x1 (wrap64 (x5 + 1))) else (some false)) else (none)) else (none)) else (some true)
def packthreadlaw_sameTexts.f (k : Nat) (l0 : List ByteArray) (l1 : List ByteArray) : Option (Bool) := if (l0.length : Int) = (l1.length : Int) then (packthreadlaw_sameTexts.l0 k l0 l1 0) else (some false)
theorem packthreadlaw_sameTexts.mono_l : ∀ k, (∀ y0 y1 y2, LeO (packthreadlaw_sameTexts.l0 k y0 y1 y2) (packthreadlaw_sameTexts.l0 (k + 1) y0 y1 y2))
  | 0 => fun _ _ _ r h => by simp [packthreadlaw_sameTexts.l0] at h
  | k + 1 => by
    have ih0 := packthreadlaw_sameTexts.mono_l k
    · intro y0 y1 y2
      unfold packthreadlaw_sameTexts.l0
      repeat' first
      | (with_reducible exact ih0 _ _ _)
      | (with_reducible exact LeO.refl _)
      | (with_reducible exact LeO.none _)
      | (with_reducible refine LeO.ite ?_ ?_)
      | (with_reducible refine LeO.bind ?_ (fun _ => ?_))
      | exact ih0 _ _ _
      | exact LeO.none _
      | refine LeO.ite ?_ ?_
      | refine LeO.bind ?_ (fun _ => ?_)
theorem packthreadlaw_sameTexts.mono : ∀ a0 a1 k, LeO (packthreadlaw_sameTexts.f k a0 a1) (packthreadlaw_sameTexts.f (k + 1) a0 a1) := by
  intro a0 a1 k
  have ih0 := packthreadlaw_sameTexts.mono_l k
  unfold packthreadlaw_sameTexts.f
  repeat' first
      | (with_reducible exact ih0 _ _ _)
      | (with_reducible exact LeO.refl _)
      | (with_reducible exact LeO.none _)
      | (with_reducible refine LeO.ite ?_ ?_)
      | (with_reducible refine LeO.bind ?_ (fun _ => ?_))
      | exact ih0 _ _ _
      | exact LeO.none _
      | refine LeO.ite ?_ ?_
      | refine LeO.bind ?_ (fun _ => ?_)
set_option maxHeartbeats 8000000 in
set_option maxRecDepth 100000 in
theorem packthreadlaw_sameTexts.calls (k : Nat) (A0 : Option Addr) (c0 : Nat) (l0 : List ByteArray) (A1 : Option Addr) (c1 : Nat) (l1 : List ByteArray) (r : Bool) (w : World) (hr0 : Kd.C Kd.string w A0 l0.length l0) (hc0 : l0.length ≤ c0) (hr1 : Kd.C Kd.string w A1 l1.length l1) (hc1 : l1.length ≤ c1) (h : packthreadlaw_sameTexts.f k l0 l1 = some r) :
    Calls Try.prog 32 #[.slice A0 l0.length c0, .slice A1 l1.length c1] w fun e w' => e = .returned (.bool r) ∧ Drawn0 w w' := by
  have HR0 := Aside0.mk hr0
  have HC0 := Aside0.mk hc0
  clear hr0 hc0
  have HR1 := Aside0.mk hr1
  have HC1 := Aside0.mk hc1
  clear hr1 hc1
  have H : (if (l0.length : Int) = (l1.length : Int) then (packthreadlaw_sameTexts.l0 k l0 l1 0) else (some false)) = some r := h
  clear h
  by_cases c3 : (l0.length : Int) = (l1.length : Int)
  · rw [if_pos c3] at H
    have c3b0 : ((l0.length : Int) == (l1.length : Int)) = true := beq_iff_eq.mpr c3
    have c3b1 : ((l0.length : Int) != (l1.length : Int)) = false := bne_eq_false_iff_eq.mpr c3
    have c3b2 : (l0.length == l1.length) = true := by first | simpa using c3 | (simp at c3 ⊢; omega)
    clear c3
    have H' := Aside0.mk H
    clear H
    go_enter Try.func32, Try.ntmps32
    go_wp2
    repeat (go_quiet (fail); try go_wp2)
    go_loopg [5] k (fun kq v5 w' => ∃ (x5_1 : Int), v5 = .int .i64 x5_1 ∧ Aside0 (packthreadlaw_sameTexts.l0 kq l0 l1 x5_1 = some r) ∧ Aside0 (kq ≤ k) ∧ Drawn0 w w')
    case atStart => exact ⟨(0), (by first | rfl | (simp; done) | (simp [*]; done)), H', ⟨Nat.le_refl _⟩, by repeat (first | exact Drawn0.refl _ | apply Drawn0.step)⟩
    case round =>
      clear H'
      try clear c1
      try clear p2
      try clear c3
      try clear c3b0
      try clear c3b1
      try clear c3b2
      obtain ⟨x5_1, rfl, HA, HK1, ⟨m1, rfl⟩⟩ := hrel
      cases gk with
      | zero => exact absurd HA.out (by simp [packthreadlaw_sameTexts.l0])
      | succ k1 =>
        have H := HA.out
        clear HA
        simp only [packthreadlaw_sameTexts.l0] at H
        by_cases c4 : x5_1 < (l0.length : Int)
        · rw [if_pos c4] at H
          have c4b0 : decide (x5_1 < (l0.length : Int)) = true := decide_eq_true c4
          clear c4
          by_cases c5 : 0 ≤ x5_1
          · rw [if_pos c5] at H
            have c5b0 : decide (0 ≤ x5_1) = true := decide_eq_true c5
            clear c5
            by_cases c6 : x5_1 < (l1.length : Int)
            · rw [if_pos c6] at H
              have c6b0 : decide (x5_1 < (l1.length : Int)) = true := decide_eq_true c6
              clear c6
              by_cases c7 : (rdOf ByteArray.empty l0 x5_1).toList = (rdOf ByteArray.empty l1 x5_1).toList
              · rw [if_pos c7] at H
                have c7b0 : ((rdOf ByteArray.empty l0 x5_1).toList == (rdOf ByteArray.empty l1 x5_1).toList) = true := beq_iff_eq.mpr c7
                have c7b1 : ((rdOf ByteArray.empty l0 x5_1).toList != (rdOf ByteArray.empty l1 x5_1).toList) = false := bne_eq_false_iff_eq.mpr c7
                clear c7
                have H' := Aside0.mk H
                clear H
                have p101 : 0 ≤ (x5_1 : Int) := of_decide_eq_true (by first | (with_reducible assumption) | assumption)
                have q101 : x5_1 < (l0.length : Int) := of_decide_eq_true (by first | (with_reducible assumption) | assumption)
                obtain ⟨ad101, e101, hx101_0⟩ := Kd.at_string HR0.out x5_1 p101 q101
                cases e101
                replace p101 := eq_true p101
                replace q101 := eq_true q101
                have p102 : 0 ≤ (x5_1 : Int) := of_decide_eq_true (by first | (with_reducible assumption) | assumption)
                have q102 : x5_1 < (l1.length : Int) := of_decide_eq_true (by first | (with_reducible assumption) | assumption)
                obtain ⟨ad102, e102, hx102_0⟩ := Kd.at_string HR1.out x5_1 p102 q102
                cases e102
                replace p102 := eq_true p102
                replace q102 := eq_true q102
                go_wp2
                repeat (go_quiet (fail); try go_wp2)
                go_roundg k1
                case measure => have := HK1.out; omega
                case rel => exact ⟨(wrap64 (x5_1 + 1)), (by first | rfl | (simp; done) | (simp [*]; done)), H', ⟨by have := HK1.out; omega⟩, by repeat (first | exact Drawn0.refl _ | apply Drawn0.step)⟩
              · rw [if_neg c7] at H
                have c7b0 : ((rdOf ByteArray.empty l0 x5_1).toList == (rdOf ByteArray.empty l1 x5_1).toList) = false := beq_eq_false_iff_ne.mpr c7
                have c7b1 : ((rdOf ByteArray.empty l0 x5_1).toList != (rdOf ByteArray.empty l1 x5_1).toList) = true := bne_iff_ne.mpr c7
                obtain rfl := Option.some.inj H
                have p101 : 0 ≤ (x5_1 : Int) := of_decide_eq_true (by first | (with_reducible assumption) | assumption)
                have q101 : x5_1 < (l0.length : Int) := of_decide_eq_true (by first | (with_reducible assumption) | assumption)
                obtain ⟨ad101, e101, hx101_0⟩ := Kd.at_string HR0.out x5_1 p101 q101
                cases e101
                replace p101 := eq_true p101
                replace q101 := eq_true q101
                have p102 : 0 ≤ (x5_1 : Int) := of_decide_eq_true (by first | (with_reducible assumption) | assumption)
                have q102 : x5_1 < (l1.length : Int) := of_decide_eq_true (by first | (with_reducible assumption) | assumption)
                obtain ⟨ad102, e102, hx102_0⟩ := Kd.at_string HR1.out x5_1 p102 q102
                cases e102
                replace p102 := eq_true p102
                replace q102 := eq_true q102
                go_wp2
                repeat (go_quiet (fail); try go_wp2)
                go_ret
                exact ⟨by first | rfl | (simp; done) | (simp [*]; done), by repeat (first | exact Drawn0.refl _ | apply Drawn0.step)⟩
            · rw [if_neg c6] at H
              exact absurd H (by simp)
          · rw [if_neg c5] at H
            exact absurd H (by simp)
        · rw [if_neg c4] at H
          have c4b0 : decide (x5_1 < (l0.length : Int)) = false := decide_eq_false c4
          clear c4
          obtain rfl := Option.some.inj H
          go_wp2
          repeat (go_quiet (fail); try go_wp2)
          go_ret
          exact ⟨by first | rfl | (simp; done) | (simp [*]; done), by repeat (first | exact Drawn0.refl _ | apply Drawn0.step)⟩
  · rw [if_neg c3] at H
    have c3b0 : ((l0.length : Int) == (l1.length : Int)) = false := beq_eq_false_iff_ne.mpr c3
    have c3b1 : ((l0.length : Int) != (l1.length : Int)) = true := bne_iff_ne.mpr c3
    have c3b2 : (l0.length == l1.length) = false := by first | simpa using c3 | (simp at c3 ⊢; omega)
    obtain rfl := Option.some.inj H
    go_enter Try.func32, Try.ntmps32
    go_wp2
    repeat (go_quiet (fail); try go_wp2)
    go_ret
    exact ⟨by first | rfl | (simp; done) | (simp [*]; done), by repeat (first | exact Drawn0.refl _ | apply Drawn0.step)⟩

/-! ### packthreadlaw_GlobPicks: function 10 -/
def packthreadlaw_GlobPicks.f (k : Nat) (a0 : ByteArray) (l1 : List ByteArray) : Option (Bool) := (glob_Pick.f a0 l1).bind fun bt103 => ((packthreadref_GlobPick.f a0 l1).bind fun bt107 => ((packthreadlaw_sameTexts.f k bt103.1 bt107.1).bind fun t111 => (if t111 = true then (some (bt103.2 == bt107.2)) else (some false))))
theorem packthreadlaw_GlobPicks.mono : ∀ a0 a1 k, LeO (packthreadlaw_GlobPicks.f k a0 a1) (packthreadlaw_GlobPicks.f (k + 1) a0 a1) := by
  intro a0 a1 k
  unfold packthreadlaw_GlobPicks.f
  repeat' first
      | (with_reducible exact packthreadlaw_sameTexts.mono _ _ _)
      | (with_reducible exact LeO.refl _)
      | (with_reducible exact LeO.none _)
      | (with_reducible refine LeO.ite ?_ ?_)
      | (with_reducible refine LeO.bind ?_ (fun _ => ?_))
      | exact packthreadlaw_sameTexts.mono _ _ _
      | exact LeO.none _
      | refine LeO.ite ?_ ?_
      | refine LeO.bind ?_ (fun _ => ?_)
set_option maxHeartbeats 8000000 in
set_option maxRecDepth 100000 in
theorem packthreadlaw_GlobPicks.calls (k : Nat) (a0 : ByteArray) (A1 : Option Addr) (c1 : Nat) (l1 : List ByteArray) (r : Bool) (w : World) (hr1 : Kd.C Kd.string w A1 l1.length l1) (hc1 : l1.length ≤ c1) (h : packthreadlaw_GlobPicks.f k a0 l1 = some r) :
    Calls Try.prog 10 #[.string a0, .slice A1 l1.length c1] w fun e w' => e = .returned (.bool r) ∧ Below w.heap.size w w' := by
  have HR1 := Aside0.mk hr1
  have HC1 := Aside0.mk hc1
  clear hr1 hc1
  have HB := Aside0.mk (Below.refl w.heap.size w)
  have H : ((glob_Pick.f a0 l1).bind fun bt103 => ((packthreadref_GlobPick.f a0 l1).bind fun bt107 => ((packthreadlaw_sameTexts.f k bt103.1 bt107.1).bind fun t111 => (if t111 = true then (some (bt103.2 == bt107.2)) else (some false))))) = some r := h
  clear h
  replace H := Option.bind_eq_some_iff.mp H
  obtain ⟨⟨t103, t104⟩, A30, H⟩ := H
  replace H : ((packthreadref_GlobPick.f a0 l1).bind fun bt107 => ((packthreadlaw_sameTexts.f k t103 bt107.1).bind fun t111 => (if t111 = true then (some (t104 == bt107.2)) else (some false)))) = some r := H
  have A3 := Aside0.mk A30
  clear A30
  replace H := Option.bind_eq_some_iff.mp H
  obtain ⟨⟨t107, t108⟩, A40, H⟩ := H
  replace H : ((packthreadlaw_sameTexts.f k t103 t107).bind fun t111 => (if t111 = true then (some (t104 == t108)) else (some false))) = some r := H
  have A4 := Aside0.mk A40
  clear A40
  replace H := Option.bind_eq_some_iff.mp H
  obtain ⟨t111, A50, H⟩ := H
  replace H : (if t111 = true then (some (t104 == t108)) else (some false)) = some r := H
  have A5 := Aside0.mk A50
  clear A50
  by_cases c6 : t111 = true
  · subst c6
    have H1 : (some (t104 == t108)) = some r := by rw [if_pos rfl] at H; exact H
    clear H
    have H := H1
    clear H1
    obtain rfl := Option.some.inj H
    go_enter Try.func10, Try.ntmps10
    go_wp2_with (first | ((with_reducible refine gate_callee (f := 30) rfl ?_); refine goesL_ (some 12) rfl rfl Try.func30 (by kernel_rfl) rfl #[.string a0, .slice A1 l1.length c1] rfl (by (try simp only [List.map_toArray, List.map_cons, List.map_nil]); first | done | rfl | (simp only [List.length_drop, List.length_take]; rfl)) ?_; (with_reducible refine (glob_Pick.calls a0 _ _ l1 t103 t104 _ ?side1 ?side2 A3.out).mono ?_); (case side1 => repeat (first | exact HR1.out | (with_reducible refine Kd.C_alloc ?_ _) | (with_reducible refine Kd.C_drewN ?_ _) | (with_reducible refine Kd.C_drew ?_))); (case side2 => exact HC1.out); rintro e w7 ⟨v105, rfl, ho0, hb⟩; refine ⟨_, rfl, ?_⟩; have n0_ := Aside0.mk (Kd.R_lower ho0 (below_size (by repeat (first | (with_reducible first | exact HB.out | apply below_alloc | apply pw_below_drewN | apply below_drew1) | exact HB.out)))); have n1_ := Aside0.mk (below_step (by repeat (first | (with_reducible first | exact HB.out | apply below_alloc | apply pw_below_drewN | apply below_drew1) | exact HB.out)) hb); clear HB; have HO106 := n0_; have HB := n1_; clear n0_ n1_; (try clear hb); (try clear hb2); (try clear hk); (try clear hi); (try clear ho0)) | ((with_reducible refine gate_callee (f := 31) rfl ?_); refine goesL_ (some 18) rfl rfl Try.func31 (by kernel_rfl) rfl #[.string a0, .slice A1 l1.length c1] rfl (by (try simp only [List.map_toArray, List.map_cons, List.map_nil]); first | done | rfl | (simp only [List.length_drop, List.length_take]; rfl)) ?_; (with_reducible refine (packthreadref_GlobPick.calls a0 _ _ l1 t107 t108 _ ?side1 ?side2 A4.out).mono ?_); (case side1 => repeat (first | exact (Kd.C_below HR1.out HB.out) | (with_reducible refine Kd.C_alloc ?_ _) | (with_reducible refine Kd.C_drewN ?_ _) | (with_reducible refine Kd.C_drew ?_))); (case side2 => exact HC1.out); rintro e w8 ⟨v109, rfl, ho0, hb⟩; refine ⟨_, rfl, ?_⟩; have n0_ := Aside0.mk (Kd.R_elder' (by (with_reducible repeat (first | apply Kd.R_alloc | apply Kd.R_drewN | apply Kd.R_drew)); exact HO106.out) (Kd.R_base ho0) hb); have n1_ := Aside0.mk (Kd.R_lower (Kd.R_new' ho0 (Kd.R_lt (by (with_reducible repeat (first | apply Kd.R_alloc | apply Kd.R_drewN | apply Kd.R_drew)); exact HO106.out))) (below_size (by repeat (first | (with_reducible first | exact HB.out | apply below_alloc | apply pw_below_drewN | apply below_drew1) | exact HB.out)))); have n2_ := Aside0.mk (below_step (by repeat (first | (with_reducible first | exact HB.out | apply below_alloc | apply pw_below_drewN | apply below_drew1) | exact HB.out)) hb); clear HO106; clear HB; have HO106 := n0_; have HO110 := n1_; have HB := n2_; clear n0_ n1_ n2_; (try clear hb); (try clear hb2); (try clear hk); (try clear hi); (try clear ho0); obtain ⟨Ao9, co9, eo9⟩ := Kd.R_slice HO106.out; subst eo9; obtain ⟨Ao10, co10, eo10⟩ := Kd.R_slice HO110.out; subst eo10) | ((with_reducible refine gate_callee (f := 32) rfl ?_); refine goesL_ (some 23) rfl rfl Try.func32 (by kernel_rfl) rfl #[.slice Ao9 t103.length co9, .slice Ao10 t107.length co10] rfl (by (try simp only [List.map_toArray, List.map_cons, List.map_nil]); first | done | rfl | (simp only [List.length_drop, List.length_take]; rfl)) ?_; (with_reducible refine (packthreadlaw_sameTexts.calls k _ _ t103 _ _ t107 true _ ?side1 ?side2 ?side3 ?side4 A5.out).mono ?_); (case side1 => repeat (first | exact (Kd.R_reads' HO106.out).2.2 | (with_reducible refine Kd.C_alloc ?_ _) | (with_reducible refine Kd.C_drewN ?_ _) | (with_reducible refine Kd.C_drew ?_))); (case side2 => exact (Kd.R_reads' HO106.out).2.1); (case side3 => repeat (first | exact (Kd.R_reads' HO110.out).2.2 | (with_reducible refine Kd.C_alloc ?_ _) | (with_reducible refine Kd.C_drewN ?_ _) | (with_reducible refine Kd.C_drew ?_))); (case side4 => exact (Kd.R_reads' HO110.out).2.1); rintro e w' ⟨rfl, ⟨nd, rfl⟩⟩; refine ⟨_, rfl, ?_⟩))
    go_ret
    exact ⟨by first | rfl | (simp [errW_none, errW_some] <;> rfl) | (simp [*, errW_none, errW_some] <;> rfl), by repeat (first | (with_reducible first | exact HB.out | apply below_alloc | apply pw_below_drewN | apply below_drew1) | exact HB.out)⟩
  · replace c6 := Bool.eq_false_iff.mpr c6
    subst c6
    have H1 : (some false) = some r := by rw [if_neg (show ¬ (false = true) by decide)] at H; exact H
    clear H
    have H := H1
    clear H1
    obtain rfl := Option.some.inj H
    go_enter Try.func10, Try.ntmps10
    go_wp2_with (first | ((with_reducible refine gate_callee (f := 30) rfl ?_); refine goesL_ (some 12) rfl rfl Try.func30 (by kernel_rfl) rfl #[.string a0, .slice A1 l1.length c1] rfl (by (try simp only [List.map_toArray, List.map_cons, List.map_nil]); first | done | rfl | (simp only [List.length_drop, List.length_take]; rfl)) ?_; (with_reducible refine (glob_Pick.calls a0 _ _ l1 t103 t104 _ ?side1 ?side2 A3.out).mono ?_); (case side1 => repeat (first | exact HR1.out | (with_reducible refine Kd.C_alloc ?_ _) | (with_reducible refine Kd.C_drewN ?_ _) | (with_reducible refine Kd.C_drew ?_))); (case side2 => exact HC1.out); rintro e w11 ⟨v105, rfl, ho0, hb⟩; refine ⟨_, rfl, ?_⟩; have n0_ := Aside0.mk (Kd.R_lower ho0 (below_size (by repeat (first | (with_reducible first | exact HB.out | apply below_alloc | apply pw_below_drewN | apply below_drew1) | exact HB.out)))); have n1_ := Aside0.mk (below_step (by repeat (first | (with_reducible first | exact HB.out | apply below_alloc | apply pw_below_drewN | apply below_drew1) | exact HB.out)) hb); clear HB; have HO106 := n0_; have HB := n1_; clear n0_ n1_; (try clear hb); (try clear hb2); (try clear hk); (try clear hi); (try clear ho0)) | ((with_reducible refine gate_callee (f := 31) rfl ?_); refine goesL_ (some 18) rfl rfl Try.func31 (by kernel_rfl) rfl #[.string a0, .slice A1 l1.length c1] rfl (by (try simp only [List.map_toArray, List.map_cons, List.map_nil]); first | done | rfl | (simp only [List.length_drop, List.length_take]; rfl)) ?_; (with_reducible refine (packthreadref_GlobPick.calls a0 _ _ l1 t107 t108 _ ?side1 ?side2 A4.out).mono ?_); (case side1 => repeat (first | exact (Kd.C_below HR1.out HB.out) | (with_reducible refine Kd.C_alloc ?_ _) | (with_reducible refine Kd.C_drewN ?_ _) | (with_reducible refine Kd.C_drew ?_))); (case side2 => exact HC1.out); rintro e w12 ⟨v109, rfl, ho0, hb⟩; refine ⟨_, rfl, ?_⟩; have n0_ := Aside0.mk (Kd.R_elder' (by (with_reducible repeat (first | apply Kd.R_alloc | apply Kd.R_drewN | apply Kd.R_drew)); exact HO106.out) (Kd.R_base ho0) hb); have n1_ := Aside0.mk (Kd.R_lower (Kd.R_new' ho0 (Kd.R_lt (by (with_reducible repeat (first | apply Kd.R_alloc | apply Kd.R_drewN | apply Kd.R_drew)); exact HO106.out))) (below_size (by repeat (first | (with_reducible first | exact HB.out | apply below_alloc | apply pw_below_drewN | apply below_drew1) | exact HB.out)))); have n2_ := Aside0.mk (below_step (by repeat (first | (with_reducible first | exact HB.out | apply below_alloc | apply pw_below_drewN | apply below_drew1) | exact HB.out)) hb); clear HO106; clear HB; have HO106 := n0_; have HO110 := n1_; have HB := n2_; clear n0_ n1_ n2_; (try clear hb); (try clear hb2); (try clear hk); (try clear hi); (try clear ho0); obtain ⟨Ao13, co13, eo13⟩ := Kd.R_slice HO106.out; subst eo13; obtain ⟨Ao14, co14, eo14⟩ := Kd.R_slice HO110.out; subst eo14) | ((with_reducible refine gate_callee (f := 32) rfl ?_); refine goesL_ (some 23) rfl rfl Try.func32 (by kernel_rfl) rfl #[.slice Ao13 t103.length co13, .slice Ao14 t107.length co14] rfl (by (try simp only [List.map_toArray, List.map_cons, List.map_nil]); first | done | rfl | (simp only [List.length_drop, List.length_take]; rfl)) ?_; (with_reducible refine (packthreadlaw_sameTexts.calls k _ _ t103 _ _ t107 false _ ?side1 ?side2 ?side3 ?side4 A5.out).mono ?_); (case side1 => repeat (first | exact (Kd.R_reads' HO106.out).2.2 | (with_reducible refine Kd.C_alloc ?_ _) | (with_reducible refine Kd.C_drewN ?_ _) | (with_reducible refine Kd.C_drew ?_))); (case side2 => exact (Kd.R_reads' HO106.out).2.1); (case side3 => repeat (first | exact (Kd.R_reads' HO110.out).2.2 | (with_reducible refine Kd.C_alloc ?_ _) | (with_reducible refine Kd.C_drewN ?_ _) | (with_reducible refine Kd.C_drew ?_))); (case side4 => exact (Kd.R_reads' HO110.out).2.1); rintro e w' ⟨rfl, ⟨nd, rfl⟩⟩; refine ⟨_, rfl, ?_⟩))
    go_ret
    exact ⟨by first | rfl | (simp [errW_none, errW_some] <;> rfl) | (simp [*, errW_none, errW_some] <;> rfl), by repeat (first | (with_reducible first | exact HB.out | apply below_alloc | apply pw_below_drewN | apply below_drew1) | exact HB.out)⟩

end Go.Proofs.Ytkghoodhgihokaa.HGlobPicks
