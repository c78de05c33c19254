/- Which texts package path takes for names: path.Name answers nameB, whatever the text; no further condition. -/
import Derived.Test.YtkghoodhgihokaaXShelf
import Derived.Laws.RangeAny
import Derived.Laws.Runes
import Derived.WalkMore
import Derived.Lib.OthersKept
import Derived.Test.YtkghoodhgihokaaProg
import Derived.Deep.CutRange
import Derived.Below
import Derived.Deep.Draws
import Derived.Deep.AppendLies
import Derived.Maps.AppendAt
import Derived.OwnWalk
import Derived.Laws.BytesArg
import Derived.Laws.MakeOwn
import Derived.Laws.OwnMore
import Derived.Deep.OwnRows
import Derived.Tactics
import Derived.Lib.ConvBytes
import Derived.Laws.Slices
import Derived.WalkKit
import Derived.KernelRfl
import Derived.RowKit3
import Derived.Deep.LoopGhost
import Derived.Deep.QuietTactic
import Derived.BigQuiet
import Derived.WideLaws
import Derived.Deep.DeepCutAuto
import Derived.Deep.CutBlock
import Derived.Deep.RegionHeld3
import Derived.Laws.Rows
import Derived.Lib.AppendStr
import Derived.ArgAppend
import Derived.Laws.IdiomCopy
import Derived.OrdersHeld
import Derived.Laws.BitsLemmas
import Derived.RowKit
import Derived.WalkSpells
import Derived.Test.YtkghoodhgihokaaWWords
import Derived.Test.YtkghoodhgihokaaWLast
import Derived.Test.YtkghoodhgihokaaWTab
import Derived.Test.YtkghoodhgihokaaWFour
import Derived.Test.YtkghoodhgihokaaWQPut
import Derived.Test.YtkghoodhgihokaaWApart
import Derived.Test.YtkghoodhgihokaaWArr
import Derived.Test.YtkghoodhgihokaaWZeros
import Derived.Test.YtkghoodhgihokaaWFoot
import Derived.Test.YtkghoodhgihokaaWKept
import Derived.Test.YtkghoodhgihokaaWShare
import Derived.Test.YtkghoodhgihokaaWN
import Derived.Test.YtkghoodhgihokaaWFootNe
import Derived.Test.YtkghoodhgihokaaWAt
import Derived.Test.YtkghoodhgihokaaWEqStruct
import Derived.Test.YtkghoodhgihokaaWRepsOne
import Derived.Test.YtkghoodhgihokaaWInv
import Derived.Test.YtkghoodhgihokaaWInvWords
import Derived.Test.YtkghoodhgihokaaWGuard
import Derived.Test.YtkghoodhgihokaaWNEv
import Derived.Test.YtkghoodhgihokaaWMore
namespace Go.Proofs.Ytkghoodhgihokaa
open Go.RowKit Go.Lib Go.Proofs.YtkghoodhgihokaaW.PrintWords Go.Proofs.YtkghoodhgihokaaW.PrintLast Go.Proofs.YtkghoodhgihokaaW.PrintMore
/-- The two bytes that no name holds. -/
def two : ByteArray := ⟨#[47, 0]⟩
theorem two_get (k : Nat) (h : k < two.size) : (two[k]'h).toNat < 128 := by
  match k, h with
  | 0, _ => exact (by decide : (47 : UInt8).toNat < 128)
  | 1, _ => exact (by decide : (0 : UInt8).toNat < 128)
theorem below_iter (w : World) (s : ByteArray) (k : Nat) : Below w.heap.size w (w.iter s k) := by
  have : w.iter s k = w.alloc (.stringIter s k) := rfl
  rw [this]
  exact (Below.refl _ w).alloc (Nat.le_refl _) _
set_option maxHeartbeats 4000000 in
set_option maxRecDepth 100000 in
/-- strings.IndexRune at a rune of more than one byte, in "/\x00": none. -/
theorem indexRune_none (r : Int) (h : 128 ≤ r) (w : World) :
    Calls Try.prog 110 #[.string two, .int .i32 r] w fun e w' => e = .returned (.int .i64 (-1)) ∧ Below w.heap.size w w' := by
  have n1 : decide (r < 128) = false := decide_eq_false (by omega)
  have n0 : decide (0 ≤ r) = true := decide_eq_true (by omega)
  by_cases he : r = 65533
  · subst he
    go_enter Try.func110, Try.ntmps110
    go_wp2
    go_loopg [5, 6] 2 (fun g _ _ wx => ∃ i : Nat, i + g = 2 ∧ wx = w.iter two i)
    case atStart => exact ⟨0, rfl, rfl⟩
    case round =>
      obtain ⟨i, hig, rfl⟩ := hrel
      cases gk with
      | zero =>
        obtain rfl : i = 2 := by omega
        have hnx := run_next_end (P := Try.prog) w two two.size
        have e2 : two.size = 2 := rfl
        rw [e2] at hnx
        go_wp2
        go_ret
        exact ⟨rfl, below_iter w two 2⟩
      | succ g =>
        have hi : i < two.size := by have e2 : two.size = 2 := rfl; omega
        have hx := two_get i hi
        obtain ⟨x, hxx⟩ : ∃ x, two[i]'hi = x := ⟨_, rfl⟩
        have hnx := fun ty => run_next_ascii (P := Try.prog) w two i ty hi hx
        rw [hxx] at hnx hx
        have hne : ((x.toNat : Int) == 65533) = false := beq_eq_false_iff_ne.2 (by omega)
        clear hxx
        go_wp2
        go_roundg g
        case measure => omega
        case rel => exact ⟨i + 1, by omega, rfl⟩
  · have nb : (r == 65533) = false := beq_eq_false_iff_ne.2 he
    obtain ⟨b, hb⟩ : ∃ b, Lib.validRune r = b := ⟨_, rfl⟩
    cases b with
    | false =>
      go_enter Try.func110, Try.ntmps110
      go_wp2_with (go_at_call 117; refine (Try.utf8_ValidRune _ _).mono ?_; rintro e w' ⟨rfl, hw⟩; rw [hw, hb])
      go_ret
      exact ⟨rfl, Below.refl _ _⟩
    | true =>
      go_enter Try.func110, Try.ntmps110
      go_upto_region 1 with (go_at_call 117; refine (Try.utf8_ValidRune _ _).mono ?_; rintro e w' ⟨rfl, hw⟩; rw [hw, hb])
      clear hw
      have hf := encode_facts r ((validRune_eq r).trans (show Go.validRune r = true from hb)) h
      have hcv := fun w : World => run_convert_int_string (P := Try.prog) w 21 9 .i32 r (by rw [Try.underlying21]; rfl) Try.underlying9
      generalize Utf8.encode r = rs at hf hcv
      have HF := Aside0.mk hf
      clear hf
      rcases (show rs.size = 2 ∨ 3 ≤ rs.size by have := HF.out; omega) with hz | hz
      · obtain ⟨x, hx⟩ : ∃ x, ∃ h : 1 < rs.size, rs[1]'h = x ∧ 128 ≤ x.toNat := by
          have := HF.out.2.2 (by omega)
          have e1 : rs.size - 1 = 1 := by omega
          simp only [e1] at this
          exact ⟨_, by omega, rfl, this⟩
        obtain ⟨hx1, hx2, hx3⟩ := hx
        have hone : decide (Lib.indexByte [] x < 0) = true := rfl
        have h47 : two[1]'(by decide) = 0 := rfl
        have ez : two.size = 2 := rfl
        have mixed : Try.prog.follows Departure.mixedOrders = true := by kernel_rfl
        have e47' : ((0 : Int) != (x.toNat : Int)) = true := bne_iff_ne.2 (by omega)
        have hw2 : IntKind.i64.wrap 2 = 2 := by decide
        have hs2 : (2 : Int) ≤ (two.size : Int) := by omega
        have e47 : ((0 : Int) == (x.toNat : Int)) = false := beq_eq_false_iff_ne.2 (by omega)
        go_step3
        go_wp2
        go_loopg [9, 10, 11, 12] 0 (fun g s9 s10 s11 s12 wx => s9 = .int .i64 1 ∧ wx = w)
        case atStart => exact ⟨rfl, rfl⟩
        case round =>
          obtain ⟨rfl, rfl⟩ := hrel
          go_wp2
          go_step3
          go_wp2
          go_quiet (fail)
          have hb1 : Below wr.heap.size wr (wr.drewN nq) := pw_below_drewN (Below.refl _ _) nq
          generalize wr.drewN nq = W1 at hb1
          go_wp2
          go_quiet (first | (go_at_call 116; refine Calls.quiet_of_same (Try.strings_IndexByte _ _ _)))
          have hb2 : Below wr.heap.size wr (W1.drewN nq) := pw_below_drewN hb1 nq
          generalize W1.drewN nq = W2 at hb2
          go_wp2
          rw [Exit.noGoto_ret]
          simp only [Exit.inBlock, Exit.then]
          rw [Exit.noGoto_ret]
          go_ret
          exact ⟨rfl, hb2⟩
      · have hw1 : IntKind.i64.wrap ((rs.size : Int) - 1) = (rs.size : Int) - 1 := by have := HF.out; rw [IntKind.wrap_i64]; omega
        obtain ⟨m, hm, hm2⟩ : ∃ m : Int, (rs.size : Int) - 1 = m ∧ 2 ≤ m := ⟨_, rfl, by omega⟩
        have hw2 : wrap64 m = m := by have := HF.out; unfold wrap64; omega
        have hnl : decide (m < 2) = false := decide_eq_false (by omega)
        have ez : (two.size : Int) = 2 := rfl
        go_step3
        go_wp2
        go_loopg [9, 10, 11, 12] 0 (fun g s9 s10 s11 s12 wx => s9 = .int .i64 m ∧ wx = w)
        case atStart => exact ⟨by rw [hw2], rfl⟩
        case round =>
          obtain ⟨rfl, rfl⟩ := hrel
          go_wp2
          first | rw [Exit.noGoto_ret] | skip
          go_ret
          exact ⟨rfl, Below.refl _ _⟩
theorem list_get {s : ByteArray} {i : Nat} {b : UInt8} (h : s.data.toList[i]? = some b) : s.get! i = b := by
  obtain ⟨hi, he⟩ := List.getElem?_eq_some_iff.1 h
  have hi' : i < s.size := by simpa using hi
  rw [← he]
  show s.data[i]! = _
  rw [getElem!_pos s.data i hi']
  simp
theorem decode_skip (s : ByteArray) (pos : Nat) (h : pos < s.size) (ha : 128 ≤ (s[pos]'h).toNat) : ∀ k, k < (Utf8.decode s pos).2 → ∀ b, s.data.toList[pos + k]? = some b → 128 ≤ b.toNat := by
  have h0 : ∀ b, s.data.toList[pos + 0]? = some b → 128 ≤ b.toNat := by
    intro b hb
    have := Lib.data_getElem? s pos h
    rw [Nat.add_zero] at hb
    rw [this] at hb
    cases hb
    exact ha
  have key : ∀ k, (decide (pos + k < s.size) && (s.get! (pos + k)).toNat / 64 == 2) = true → ∀ b, s.data.toList[pos + k]? = some b → 128 ≤ b.toNat := by
    intro k hk b hb
    rw [list_get hb] at hk
    simp only [Bool.and_eq_true, beq_iff_eq] at hk
    omega
  have hn : ¬ (s.get! (pos + 0)).toNat < 128 := by rw [get_at s pos h]; omega
  intro k hk b hb
  rcases Nat.eq_zero_or_pos k with rfl | hk0
  · exact h0 b hb
  unfold Utf8.decode at hk
  simp only [hn, if_false] at hk
  split at hk
  · rename_i hc
    rw [Bool.and_eq_true] at hc
    have : k = 1 := by split at hk <;> omega
    subst this
    exact key 1 hc.2 b hb
  · split at hk
    · rename_i hc
      simp only [Bool.and_eq_true] at hc
      have : k = 1 ∨ k = 2 := by split at hk <;> omega
      rcases this with rfl | rfl
      · exact key 1 (by simp only [Bool.and_eq_true]; exact hc.1.2) b hb
      · exact key 2 (by simp only [Bool.and_eq_true]; exact hc.2) b hb
    · split at hk
      · rename_i hc
        simp only [Bool.and_eq_true] at hc
        have : k = 1 ∨ k = 2 ∨ k = 3 := by split at hk <;> omega
        rcases this with rfl | rfl | rfl
        · exact key 1 (by simp only [Bool.and_eq_true]; exact hc.1.1.2) b hb
        · exact key 2 (by simp only [Bool.and_eq_true]; exact hc.1.2) b hb
        · exact key 3 (by simp only [Bool.and_eq_true]; exact hc.2) b hb
      · omega
theorem two_has (x : UInt8) (h : 128 ≤ x.toNat) : two.data.toList.contains x = false := by
  have h1 : x ≠ 47 := fun e => by subst e; exact absurd h (by decide)
  have h2 : x ≠ 0 := fun e => by subst e; exact absurd h (by decide)
  show ([47, 0] : List UInt8).contains x = false
  simp [h1, h2]
theorem noAny_skip (s : ByteArray) (i : Nat) (h : i < s.size) (ha : 128 ≤ (s[i]'h).toNat) (hn : Lib.NoAny s.data.toList two.data.toList i) : Lib.NoAny s.data.toList two.data.toList (i + (Utf8.decode s i).2) := by
  intro j b hj hb
  rcases Nat.lt_or_ge j i with h1 | h1
  · exact hn j b h1 hb
  · obtain ⟨k, rfl⟩ := Nat.exists_eq_add_of_le h1
    exact two_has b (decode_skip s i h ha k (by omega) b hb)
set_option maxHeartbeats 8000000 in
set_option maxRecDepth 100000 in
/-- strings.IndexAny of "/\x00" in a text of at most 8 bytes. -/
theorem indexAny_short (s : ByteArray) (w : World) (h8 : s.size ≤ 8) :
    Calls Try.prog 105 #[.string s, .string two] w fun e w' => e = .returned (.int .i64 (Lib.indexAny s.data.toList two.data.toList)) ∧ Below w.heap.size w w' := by
  have h8z : decide ((8 : Int) < (s.size : Int)) = false := decide_eq_false (by omega)
  have hemp : two.toList.isEmpty = false := by rw [Lib.toList_data]; rfl
  have hn1 : ((two.size : Int) == 1) = false := rfl
  go_enter Try.func105, Try.ntmps105
  go_wp2_with (go_at_call 111; refine (Try.strings_shouldUseASCIISet _ _).mono ?_; rintro e w' ⟨rfl, hw⟩; rw [hw, h8z])
  go_loopg [9, 10] s.size (fun g _ _ wx => ∃ i : Nat, s.size ≤ i + g ∧ Aside0 (wx.heap[w.heap.size]? = some (.stringIter s i)) ∧ Aside0 (Below w.heap.size w wx) ∧ Aside0 (Lib.NoAny s.data.toList two.data.toList i))
  case atStart => exact ⟨0, by omega, ⟨w.iter_heap s 0⟩, ⟨below_iter w s 0⟩, ⟨Lib.NoAny.zero _ _⟩⟩
  case round =>
    obtain ⟨i, hig, HK, HB, HN⟩ := hrel
    rcases Nat.lt_or_ge i s.size with hi | hi
    · cases gk with
      | zero => omega
      | succ g =>
        obtain ⟨x, hx⟩ : ∃ x : UInt8, s[i]'hi = x := ⟨_, rfl⟩
        have hxl : s.data.toList[i]? = some x := by rw [← hx]; exact Lib.data_getElem? s i hi
        have Hx := Aside0.mk hxl
        clear hxl
        rcases Nat.lt_or_ge x.toNat 128 with h128 | h128
        · have hnx := fun ty => run_next_ascii_at (P := Try.prog) wr w.heap.size s i ty HK.out hi (by rw [hx]; exact h128)
          rw [hx] at hnx
          clear hx
          have hk1 := iterAt_heap wr w.heap.size s i (i + 1) HK.out
          have hb1 := below_iterAt HB.out (Nat.le_refl _) s (i + 1)
          generalize wr.iterAt w.heap.size s (i + 1) = W1 at hnx hk1 hb1
          have HK1 := Aside0.mk hk1
          have HB1 := Aside0.mk hb1
          clear hk1 hb1
          have hcon := Lib.contains_iff_indexByte two.data.toList x
          have hback : ((x.toNat : Int)).toNat.toUInt8 = x := by simp
          cases hin : two.data.toList.contains x
          · rw [hin] at hcon
            have hlt : ¬ ((0 : Int) ≤ Lib.indexByte two.data.toList x) := of_decide_eq_false hcon.symm
            clear hcon
            go_wp2_with (go_at_call 110; refine (Try.strings_IndexRune_ascii _ _ _ (by omega) (by omega)).mono ?_; rintro e w' ⟨rfl, hw⟩; rw [hw, hback])
            go_roundg g
            case measure => omega
            case rel => exact ⟨i + 1, by omega, HK1, HB1, ⟨HN.out.succ Hx.out hin⟩⟩
          · rw [hin] at hcon
            have hge : (0 : Int) ≤ Lib.indexByte two.data.toList x := of_decide_eq_true hcon.symm
            clear hcon
            go_wp2_with (go_at_call 110; refine (Try.strings_IndexRune_ascii _ _ _ (by omega) (by omega)).mono ?_; rintro e w' ⟨rfl, hw⟩; rw [hw, hback])
            go_ret
            exact ⟨by rw [Lib.indexAny_hit HN.out Hx.out hin]; rfl, HB1.out⟩
        · have hnx := fun ty => run_next_any_at (P := Try.prog) wr w.heap.size s i ty HK.out hi
          have hd := decode_high s i hi (by rw [hx]; exact h128)
          have hskip := noAny_skip s i hi (by rw [hx]; exact h128) HN.out
          have hk1 := iterAt_heap wr w.heap.size s i (i + (Utf8.decode s i).2) HK.out
          have hb1 := below_iterAt HB.out (Nat.le_refl _) s (i + (Utf8.decode s i).2)
          generalize (Utf8.decode s i).1 = c at hnx hd
          generalize (Utf8.decode s i).2 = d at hnx hd hskip hk1 hb1
          generalize wr.iterAt w.heap.size s (i + d) = W1 at hnx hk1 hb1
          have HK1 := Aside0.mk hk1
          have HB1 := Aside0.mk hb1
          have HS := Aside0.mk hskip
          clear hk1 hb1 hskip hx
          go_wp2_with (go_at_call 110; refine (indexRune_none _ (by omega) _).mono ?_; rintro e w' ⟨rfl, hw⟩; have HW := Aside0.mk hw; clear hw)
          go_roundg g
          case measure => omega
          case rel => exact ⟨i + d, by omega, ⟨(HW.out.block _ (by have := (Array.getElem?_eq_some_iff.1 HK1.out).1; omega)).trans HK1.out⟩, ⟨HB1.out.trans (HW.out.mono (by have := HB1.out.size; omega))⟩, HS⟩
    · have hnx := fun ty => run_next_end_at (P := Try.prog) wr w.heap.size s i ty HK.out (by omega)
      go_wp2
      go_ret
      exact ⟨by rw [Lib.indexAny_none (fun j b hj hb => HN.out j b (by have := Lib.size_eq s; omega) hb)]; rfl, HB.out⟩
theorem arrSet : (Try.prog.info? 161).map (fun i => (i.zero, i.size)) = some (some (.agg (Array.replicate 256 (.bool false))), 256) := by kernel_rfl
/-- strings.IndexAny of "/\x00". -/
theorem indexAny_two (s : ByteArray) (w : World) (hs : s.size < 4294967281) :
    Calls Try.prog 105 #[.string s, .string two] w fun e w' => e = .returned (.int .i64 (Lib.indexAny s.data.toList two.data.toList)) ∧ Below w.heap.size w w' := by
  rcases Nat.lt_or_ge 8 s.size with h | h
  · refine (Try.strings_IndexAny_long (zero_of_info arrSet).1 s two w (by decide) h hs (by decide) (fun j b hb => ?_)).mono ?_
    · have : two.data.toList = [47, 0] := rfl
      rw [this] at hb
      match j, hb with
      | 0, hb => cases hb; decide
      | 1, hb => cases hb; decide
    · rintro e w' ⟨rfl, rfl⟩
      exact ⟨rfl, ((Below.refl _ w).alloc (Nat.le_refl _) _).alloc (by simp) _⟩
  · exact indexAny_short s w h
set_option maxHeartbeats 4000000 in
set_option maxRecDepth 100000 in
theorem containsAny_two (s : ByteArray) (w : World) (hs : s.size < 4294967281) :
    Calls Try.prog 97 #[.string s, .string two] w fun e w' => e = .returned (.bool (Lib.containsAny s.data.toList two.data.toList)) ∧ Below w.heap.size w w' := by
  go_enter Try.func97, Try.ntmps97
  go_wp2_with (go_at_call 105; refine (indexAny_two s w hs).mono ?_; rintro e w' ⟨rfl, hw⟩; have HW := Aside0.mk hw; clear hw)
  go_ret
  exact ⟨rfl, HW.out⟩
/-- Is it a name? -/
def nameB (s : ByteArray) : Bool := decide (1 ≤ s.size) && (decide (s.size ≤ 16) && (!(s.toList == [46]) && !(s.toList == [46, 46]) && !Lib.containsAny s.data.toList two.data.toList))
set_option maxHeartbeats 4000000 in
set_option maxRecDepth 100000 in
theorem name_calls (s : ByteArray) (w : World) :
    Calls Try.prog 70 #[.string s] w fun e w' => e = .returned (.bool (nameB s)) ∧ Below w.heap.size w w' := by
  by_cases h1 : 1 ≤ s.size
  · have e1 : decide ((1 : Int) ≤ (s.size : Int)) = true := decide_eq_true (by omega)
    by_cases h2 : s.size ≤ 16
    · have e2 : decide ((s.size : Int) ≤ 16) = true := decide_eq_true (by omega)
      have hv : nameB s = (!(s.toList == [46]) && !(s.toList == [46, 46]) && !Lib.containsAny s.data.toList two.data.toList) := by unfold nameB; rw [decide_eq_true h1, decide_eq_true h2]; rfl
      rw [hv]
      clear hv
      go_enter Try.func70, Try.ntmps70
      go_wp2_with (go_at_call 97; refine (containsAny_two s w (by omega)).mono ?_; rintro e w' ⟨rfl, hw⟩; have HW := Aside0.mk hw; clear hw)
      · rename_i h3
        go_ret
        exact ⟨by rw [h3]; rfl, Below.refl _ _⟩
      · rename_i h3 h4
        go_ret
        exact ⟨by rw [h4]; rfl, Below.refl _ _⟩
      · go_ret
        exact ⟨rfl, HW.out⟩
    · have e2 : decide ((s.size : Int) ≤ 16) = false := decide_eq_false (by omega)
      have hv : nameB s = false := by unfold nameB; rw [decide_eq_false h2]; simp
      rw [hv]
      clear hv
      go_enter Try.func70, Try.ntmps70
      go_wp2
      go_ret
      exact ⟨rfl, Below.refl _ _⟩
  · have e1 : decide ((1 : Int) ≤ (s.size : Int)) = false := decide_eq_false (by omega)
    have hv : nameB s = false := by unfold nameB; rw [decide_eq_false h1]; simp
    rw [hv]
    clear hv
    go_enter Try.func70, Try.ntmps70
    go_wp2
    go_ret
    exact ⟨rfl, Below.refl _ _⟩
end Go.Proofs.Ytkghoodhgihokaa
