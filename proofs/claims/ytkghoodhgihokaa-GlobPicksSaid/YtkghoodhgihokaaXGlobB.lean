/- Patterns of names: glob.one, glob.plain, and what a set is. -/
import Derived.Test.YtkghoodhgihokaaXGlobA
import Derived.Lib.Strings
import Derived.Lib.Walk
import Derived.Lib.Builder
import Derived.Lib.IndexAny
namespace Go.Proofs.Ytkghoodhgihokaa.Glob
open Go.RowKit Go.Lib Go.Proofs.YtkghoodhgihokaaW.PrintWords Go.Proofs.YtkghoodhgihokaaW.PrintLast Go.Proofs.YtkghoodhgihokaaW.PrintMore
set_option linter.unusedVariables false
set_option maxHeartbeats 4000000 in
set_option maxRecDepth 100000 in
theorem one_calls (x : UInt8) (w : World) : Calls Try.prog 87 #[.int .u8 x.toNat] w fun e w' => e = .returned (.agg (cellsP false (fun j => decide (j = x.toNat)))) ∧ Below w.heap.size w w' := by
  have hx : x.toNat < 256 := x.toNat_lt
  have hx1 : (x.toNat : Int) < 256 := by omega
  have hcell := cellsP_at false (fun _ => false) x.toNat hx
  have hset := (cellsP_set false (fun _ => false) x.toNat hx true).trans (cellsP_congr (g := fun j => decide (j = x.toNat)) (fun j hj => by by_cases h : j = x.toNat <;> simp [h]))
  obtain ⟨C, hC⟩ : ∃ C, cellsP false (fun j => decide (j = x.toNat)) = C := ⟨_, rfl⟩
  have hCs : C.size = 257 := by rw [← hC]; exact cellsP_size _ _
  have hC1 : C.all (·.oneCell') = true := by rw [← hC]; exact cellsP_one _ _
  rw [hC] at hset ⊢
  have hg := heap_alloc_new w (.cells C 133)
  have hz := zeroP
  go_enter Try.func87, Try.ntmps87
  go_wp2_with (first
    | (refine wpList_load_row rfl 133 (.tmp 2) rfl w.heap.size rfl 133 C (0, 0) _ hg Try.underlying133 rfl (by rw [hCs]; exact info133) ?_)
    | (refine wpList_store_row rfl 133 (.tmp 2) (.tmp 6) rfl w.heap.size C rfl rfl 133 C hg (by rw [hCs]; exact info133) rfl hC1 ?_; rw [World.setRow_alloc_new]))
  refine bodyPost_ret (v := .agg C) ?_ rfl ⟨rfl, (Below.refl _ w).alloc (Nat.le_refl _) _⟩
  exact results_cell_row rfl _ _ w.heap.size 133 _ (0, 0) _ rfl hg Try.underlying133 rfl (by rw [hCs]; exact info133)
/-- A text of bytes. -/
def bs (l : List UInt8) : ByteArray := ⟨l.toArray⟩
theorem bs_size (l : List UInt8) : (bs l).size = l.length := rfl
theorem bs_list (l : List UInt8) : (bs l).toList = l := by rw [Lib.toList_data]; rfl
theorem bs_drop (l : List UInt8) (k : Nat) : (bs l).extract k (bs l).size = bs (l.drop k) := by
  apply ByteArray.ext
  rw [ByteArray.data_extract]
  apply Array.ext'
  show (Array.extract l.toArray k l.length).toList = l.drop k
  simp only [Array.toList_extract, List.extract_eq_take_drop]
  rw [List.take_of_length_le (by simp)]
theorem bs_get (l : List UInt8) (k : Nat) (h : k < (bs l).size) : (bs l)[k]'h = l[k]'h := rfl
section
attribute [local go_sem] max2_int min2_int max_two min_two max_three min_three max_four min_four
/-! ### glob_plain: function 100 -/
def glob_plain.f (a0 : ByteArray) : Option (Bool) := if a0.toList = ([] : List UInt8) then (some false) else (if 0 < (a0.size : Int) then (if (bt a0 0) = 93 then (some false) else (some ((bt a0 0) != 92))) else (none))
set_option maxHeartbeats 8000000 in
set_option maxRecDepth 100000 in
theorem glob_plain.calls (a0 : ByteArray) (r : Bool) (w : World) (h : glob_plain.f a0 = some r) :
    Calls Try.prog 100 #[.string a0] w fun e w' => e = .returned (.bool r) ∧ Drawn0 w w' := by
  have H : (if a0.toList = ([] : List UInt8) then (some false) else (if 0 < (a0.size : Int) then (if (bt a0 0) = 93 then (some false) else (some ((bt a0 0) != 92))) else (none))) = some r := h
  clear h
  by_cases c2 : a0.toList = ([] : List UInt8)
  · rw [if_pos c2] at H
    have c2b0 : (a0.toList == ([] : List UInt8)) = true := beq_iff_eq.mpr c2
    have c2b1 : (a0.toList != ([] : List UInt8)) = false := bne_eq_false_iff_eq.mpr c2
    clear c2
    obtain rfl := Option.some.inj H
    go_enter Try.func100, Try.ntmps100
    go_wp2
    go_ret
    exact ⟨by first | rfl | (simp; done) | (simp [*]; done), by repeat (first | exact Drawn0.refl _ | apply Drawn0.step)⟩
  · rw [if_neg c2] at H
    have c2b0 : (a0.toList == ([] : List UInt8)) = false := beq_eq_false_iff_ne.mpr c2
    have c2b1 : (a0.toList != ([] : List UInt8)) = true := bne_iff_ne.mpr c2
    by_cases c3 : 0 < (a0.size : Int)
    · rw [if_pos c3] at H
      have c3b0 : decide (0 < (a0.size : Int)) = true := decide_eq_true c3
      have c3b1 : decide (0 < a0.size) = true := decide_eq_true (by omega)
      clear c3
      by_cases c5 : (bt a0 0) = 93
      · rw [if_pos c5] at H
        have c5b0 : ((bt a0 0) == 93) = true := beq_iff_eq.mpr c5
        have c5b1 : ((bt a0 0) != 93) = false := bne_eq_false_iff_eq.mpr c5
        clear c5
        obtain rfl := Option.some.inj H
        have p4 : 0 ≤ (0 : Int) := (by omega)
        have q4 : 0 < a0.size := (by have : (0 : Int) < (a0.size : Int) := of_decide_eq_true (by first | (with_reducible assumption) | assumption); omega)
        have hx4 : ∀ h : 0 < a0.size, ((a0[0]'h).toNat : Int) = bt a0 0 := bt_at a0 0
        clear p4
        have qi4 : (0 < (a0.size : Int)) = True := eq_true (of_decide_eq_true (by first | (with_reducible assumption) | assumption))
        replace q4 := eq_true q4
        go_enter Try.func100, Try.ntmps100
        go_wp2
        go_ret
        exact ⟨by first | rfl | (simp; done) | (simp [*]; done), by repeat (first | exact Drawn0.refl _ | apply Drawn0.step)⟩
      · rw [if_neg c5] at H
        have c5b0 : ((bt a0 0) == 93) = false := beq_eq_false_iff_ne.mpr c5
        have c5b1 : ((bt a0 0) != 93) = true := bne_iff_ne.mpr c5
        obtain rfl := Option.some.inj H
        have p4 : 0 ≤ (0 : Int) := (by omega)
        have q4 : 0 < a0.size := (by have : (0 : Int) < (a0.size : Int) := of_decide_eq_true (by first | (with_reducible assumption) | assumption); omega)
        have hx4 : ∀ h : 0 < a0.size, ((a0[0]'h).toNat : Int) = bt a0 0 := bt_at a0 0
        clear p4
        have qi4 : (0 < (a0.size : Int)) = True := eq_true (of_decide_eq_true (by first | (with_reducible assumption) | assumption))
        replace q4 := eq_true q4
        have p6 : 0 ≤ (0 : Int) := (by omega)
        have q6 : 0 < a0.size := (by have : (0 : Int) < (a0.size : Int) := of_decide_eq_true (by first | (with_reducible assumption) | assumption); omega)
        have hx6 : ∀ h : 0 < a0.size, ((a0[0]'h).toNat : Int) = bt a0 0 := bt_at a0 0
        clear p6
        have qi6 : (0 < (a0.size : Int)) = True := eq_true (of_decide_eq_true (by first | (with_reducible assumption) | assumption))
        replace q6 := eq_true q6
        go_enter Try.func100, Try.ntmps100
        go_wp2
        go_ret
        exact ⟨by first | rfl | (simp; done) | (simp [*]; done), by repeat (first | exact Drawn0.refl _ | apply Drawn0.step)⟩
    · rw [if_neg c3] at H
      exact absurd H (by simp)
end
theorem bs_self (s : ByteArray) : bs s.data.toList = s := rfl
/-- May a byte stand in a set, at the head of a text? -/
def plainB : List UInt8 → Bool
  | [] => false
  | c :: _ => !(c.toNat == 93) && !(c.toNat == 92)
theorem plain_is (l : List UInt8) : glob_plain.f (bs l) = some (plainB l) := by
  unfold glob_plain.f
  cases l with
  | nil => rw [bs_list, if_pos rfl]; rfl
  | cons c t =>
    rw [bs_list, if_neg (by simp), if_pos (by rw [bs_size]; simp)]
    have hb : bt (bs (c :: t)) 0 = (c.toNat : Int) := by
      have := bt_at (bs (c :: t)) 0 (show 0 < (bs (c :: t)).size by rw [bs_size]; simp)
      rw [← this]; rfl
    rw [hb]
    by_cases h1 : (c.toNat : Int) = 93
    · rw [if_pos h1]
      have : c.toNat = 93 := by omega
      simp [plainB, this]
    · rw [if_neg h1]
      have h2 : (c.toNat == 93) = false := beq_eq_false_iff_ne.2 (by omega)
      simp only [plainB, h2, Bool.not_false, Bool.true_and]
      congr 1
      by_cases h3 : c.toNat = 92
      · simp [h3]
      · have : (c.toNat == 92) = false := beq_eq_false_iff_ne.2 h3
        rw [this]
        exact bne_iff_ne.2 (by omega)
theorem plain_calls (l : List UInt8) (w : World) : Calls Try.prog 100 #[.string (bs l)] w fun e w' => e = .returned (.bool (plainB l)) ∧ Drawn0 w w' := glob_plain.calls (bs l) _ w (plain_is l)
/-- The bytes from one to another are taken too. -/
def addR (f : Nat → Bool) (c d : Nat) : Nat → Bool := fun j => f j || (decide (c ≤ j) && decide (j ≤ d))
/-- Where a range ends that begins with a byte, and what stands behind it. -/
def stepT (c : UInt8) (t : List UInt8) : UInt8 × List UInt8 :=
  if t.head? = some 45 ∧ plainB (t.drop 1) = true then ((t.drop 1).headD 0, t.drop 2) else (c, t)
theorem stepT_len (c : UInt8) (t : List UInt8) : (stepT c t).2.length ≤ t.length := by
  unfold stepT
  split
  · simp
  · simp
/-- The ranges of a set; none: one ends ahead of where it begins. -/
def rangesL (l : List UInt8) (f : Nat → Bool) (e : Bool) : Option ((Nat → Bool) × List UInt8 × Bool) :=
  match l with
  | [] => some (f, [], e)
  | c :: t =>
    if plainB (c :: t) = true then (if (stepT c t).1.toNat < c.toNat then none else rangesL (stepT c t).2 (addR f c.toNat (stepT c t).1.toNat) false)
    else some (f, c :: t, e)
  termination_by l.length
  decreasing_by have := stepT_len c t; simp only [List.length_cons]; omega
theorem rangesL_out {l : List UInt8} {f : Nat → Bool} {e : Bool} (h : plainB l = false) : rangesL l f e = some (f, l, e) := by
  cases l with
  | nil => rw [rangesL]
  | cons c t => rw [rangesL, if_neg (by rw [h]; simp)]
theorem rangesL_in {c : UInt8} {t : List UInt8} {f : Nat → Bool} {e : Bool} (h : plainB (c :: t) = true) : rangesL (c :: t) f e = if (stepT c t).1.toNat < c.toNat then none else rangesL (stepT c t).2 (addR f c.toNat (stepT c t).1.toNat) false := by
  rw [rangesL, if_pos h]
/-- What stands behind '['. -/
def setF (l : List UInt8) : Option ((Nat → Bool) × List UInt8) :=
  (rangesL (if l.head? = some 94 then l.drop 1 else l) (fun _ => false) true).bind fun r =>
    if r.2.2 = true ∨ r.2.1.head? ≠ some 93 then none else some (fun j => r.1 j != (l.head? == some 94), r.2.1.drop 1)
end Go.Proofs.Ytkghoodhgihokaa.Glob
