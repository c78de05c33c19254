/- The contracts of the functions that the law SegDecodes reaches: Go's code comes to what these Lean functions tell (written by a program of ours and the kit's, out of the translation). -/
import Derived.Test.YtjhmjgcebijmiaaHSegDecodesx0
import Derived.Test.YtjhmjgcebijmiaaHSegDecodesx2
namespace Go.Proofs.Ytjhmjgcebijmiaa.HSegDecodes
open Go.RowKit Go.Proofs.YtjhmjgcebijmiaaW.PrintWords Go.Proofs.YtjhmjgcebijmiaaW.PrintLast Go.Proofs.YtjhmjgcebijmiaaW.PrintMore
attribute [local go_sem] max2_int min2_int max_two min_two max_three min_three max_four min_four   -- for this text's walks alone
set_option linter.unusedVariables false
set_option linter.unusedSimpArgs false

/-! ### seg_Decode: function 35 -/
def bytesB (l : List Int) : Bool := l.all (fun x => decide (0 ≤ x ∧ x ≤ 255))
theorem bytesB_rd {l : List Int} (h : bytesB l = true) (i : Int) : 0 ≤ rd l i ∧ rd l i ≤ 255 := by
  unfold rd
  rw [List.getD_eq_getElem?_getD]
  cases hx : l[i.toNat]? with
  | none => simp
  | some x =>
    have := List.mem_of_getElem? hx
    have := (List.all_eq_true.1 h) x this
    simpa using this
def word (l : List Int) (i : Nat) : Int := rd l (i : Int) * 256 + rd l ((i + 1 : Nat) : Int)
theorem word_bd {l : List Int} (h : bytesB l = true) (i : Nat) : 0 ≤ word l i ∧ word l i < 65536 := by
  have h1 := bytesB_rd h (i : Int)
  have h2 := bytesB_rd h ((i + 1 : Nat) : Int)
  unfold word
  omega
theorem or_byte (a b : Nat) (ha : a < 4294967296) (hb : b < 256) : Go.bits .or .i64 ((256 * a : Nat) : Int) (b : Int) = ((256 * a + b : Nat) : Int) := by
  have h1 : (BitVec.ofInt 64 ((256 * a : Nat) : Int)).toNat = 256 * a := by
    rw [BitVec.ofInt_natCast, BitVec.toNat_ofNat]; exact Nat.mod_eq_of_lt (by omega)
  have h2 : (BitVec.ofInt 64 (b : Int)).toNat = b := by
    rw [BitVec.ofInt_natCast, BitVec.toNat_ofNat]; exact Nat.mod_eq_of_lt (by omega)
  have h3 : 256 * a ||| b = 256 * a + b := (Nat.two_pow_add_eq_or_of_lt (i := 8) (by omega) a).symm
  show IntKind.i64.wrap ((BitVec.ofInt 64 ((256 * a : Nat) : Int) ||| BitVec.ofInt 64 (b : Int)).toNat : Int) = _
  rw [BitVec.toNat_or, h1, h2, h3, i64_w]
  unfold wrap64
  omega
theorem or_b {a b : Int} (ha : 0 ≤ a) (ha' : a < 4294967296) (hb : 0 ≤ b) (hb' : b < 256) : Go.bits .or .i64 (a * 256) b = a * 256 + b := by
  have h := or_byte a.toNat b.toNat (by omega) (by omega)
  rw [show ((256 * a.toNat : Nat) : Int) = a * 256 by omega, show ((b.toNat : Nat) : Int) = b by omega] at h
  rw [h]
  omega
theorem w64s {x : Int} (h : -1000000 ≤ x) (h1 : x ≤ 1000000) : wrap64 x = x := by unfold wrap64; omega
def word74.T1 : Bool × List (List Nat × List Nat) := (true, [([], []), ([], []), ([0, 1], [0, 1]), ([2], [2]), ([3], [3]), ([4], [4]), ([], []), ([], []), ([7], [7]), ([6, 8], [6, 8]), ([9], [9]), ([10], [10]), ([5, 11], [5, 11]), ([12, 0, 1, 2, 3, 4, 5, 6, 7, 8, 9, 10, 11, 12], [12])])
def word74.B1 : List Nat := [0, 0, 3, 7, 15, 31, 0, 0, 128, 448, 960, 1984, 4095, 8191]
theorem word74.tab1 : rtab .any (opsOf Try.f74 1) = word74.T1 := by kernel_rfl
theorem word74.bits1 : waitsOk word74.T1.2 word74.B1 = true := by kernel_rfl
def word75.T1 : Bool × List (List Nat × List Nat) := (true, [([], []), ([], []), ([0, 1], [0, 1]), ([2], [2]), ([3], [3]), ([4], [4]), ([], []), ([], []), ([7], [7]), ([6, 8], [6, 8]), ([9], [9]), ([10], [10]), ([5, 11], [5, 11]), ([12, 0, 1, 2, 3, 4, 5, 6, 7, 8, 9, 10, 11, 12], [12])])
def word75.B1 : List Nat := [0, 0, 3, 7, 15, 31, 0, 0, 128, 448, 960, 1984, 4095, 8191]
theorem word75.tab1 : rtab .any (opsOf Try.f75 1) = word75.T1 := by kernel_rfl
theorem word75.bits1 : waitsOk word75.T1.2 word75.B1 = true := by kernel_rfl
set_option maxHeartbeats 4000000 in
set_option maxRecDepth 100000 in
theorem word74 (bb : Nat) (A : Option Addr) (c : Nat) (l : List Int) (i : Nat) (w : World) (hk : w.cell? ⟨bb, 0, none⟩ = some (.slice A l.length c)) (hr : Kd.C (Kd.int .u8) w A l.length l) (hb : bytesB l = true) (hi : i + 1 < l.length) (hl : i < 2000) :
    Calls Try.prog 74 #[.int .i64 (i : Int), .pointer (some ⟨bb, 0, none⟩)] w fun e w' => e = .returned (.int .i64 (word l i)) ∧ w' = w.drew := by
  obtain ⟨i1, hi1⟩ : ∃ j : Nat, i + 1 = j := ⟨_, rfl⟩
  obtain ⟨x, hx⟩ : ∃ x, rd l (i : Int) = x := ⟨_, rfl⟩
  obtain ⟨y, hy⟩ : ∃ y, rd l (i1 : Int) = y := ⟨_, rfl⟩
  have hxb := bytesB_rd hb (i : Int)
  have hyb := bytesB_rd hb (i1 : Int)
  obtain ⟨ad, rfl, hc0⟩ := Kd.at_int hr (i : Int) (by omega) (by omega)
  obtain ⟨_, ea, hc1⟩ := Kd.at_int hr (i1 : Int) (by omega) (by omega)
  cases ea
  rw [Int.toNat_natCast] at hc0 hc1
  rw [hx] at hc0 hxb
  rw [hy] at hc1 hyb
  have hwd : word l i = x * 256 + y := by unfold word; rw [hi1, hx, hy]
  have HW := Aside0.mk hwd
  have hw1 : wrap64 ((i : Int) + 1) = (i1 : Int) := by rw [w64s (by omega) (by omega)]; omega
  have hwx : wrap64 x = x := w64s (by omega) (by omega)
  have hwy : wrap64 y = y := w64s (by omega) (by omega)
  have hwm : wrap64 (x * 256) = x * 256 := w64s (by omega) (by omega)
  have hwm2 : wrap64 (256 * x) = x * 256 := by rw [Int.mul_comm]; exact hwm
  have hws : wrap64 (x * 256 + y) = x * 256 + y := w64s (by omega) (by omega)
  have p0 : ((0 : Int) ≤ (i : Int)) = True := eq_true (by omega)
  have q0 : ((i : Int) < (l.length : Int)) = True := eq_true (by omega)
  have p1 : ((0 : Int) ≤ (i1 : Int)) = True := eq_true (by omega)
  have q1 : ((i1 : Int) < (l.length : Int)) = True := eq_true (by omega)
  have HX := Aside0.mk hxb
  have HY := Aside0.mk hyb
  clear hwd hx hy hi1 hi hl hr hb hxb hyb
  go_enter Try.func74, Try.ntmps74
  go_upto_region 1 with (fail)
  refine start_ (n := 14) (S := fun w' => w'.cell? ⟨bb, 0, none⟩ = some (.slice (some ad) l.length c) ∧ w'.cell? (ad.add i) = some (.int .u8 x) ∧ w'.cell? (ad.add i1) = some (.int .u8 y)) (ds := []) #[false, false, false, false, false, false, false, false, false, false, false, false, false, false] (by kernel_rfl) rfl rfl ⟨hk, hc0, hc1⟩ (fun hHeld => ?_)
  refine with_tabW word74.tab1 word74.bits1 (fun HT_ HW_ => ?_)
  refine pure_ (i := 1) (N := some 5) (v := ?_) (a' := ?_) #[false, true, false, false, false, false, false, false, false, false, false, false, false, false] rfl rfl (any_of HT_.out (by kernel_rfl)) (fun _ _ _ h => h) (Or.inl ⟨by rfl, ?_⟩) ?_ ?_
  rotate_left
  · intro w'
    go_simp
    with_reducible rfl
  rotate_left
  · simp only [Act.put, List.setIfInBounds_toArray, List.set_cons_zero, List.set_cons_succ, i64_w, i32_w, hw1, hwx, hwy, hwm, hwm2, hws]
    rfl
  refine pure_ (i := 7) (N := some 11) (v := ?_) (a' := ?_) #[false, true, false, false, false, false, false, true, false, false, false, false, false, false] rfl rfl (any_of HT_.out (by kernel_rfl)) (fun _ _ _ h => h) (Or.inl ⟨by rfl, ?_⟩) ?_ ?_
  rotate_left
  · intro w'
    go_simp
    with_reducible rfl
  rotate_left
  · simp only [Act.put, List.setIfInBounds_toArray, List.set_cons_zero, List.set_cons_succ, i64_w, i32_w, hw1, hwx, hwy, hwm, hwm2, hws]
    rfl
  refine pure_ (i := 8) (N := some 12) (v := ?_) (a' := ?_) #[false, true, false, false, false, false, false, true, true, false, false, false, false, false] rfl rfl (any_of HT_.out (by kernel_rfl)) (fun _ _ _ h => h) (Or.inl ⟨by rfl, ?_⟩) ?_ ?_
  rotate_left
  · intro w'
    go_simp
    with_reducible rfl
  rotate_left
  · simp only [Act.put, List.setIfInBounds_toArray, List.set_cons_zero, List.set_cons_succ, i64_w, i32_w, hw1, hwx, hwy, hwm, hwm2, hws]
    rfl
  refine take_ (i := 0) (N := some 4) (v := ?_) (a' := ?_) #[true, true, false, false, false, false, false, true, true, false, false, false, false, false] rfl rfl (take_ofW HT_.out HW_.out (by kernel_rfl)) (fun _ _ _ h => h) (Or.inl ⟨by rfl, ?_⟩) hHeld ?_ ?_
  rotate_left
  · rintro w' ⟨s0, s1, s2⟩
    go_simp
    with_reducible rfl
  rotate_left
  · simp only [Act.put, List.setIfInBounds_toArray, List.set_cons_zero, List.set_cons_succ, i64_w, i32_w, hw1, hwx, hwy, hwm, hwm2, hws]
    rfl
  refine pure_ (i := 2) (N := some 6) (v := ?_) (a' := ?_) #[true, true, true, false, false, false, false, true, true, false, false, false, false, false] rfl rfl (any_of HT_.out (by kernel_rfl)) (fun _ _ _ h => h) (Or.inl ⟨by rfl, ?_⟩) ?_ ?_
  rotate_left
  · intro w'
    go_simp
    with_reducible rfl
  rotate_left
  · simp only [Act.put, List.setIfInBounds_toArray, List.set_cons_zero, List.set_cons_succ, i64_w, i32_w, hw1, hwx, hwy, hwm, hwm2, hws]
    rfl
  refine take_ (i := 3) (N := some 7) (v := ?_) (a' := ?_) #[true, true, true, true, false, false, false, true, true, false, false, false, false, false] rfl rfl (take_ofW HT_.out HW_.out (by kernel_rfl)) (fun _ _ _ h => h) (Or.inl ⟨by rfl, ?_⟩) hHeld ?_ ?_
  rotate_left
  · rintro w' ⟨s0, s1, s2⟩
    go_simp
    with_reducible rfl
  rotate_left
  · simp only [Act.put, List.setIfInBounds_toArray, List.set_cons_zero, List.set_cons_succ, i64_w, i32_w, hw1, hwx, hwy, hwm, hwm2, hws]
    rfl
  refine pure_ (i := 4) (N := some 8) (v := ?_) (a' := ?_) #[true, true, true, true, true, false, false, true, true, false, false, false, false, false] rfl rfl (any_of HT_.out (by kernel_rfl)) (fun _ _ _ h => h) (Or.inl ⟨by rfl, ?_⟩) ?_ ?_
  rotate_left
  · intro w'
    go_simp
    with_reducible rfl
  rotate_left
  · simp only [Act.put, List.setIfInBounds_toArray, List.set_cons_zero, List.set_cons_succ, i64_w, i32_w, hw1, hwx, hwy, hwm, hwm2, hws]
    rfl
  refine pure_ (i := 5) (N := some 9) (v := ?_) (a' := ?_) #[true, true, true, true, true, true, false, true, true, false, false, false, false, false] rfl rfl (any_of HT_.out (by kernel_rfl)) (fun _ _ _ h => h) (Or.inl ⟨by rfl, ?_⟩) ?_ ?_
  rotate_left
  · intro w'
    go_simp
    with_reducible rfl
  rotate_left
  · simp only [Act.put, List.setIfInBounds_toArray, List.set_cons_zero, List.set_cons_succ, i64_w, i32_w, hw1, hwx, hwy, hwm, hwm2, hws]
    rfl
  refine take_ (i := 6) (N := some 10) (v := ?_) (a' := ?_) #[true, true, true, true, true, true, true, true, true, false, false, false, false, false] rfl rfl (take_ofW HT_.out HW_.out (by kernel_rfl)) (fun _ _ _ h => h) (Or.inl ⟨by rfl, ?_⟩) hHeld ?_ ?_
  rotate_left
  · rintro w' ⟨s0, s1, s2⟩
    go_simp
    with_reducible rfl
  rotate_left
  · simp only [Act.put, List.setIfInBounds_toArray, List.set_cons_zero, List.set_cons_succ, i64_w, i32_w, hw1, hwx, hwy, hwm, hwm2, hws]
    rfl
  refine pure_ (i := 9) (N := some 13) (v := ?_) (a' := ?_) #[true, true, true, true, true, true, true, true, true, true, false, false, false, false] rfl rfl (any_of HT_.out (by kernel_rfl)) (fun _ _ _ h => h) (Or.inl ⟨by rfl, ?_⟩) ?_ ?_
  rotate_left
  · intro w'
    go_simp
    with_reducible rfl
  rotate_left
  · simp only [Act.put, List.setIfInBounds_toArray, List.set_cons_zero, List.set_cons_succ, i64_w, i32_w, hw1, hwx, hwy, hwm, hwm2, hws]
    rfl
  refine take_ (i := 10) (N := some 14) (v := ?_) (a' := ?_) #[true, true, true, true, true, true, true, true, true, true, true, false, false, false] rfl rfl (take_ofW HT_.out HW_.out (by kernel_rfl)) (fun _ _ _ h => h) (Or.inl ⟨by rfl, ?_⟩) hHeld ?_ ?_
  rotate_left
  · rintro w' ⟨s0, s1, s2⟩
    go_simp
    with_reducible rfl
  rotate_left
  · simp only [Act.put, List.setIfInBounds_toArray, List.set_cons_zero, List.set_cons_succ, i64_w, i32_w, hw1, hwx, hwy, hwm, hwm2, hws]
    rfl
  refine pure_ (i := 11) (N := some 15) (v := ?_) (a' := ?_) #[true, true, true, true, true, true, true, true, true, true, true, true, false, false] rfl rfl (any_of HT_.out (by kernel_rfl)) (fun _ _ _ h => h) (Or.inl ⟨by rfl, ?_⟩) ?_ ?_
  rotate_left
  · intro w'
    go_simp
    with_reducible rfl
  rotate_left
  · simp only [Act.put, List.setIfInBounds_toArray, List.set_cons_zero, List.set_cons_succ, i64_w, i32_w, hw1, hwx, hwy, hwm, hwm2, hws]
    rfl
  refine pure_ (i := 12) (N := some 16) (v := ?_) (a' := ?_) #[true, true, true, true, true, true, true, true, true, true, true, true, true, false] rfl rfl (any_of HT_.out (by kernel_rfl)) (fun _ _ _ h => h) (Or.inl ⟨by rfl, ?_⟩) ?_ ?_
  rotate_left
  · intro w'
    go_simp
    with_reducible rfl
  rotate_left
  · simp only [Act.put, List.setIfInBounds_toArray, List.set_cons_zero, List.set_cons_succ, i64_w, i32_w, hw1, hwx, hwy, hwm, hwm2, hws]
    rfl
  refine pure_ (i := 13) (N := some 3) (v := ?_) (a' := ?_) #[true, true, true, true, true, true, true, true, true, true, true, true, true, true] rfl rfl (any_of HT_.out (by kernel_rfl)) (fun _ _ _ h => h) (Or.inl ⟨by rfl, ?_⟩) ?_ ?_
  rotate_left
  · intro w'
    go_simp
    with_reducible rfl
  rotate_left
  · simp only [Act.put, List.setIfInBounds_toArray, List.set_cons_zero, List.set_cons_succ, i64_w, i32_w, hw1, hwx, hwy, hwm, hwm2, hws]
    rfl
  refine done_ (done_of HT_.out (by kernel_rfl)) ?_
  try go_wp2
  go_ret
  exact ⟨by rw [HW.out, show Ending.returned (.int .i64 (x * 256 + y)) = .returned (.int .i64 (Go.bits .or .i64 (x * 256) y)) from by rw [or_b HX.out.1 (by have := HX.out; omega) HY.out.1 (by have := HY.out; omega)]]; rfl, rfl⟩
set_option maxHeartbeats 4000000 in
set_option maxRecDepth 100000 in
theorem word75 (bb : Nat) (A : Option Addr) (c : Nat) (l : List Int) (i : Nat) (w : World) (hk : w.cell? ⟨bb, 0, none⟩ = some (.slice A l.length c)) (hr : Kd.C (Kd.int .u8) w A l.length l) (hb : bytesB l = true) (hi : i + 1 < l.length) (hl : i < 2000) :
    Calls Try.prog 75 #[.int .i64 (i : Int), .pointer (some ⟨bb, 0, none⟩)] w fun e w' => e = .returned (.int .i64 (word l i)) ∧ w' = w.drew := by
  obtain ⟨i1, hi1⟩ : ∃ j : Nat, i + 1 = j := ⟨_, rfl⟩
  obtain ⟨x, hx⟩ : ∃ x, rd l (i : Int) = x := ⟨_, rfl⟩
  obtain ⟨y, hy⟩ : ∃ y, rd l (i1 : Int) = y := ⟨_, rfl⟩
  have hxb := bytesB_rd hb (i : Int)
  have hyb := bytesB_rd hb (i1 : Int)
  obtain ⟨ad, rfl, hc0⟩ := Kd.at_int hr (i : Int) (by omega) (by omega)
  obtain ⟨_, ea, hc1⟩ := Kd.at_int hr (i1 : Int) (by omega) (by omega)
  cases ea
  rw [Int.toNat_natCast] at hc0 hc1
  rw [hx] at hc0 hxb
  rw [hy] at hc1 hyb
  have hwd : word l i = x * 256 + y := by unfold word; rw [hi1, hx, hy]
  have HW := Aside0.mk hwd
  have hw1 : wrap64 ((i : Int) + 1) = (i1 : Int) := by rw [w64s (by omega) (by omega)]; omega
  have hwx : wrap64 x = x := w64s (by omega) (by omega)
  have hwy : wrap64 y = y := w64s (by omega) (by omega)
  have hwm : wrap64 (x * 256) = x * 256 := w64s (by omega) (by omega)
  have hwm2 : wrap64 (256 * x) = x * 256 := by rw [Int.mul_comm]; exact hwm
  have hws : wrap64 (x * 256 + y) = x * 256 + y := w64s (by omega) (by omega)
  have p0 : ((0 : Int) ≤ (i : Int)) = True := eq_true (by omega)
  have q0 : ((i : Int) < (l.length : Int)) = True := eq_true (by omega)
  have p1 : ((0 : Int) ≤ (i1 : Int)) = True := eq_true (by omega)
  have q1 : ((i1 : Int) < (l.length : Int)) = True := eq_true (by omega)
  have HX := Aside0.mk hxb
  have HY := Aside0.mk hyb
  clear hwd hx hy hi1 hi hl hr hb hxb hyb
  go_enter Try.func75, Try.ntmps75
  go_upto_region 1 with (fail)
  refine start_ (n := 14) (S := fun w' => w'.cell? ⟨bb, 0, none⟩ = some (.slice (some ad) l.length c) ∧ w'.cell? (ad.add i) = some (.int .u8 x) ∧ w'.cell? (ad.add i1) = some (.int .u8 y)) (ds := []) #[false, false, false, false, false, false, false, false, false, false, false, false, false, false] (by kernel_rfl) rfl rfl ⟨hk, hc0, hc1⟩ (fun hHeld => ?_)
  refine with_tabW word75.tab1 word75.bits1 (fun HT_ HW_ => ?_)
  refine pure_ (i := 1) (N := some 5) (v := ?_) (a' := ?_) #[false, true, false, false, false, false, false, false, false, false, false, false, false, false] rfl rfl (any_of HT_.out (by kernel_rfl)) (fun _ _ _ h => h) (Or.inl ⟨by rfl, ?_⟩) ?_ ?_
  rotate_left
  · intro w'
    go_simp
    with_reducible rfl
  rotate_left
  · simp only [Act.put, List.setIfInBounds_toArray, List.set_cons_zero, List.set_cons_succ, i64_w, i32_w, hw1, hwx, hwy, hwm, hwm2, hws]
    rfl
  refine pure_ (i := 7) (N := some 11) (v := ?_) (a' := ?_) #[false, true, false, false, false, false, false, true, false, false, false, false, false, false] rfl rfl (any_of HT_.out (by kernel_rfl)) (fun _ _ _ h => h) (Or.inl ⟨by rfl, ?_⟩) ?_ ?_
  rotate_left
  · intro w'
    go_simp
    with_reducible rfl
  rotate_left
  · simp only [Act.put, List.setIfInBounds_toArray, List.set_cons_zero, List.set_cons_succ, i64_w, i32_w, hw1, hwx, hwy, hwm, hwm2, hws]
    rfl
  refine pure_ (i := 8) (N := some 12) (v := ?_) (a' := ?_) #[false, true, false, false, false, false, false, true, true, false, false, false, false, false] rfl rfl (any_of HT_.out (by kernel_rfl)) (fun _ _ _ h => h) (Or.inl ⟨by rfl, ?_⟩) ?_ ?_
  rotate_left
  · intro w'
    go_simp
    with_reducible rfl
  rotate_left
  · simp only [Act.put, List.setIfInBounds_toArray, List.set_cons_zero, List.set_cons_succ, i64_w, i32_w, hw1, hwx, hwy, hwm, hwm2, hws]
    rfl
  refine take_ (i := 0) (N := some 4) (v := ?_) (a' := ?_) #[true, true, false, false, false, false, false, true, true, false, false, false, false, false] rfl rfl (take_ofW HT_.out HW_.out (by kernel_rfl)) (fun _ _ _ h => h) (Or.inl ⟨by rfl, ?_⟩) hHeld ?_ ?_
  rotate_left
  · rintro w' ⟨s0, s1, s2⟩
    go_simp
    with_reducible rfl
  rotate_left
  · simp only [Act.put, List.setIfInBounds_toArray, List.set_cons_zero, List.set_cons_succ, i64_w, i32_w, hw1, hwx, hwy, hwm, hwm2, hws]
    rfl
  refine pure_ (i := 2) (N := some 6) (v := ?_) (a' := ?_) #[true, true, true, false, false, false, false, true, true, false, false, false, false, false] rfl rfl (any_of HT_.out (by kernel_rfl)) (fun _ _ _ h => h) (Or.inl ⟨by rfl, ?_⟩) ?_ ?_
  rotate_left
  · intro w'
    go_simp
    with_reducible rfl
  rotate_left
  · simp only [Act.put, List.setIfInBounds_toArray, List.set_cons_zero, List.set_cons_succ, i64_w, i32_w, hw1, hwx, hwy, hwm, hwm2, hws]
    rfl
  refine take_ (i := 3) (N := some 7) (v := ?_) (a' := ?_) #[true, true, true, true, false, false, false, true, true, false, false, false, false, false] rfl rfl (take_ofW HT_.out HW_.out (by kernel_rfl)) (fun _ _ _ h => h) (Or.inl ⟨by rfl, ?_⟩) hHeld ?_ ?_
  rotate_left
  · rintro w' ⟨s0, s1, s2⟩
    go_simp
    with_reducible rfl
  rotate_left
  · simp only [Act.put, List.setIfInBounds_toArray, List.set_cons_zero, List.set_cons_succ, i64_w, i32_w, hw1, hwx, hwy, hwm, hwm2, hws]
    rfl
  refine pure_ (i := 4) (N := some 8) (v := ?_) (a' := ?_) #[true, true, true, true, true, false, false, true, true, false, false, false, false, false] rfl rfl (any_of HT_.out (by kernel_rfl)) (fun _ _ _ h => h) (Or.inl ⟨by rfl, ?_⟩) ?_ ?_
  rotate_left
  · intro w'
    go_simp
    with_reducible rfl
  rotate_left
  · simp only [Act.put, List.setIfInBounds_toArray, List.set_cons_zero, List.set_cons_succ, i64_w, i32_w, hw1, hwx, hwy, hwm, hwm2, hws]
    rfl
  refine pure_ (i := 5) (N := some 9) (v := ?_) (a' := ?_) #[true, true, true, true, true, true, false, true, true, false, false, false, false, false] rfl rfl (any_of HT_.out (by kernel_rfl)) (fun _ _ _ h => h) (Or.inl ⟨by rfl, ?_⟩) ?_ ?_
  rotate_left
  · intro w'
    go_simp
    with_reducible rfl
  rotate_left
  · simp only [Act.put, List.setIfInBounds_toArray, List.set_cons_zero, List.set_cons_succ, i64_w, i32_w, hw1, hwx, hwy, hwm, hwm2, hws]
    rfl
  refine take_ (i := 6) (N := some 10) (v := ?_) (a' := ?_) #[true, true, true, true, true, true, true, true, true, false, false, false, false, false] rfl rfl (take_ofW HT_.out HW_.out (by kernel_rfl)) (fun _ _ _ h => h) (Or.inl ⟨by rfl, ?_⟩) hHeld ?_ ?_
  rotate_left
  · rintro w' ⟨s0, s1, s2⟩
    go_simp
    with_reducible rfl
  rotate_left
  · simp only [Act.put, List.setIfInBounds_toArray, List.set_cons_zero, List.set_cons_succ, i64_w, i32_w, hw1, hwx, hwy, hwm, hwm2, hws]
    rfl
  refine pure_ (i := 9) (N := some 13) (v := ?_) (a' := ?_) #[true, true, true, true, true, true, true, true, true, true, false, false, false, false] rfl rfl (any_of HT_.out (by kernel_rfl)) (fun _ _ _ h => h) (Or.inl ⟨by rfl, ?_⟩) ?_ ?_
  rotate_left
  · intro w'
    go_simp
    with_reducible rfl
  rotate_left
  · simp only [Act.put, List.setIfInBounds_toArray, List.set_cons_zero, List.set_cons_succ, i64_w, i32_w, hw1, hwx, hwy, hwm, hwm2, hws]
    rfl
  refine take_ (i := 10) (N := some 14) (v := ?_) (a' := ?_) #[true, true, true, true, true, true, true, true, true, true, true, false, false, false] rfl rfl (take_ofW HT_.out HW_.out (by kernel_rfl)) (fun _ _ _ h => h) (Or.inl ⟨by rfl, ?_⟩) hHeld ?_ ?_
  rotate_left
  · rintro w' ⟨s0, s1, s2⟩
    go_simp
    with_reducible rfl
  rotate_left
  · simp only [Act.put, List.setIfInBounds_toArray, List.set_cons_zero, List.set_cons_succ, i64_w, i32_w, hw1, hwx, hwy, hwm, hwm2, hws]
    rfl
  refine pure_ (i := 11) (N := some 15) (v := ?_) (a' := ?_) #[true, true, true, true, true, true, true, true, true, true, true, true, false, false] rfl rfl (any_of HT_.out (by kernel_rfl)) (fun _ _ _ h => h) (Or.inl ⟨by rfl, ?_⟩) ?_ ?_
  rotate_left
  · intro w'
    go_simp
    with_reducible rfl
  rotate_left
  · simp only [Act.put, List.setIfInBounds_toArray, List.set_cons_zero, List.set_cons_succ, i64_w, i32_w, hw1, hwx, hwy, hwm, hwm2, hws]
    rfl
  refine pure_ (i := 12) (N := some 16) (v := ?_) (a' := ?_) #[true, true, true, true, true, true, true, true, true, true, true, true, true, false] rfl rfl (any_of HT_.out (by kernel_rfl)) (fun _ _ _ h => h) (Or.inl ⟨by rfl, ?_⟩) ?_ ?_
  rotate_left
  · intro w'
    go_simp
    with_reducible rfl
  rotate_left
  · simp only [Act.put, List.setIfInBounds_toArray, List.set_cons_zero, List.set_cons_succ, i64_w, i32_w, hw1, hwx, hwy, hwm, hwm2, hws]
    rfl
  refine pure_ (i := 13) (N := some 3) (v := ?_) (a' := ?_) #[true, true, true, true, true, true, true, true, true, true, true, true, true, true] rfl rfl (any_of HT_.out (by kernel_rfl)) (fun _ _ _ h => h) (Or.inl ⟨by rfl, ?_⟩) ?_ ?_
  rotate_left
  · intro w'
    go_simp
    with_reducible rfl
  rotate_left
  · simp only [Act.put, List.setIfInBounds_toArray, List.set_cons_zero, List.set_cons_succ, i64_w, i32_w, hw1, hwx, hwy, hwm, hwm2, hws]
    rfl
  refine done_ (done_of HT_.out (by kernel_rfl)) ?_
  try go_wp2
  go_ret
  exact ⟨by rw [HW.out]; rfl, rfl⟩
theorem word74z (z : Int) (bb : Nat) (A : Option Addr) (c : Nat) (l : List Int) (i : Nat) (w : World) (hz : z = (i : Int)) (hk : w.cell? ⟨bb, 0, none⟩ = some (.slice A l.length c)) (hr : Kd.C (Kd.int .u8) w A l.length l) (hb : bytesB l = true) (hi : i + 1 < l.length) (hl : i < 2000) :
    Calls Try.prog 74 #[.int .i64 z, .pointer (some ⟨bb, 0, none⟩)] w fun e w' => e = .returned (.int .i64 (word l i)) ∧ w' = w.drew := by subst hz; exact word74 bb A c l i w hk hr hb hi hl
theorem word75z (z : Int) (bb : Nat) (A : Option Addr) (c : Nat) (l : List Int) (i : Nat) (w : World) (hz : z = (i : Int)) (hk : w.cell? ⟨bb, 0, none⟩ = some (.slice A l.length c)) (hr : Kd.C (Kd.int .u8) w A l.length l) (hb : bytesB l = true) (hi : i + 1 < l.length) (hl : i < 2000) :
    Calls Try.prog 75 #[.int .i64 z, .pointer (some ⟨bb, 0, none⟩)] w fun e w' => e = .returned (.int .i64 (word l i)) ∧ w' = w.drew := by subst hz; exact word75 bb A c l i w hk hr hb hi hl
def bitB (x : Int) (j : Nat) : Bool := (x / 2 ^ j) % 2 == 1
def sacksW (l : List Int) : Nat → List S54
  | 0 => []
  | n + 1 => sacksW l n ++ [⟨word l (10 + 4 * n), word l (10 + 4 * n + 2)⟩]
theorem sacksW_length (l : List Int) : ∀ n, (sacksW l n).length = n
  | 0 => rfl
  | n + 1 => by simp [sacksW, sacksW_length l n]
def segOf (l : List Int) : S48 := ⟨word l 0, word l 2, word l 4, bitB (rd l 6) 0, bitB (rd l 6) 1, bitB (rd l 6) 2, bitB (rd l 6) 3, sacksW l (rd l 7).toNat, l.drop (10 + 4 * (rd l 7).toNat)⟩
def seg_Decode.f (k : Nat) (l : List Int) : Option (S48 × Int) :=
  if bytesB l = true ∧ l.length < 140737488351233 then
    (if l.length < 10 then some (z48, 5) else (inet_Sum.f k ((l.set 8 0).set 9 0)).bind fun sum =>
      (if sum = word l 8 then
        (if 16 ≤ rd l 6 ∨ l.length < 10 + 4 * (rd l 7).toNat then some (z48, 4) else
          (if seg_fault.f (segOf l).f0 (segOf l).f1 (segOf l).f2 (segOf l).f6 (segOf l).f7 (segOf l).f8 = 0 then some (segOf l, 0) else some (z48, 4)))
      else some (z48, 6)))
  else none
def DPost (w : World) (s : S48) (er : Int) (e : Ending) (w' : World) : Prop := ∃ A7 c7 A8 c8, e = .returned (.tuple #[.agg #[.int .i64 s.f0, .int .i64 s.f1, .int .i64 s.f2, .bool s.f3, .bool s.f4, .bool s.f5, .bool s.f6, .slice A7 s.f7.length c7, .slice A8 s.f8.length c8], .int .i64 er]) ∧ s.f7.length ≤ c7 ∧ s.f8.length ≤ c8 ∧ Kd.C k54 w' A7 s.f7.length s.f7 ∧ Kd.C (Kd.int .u8) w' A8 s.f8.length s.f8 ∧ Below w.heap.size w w'
theorem DPost.mk {w w' : World} (s : S48) (er : Int) (A7 : Option Addr) (c7 : Nat) (A8 : Option Addr) (c8 : Nat) (h1 : s.f7.length ≤ c7) (h2 : s.f8.length ≤ c8) (h3 : Kd.C k54 w' A7 s.f7.length s.f7) (h4 : Kd.C (Kd.int .u8) w' A8 s.f8.length s.f8) (h5 : Below w.heap.size w w') :
  DPost w s er (.returned (.tuple #[.agg #[.int .i64 s.f0, .int .i64 s.f1, .int .i64 s.f2, .bool s.f3, .bool s.f4, .bool s.f5, .bool s.f6, .slice A7 s.f7.length c7, .slice A8 s.f8.length c8], .int .i64 er])) w' := ⟨A7, c7, A8, c8, rfl, h1, h2, h3, h4, h5⟩
theorem DPost.zero {w w' : World} (er : Int) (h5 : Below w.heap.size w w') : DPost w z48 er (.returned (.tuple #[.agg #[.int .i64 0, .int .i64 0, .int .i64 0, .bool false, .bool false, .bool false, .bool false, .slice none 0 0, .slice none 0 0], .int .i64 er])) w' :=
  DPost.mk z48 er none 0 none 0 (Nat.le_refl _) (Nat.le_refl _) ⟨rfl, by simp [z48], fun h => absurd h (Nat.lt_irrefl 0)⟩ ⟨rfl, by simp [z48], fun h => absurd h (Nat.lt_irrefl 0)⟩ h5
def Bx (b1 b2 : Nat) (v : Value) (W : World) : Prop := W.heap[b1]? = some (.cells #[v] 30 (0, 0)) ∧ W.heap[b2]? = some (.cells #[.int .i64 0, .int .i64 0, .int .i64 0, .bool false, .bool false, .bool false, .bool false, .slice none 0 0, .slice none 0 0] 48 (0, 0))
theorem Bx.mk {b1 b2 : Nat} {v : Value} {W : World} (h1 : W.heap[b1]? = some (.cells #[v] 30 (0, 0))) (h2 : W.heap[b2]? = some (.cells #[.int .i64 0, .int .i64 0, .int .i64 0, .bool false, .bool false, .bool false, .bool false, .slice none 0 0, .slice none 0 0] 48 (0, 0))) : Bx b1 b2 v W := ⟨h1, h2⟩
theorem blk_ltd {W : World} {g : Nat} {o : Obj} (h : W.heap[g]? = some o) : g < W.heap.size := (Array.getElem?_eq_some_iff.1 h).1
theorem Bx.step {b1 b2 : Nat} {v : Value} {W W' : World} (h : Bx b1 b2 v W) (hm : ∀ k, k = b1 ∨ k = b2 → W'.heap[k]? = W.heap[k]?) : Bx b1 b2 v W' := ⟨(hm _ (.inl rfl)).trans h.1, (hm _ (.inr rfl)).trans h.2⟩
theorem Bx.below {b1 b2 : Nat} {v : Value} {W W' : World} (h : Bx b1 b2 v W) (hb : Below W.heap.size W W') : Bx b1 b2 v W' := ⟨blk_below h.1 hb, blk_below h.2 hb⟩
theorem Bx.lt {b1 b2 : Nat} {v : Value} {W : World} (h : Bx b1 b2 v W) : b1 < W.heap.size ∧ b2 < W.heap.size := ⟨blk_ltd h.1, blk_ltd h.2⟩
theorem Bx.far {b1 b2 : Nat} {v : Value} {W : World} (h : Bx b1 b2 v W) {p : Addr} (h1 : b1 ≠ p.block) (h2 : b2 ≠ p.block) (u : Value) : Bx b1 b2 v (W.setCell p u) := h.step (fun k hk => by rcases hk with rfl | rfl <;> exact Below.heap_setCell _ _ _ _ (by assumption))
theorem Bx.drew {b1 b2 : Nat} {v : Value} {W : World} (h : Bx b1 b2 v W) : Bx b1 b2 v W.drew := h
theorem Bx.drewN {b1 b2 : Nat} {v : Value} {W : World} (h : Bx b1 b2 v W) (m : Nat) : Bx b1 b2 v (W.drewN m) := h
theorem Bx.cell {b1 b2 : Nat} {v : Value} {W : World} (h : Bx b1 b2 v W) : W.cell? ⟨b1, 0, none⟩ = some v := (blk_cell h.1 0).trans rfl
def fl (x : Int) (j i : Nat) : Bool := if i < j then bitB x i else false
theorem wraps_u8 (n : Int) (h₀ : 0 ≤ n) (h₁ : n < 2 ^ 8) : IntKind.u8.wrap n = n := by rw [IntKind.wrap_u8]; omega
theorem and_one {y : Int} (h0 : 0 ≤ y) (h1 : y ≤ 255) : Go.bits .and .u8 y 1 = y % 2 := by have := bits_mask .u8 8 (by decide) wraps_u8 1 (by decide) y h0 (by omega); simpa using this
theorem bitq0 {x : Int} (h : 0 ≤ x ∧ x ≤ 255) : (Go.bits .and .u8 x 1 == 1) = bitB x 0 := by rw [and_one h.1 h.2]; simp [bitB]
theorem bitq1 {x : Int} (h : 0 ≤ x ∧ x ≤ 255) : (Go.bits .and .u8 (x / 2) 1 == 1) = bitB x 1 := by rw [and_one (by omega) (by omega)]; rfl
theorem bitq2 {x : Int} (h : 0 ≤ x ∧ x ≤ 255) : (Go.bits .and .u8 (x / 4) 1 == 1) = bitB x 2 := by rw [and_one (by omega) (by omega)]; rfl
theorem bitq3 {x : Int} (h : 0 ≤ x ∧ x ≤ 255) : (Go.bits .and .u8 (x / 8) 1 == 1) = bitB x 3 := by rw [and_one (by omega) (by omega)]; rfl
theorem index_four (p0 p1 p2 p3 : Option Addr) (W : World) : (Instr.index 109 (.agg #[.pointer p0, .pointer p1, .pointer p2, .pointer p3]) (.int .i64 0)).run Try.prog W = .ok (.pointer p0) W ∧ (Instr.index 109 (.agg #[.pointer p0, .pointer p1, .pointer p2, .pointer p3]) (.int .i64 1)).run Try.prog W = .ok (.pointer p1) W ∧ (Instr.index 109 (.agg #[.pointer p0, .pointer p1, .pointer p2, .pointer p3]) (.int .i64 2)).run Try.prog W = .ok (.pointer p2) W ∧ (Instr.index 109 (.agg #[.pointer p0, .pointer p1, .pointer p2, .pointer p3]) (.int .i64 3)).run Try.prog W = .ok (.pointer p3) W := by
  refine ⟨?_, ?_, ?_, ?_⟩ <;> kernel_rfl
def sdec.T20 : Bool × List (List Nat × List Nat) := (true, [([], []), ([0], [0]), ([], []), ([], []), ([2, 3], [2, 3]), ([], []), ([], []), ([6], [6]), ([5, 7, 4], [5, 7]), ([4, 8], [4, 8]), ([9], [9]), ([1, 10, 8], [1, 10]), ([0, 1, 2, 3, 4, 5, 6, 7, 8, 9, 10, 11], []), ([12, 11, 11, 0, 1, 2, 3, 4, 5, 6, 7, 8, 9, 10, 11], [11, 12])])
def sdec.B20 : List Nat := [0, 1, 0, 0, 12, 0, 0, 64, 252, 508, 1020, 2047, 4095, 8191]
theorem sdec.tab20 : rtab .any (opsOf Try.f35 20) = sdec.T20 := by kernel_rfl
theorem sdec.bits20 : waitsOk sdec.T20.2 sdec.B20 = true := by kernel_rfl
theorem info54 : (Try.prog.info? 54).map (fun i => (i.zero, i.size, i.bytes)) = some (some (.agg #[(.int .i64 0), (.int .i64 0)]), 2, 16) := by kernel_rfl
theorem K54_M {w : World} {base : Nat} {ok : Nat → Prop} : ∀ (x : S54) cs, k54.K w x cs → k54.M w base ok x cs := fun x cs h => by rw [k54_open h]; exact k54_mkM _ _ _ _
theorem w64n (a b : Nat) (h : a + b < 1000000) : wrap64 ((a : Int) + (b : Int)) = ((a + b : Nat) : Int) := by rw [w64s (by omega) (by omega)]; omega
theorem info5s : (Try.prog.info? 5).map (fun i => (i.zero, i.size, i.bytes)) = some (some (.int .u8 0), 1, 1) := by kernel_rfl
theorem meas3 {p p4 D : Nat} (h : p < p4) (h1 : p < D) : D - (intOf (.int .i64 (p4 : Int))).toNat < D - (intOf (.int .i64 (p : Int))).toNat := by simp only [intOf]; omega
theorem clone_is {l : List Int} (h : l.length < 140737488351233) : slices_Clone_byte_byte.f l = some l := by unfold slices_Clone_byte_byte.f; rw [if_pos (by omega)]
theorem set_nine {W : World} {g : Nat} {a0 a1 a2 a3 a4 a5 a6 a7 a8 c0 c1 c2 c3 c4 c5 c6 c7 c8 : Value} (h : W.heap[g]? = some (.cells #[a0, a1, a2, a3, a4, a5, a6, a7, a8] 48 (0, 0))) :
    (((((((((W.setCell ⟨g, 0, none⟩ c0).setCell ⟨g, 1, none⟩ c1).setCell ⟨g, 2, none⟩ c2).setCell ⟨g, 3, none⟩ c3).setCell ⟨g, 4, none⟩ c4).setCell ⟨g, 5, none⟩ c5).setCell ⟨g, 6, none⟩ c6).setCell ⟨g, 7, none⟩ c7).setCell ⟨g, 8, none⟩ c8).heap[g]? = some (.cells #[c0, c1, c2, c3, c4, c5, c6, c7, c8] 48 (0, 0)) := by
  have h0 := blk_set h 0 c0
  have h1 := blk_set h0 1 c1
  have h2 := blk_set h1 2 c2
  have h3 := blk_set h2 3 c3
  have h4 := blk_set h3 4 c4
  have h5 := blk_set h4 5 c5
  have h6 := blk_set h5 6 c6
  have h7 := blk_set h6 7 c7
  have h8 := blk_set h7 8 c8
  simpa using h8
theorem R_nine {α : Type} {d : Kd α} {e base : Nat} {ok : Nat → Prop} {v : Value} {xs : List α} {W : World} {g : Nat} {c0 c1 c2 c3 c4 c5 c6 c7 c8 : Value} (h : d.R e W base ok v xs) (hok : ∀ k, ok k → k ≠ g) :
    d.R e (((((((((W.setCell ⟨g, 0, none⟩ c0).setCell ⟨g, 1, none⟩ c1).setCell ⟨g, 2, none⟩ c2).setCell ⟨g, 3, none⟩ c3).setCell ⟨g, 4, none⟩ c4).setCell ⟨g, 5, none⟩ c5).setCell ⟨g, 6, none⟩ c6).setCell ⟨g, 7, none⟩ c7).setCell ⟨g, 8, none⟩ c8) base ok v xs :=
  Kd.R_far (Kd.R_far (Kd.R_far (Kd.R_far (Kd.R_far (Kd.R_far (Kd.R_far (Kd.R_far (Kd.R_far h hok _) hok _) hok _) hok _) hok _) hok _) hok _) hok _) hok _
theorem below_nine {w W : World} {g : Nat} {c0 c1 c2 c3 c4 c5 c6 c7 c8 : Value} (h : Below w.heap.size w W) (hg : w.heap.size ≤ g) :
    Below w.heap.size w (((((((((W.setCell ⟨g, 0, none⟩ c0).setCell ⟨g, 1, none⟩ c1).setCell ⟨g, 2, none⟩ c2).setCell ⟨g, 3, none⟩ c3).setCell ⟨g, 4, none⟩ c4).setCell ⟨g, 5, none⟩ c5).setCell ⟨g, 6, none⟩ c6).setCell ⟨g, 7, none⟩ c7).setCell ⟨g, 8, none⟩ c8) :=
  below_set (below_set (below_set (below_set (below_set (below_set (below_set (below_set (below_set h hg) hg) hg) hg) hg) hg) hg) hg) hg
set_option maxHeartbeats 40000000 in
set_option maxRecDepth 100000 in
theorem seg_Decode.calls (k : Nat) (A : Option Addr) (c : Nat) (l : List Int) (s : S48) (er : Int) (w : World) (hr : Kd.C (Kd.int .u8) w A l.length l) (hc : l.length ≤ c) (h : seg_Decode.f k l = some (s, er)) :
    Calls Try.prog 35 #[.slice A l.length c] w (DPost w s er) := by
  have HR := Aside0.mk hr
  have HC := Aside0.mk hc
  clear hr hc
  unfold seg_Decode.f at h
  split at h
  case isFalse => cases h
  rename_i hby
  have HBY := Aside0.mk hby.1
  have HLN := Aside0.mk hby.2
  have HH := Aside0.mk h
  clear h hby
  go_enter Try.func35, Try.ntmps35
  go_upto_region 1 with (fail)
  obtain ⟨W1, hW1⟩ : ∃ W, (w.alloc (Obj.cells #[.slice A l.length c] 30)).alloc (Obj.cells #[.int .i64 0, .int .i64 0, .int .i64 0, .bool false, .bool false, .bool false, .bool false, .slice none 0 0, .slice none 0 0] 48) = W := ⟨_, rfl⟩
  try rw [hW1]
  obtain ⟨b2, hb2⟩ : ∃ b : Nat, w.heap.size + 1 = b := ⟨_, rfl⟩
  try rw [hb2]
  have HV1 : Aside0 (W1.heap[w.heap.size]? = some (.cells #[.slice A l.length c] 30 (0, 0))) := ⟨by rw [← hW1]; exact ((below_alloc (Below.refl (w.alloc (Obj.cells #[.slice A l.length c] 30)).heap.size _) _).block w.heap.size (by simp)).trans (heap_alloc_new w _)⟩
  have HZ1 : Aside0 (W1.heap[b2]? = some (.cells #[.int .i64 0, .int .i64 0, .int .i64 0, .bool false, .bool false, .bool false, .bool false, .slice none 0 0, .slice none 0 0] 48 (0, 0))) := ⟨by rw [← hW1, ← hb2]; have := heap_alloc_new (w.alloc (Obj.cells #[.slice A l.length c] 30)) (Obj.cells #[.int .i64 0, .int .i64 0, .int .i64 0, .bool false, .bool false, .bool false, .bool false, .slice none 0 0, .slice none 0 0] 48); simpa using this⟩
  have HB1 : Aside0 (Below w.heap.size w W1) := ⟨by rw [← hW1]; exact below_alloc (below_alloc (Below.refl _ _) _) _⟩
  have HB2 := Aside0.mk hb2
  have hb2w : w.heap.size ≤ b2 := by omega
  clear hW1 hb2
  have hk := (blk_cell HV1.out 0).trans rfl
  have hf0 := blk_frozen HZ1.out 0
  have hf1 := blk_frozen HZ1.out 1
  have hf2 := blk_frozen HZ1.out 2
  have hf3 := blk_frozen HZ1.out 3
  have hf4 := blk_frozen HZ1.out 4
  have hf5 := blk_frozen HZ1.out 5
  have hf6 := blk_frozen HZ1.out 6
  have hf7 := blk_frozen HZ1.out 7
  have hf8 := blk_frozen HZ1.out 8
  have hz0 := (blk_cell HZ1.out 0).trans rfl
  have hz1 := (blk_cell HZ1.out 1).trans rfl
  have hz2 := (blk_cell HZ1.out 2).trans rfl
  have hz3 := (blk_cell HZ1.out 3).trans rfl
  have hz4 := (blk_cell HZ1.out 4).trans rfl
  have hz5 := (blk_cell HZ1.out 5).trans rfl
  have hz6 := (blk_cell HZ1.out 6).trans rfl
  have hz7 := (blk_cell HZ1.out 7).trans rfl
  have hz8 := (blk_cell HZ1.out 8).trans rfl
  by_cases hl10 : l.length < 10
  · have hHH := HH.out
    rw [if_pos hl10] at hHH
    simp only [Option.some.injEq, Prod.mk.injEq] at hHH
    obtain ⟨rfl, rfl⟩ := hHH
    have e1_ : decide ((l.length : Int) < 10) = true := decide_eq_true (by omega)
    have e1n_ : decide (l.length < 10) = true := decide_eq_true (by omega)
    go_wp2
    try simp only [Exit.inBlock, Exit.then]
    refine bodyPost_ret (results_ct rfl _ _ b2 48 _ (0, 0) _ rfl (set_nine HZ1.out) Try.underlying48 rfl (by kernel_rfl)) rfl ?_
    exact DPost.zero 5 (below_nine HB1.out hb2w)
  · have e1_ : decide ((l.length : Int) < 10) = false := decide_eq_false (by omega)
    have e1n_ : decide (l.length < 10) = false := decide_eq_false (by omega)
    have hHH := HH.out
    rw [if_neg hl10] at hHH
    obtain ⟨sum, hsum, hHH⟩ := Option.bind_eq_some_iff.1 hHH
    have HSM := Aside0.mk hsum
    clear HH
    have HH := Aside0.mk hHH
    have HL10 := Aside0.mk hl10
    clear hsum hHH hl10 hf0 hf1 hf2 hf3 hf4 hf5 hf6 hf7 hf8 hz0 hz1 hz2 hz3 hz4 hz5 hz6 hz7 hz8
    have HV := Aside0.mk (Bx.mk HV1.out HZ1.out)
    go_upto_region 5 with (first | ((with_reducible refine gate_callee (f := 53) rfl ?_); refine goesL_ (some 17) rfl rfl Try.func53 (by kernel_rfl) rfl #[.slice A l.length c] rfl (by (try simp only [List.map_toArray, List.map_cons, List.map_nil]); first | done | rfl) ?_; refine (slices_Clone_byte_byte.calls A c l l _ (Kd.C_below HR.out HB1.out) HC.out (clone_is HLN.out)).mono ?_; rintro e' w2 ⟨v5, rfl, ho, hb⟩; refine ⟨v5, rfl, ?_⟩; have HB2_ := Aside0.mk (below_step HB1.out hb); have HV2 := Aside0.mk (Bx.below HV.out hb); have HO2 := Aside0.mk (Kd.R_lower ho HB1.out.size); have HNW := Aside0.mk (Kd.R_bound ho); clear ho hb))
    obtain ⟨g5, c5, hv5, hgb5, hgl5, cells5, hcl5⟩ := Kd.R_form HO2.out (by have := HL10.out; omega)
    subst hv5
    have hg5 := (HNW.out.1 g5 rfl).2.1
    have hlt2 := HV.out.lt
    have hn1 : w.heap.size ≠ g5 := by omega
    have hn2 : b2 ≠ g5 := by omega
    have HR5 := Aside0.mk (Kd.R_reads' HO2.out)
    obtain ⟨_, ea8, hx8⟩ := Kd.at_int HR5.out.2.2 8 (by decide) (by have := HL10.out; omega)
    cases ea8
    obtain ⟨_, ea9, hx9⟩ := Kd.at_int HR5.out.2.2 9 (by decide) (by have := HL10.out; omega)
    cases ea9
    rw [add_plain] at hx8 hx9
    have hx8 : w2.cell? ⟨g5, 8, none⟩ = some (.int .u8 (rd l 8)) := hx8
    have hx9 : w2.cell? ⟨g5, 9, none⟩ = some (.int .u8 (rd l 9)) := hx9
    have hf8 := blk_frozen hcl5 8
    have hf9 := blk_frozen hcl5 9
    have q8 : ((8 : Int) < (l.length : Int)) = True := eq_true (by have := HL10.out; omega)
    have q9 : ((9 : Int) < (l.length : Int)) = True := eq_true (by have := HL10.out; omega)
    have q8n : (8 < l.length) = True := eq_true (by have := HL10.out; omega)
    have q9n : (9 < l.length) = True := eq_true (by have := HL10.out; omega)
    have hg5w : w.heap.size ≤ g5 := by omega
    clear hgb5 hgl5 hcl5 hlt2 hg5
    go_upto_region 6 with (fail)
    obtain ⟨w3, hw3⟩ : ∃ W, (w2.setCell ⟨g5, 8, none⟩ (.int .u8 0)).setCell ⟨g5, 9, none⟩ (.int .u8 0) = W := ⟨_, rfl⟩
    rw [hw3]
    have HO3 : Aside0 (Kd.R (Kd.int .u8) 5 w3 w.heap.size (fun _ => True) (.slice (some ⟨g5, 0, none⟩) l.length c5) ((l.set 8 0).set 9 0)) := ⟨by rw [← hw3]; exact Kd.R_putn (Kd.R_putn HO2.out 8 0) 9 0⟩
    have HB3 : Aside0 (Below w.heap.size w w3) := ⟨by rw [← hw3]; exact below_set (below_set HB2_.out hg5w) hg5w⟩
    have HV3 : Aside0 (Bx w.heap.size b2 (.slice A l.length c) w3) := ⟨by rw [← hw3]; exact Bx.far (Bx.far HV2.out (p := ⟨g5, 8, none⟩) hn1 hn2 _) (p := ⟨g5, 9, none⟩) hn1 hn2 _⟩
    have HR3 := Aside0.mk (Kd.R_reads' HO3.out)
    have hl2 : ((l.set 8 0).set 9 0).length = l.length := by rw [List.length_set, List.length_set]
    have HR3' : Aside0 (Kd.C (Kd.int .u8) w3 (some ⟨g5, 0, none⟩) ((l.set 8 0).set 9 0).length ((l.set 8 0).set 9 0)) := ⟨HR3.out.2.2⟩
    have HL2 : Aside0 (((l.set 8 0).set 9 0).length ≤ c5) := ⟨by rw [hl2]; exact HR3.out.2.1⟩
    have HLE := Aside0.mk hl2
    clear hw3 hx8 hx9 hf8 hf9 q8 q9 q8n q9n hl2 hk
    by_cases hs : sum = word l 8
    · have hHH := HH.out
      rw [if_pos hs] at hHH
      clear HH
      have HH := Aside0.mk hHH
      have e2_ : (sum != word l 8) = false := bne_eq_false_iff_eq.2 hs
      clear hHH hs
      go_upto_region 8 with (first | ((with_reducible refine gate_callee (f := 57) rfl ?_); refine goesL_ (some 23) rfl rfl Try.func57 (by kernel_rfl) rfl #[.slice (some ⟨g5, 0, none⟩) l.length c5] rfl (by (try simp only [List.map_toArray, List.map_cons, List.map_nil]); first | done | rfl) ?_; rw [← HLE.out]; refine (inet_Sum.calls k _ _ ((l.set 8 0).set 9 0) sum _ HR3'.out HL2.out HSM.out).mono ?_; rintro e' w17 ⟨rfl, ⟨m1, rfl⟩⟩; refine ⟨_, rfl, ?_⟩; have HV3d := Aside0.mk (Bx.drewN HV3.out m1); have HB3d := Aside0.mk (pw_below_drewN HB3.out m1)) | (go_at_call 74; (with_reducible refine (word74z 8 w.heap.size A c l 8 _ (by first | rfl | omega) (Bx.cell HV3d.out) (Kd.C_below HR.out HB3d.out) HBY.out (by have := HL10.out; omega) (by omega)).mono ?_); rintro e' w4 ⟨rfl, hw_⟩; have HB4 : Aside0 (Below w.heap.size w w4) := ⟨by rw [hw_]; exact below_drew1 HB3d.out⟩; have HV4 : Aside0 (Bx w.heap.size b2 (.slice A l.length c) w4) := ⟨by rw [hw_]; exact Bx.drew HV3d.out⟩; clear hw_))
      go_upto_region 9 with (first | (go_at_call 74; (with_reducible refine (word74z 0 w.heap.size A c l 0 _ (by first | rfl | omega) (Bx.cell HV4.out) (Kd.C_below HR.out HB4.out) HBY.out (by have := HL10.out; omega) (by omega)).mono ?_); rintro e' w5 ⟨rfl, hw_⟩; have HB5 : Aside0 (Below w.heap.size w w5) := ⟨by rw [hw_]; exact below_drew1 HB4.out⟩; have HV5 : Aside0 (Bx w.heap.size b2 (.slice A l.length c) w5) := ⟨by rw [hw_]; exact Bx.drew HV4.out⟩; clear hw_) | (go_at_call 74; (with_reducible refine (word74z 2 w.heap.size A c l 2 _ (by first | rfl | omega) (Bx.cell HV5.out) (Kd.C_below HR.out HB5.out) HBY.out (by have := HL10.out; omega) (by omega)).mono ?_); rintro e' w6 ⟨rfl, hw_⟩; have HB6 : Aside0 (Below w.heap.size w w6) := ⟨by rw [hw_]; exact below_drew1 HB5.out⟩; have HV6 : Aside0 (Bx w.heap.size b2 (.slice A l.length c) w6) := ⟨by rw [hw_]; exact Bx.drew HV5.out⟩; clear hw_) | (go_at_call 74; (with_reducible refine (word74z 4 w.heap.size A c l 4 _ (by first | rfl | omega) (Bx.cell HV6.out) (Kd.C_below HR.out HB6.out) HBY.out (by have := HL10.out; omega) (by omega)).mono ?_); rintro e' w7 ⟨rfl, hw_⟩; have HB7 : Aside0 (Below w.heap.size w w7) := ⟨by rw [hw_]; exact below_drew1 HB6.out⟩; have HV7 : Aside0 (Bx w.heap.size b2 (.slice A l.length c) w7) := ⟨by rw [hw_]; exact Bx.drew HV6.out⟩; clear hw_))
      obtain ⟨W8, hW8⟩ : ∃ W, w7.alloc (Obj.cells #[.int .i64 (word l 0), .int .i64 (word l 2), .int .i64 (word l 4), .bool false, .bool false, .bool false, .bool false, (.slice none 0 0), (.slice none 0 0)] 48) = W := ⟨_, rfl⟩
      rw [hW8]
      obtain ⟨b6, hb6⟩ : ∃ b, w7.heap.size = b := ⟨_, rfl⟩
      have HS8 : Aside0 (W8.heap[b6]? = some (.cells #[.int .i64 (word l 0), .int .i64 (word l 2), .int .i64 (word l 4), .bool false, .bool false, .bool false, .bool false, (.slice none 0 0), (.slice none 0 0)] 48 (0, 0))) := ⟨by rw [← hW8, ← hb6]; exact heap_alloc_new w7 _⟩
      have hb8 : Below w7.heap.size w7 W8 := by rw [← hW8]; exact below_alloc (Below.refl _ _) _
      have HB8 := Aside0.mk (below_step HB7.out hb8)
      have HV8 := Aside0.mk (Bx.below HV7.out hb8)
      have hb6w : w.heap.size ≤ b6 := by rw [← hb6]; exact HB7.out.size
      have hn61 : w.heap.size ≠ b6 := by have := HV7.out.lt; omega
      have hn62 : b2 ≠ b6 := by have := HV7.out.lt; omega
      rw [hb6]
      clear hW8 hb8 hb6
      go_upto_region 10 with (first | ((with_reducible refine gate_callee (f := 56) rfl ?_); refine goesL_ (some 35) rfl rfl Try.func56 (by kernel_rfl) rfl #[.pointer (some ⟨b6, 0, none⟩)] rfl (by (try simp only [List.map_toArray, List.map_cons, List.map_nil]); first | done | rfl) ?_; refine (seg_flags.calls b6 _).mono ?_; rintro e' w9 ⟨rfl, hb_⟩; refine ⟨_, rfl, ?_⟩; have HB9 := Aside0.mk (below_step HB8.out hb_); have HV9 := Aside0.mk (Bx.below HV8.out hb_); have HS9 := Aside0.mk (blk_below HS8.out hb_); clear hb_))
      obtain ⟨ad, eA, hx⟩ := Kd.at_int HR.out 6 (by decide) (by have := HL10.out; omega)
      subst eA
      obtain ⟨x6, hx6e⟩ : ∃ x, rd l 6 = x := ⟨_, rfl⟩
      have hx6 := bytesB_rd HBY.out 6
      rw [hx6e] at hx hx6
      rw [show (6 : Int).toNat = 6 from rfl] at hx
      have HX6 := Aside0.mk hx
      have HXE := Aside0.mk hx6e
      have HX6b := Aside0.mk hx6
      have q6 : ((6 : Int) < (l.length : Int)) = True := eq_true (by have := HL10.out; omega)
      have q6n : (6 < l.length) = True := eq_true (by have := HL10.out; omega)
      clear hx hx6e hx6
      have hi0 := fun W : World => (index_four (some ⟨b6, 3, none⟩) (some ⟨b6, 4, none⟩) (some ⟨b6, 5, none⟩) (some ⟨b6, 6, none⟩) W).1
      have hi1 := fun W : World => (index_four (some ⟨b6, 3, none⟩) (some ⟨b6, 4, none⟩) (some ⟨b6, 5, none⟩) (some ⟨b6, 6, none⟩) W).2.1
      have hi2 := fun W : World => (index_four (some ⟨b6, 3, none⟩) (some ⟨b6, 4, none⟩) (some ⟨b6, 5, none⟩) (some ⟨b6, 6, none⟩) W).2.2.1
      have hi3 := fun W : World => (index_four (some ⟨b6, 3, none⟩) (some ⟨b6, 4, none⟩) (some ⟨b6, 5, none⟩) (some ⟨b6, 6, none⟩) W).2.2.2
      go_loopw [36] (fun v36 wr => ∃ j : Nat, v36 = .int .i64 (j : Int) ∧ Aside0 (j ≤ 4) ∧ Aside0 (wr.heap[b6]? = some (.cells #[.int .i64 (word l 0), .int .i64 (word l 2), .int .i64 (word l 4), .bool (fl x6 j 0), .bool (fl x6 j 1), .bool (fl x6 j 2), .bool (fl x6 j 3), (.slice none 0 0), (.slice none 0 0)] 48 (0, 0))) ∧ Aside0 (Below w.heap.size w wr) ∧ Aside0 (Bx w.heap.size b2 (.slice (some ad) l.length c) wr)) (fun v36 _ => 4 - (intOf v36).toNat)
      case atStart => exact ⟨0, rfl, ⟨by omega⟩, ⟨by simpa [fl] using HS9.out⟩, HB9, HV9⟩
      case round =>
        obtain ⟨j, rfl, HJ, HSj, HBj, HVj⟩ := hrel
        have hx6 := HX6b.out
        have hkb := Bx.cell HVj.out
        have hce : wr.cell? ⟨ad.block, ad.off + 6, none⟩ = some (.int .u8 x6) := (Below.cell HBj.out (p := ad.add 6) (World.block_lt_of_cell? w _ HX6.out)).trans HX6.out
        have hj4 := HJ.out
        match j, hj4 with
        | 0, _ =>
          have hcj := (blk_cell HSj.out 3).trans rfl
          have hfj := blk_frozen HSj.out 3
          go_wp2
          go_roundw
          case measure => simp only [intOf]; omega
          case rel => exact ⟨1, rfl, ⟨by omega⟩, ⟨by rw [bitq0 hx6]; have h_ := blk_set HSj.out 3 (.bool (bitB x6 0)); simpa [fl] using h_⟩, ⟨below_set HBj.out hb6w⟩, ⟨Bx.far HVj.out (p := ⟨b6, 3, none⟩) hn61 hn62 _⟩⟩
        | 1, _ =>
          have hcj := (blk_cell HSj.out 4).trans rfl
          have hfj := blk_frozen HSj.out 4
          go_wp2
          go_roundw
          case measure => simp only [intOf]; omega
          case rel => exact ⟨2, rfl, ⟨by omega⟩, ⟨by rw [bitq1 hx6]; have h_ := blk_set HSj.out 4 (.bool (bitB x6 1)); simpa [fl] using h_⟩, ⟨below_set HBj.out hb6w⟩, ⟨Bx.far HVj.out (p := ⟨b6, 4, none⟩) hn61 hn62 _⟩⟩
        | 2, _ =>
          have hcj := (blk_cell HSj.out 5).trans rfl
          have hfj := blk_frozen HSj.out 5
          go_wp2
          go_roundw
          case measure => simp only [intOf]; omega
          case rel => exact ⟨3, rfl, ⟨by omega⟩, ⟨by rw [bitq2 hx6]; have h_ := blk_set HSj.out 5 (.bool (bitB x6 2)); simpa [fl] using h_⟩, ⟨below_set HBj.out hb6w⟩, ⟨Bx.far HVj.out (p := ⟨b6, 5, none⟩) hn61 hn62 _⟩⟩
        | 3, _ =>
          have hcj := (blk_cell HSj.out 6).trans rfl
          have hfj := blk_frozen HSj.out 6
          go_wp2
          go_roundw
          case measure => simp only [intOf]; omega
          case rel => exact ⟨4, rfl, ⟨by omega⟩, ⟨by rw [bitq3 hx6]; have h_ := blk_set HSj.out 6 (.bool (bitB x6 3)); simpa [fl] using h_⟩, ⟨below_set HBj.out hb6w⟩, ⟨Bx.far HVj.out (p := ⟨b6, 6, none⟩) hn61 hn62 _⟩⟩
        | 4, _ =>
          have HS10 : Aside0 (wr.heap[b6]? = some (.cells #[.int .i64 (word l 0), .int .i64 (word l 2), .int .i64 (word l 4), .bool (bitB x6 0), .bool (bitB x6 1), .bool (bitB x6 2), .bool (bitB x6 3), (.slice none 0 0), (.slice none 0 0)] 48 (0, 0))) := ⟨HSj.out⟩
          have HB10 := HBj
          have HV10 := HVj
          obtain ⟨n, hn⟩ : ∃ n : Nat, rd l 7 = (n : Int) := ⟨(rd l 7).toNat, by have := bytesB_rd HBY.out 7; omega⟩
          have hn255 : n ≤ 255 := by have := bytesB_rd HBY.out 7; omega
          obtain ⟨n4, hn4⟩ : ∃ m : Nat, 4 * n = m := ⟨_, rfl⟩
          obtain ⟨D, hD⟩ : ∃ m : Nat, 10 + n4 = m := ⟨_, rfl⟩
          have HWN : Aside0 (wrap64 (n : Int) = (n : Int) ∧ wrap64 (4 * (n : Int)) = (n4 : Int) ∧ wrap64 (10 + (n4 : Int)) = (D : Int)) := ⟨w64s (by omega) (by omega), by rw [w64s (by omega) (by omega)]; omega, by rw [w64s (by omega) (by omega)]; omega⟩
          have hx0 := (Kd.at_int HR.out 7 (by decide) (by have := HL10.out; omega))
          obtain ⟨_, ea7, hx7⟩ := hx0
          cases ea7
          rw [hn] at hx7
          rw [show (7 : Int).toNat = 7 from rfl] at hx7
          have hc7 : wr.cell? ⟨ad.block, ad.off + 7, none⟩ = some (.int .u8 (n : Int)) := (Below.cell HB10.out (p := ad.add 7) (World.block_lt_of_cell? w _ hx7)).trans hx7
          have q7 : ((7 : Int) < (l.length : Int)) = True := eq_true (by have := HL10.out; omega)
          have q7n : (7 < l.length) = True := eq_true (by have := HL10.out; omega)
          have HNE := Aside0.mk hn
          have HND := Aside0.mk (show 4 * n = n4 ∧ 10 + n4 = D ∧ n ≤ 255 from ⟨hn4, hD, hn255⟩)
          obtain ⟨bad, hbad⟩ : ∃ b : Bool, decide (16 ≤ x6 ∨ l.length < D) = b := ⟨_, rfl⟩
          have hHH := HH.out
          have hDe : 10 + 4 * (rd l 7).toNat = D := by rw [hn, Int.toNat_natCast]; omega
          rw [HXE.out, hDe] at hHH
          clear hn hn4 hD hn255 hx7 hi0 hi1 hi2 hi3 hx6 hDe
          cases bad with
          | true =>
            rw [if_pos (of_decide_eq_true hbad)] at hHH
            simp only [Option.some.injEq, Prod.mk.injEq] at hHH
            obtain ⟨rfl, rfl⟩ := hHH
            have hz : ∃ s0 s1 : Bool, decide (16 ≤ x6) = s0 ∧ decide ((l.length : Int) < (D : Int)) = s1 ∧ decide (l.length < D) = s1 ∧ (s0 || s1) = true := ⟨_, decide (l.length < D), rfl, decide_eq_decide.2 (by omega), rfl, by simpa using hbad⟩
            clear hbad
            obtain ⟨s0, s1, e3_, e4_, e4n_, hs⟩ := hz
            have hf0 := blk_frozen HV10.out.2 0
            have hf1 := blk_frozen HV10.out.2 1
            have hf2 := blk_frozen HV10.out.2 2
            have hf3 := blk_frozen HV10.out.2 3
            have hf4 := blk_frozen HV10.out.2 4
            have hf5 := blk_frozen HV10.out.2 5
            have hf6 := blk_frozen HV10.out.2 6
            have hf7 := blk_frozen HV10.out.2 7
            have hf8 := blk_frozen HV10.out.2 8
            have hz0 := (blk_cell HV10.out.2 0).trans rfl
            have hz1 := (blk_cell HV10.out.2 1).trans rfl
            have hz2 := (blk_cell HV10.out.2 2).trans rfl
            have hz3 := (blk_cell HV10.out.2 3).trans rfl
            have hz4 := (blk_cell HV10.out.2 4).trans rfl
            have hz5 := (blk_cell HV10.out.2 5).trans rfl
            have hz6 := (blk_cell HV10.out.2 6).trans rfl
            have hz7 := (blk_cell HV10.out.2 7).trans rfl
            have hz8 := (blk_cell HV10.out.2 8).trans rfl
            cases s0 <;> cases s1 <;> first | (exact absurd hs (by decide)) | skip
            all_goals
              clear hs
              obtain ⟨hwn, hw4, hwD⟩ := HWN.out
              go_wp2
              (try simp only [Exit.inBlock, Exit.then])
              refine bodyPost_ret (results_ct rfl _ _ b2 48 _ (0, 0) _ rfl (set_nine HV10.out.2) Try.underlying48 rfl (by kernel_rfl)) rfl ?_
              exact DPost.zero 4 (below_nine HB10.out hb2w)
          | false =>
            have hz := of_decide_eq_false hbad
            rw [if_neg hz] at hHH
            clear HH
            have HH := Aside0.mk hHH
            have e3_ : decide (16 ≤ x6) = false := decide_eq_false (fun h => hz (.inl h))
            have hDl : D ≤ l.length := by omega
            have e4_ : decide ((l.length : Int) < (D : Int)) = false := decide_eq_false (by omega)
            have e4n_ : decide (l.length < D) = false := decide_eq_false (by omega)
            have HDL := Aside0.mk hDl
            clear hbad hz hDl hHH
            obtain ⟨hwn, hw4, hwD⟩ := HWN.out
            go_upto_region 18 with (fail)
            try rw [hwD]
            clear hwn hw4 hwD
            obtain ⟨wl, rfl⟩ : ∃ wl : World, wl = wr := ⟨_, rfl⟩
            go_loopw [10] (fun v10 wr => ∃ (j p : Nat) (v7 : Value), v10 = .int .i64 (p : Int) ∧ Aside0 (p = 10 + 4 * j ∧ j ≤ n) ∧ Aside0 (wr.heap[b6]? = some (.cells #[.int .i64 (word l 0), .int .i64 (word l 2), .int .i64 (word l 4), .bool (bitB x6 0), .bool (bitB x6 1), .bool (bitB x6 2), .bool (bitB x6 3), v7, (.slice none 0 0)] 48 (0, 0))) ∧ Aside0 (Kd.R k54 54 wr w.heap.size (fun k_ => wl.heap.size ≤ k_) v7 (sacksW l j)) ∧ Aside0 (Below w.heap.size w wr) ∧ Aside0 (Bx w.heap.size b2 (.slice (some ad) l.length c) wr) ∧ Aside0 (wl.heap.size ≤ wr.heap.size)) (fun v10 _ => D - (intOf v10).toNat)
            case atStart => exact ⟨0, 10, .slice none 0 0, rfl, ⟨by omega⟩, HS10, ⟨Kd.R_nil _ _ _ _ _⟩, HB10, HV10, ⟨Nat.le_refl _⟩⟩
            case round =>
              obtain ⟨j, p, v7, rfl, HJ, HSa, HOa, HBa, HVa, HZa⟩ := hrel
              obtain ⟨A7, c7, e7⟩ := Kd.R_slice HOa.out
              subst e7
              have hk7 : wr.cell? ⟨b6, 7, none⟩ = some (.slice A7 (sacksW l j).length c7) := (blk_cell HSa.out 7).trans rfl
              by_cases hj : p < D
              · obtain ⟨p2, hp2⟩ : ∃ m : Nat, p + 2 = m := ⟨_, rfl⟩
                obtain ⟨p4, hp4⟩ : ∃ m : Nat, p + 4 = m := ⟨_, rfl⟩
                have hjn : j < n := by have := HJ.out; have := HND.out; omega
                have HPE : Aside0 (p = 10 + 4 * j ∧ p2 = 10 + 4 * j + 2 ∧ p4 = 10 + 4 * (j + 1)) := ⟨by have := HJ.out; omega⟩
                have HPB : Aside0 (p + 1 < l.length ∧ p2 + 1 < l.length ∧ p < 2000 ∧ p2 < 2000) := ⟨by have := HJ.out; have := HND.out; have := HDL.out; omega⟩
                have HJN := Aside0.mk hjn
                have HP4 : Aside0 (p < p4 ∧ p < D) := ⟨by omega⟩
                have e5_ : decide ((p : Int) < (D : Int)) = true := decide_eq_true (by omega)
                have HWP : Aside0 (wrap64 ((p : Int) + 2) = (p2 : Int) ∧ wrap64 ((p : Int) + 4) = (p4 : Int)) := ⟨by rw [← hp2]; exact w64n p 2 (by have := HPB.out; omega), by rw [← hp4]; exact w64n p 4 (by have := HPB.out; omega)⟩
                have e5n_ : decide (p < D) = true := decide_eq_true hj
                clear hp2 hp4 hjn hj
                obtain ⟨hwp2, hwp4⟩ := HWP.out
                go_upto_region 20 with (fail)
                refine start_ (n := 14) (S := fun w' => w'.cell? ⟨b6, 7, none⟩ = some (.slice A7 (sacksW l j).length c7)) (ds := [13]) #[false, false, false, false, false, false, false, false, false, false, false, false, false, false] (by kernel_rfl) rfl rfl (hk7) (fun hHeld => ?_)
                refine with_tabW sdec.tab20 sdec.bits20 (fun HT_ HW_ => ?_)
                have hw_ : ∃ W, W = wr.drew := ⟨_, rfl⟩
                obtain ⟨wb, hw_⟩ := hw_
                have HBb : Aside0 (Below w.heap.size w wb) := ⟨by rw [hw_]; exact below_drew1 HBa.out⟩
                have HVb : Aside0 (Bx w.heap.size b2 (.slice (some ad) l.length c) wb) := ⟨by rw [hw_]; exact Bx.drew HVa.out⟩
                have HSb : Aside0 (wb.heap[b6]? = some (.cells #[.int .i64 (word l 0), .int .i64 (word l 2), .int .i64 (word l 4), .bool (bitB x6 0), .bool (bitB x6 1), .bool (bitB x6 2), .bool (bitB x6 3), (.slice A7 (sacksW l j).length c7), (.slice none 0 0)] 48 (0, 0))) := ⟨by rw [hw_]; exact HSa.out⟩
                have HOb : Aside0 (Kd.R k54 54 wb w.heap.size (fun k_ => wl.heap.size ≤ k_) (.slice A7 (sacksW l j).length c7) (sacksW l j)) := ⟨by rw [hw_]; exact Kd.R_drew HOa.out⟩
                have HZb : Aside0 (wl.heap.size ≤ wb.heap.size) := ⟨by rw [hw_]; exact HZa.out⟩
                rw [← hw_] at hHeld ⊢
                clear hw_
                refine pure_ (i := 0) (N := some 72) (v := ?_) (a' := ?_) #[true, false, false, false, false, false, false, false, false, false, false, false, false, false] rfl rfl (any_of HT_.out (by kernel_rfl)) (fun _ _ _ h => h) (Or.inl ⟨by rfl, ?_⟩) ?_ ?_
                rotate_left
                · intro w'
                  go_simp
                  with_reducible rfl
                rotate_left
                · simp only [Act.put, List.setIfInBounds_toArray, List.set_cons_zero, List.set_cons_succ, i64_w, i32_w, hwp2]
                  rfl
                refine pure_ (i := 2) (N := some 74) (v := ?_) (a' := ?_) #[true, false, true, false, false, false, false, false, false, false, false, false, false, false] rfl rfl (any_of HT_.out (by kernel_rfl)) (fun _ _ _ h => h) (Or.inl ⟨by rfl, ?_⟩) ?_ ?_
                rotate_left
                · intro w'
                  go_simp
                  with_reducible rfl
                rotate_left
                · simp only [Act.put, List.setIfInBounds_toArray, List.set_cons_zero, List.set_cons_succ, i64_w, i32_w, hwp2]
                  rfl
                refine pure_ (i := 3) (N := some 75) (v := ?_) (a' := ?_) #[true, false, true, true, false, false, false, false, false, false, false, false, false, false] rfl rfl (any_of HT_.out (by kernel_rfl)) (fun _ _ _ h => h) (Or.inl ⟨by rfl, ?_⟩) ?_ ?_
                rotate_left
                · intro w'
                  go_simp
                  with_reducible rfl
                rotate_left
                · simp only [Act.put, List.setIfInBounds_toArray, List.set_cons_zero, List.set_cons_succ, i64_w, i32_w, hwp2]
                  rfl
                refine pure_ (i := 5) (N := some 77) (v := ?_) (a' := ?_) #[true, false, true, true, false, true, false, false, false, false, false, false, false, false] rfl rfl (any_of HT_.out (by kernel_rfl)) (fun _ _ _ h => h) (Or.inl ⟨by rfl, ?_⟩) ?_ ?_
                rotate_left
                · intro w'
                  go_simp
                  with_reducible rfl
                rotate_left
                · simp only [Act.put, List.setIfInBounds_toArray, List.set_cons_zero, List.set_cons_succ, i64_w, i32_w, hwp2]
                  rfl
                refine pure_ (i := 6) (N := some 78) (v := ?_) (a' := ?_) #[true, false, true, true, false, true, true, false, false, false, false, false, false, false] rfl rfl (any_of HT_.out (by kernel_rfl)) (fun _ _ _ h => h) (Or.inl ⟨by rfl, ?_⟩) ?_ ?_
                rotate_left
                · intro w'
                  go_simp
                  with_reducible rfl
                rotate_left
                · simp only [Act.put, List.setIfInBounds_toArray, List.set_cons_zero, List.set_cons_succ, i64_w, i32_w, hwp2]
                  rfl
                refine pure_ (i := 7) (N := some 79) (v := ?_) (a' := ?_) #[true, false, true, true, false, true, true, true, false, false, false, false, false, false] rfl rfl (any_of HT_.out (by kernel_rfl)) (fun _ _ _ h => h) (Or.inl ⟨by rfl, ?_⟩) ?_ ?_
                rotate_left
                · intro w'
                  go_simp
                  with_reducible rfl
                rotate_left
                · simp only [Act.put, List.setIfInBounds_toArray, List.set_cons_zero, List.set_cons_succ, i64_w, i32_w, hwp2]
                  rfl
                refine take_ (i := 1) (N := some 73) (v := ?_) (a' := ?_) #[true, true, true, true, false, true, true, true, false, false, false, false, false, false] rfl rfl (take_ofW HT_.out HW_.out (by kernel_rfl)) (fun _ _ _ h => h) (Or.inl ⟨by rfl, ?_⟩) hHeld ?_ ?_
                rotate_left
                · intro w' s0
                  go_simp
                  with_reducible rfl
                rotate_left
                · simp only [Act.put, List.setIfInBounds_toArray, List.set_cons_zero, List.set_cons_succ, i64_w, i32_w, hwp2]
                  rfl
                refine one_ (i := 4) (N := some 76) #[true, true, true, true, true, true, true, true, false, false, false, false, false, false] rfl rfl (one_of HT_.out (by kernel_rfl)) (by decide) (fun K hK => ?_)
                refine call_ 74 #[.int .i64 (p : Int), .pointer (some ⟨w.heap.size, 0, none⟩)] (by rfl) rfl ?hrc ?_
                (case hrc => first | rfl | (go_simp; done) | (go_simp; rfl))
                with_reducible refine (word74z (p : Int) w.heap.size (some ad) c l p _ rfl (Bx.cell HVb.out) (Kd.C_below HR.out HBb.out) HBY.out HPB.out.1 HPB.out.2.2.1).mono ?_
                rintro e' wc ⟨rfl, hw_⟩
                refine ⟨_, rfl, ?_⟩
                have HBc : Aside0 (Below w.heap.size w wc) := ⟨by rw [hw_]; exact below_drew1 HBb.out⟩
                have HVc : Aside0 (Bx w.heap.size b2 (.slice (some ad) l.length c) wc) := ⟨by rw [hw_]; exact Bx.drew HVb.out⟩
                have HSc : Aside0 (wc.heap[b6]? = some (.cells #[.int .i64 (word l 0), .int .i64 (word l 2), .int .i64 (word l 4), .bool (bitB x6 0), .bool (bitB x6 1), .bool (bitB x6 2), .bool (bitB x6 3), (.slice A7 (sacksW l j).length c7), (.slice none 0 0)] 48 (0, 0))) := ⟨by rw [hw_]; exact HSb.out⟩
                have HOc : Aside0 (Kd.R k54 54 wc w.heap.size (fun k_ => wl.heap.size ≤ k_) (.slice A7 (sacksW l j).length c7) (sacksW l j)) := ⟨by rw [hw_]; exact Kd.R_drew HOb.out⟩
                have HZc : Aside0 (wl.heap.size ≤ wc.heap.size) := ⟨by rw [hw_]; exact HZb.out⟩
                clear hw_
                refine hK.out _ _ ((blk_cell HSc.out 7).trans rfl) (fun hHeld => ?_)
                clear hK K
                refine norm_ (a' := ?_) ?_ ?_
                rotate_left
                · show Act.put _ (some 76) _ = _
                  simp only [Act.put, List.setIfInBounds_toArray, List.set_cons_zero, List.set_cons_succ, i64_w, i32_w, hwp2]
                  rfl
                refine one_ (i := 8) (N := some 80) #[true, true, true, true, true, true, true, true, true, false, false, false, false, false] rfl rfl (one_of HT_.out (by kernel_rfl)) (by decide) (fun K hK => ?_)
                refine call_ 74 #[.int .i64 (p2 : Int), .pointer (some ⟨w.heap.size, 0, none⟩)] (by rfl) rfl ?hrd ?_
                (case hrd => first | rfl | (go_simp; done) | (go_simp; rfl))
                with_reducible refine (word74z (p2 : Int) w.heap.size (some ad) c l p2 _ rfl (Bx.cell HVc.out) (Kd.C_below HR.out HBc.out) HBY.out HPB.out.2.1 HPB.out.2.2.2).mono ?_
                rintro e' wd ⟨rfl, hw_⟩
                refine ⟨_, rfl, ?_⟩
                have HBd : Aside0 (Below w.heap.size w wd) := ⟨by rw [hw_]; exact below_drew1 HBc.out⟩
                have HVd : Aside0 (Bx w.heap.size b2 (.slice (some ad) l.length c) wd) := ⟨by rw [hw_]; exact Bx.drew HVc.out⟩
                have HSd : Aside0 (wd.heap[b6]? = some (.cells #[.int .i64 (word l 0), .int .i64 (word l 2), .int .i64 (word l 4), .bool (bitB x6 0), .bool (bitB x6 1), .bool (bitB x6 2), .bool (bitB x6 3), (.slice A7 (sacksW l j).length c7), (.slice none 0 0)] 48 (0, 0))) := ⟨by rw [hw_]; exact HSc.out⟩
                have HOd : Aside0 (Kd.R k54 54 wd w.heap.size (fun k_ => wl.heap.size ≤ k_) (.slice A7 (sacksW l j).length c7) (sacksW l j)) := ⟨by rw [hw_]; exact Kd.R_drew HOc.out⟩
                have HZd : Aside0 (wl.heap.size ≤ wd.heap.size) := ⟨by rw [hw_]; exact HZc.out⟩
                clear hw_
                refine hK.out _ _ ((blk_cell HSd.out 7).trans rfl) (fun hHeld => ?_)
                clear hK K
                refine norm_ (a' := ?_) ?_ ?_
                rotate_left
                · show Act.put _ (some 80) _ = _
                  simp only [Act.put, List.setIfInBounds_toArray, List.set_cons_zero, List.set_cons_succ, i64_w, i32_w, hwp2]
                  rfl
                refine pure_ (i := 9) (N := some 81) (v := ?_) (a' := ?_) #[true, true, true, true, true, true, true, true, true, true, false, false, false, false] rfl rfl (any_of HT_.out (by kernel_rfl)) (fun _ _ _ h => h) (Or.inl ⟨by rfl, ?_⟩) ?_ ?_
                rotate_left
                · intro w'
                  go_simp
                  with_reducible rfl
                rotate_left
                · simp only [Act.put, List.setIfInBounds_toArray, List.set_cons_zero, List.set_cons_succ, i64_w, i32_w, hwp2]
                  rfl
                refine one_ (i := 10) (N := some 82) #[true, true, true, true, true, true, true, true, true, true, true, false, false, false] rfl rfl (one_of HT_.out (by kernel_rfl)) (by decide) (fun K hK => ?_)
                refine Kd.R_lit_step k54 (w0 := w) w.heap.size 54 (by rfl) (N := 82) rfl (xs := [⟨word l p, word l p2⟩]) (inner := [.int .i64 (word l p), .int .i64 (word l p2)]) (ok := (fun k_ => wl.heap.size ≤ k_)) (okp := fun _ => False) ?hl (Reps.c2 (k54_mkM _ _ _ ⟨word l p, word l p2⟩) (Reps.none _ _)) (fun _ h => h.elim) HZd.out HBd.out HBd.out.size (by simp) ?_
                (case hl => first | (go_simp; done) | (go_simp; rfl))
                intro v82 we ho hb hg hnew
                replace hg : wd.grownBy we none := hg
                have HVe := Aside0.mk (Bx.step HVd.out (fun k_ hk_ => hg.block k_ (by have := HVd.out.lt; omega) (by simp)))
                have HSe : Aside0 (we.heap[b6]? = some (.cells #[.int .i64 (word l 0), .int .i64 (word l 2), .int .i64 (word l 4), .bool (bitB x6 0), .bool (bitB x6 1), .bool (bitB x6 2), .bool (bitB x6 3), (.slice A7 (sacksW l j).length c7), (.slice none 0 0)] 48 (0, 0))) := ⟨(hg.block _ (blk_ltd HSd.out) (by simp)).trans HSd.out⟩
                have HOe := Aside0.mk (Kd.R_grown HOd.out hg (by simp))
                have HBe := Aside0.mk hb
                have HZe : Aside0 (wl.heap.size ≤ we.heap.size) := ⟨Nat.le_trans HZd.out hg.size⟩
                obtain ⟨A82, c82, e82⟩ := Kd.R_slice ho
                subst e82
                have HO82 := Aside0.mk ho
                clear ho hb hg hnew
                refine hK.out _ _ ((blk_cell HSe.out 7).trans rfl) (fun hHeld => ?_)
                clear hK K
                refine norm_ (a' := ?_) ?_ ?_
                rotate_left
                · show Act.put _ (some 82) _ = _
                  simp only [Act.put, List.setIfInBounds_toArray, List.set_cons_zero, List.set_cons_succ, i64_w, i32_w, hwp2]
                  rfl
                refine one_ (i := 11) (N := some 83) #[true, true, true, true, true, true, true, true, true, true, true, true, false, false] rfl rfl (one_of HT_.out (by kernel_rfl)) (by decide) (fun K hK => ?_)
                refine Kd.R_append_rows_step k54 (w0 := w) w.heap.size (by rfl) (.tmp 73) (.tmp 82) 46 54 (.agg #[.int .i64 0, .int .i64 0]) 16 rfl Try.underlying46 info54 rfl (by decide) (by omega) (.slice A7 (sacksW l j).length c7) (sacksW l j) [⟨word l p, word l p2⟩] _ _ _ (fun k_ => wl.heap.size ≤ k_) (fun _ => False) rfl rfl HOe.out (Kd.R_reads' HO82.out).2.2 K54_M (fun _ h => h.elim) (fun k_ hk_ => Nat.le_trans HZe.out hk_) HBe.out HBe.out.size ?aL ?_
                (case aL => rw [sacksW_length]; simp only [List.length_cons, List.length_nil]; have := HJN.out; have := HND.out; omega)
                intro v83 wf ho hb hg hat
                replace hg : we.grownBy wf (Value.slice A7 (sacksW l j).length c7).ownBlock := hg
                have hno : ∀ k_, k_ < wl.heap.size → some k_ ≠ (Value.slice A7 (sacksW l j).length c7).ownBlock := fun k_ hk_ e_ => by have := HOe.out.1 k_ e_.symm; omega
                have HVf := Aside0.mk (Bx.step HVe.out (fun k_ hk_ => hg.block k_ (by have := HVe.out.lt; omega) (hno k_ (by have := HV10.out.lt; omega))))
                have HSf : Aside0 (wf.heap[b6]? = some (.cells #[.int .i64 (word l 0), .int .i64 (word l 2), .int .i64 (word l 4), .bool (bitB x6 0), .bool (bitB x6 1), .bool (bitB x6 2), .bool (bitB x6 3), (.slice A7 (sacksW l j).length c7), (.slice none 0 0)] 48 (0, 0))) := ⟨(hg.block _ (blk_ltd HSe.out) (hno _ (blk_ltd HS10.out))).trans HSe.out⟩
                have HBf := Aside0.mk hb
                have HZf : Aside0 (wl.heap.size ≤ wf.heap.size) := ⟨Nat.le_trans HZe.out hg.size⟩
                rw [show sacksW l j ++ [⟨word l p, word l p2⟩] = sacksW l (j + 1) from by have h1 := HPE.out.1; have h2 := HPE.out.2.1; rw [h2, h1]; rfl] at ho
                obtain ⟨A83, c83, e83⟩ := Kd.R_slice ho
                subst e83
                have HOf := Aside0.mk ho
                have hf7 := blk_frozen HSf.out 7
                have hc7f := (blk_cell HSf.out 7).trans rfl
                clear ho hb hg hat hno
                refine hK.out _ _ ((blk_cell HSf.out 7).trans rfl) (fun hHeld => ?_)
                clear hK K
                refine norm_ (a' := ?_) ?_ ?_
                rotate_left
                · show Act.put _ (some 83) _ = _
                  simp only [Act.put, List.setIfInBounds_toArray, List.set_cons_zero, List.set_cons_succ, i64_w, i32_w, hwp2]
                  rfl
                refine pure_ (i := 12) (N := some 84) (v := ?_) (a' := ?_) #[true, true, true, true, true, true, true, true, true, true, true, true, true, false] rfl rfl (any_of HT_.out (by kernel_rfl)) (fun _ _ _ h => h) (Or.inl ⟨by rfl, ?_⟩) ?_ ?_
                rotate_left
                · intro w'
                  go_simp
                  with_reducible rfl
                rotate_left
                · simp only [Act.put, List.setIfInBounds_toArray, List.set_cons_zero, List.set_cons_succ, i64_w, i32_w, hwp2]
                  rfl
                refine last_ (i := 13) (N := none) #[true, true, true, true, true, true, true, true, true, true, true, true, true, true] rfl rfl (one_of HT_.out (by kernel_rfl)) (by decide) (fun K hK => ?_)
                refine skip_ (w1 := ?_) (by rfl) rfl ?_ ?_
                rotate_left
                · go_simp
                  rfl
                refine hK.out _ _ ?_
                clear hK K
                refine done_ (done_of HT_.out (by kernel_rfl)) ?_
                go_wp2
                go_roundw
                case measure => rw [hwp4]; exact meas3 HP4.out.1 HP4.out.2
                case rel => exact ⟨j + 1, p4, _, by rw [hwp4], ⟨by have := HPE.out; have := HJN.out; omega⟩, ⟨by simpa using blk_set HSf.out 7 (.slice A83 (sacksW l (j + 1)).length c83)⟩, ⟨Kd.R_far HOf.out (fun k_ hk_ e_ => by have := blk_ltd HS10.out; have e1 : k_ = b6 := e_; omega) _⟩, ⟨below_set HBf.out hb6w⟩, ⟨Bx.far HVf.out (p := ⟨b6, 7, none⟩) hn61 hn62 _⟩, ⟨by simpa [World.setCell] using HZf.out⟩⟩
              · have e5_ : decide ((p : Int) < (D : Int)) = false := decide_eq_false (by omega)
                have e5n_ : decide (p < D) = false := decide_eq_false hj
                have hjn : j = n := by have := HJ.out; have := HND.out; omega
                obtain ⟨dl, hdl⟩ : ∃ x, l.drop D = x := ⟨_, rfl⟩
                have hL1 : l.length - D = dl.length := by rw [← hdl, List.length_drop]
                obtain ⟨C1, hC1⟩ : ∃ m : Nat, c - D = m := ⟨_, rfl⟩
                have HC1 : Aside0 (dl.length ≤ C1) := ⟨by rw [← hL1]; have := HC.out; omega⟩
                have HDS : Aside0 (dl.length < 140737488351233) := ⟨by rw [← hL1]; have := HLN.out; omega⟩
                obtain ⟨i5, hi5, hz5⟩ := Option.map_eq_some_iff.1 info5s
                have hsz5 : i5.size = 1 := by simp only [Prod.mk.injEq] at hz5; exact hz5.2.1
                clear hz5
                have hcut := cut_from (P := Try.prog) 30 5 .i64 Try.underlying30 hi5 1 hsz5 (some ad) l.length c (D : Int) (by omega) (by have := HDL.out; omega)
                have hCF := Kd.C_drop (m := D) (c := c) HR.out HDL.out HC.out
                rw [show (Kd.int .u8).sz = 1 from rfl] at hCF
                rw [Int.toNat_natCast, hL1, hC1] at hcut
                rw [hdl] at hCF
                have HDLE := Aside0.mk hdl
                have HCF := Aside0.mk hCF
                generalize (if c = D then (some ad) else (some ad).map (·.add (D * 1))) = A2 at hcut HCF
                have HJNe := Aside0.mk hjn
                have hkb := Bx.cell HVa.out
                clear hCF hL1 hC1 hj hjn hdl hi5 hsz5
                go_upto_region 22 with (first | ((with_reducible refine gate_callee (f := 53) rfl ?_); refine goesL_ (some 88) rfl rfl Try.func53 (by kernel_rfl) rfl #[.slice A2 dl.length C1] rfl (by (try simp only [List.map_toArray, List.map_cons, List.map_nil]); first | done | rfl) ?_; refine (slices_Clone_byte_byte.calls A2 C1 dl dl _ (Kd.C_below HCF.out HBa.out) HC1.out (clone_is HDS.out)).mono ?_; rintro e' w21 ⟨v88, rfl, ho_, hb_⟩; obtain ⟨A8, c8, e8⟩ := Kd.R_slice ho_; subst e8; refine ⟨_, rfl, ?_⟩; have HB21 := Aside0.mk (below_step HBa.out hb_); have HV21 := Aside0.mk (Bx.below HVa.out hb_); have HS21 := Aside0.mk (blk_below HSa.out hb_); have HO7 := Aside0.mk (Kd.R_below HOa.out hb_); have HO8 := Aside0.mk ho_; have hf8_ := blk_frozen HS21.out 8; have hc8_ := (blk_cell HS21.out 8).trans rfl; clear ho_ hb_))
                obtain ⟨w22, hw22⟩ : ∃ W, w21.setCell ⟨b6, 8, none⟩ (.slice A8 dl.length c8) = W := ⟨_, rfl⟩
                rw [hw22]
                have HS22 : Aside0 (w22.heap[b6]? = some (.cells #[.int .i64 (word l 0), .int .i64 (word l 2), .int .i64 (word l 4), .bool (bitB x6 0), .bool (bitB x6 1), .bool (bitB x6 2), .bool (bitB x6 3), .slice A7 (sacksW l j).length c7, .slice A8 dl.length c8] 48 (0, 0))) := ⟨by rw [← hw22]; simpa using blk_set HS21.out 8 (.slice A8 dl.length c8)⟩
                have HB22 : Aside0 (Below w.heap.size w w22) := ⟨by rw [← hw22]; exact below_set HB21.out hb6w⟩
                have HV22 : Aside0 (Bx w.heap.size b2 (.slice (some ad) l.length c) w22) := ⟨by rw [← hw22]; exact Bx.far HV21.out (p := ⟨b6, 8, none⟩) hn61 hn62 _⟩
                have HRR7 := Aside0.mk (show Kd.R k54 54 w22 w.heap.size (fun k_ => wl.heap.size ≤ k_) (.slice A7 (sacksW l j).length c7) (sacksW l j) from by rw [← hw22]; exact Kd.R_far HO7.out (fun k_ hk_ e_ => by have := blk_ltd HS10.out; have e1 : k_ = b6 := e_; omega) _)
                have HRR8 := Aside0.mk (show Kd.R (Kd.int .u8) 5 w22 wr.heap.size (fun k_ => wr.heap.size ≤ k_) (.slice A8 dl.length c8) dl from by rw [← hw22]; exact Kd.R_far (Kd.R_mono (Kd.R_bound HO8.out) (fun k_ hk_ => hk_.2.1)) (fun k_ hk_ e_ => by have := blk_ltd HSa.out; have e1 : k_ = b6 := e_; omega) _)
                have HR7 := Aside0.mk (Kd.R_reads' HRR7.out)
                have HR8 := Aside0.mk (Kd.R_reads' HRR8.out)
                clear hw22 hf8_ hc8_ hk7 hkb
                obtain ⟨fe, hfe⟩ : ∃ x, seg_fault.f (word l 0) (word l 2) (word l 4) (bitB x6 3) (sacksW l j) dl = x := ⟨_, rfl⟩
                have HFE := Aside0.mk hfe
                have hso : segOf l = ⟨word l 0, word l 2, word l 4, bitB x6 0, bitB x6 1, bitB x6 2, bitB x6 3, sacksW l j, dl⟩ := by
                  unfold segOf
                  rw [HXE.out, HNE.out, Int.toNat_natCast, HJNe.out, show 10 + 4 * n = D from by have := HND.out; omega, HDLE.out]
                have hHH := HH.out
                rw [hso] at hHH
                simp only [hfe] at hHH
                clear hso hfe
                have hk_0 := (blk_cell HS22.out 0).trans rfl
                have hk_1 := (blk_cell HS22.out 1).trans rfl
                have hk_2 := (blk_cell HS22.out 2).trans rfl
                have hk_3 := (blk_cell HS22.out 3).trans rfl
                have hk_4 := (blk_cell HS22.out 4).trans rfl
                have hk_5 := (blk_cell HS22.out 5).trans rfl
                have hk_6 := (blk_cell HS22.out 6).trans rfl
                have hk_7 := (blk_cell HS22.out 7).trans rfl
                have hk_8 := (blk_cell HS22.out 8).trans rfl
                by_cases hfz : fe = 0
                · rw [if_pos hfz] at hHH
                  simp only [Option.some.injEq, Prod.mk.injEq] at hHH
                  obtain ⟨rfl, rfl⟩ := hHH
                  have e6_ : (fe != 0) = false := bne_eq_false_iff_eq.2 hfz
                  clear hfz
                  go_upto_region 24 with (first | ((with_reducible refine gate_callee (f := 54) rfl ?_); refine goesL_ (some 91) rfl rfl Try.func54 (by kernel_rfl) rfl #[.agg #[.int .i64 (word l 0), .int .i64 (word l 2), .int .i64 (word l 4), .bool (bitB x6 0), .bool (bitB x6 1), .bool (bitB x6 2), .bool (bitB x6 3), .slice A7 (sacksW l j).length c7, .slice A8 dl.length c8]] rfl (by (try simp only [List.map_toArray, List.map_cons, List.map_nil]); first | done | rfl) ?_; refine (seg_fault.calls (word l 0) (word l 2) (word l 4) (bitB x6 0) (bitB x6 1) (bitB x6 2) (bitB x6 3) A7 c7 (sacksW l j) A8 c8 dl _ HR7.out.2.2 HR7.out.2.1).mono ?_; rintro e' w23 ⟨rfl, hb_⟩; rw [HFE.out]; refine ⟨_, rfl, ?_⟩; have HB23 := Aside0.mk (below_step HB22.out hb_); have HV23 := Aside0.mk (Bx.below HV22.out hb_); have HS23 := Aside0.mk (blk_below HS22.out hb_); have HR7b := Aside0.mk (Kd.R_below HRR7.out hb_); have HR8b := Aside0.mk (Kd.R_below HRR8.out hb_); clear hb_))
                  have hs_0 := (blk_cell HS23.out 0).trans rfl
                  have hs_1 := (blk_cell HS23.out 1).trans rfl
                  have hs_2 := (blk_cell HS23.out 2).trans rfl
                  have hs_3 := (blk_cell HS23.out 3).trans rfl
                  have hs_4 := (blk_cell HS23.out 4).trans rfl
                  have hs_5 := (blk_cell HS23.out 5).trans rfl
                  have hs_6 := (blk_cell HS23.out 6).trans rfl
                  have hs_7 := (blk_cell HS23.out 7).trans rfl
                  have hs_8 := (blk_cell HS23.out 8).trans rfl
                  have hf0 := blk_frozen HV23.out.2 0
                  have hf1 := blk_frozen HV23.out.2 1
                  have hf2 := blk_frozen HV23.out.2 2
                  have hf3 := blk_frozen HV23.out.2 3
                  have hf4 := blk_frozen HV23.out.2 4
                  have hf5 := blk_frozen HV23.out.2 5
                  have hf6 := blk_frozen HV23.out.2 6
                  have hf7 := blk_frozen HV23.out.2 7
                  have hf8 := blk_frozen HV23.out.2 8
                  have hz0 := (blk_cell HV23.out.2 0).trans rfl
                  have hz1 := (blk_cell HV23.out.2 1).trans rfl
                  have hz2 := (blk_cell HV23.out.2 2).trans rfl
                  have hz3 := (blk_cell HV23.out.2 3).trans rfl
                  have hz4 := (blk_cell HV23.out.2 4).trans rfl
                  have hz5 := (blk_cell HV23.out.2 5).trans rfl
                  have hz6 := (blk_cell HV23.out.2 6).trans rfl
                  have hz7 := (blk_cell HV23.out.2 7).trans rfl
                  have hz8 := (blk_cell HV23.out.2 8).trans rfl
                  go_wp2
                  (try simp only [Exit.inBlock, Exit.then])
                  refine bodyPost_ret (results_ct rfl _ _ b2 48 _ (0, 0) _ rfl (set_nine HV23.out.2) Try.underlying48 rfl (by kernel_rfl)) rfl ?_
                  exact DPost.mk ⟨word l 0, word l 2, word l 4, bitB x6 0, bitB x6 1, bitB x6 2, bitB x6 3, sacksW l j, dl⟩ 0 A7 c7 A8 c8 HR7.out.2.1 HR8.out.2.1 (Kd.R_reads' (R_nine HR7b.out (fun k_ hk_ => by have := HV10.out.lt; omega))).2.2 (Kd.R_reads' (R_nine HR8b.out (fun k_ hk_ => by have := HVa.out.lt; omega))).2.2 (below_nine HB23.out hb2w)
                · rw [if_neg hfz] at hHH
                  simp only [Option.some.injEq, Prod.mk.injEq] at hHH
                  obtain ⟨rfl, rfl⟩ := hHH
                  have e6_ : (fe != 0) = true := bne_iff_ne.2 hfz
                  clear hfz
                  go_upto_region 23 with (first | ((with_reducible refine gate_callee (f := 54) rfl ?_); refine goesL_ (some 91) rfl rfl Try.func54 (by kernel_rfl) rfl #[.agg #[.int .i64 (word l 0), .int .i64 (word l 2), .int .i64 (word l 4), .bool (bitB x6 0), .bool (bitB x6 1), .bool (bitB x6 2), .bool (bitB x6 3), .slice A7 (sacksW l j).length c7, .slice A8 dl.length c8]] rfl (by (try simp only [List.map_toArray, List.map_cons, List.map_nil]); first | done | rfl) ?_; refine (seg_fault.calls (word l 0) (word l 2) (word l 4) (bitB x6 0) (bitB x6 1) (bitB x6 2) (bitB x6 3) A7 c7 (sacksW l j) A8 c8 dl _ HR7.out.2.2 HR7.out.2.1).mono ?_; rintro e' w23 ⟨rfl, hb_⟩; rw [HFE.out]; refine ⟨_, rfl, ?_⟩; have HB23 := Aside0.mk (below_step HB22.out hb_); have HV23 := Aside0.mk (Bx.below HV22.out hb_); have HS23 := Aside0.mk (blk_below HS22.out hb_); have HR7b := Aside0.mk (Kd.R_below HRR7.out hb_); have HR8b := Aside0.mk (Kd.R_below HRR8.out hb_); clear hb_))
                  have hf0 := blk_frozen HV23.out.2 0
                  have hf1 := blk_frozen HV23.out.2 1
                  have hf2 := blk_frozen HV23.out.2 2
                  have hf3 := blk_frozen HV23.out.2 3
                  have hf4 := blk_frozen HV23.out.2 4
                  have hf5 := blk_frozen HV23.out.2 5
                  have hf6 := blk_frozen HV23.out.2 6
                  have hf7 := blk_frozen HV23.out.2 7
                  have hf8 := blk_frozen HV23.out.2 8
                  have hz0 := (blk_cell HV23.out.2 0).trans rfl
                  have hz1 := (blk_cell HV23.out.2 1).trans rfl
                  have hz2 := (blk_cell HV23.out.2 2).trans rfl
                  have hz3 := (blk_cell HV23.out.2 3).trans rfl
                  have hz4 := (blk_cell HV23.out.2 4).trans rfl
                  have hz5 := (blk_cell HV23.out.2 5).trans rfl
                  have hz6 := (blk_cell HV23.out.2 6).trans rfl
                  have hz7 := (blk_cell HV23.out.2 7).trans rfl
                  have hz8 := (blk_cell HV23.out.2 8).trans rfl
                  go_wp2
                  (try simp only [Exit.inBlock, Exit.then])
                  refine bodyPost_ret (results_ct rfl _ _ b2 48 _ (0, 0) _ rfl (set_nine HV23.out.2) Try.underlying48 rfl (by kernel_rfl)) rfl ?_
                  exact DPost.zero 4 (below_nine HB23.out hb2w)
    · have hHH := HH.out
      rw [if_neg hs] at hHH
      simp only [Option.some.injEq, Prod.mk.injEq] at hHH
      obtain ⟨rfl, rfl⟩ := hHH
      have e2_ : (sum != word l 8) = true := bne_iff_ne.2 hs
      clear hs
      go_upto_region 7 with (first | ((with_reducible refine gate_callee (f := 57) rfl ?_); refine goesL_ (some 23) rfl rfl Try.func57 (by kernel_rfl) rfl #[.slice (some ⟨g5, 0, none⟩) l.length c5] rfl (by (try simp only [List.map_toArray, List.map_cons, List.map_nil]); first | done | rfl) ?_; rw [← HLE.out]; refine (inet_Sum.calls k _ _ ((l.set 8 0).set 9 0) sum _ HR3'.out HL2.out HSM.out).mono ?_; rintro e' w17 ⟨rfl, ⟨m1, rfl⟩⟩; refine ⟨_, rfl, ?_⟩; have HV3d := Aside0.mk (Bx.drewN HV3.out m1); have HB3d := Aside0.mk (pw_below_drewN HB3.out m1)) | (go_at_call 74; (with_reducible refine (word74z 8 w.heap.size A c l 8 _ (by first | rfl | omega) (Bx.cell HV3d.out) (Kd.C_below HR.out HB3d.out) HBY.out (by have := HL10.out; omega) (by omega)).mono ?_); rintro e' w4 ⟨rfl, hw_⟩; have HB4 : Aside0 (Below w.heap.size w w4) := ⟨by rw [hw_]; exact below_drew1 HB3d.out⟩; have HV4 : Aside0 (Bx w.heap.size b2 (.slice A l.length c) w4) := ⟨by rw [hw_]; exact Bx.drew HV3d.out⟩; clear hw_))
      have hf0 := blk_frozen HV4.out.2 0
      have hf1 := blk_frozen HV4.out.2 1
      have hf2 := blk_frozen HV4.out.2 2
      have hf3 := blk_frozen HV4.out.2 3
      have hf4 := blk_frozen HV4.out.2 4
      have hf5 := blk_frozen HV4.out.2 5
      have hf6 := blk_frozen HV4.out.2 6
      have hf7 := blk_frozen HV4.out.2 7
      have hf8 := blk_frozen HV4.out.2 8
      have hz0 := (blk_cell HV4.out.2 0).trans rfl
      have hz1 := (blk_cell HV4.out.2 1).trans rfl
      have hz2 := (blk_cell HV4.out.2 2).trans rfl
      have hz3 := (blk_cell HV4.out.2 3).trans rfl
      have hz4 := (blk_cell HV4.out.2 4).trans rfl
      have hz5 := (blk_cell HV4.out.2 5).trans rfl
      have hz6 := (blk_cell HV4.out.2 6).trans rfl
      have hz7 := (blk_cell HV4.out.2 7).trans rfl
      have hz8 := (blk_cell HV4.out.2 8).trans rfl
      go_wp2
      (try simp only [Exit.inBlock, Exit.then])
      refine bodyPost_ret (results_ct rfl _ _ b2 48 _ (0, 0) _ rfl (set_nine HV4.out.2) Try.underlying48 rfl (by kernel_rfl)) rfl ?_
      exact DPost.zero 6 (below_nine HB4.out hb2w)
theorem seg_Decode.mono : ∀ (l : List Int) (k : Nat), LeO (seg_Decode.f k l) (seg_Decode.f (k + 1) l) := by
  intro l k
  unfold seg_Decode.f
  exact LeO.ite (LeO.ite (LeO.refl _) (LeO.bind (inet_Sum.mono _ _) (fun _ => LeO.refl _))) (LeO.refl _)

end Go.Proofs.Ytjhmjgcebijmiaa.HSegDecodes
