/- Messages: a part is read (msg.part.get). -/
import Derived.Test.YtkghoodhgihokaaXMsgE
import Derived.WalkArith
import Derived.Lib.Strings
namespace Go.Proofs.Ytkghoodhgihokaa.Msg
open Go.RowKit Go.Lib Go.Proofs.YtkghoodhgihokaaW.PrintWords Go.Proofs.YtkghoodhgihokaaW.PrintLast Go.Proofs.YtkghoodhgihokaaW.PrintMore
set_option linter.unusedVariables false
set_option linter.unusedSimpArgs false
section
attribute [local go_sem] max2_int min2_int max_two min_two max_three min_three max_four min_four
/-! ### frame_Get: function 83 -/
def frame_Get.l0 : Nat → Int → List Int → Int → Int → Option (Int)
  | 0, _, _, _, _ => none
  | k + 1, x3, x6, x7, x8 => if x8 < x7 then (if 0 ≤ x8 then (if x8 < (x6.length : Int) then (frame_Get.l0 k (Go.bits .or .i64 (wrap64 (x3 * 256)) (wrap64 (rd x6 x8))) x6 x7 (wrap64 (x8 + 1))) else (none)) else (none)) else (some x3)
def frame_Get.f (k : Nat) (l0 : List Int) : Option (Int) := frame_Get.l0 k 0 l0 (l0.length : Int) 0
theorem frame_Get.mono_l : ∀ k, (∀ y0 y1 y2 y3, LeO (frame_Get.l0 k y0 y1 y2 y3) (frame_Get.l0 (k + 1) y0 y1 y2 y3))
  | 0 => fun _ _ _ _ r h => by simp [frame_Get.l0] at h
  | k + 1 => by
    have ih0 := frame_Get.mono_l k
    · intro y0 y1 y2 y3
      unfold frame_Get.l0
      repeat' first
      | (with_reducible exact ih0 _ _ _ _)
      | (with_reducible exact LeO.refl _)
      | (with_reducible exact LeO.none _)
      | (with_reducible refine LeO.ite ?_ ?_)
      | (with_reducible refine LeO.bind ?_ (fun _ => ?_))
      | exact ih0 _ _ _ _
      | exact LeO.none _
      | refine LeO.ite ?_ ?_
      | refine LeO.bind ?_ (fun _ => ?_)
theorem frame_Get.mono : ∀ a0 k, LeO (frame_Get.f k a0) (frame_Get.f (k + 1) a0) := by
  intro a0 k
  have ih0 := frame_Get.mono_l k
  unfold frame_Get.f
  repeat' first
      | (with_reducible exact ih0 _ _ _ _)
      | (with_reducible exact LeO.refl _)
      | (with_reducible exact LeO.none _)
      | (with_reducible refine LeO.ite ?_ ?_)
      | (with_reducible refine LeO.bind ?_ (fun _ => ?_))
      | exact ih0 _ _ _ _
      | exact LeO.none _
      | refine LeO.ite ?_ ?_
      | refine LeO.bind ?_ (fun _ => ?_)
set_option maxHeartbeats 8000000 in
set_option maxRecDepth 100000 in
theorem frame_Get.calls (k : Nat) (A0 : Option Addr) (c0 : Nat) (l0 : List Int) (r : Int) (w : World) (hr0 : Kd.C (Kd.int .u8) w A0 l0.length l0) (hc0 : l0.length ≤ c0) (h : frame_Get.f k l0 = some r) :
    Calls Try.prog 83 #[.slice A0 l0.length c0] w fun e w' => e = .returned (.int .i64 r) ∧ Drawn0 w w' := by
  have HR0 := Aside0.mk hr0
  have HC0 := Aside0.mk hc0
  clear hr0 hc0
  have H : (frame_Get.l0 k 0 l0 (l0.length : Int) 0) = some r := h
  clear h
  have H' := Aside0.mk H
  clear H
  go_enter Try.func83, Try.ntmps83
  go_wp2
  go_loopg [3, 8] k (fun kq v3 v8 w' => ∃ (x3_1 : Int) (x8_1 : Int), v3 = .int .i64 x3_1 ∧ v8 = .int .i64 x8_1 ∧ Aside0 (frame_Get.l0 kq x3_1 l0 (l0.length : Int) x8_1 = some r) ∧ Aside0 (kq ≤ k) ∧ Drawn0 w w')
  case atStart => exact ⟨(0), (0), (by first | rfl | (simp; done) | (simp [*]; done)), (by first | rfl | (simp; done) | (simp [*]; done)), H', ⟨Nat.le_refl _⟩, by repeat (first | exact Drawn0.refl _ | apply Drawn0.step)⟩
  case round =>
    clear H'
    obtain ⟨x3_1, x8_1, rfl, rfl, HA, HK1, ⟨m1, rfl⟩⟩ := hrel
    cases gk with
    | zero => exact absurd HA.out (by simp [frame_Get.l0])
    | succ k1 =>
      have H := HA.out
      clear HA
      simp only [frame_Get.l0] at H
      by_cases c2 : x8_1 < (l0.length : Int)
      · rw [if_pos c2] at H
        have c2b0 : decide (x8_1 < (l0.length : Int)) = true := decide_eq_true c2
        clear c2
        by_cases c3 : 0 ≤ x8_1
        · rw [if_pos c3] at H
          have c3b0 : decide (0 ≤ x8_1) = true := decide_eq_true c3
          clear c3
          by_cases c4 : x8_1 < (l0.length : Int)
          · rw [if_pos c4] at H
            have c4b0 : decide (x8_1 < (l0.length : Int)) = true := decide_eq_true c4
            clear c4
            have H' := Aside0.mk H
            clear H
            have p101 : 0 ≤ (x8_1 : Int) := of_decide_eq_true (by first | (with_reducible assumption) | assumption)
            have q101 : x8_1 < (l0.length : Int) := of_decide_eq_true (by first | (with_reducible assumption) | assumption)
            obtain ⟨ad101, e101, hx101_0⟩ := Kd.at_int HR0.out x8_1 p101 q101
            cases e101
            replace p101 := eq_true p101
            replace q101 := eq_true q101
            go_wp2
            go_roundg k1
            case measure => have := HK1.out; omega
            case rel => exact ⟨(Go.bits .or .i64 (wrap64 (x3_1 * 256)) (wrap64 (rd l0 x8_1))), (wrap64 (x8_1 + 1)), (by first | rfl | (simp; done) | (simp [*]; done)), (by first | rfl | (simp; done) | (simp [*]; done)), H', ⟨by have := HK1.out; omega⟩, by repeat (first | exact Drawn0.refl _ | apply Drawn0.step)⟩
          · rw [if_neg c4] at H
            exact absurd H (by simp)
        · rw [if_neg c3] at H
          exact absurd H (by simp)
      · rw [if_neg c2] at H
        have c2b0 : decide (x8_1 < (l0.length : Int)) = false := decide_eq_false c2
        clear c2
        obtain rfl := Option.some.inj H
        go_wp2
        go_ret
        exact ⟨by first | rfl | (simp; done) | (simp [*]; done), by repeat (first | exact Drawn0.refl _ | apply Drawn0.step)⟩
/-! ### slices_Clone_byte_byte: function 84 -/
def slices_Clone_byte_byte.f (l0 : List Int) : Option (List Int) := if l0.length < 140737488355328 then some l0 else none
set_option maxHeartbeats 1000000 in
set_option maxRecDepth 100000 in
theorem slices_Clone_byte_byte.calls (A0 : Option Addr) (c0 : Nat) (l0 : List Int) (r : List Int) (w : World) (hr0 : Kd.C (Kd.int .u8) w A0 l0.length l0) (hc0 : l0.length ≤ c0) (h : slices_Clone_byte_byte.f l0 = some r) :
    Calls Try.prog 84 #[.slice A0 l0.length c0] w fun e w' => ∃ v0_ : Value, e = .returned (v0_) ∧ Kd.R (Kd.int .u8) 5 w' w.heap.size (fun _ => True) v0_ r ∧ Below w.heap.size w w' := by
  have HR0 := Aside0.mk hr0
  have hl : l0.length < 140737488355328 ∧ l0 = r := by
    unfold slices_Clone_byte_byte.f at h
    split at h
    · exact ⟨by assumption, Option.some.inj h⟩
    · cases h
  clear h
  obtain ⟨hl, rfl⟩ := hl
  have HL := Aside0.mk hl
  have HB := Aside0.mk (Below.refl w.heap.size w)
  cases A0 with
  | none =>
    have hn : l0 = [] := by
      have := hr0.2.2
      cases l0 with
      | nil => rfl
      | cons a l => obtain ⟨ad, h, _⟩ := this (by simp); cases h
    subst hn
    clear hr0 hc0 hl
    go_enter Try.func84, Try.ntmps84
    have he := Lib.run_eql_slice_nil (P := Try.prog)
    go_wp2
    go_ret
    exact ⟨_, rfl, Kd.R_nil _ _ _ _ _, HB.out⟩
  | some ad =>
    clear hr0 hc0 hl
    go_enter Try.func84, Try.ntmps84
    have he := Lib.run_eql_slice_nil (P := Try.prog)
    go_wp2_with (first | ((with_reducible refine gate_dst (N := 5) rfl ?_); refine Kd.R_lit (Kd.int .u8) _ 5 ?hg (N := 5) ?hd (xs := ([] : List Int)) (inner := []) (ok := fun _ => True) (okp := fun _ => True) ?hr ?hp (fun _ hk => hk) trivial (Below.refl _ _) (Nat.le_refl _) (by simp) ?_; (case hd => rfl); (case hg => rfl); (case hr => first | (go_simp; done) | (go_simp; rfl)); (case hp => exact (Reps.none _ _)); intro v111 w4 ho5 hb hg_ hnew_; clear hg_ hnew_; have n0_ := Aside0.mk ho5; have n1_ := Aside0.mk hb; clear hb ho5) | ((with_reducible refine gate_builtin (b := .append) (xs := #[.tmp 5, .tmp 6]) rfl ?_); at_builtin; refine Kd.R_append_rows (Kd.int .u8) (w0 := w) w.heap.size rfl (.tmp 5) (.tmp 6) 27 5 (.int .u8 0) 1 rfl Try.underlying27 info5 rfl (by decide) (by omega) v111 [] l0 _ _ _ (fun _ => True) (fun _ => False) rfl rfl ?aO ?aR (fun _ _ h => h) (fun _ h => h.elim) ?aF ?aB ?aS ?aL ?_; (case aR => exact (Kd.C_below HR0.out n1_.out)); (case aB => exact n1_.out); (case aF => exact (fun _ _ => trivial)); (case aO => exact n0_.out); (case aS => exact n1_.out.size); (case aL => have := HL.out; simp; omega); intro v114 w6 ho hb hg hat; have m0_ := Aside0.mk hb; have m1_ := Aside0.mk ho; clear ho hb hg hat))
    go_ret
    exact ⟨_, rfl, m1_.out, m0_.out⟩
end
/-- A number of bytes, the greatest first. -/
def valN (l : List Int) : Nat := l.foldl (fun a x => a * 256 + x.toNat) 0
theorem or_byte (a b : Nat) (ha : a < 4294967296) (hb : b < 256) : Go.bits .or .i64 ((256 * a : Nat) : Int) (b : Int) = ((256 * a + b : Nat) : Int) := by
  have h1 : (BitVec.ofInt 64 ((256 * a : Nat) : Int)).toNat = 256 * a := by
    rw [BitVec.ofInt_natCast, BitVec.toNat_ofNat]; exact Nat.mod_eq_of_lt (by omega)
  have h2 : (BitVec.ofInt 64 (b : Int)).toNat = b := by
    rw [BitVec.ofInt_natCast, BitVec.toNat_ofNat]; exact Nat.mod_eq_of_lt (by omega)
  have h3 : 256 * a ||| b = 256 * a + b := (Nat.two_pow_add_eq_or_of_lt (i := 8) (by omega) a).symm
  show IntKind.i64.wrap ((BitVec.ofInt 64 ((256 * a : Nat) : Int) ||| BitVec.ofInt 64 (b : Int)).toNat : Int) = _
  rw [BitVec.toNat_or, h1, h2, h3, i64_w]
  unfold wrap64
  omega
theorem valN_step (l : List Int) (i : Nat) (hi : i < l.length) : valN (l.take (i + 1)) = valN (l.take i) * 256 + (l[i]).toNat := by
  unfold valN
  rw [List.take_succ_eq_append_getElem hi, List.foldl_append]
  rfl
theorem valN_bd (l : List Int) (hb : ∀ x ∈ l, 0 ≤ x ∧ x ≤ 255) : ∀ i, i ≤ 4 → i ≤ l.length → valN (l.take i) < 256 ^ i
  | 0, _, _ => by simp [valN]
  | i + 1, h4, hl => by
    have ih := valN_bd l hb i (by omega) (by omega)
    have hx := hb _ (List.getElem_mem (show i < l.length by omega))
    rw [valN_step l i (by omega), Nat.pow_succ]
    omega
theorem get_loop (l : List Int) (hb : ∀ x ∈ l, 0 ≤ x ∧ x ≤ 255) (h4 : l.length ≤ 4) : ∀ (d k i : Nat), l.length - i = d → i ≤ l.length → d < k → frame_Get.l0 k (valN (l.take i) : Int) l (l.length : Int) (i : Int) = some (valN l : Int) := by
  intro d
  induction d with
  | zero =>
    intro k i hd hi hk
    obtain ⟨m, rfl⟩ : ∃ m, k = m + 1 := ⟨k - 1, by omega⟩
    rw [frame_Get.l0, if_neg (by omega), show i = l.length by omega, List.take_length]
  | succ d ih =>
    intro k i hd hi hk
    obtain ⟨m, rfl⟩ : ∃ m, k = m + 1 := ⟨k - 1, by omega⟩
    have hil : i < l.length := by omega
    rw [frame_Get.l0, if_pos (by omega), if_pos (by omega), if_pos (by omega)]
    have hx := hb _ (List.getElem_mem hil)
    have hr : rd l (i : Int) = l[i] := by simp [rd, List.getD_eq_getElem?_getD, List.getElem?_eq_getElem hil]
    have hv := valN_bd l hb i (by omega) hi
    have hv2 : valN (l.take i) < 16777216 := Nat.lt_of_lt_of_le hv (by have := Nat.pow_le_pow_right (n := 256) (by decide) (show i ≤ 3 by omega); omega)
    rw [hr, show wrap64 ((i : Int) + 1) = ((i + 1 : Nat) : Int) by unfold wrap64; omega, show wrap64 (l[i]) = ((l[i]).toNat : Int) by unfold wrap64; omega, show wrap64 ((valN (l.take i) : Int) * 256) = ((256 * valN (l.take i) : Nat) : Int) by unfold wrap64; omega, or_byte _ _ (by omega) (by omega), show 256 * valN (l.take i) + (l[i]).toNat = valN (l.take (i + 1)) by rw [valN_step l i hil]; omega]
    exact ih m (i + 1) (by omega) (by omega) (by omega)
theorem get_is (l : List Int) (hb : ∀ x ∈ l, 0 ≤ x ∧ x ≤ 255) (h4 : l.length ≤ 4) : frame_Get.f 10 l = some (valN l : Int) := get_loop l hb h4 l.length 10 0 rfl (Nat.zero_le _) (by omega)
/-- What is read into a part. -/
inductive GV where
  | num (n : Nat)
  | text (s : ByteArray)
  | data (l : List Int)
def Pv.addr : Pv → Addr
  | .num _ a _ => a
  | .text a _ => a
  | .data a _ _ _ => a
/-- What a part reads of bytes; and the bytes behind. -/
def getG : Pv → List Int → Option (GV × List Int)
  | .num wd _ _, l => if l.length < wd then none else some (.num (valN (l.take wd)), l.drop wd)
  | .text _ _, l => if l.length < 2 then none else if (l.drop 2).length < valN (l.take 2) then none else some (.text (strOfNums ((l.drop 2).take (valN (l.take 2)))), (l.drop 2).drop (valN (l.take 2)))
  | .data _ _ _ _, l => if l.length < 2 then none else if (l.drop 2).length < valN (l.take 2) then none else some (.data ((l.drop 2).take (valN (l.take 2))), (l.drop 2).drop (valN (l.take 2)))
def GV.is (x : GV) (w : World) (B : Nat) (u : Value) : Prop :=
  match x with
  | .num n => u = .int .i64 (n : Int)
  | .text s => u = .string s
  | .data d => Kd.R (Kd.int .u8) 5 w B (fun _ => True) u d
/-- What get leaves. -/
inductive GPost (w0 w : World) (a : Addr) (out : Option (GV × List Int)) (e : Ending) (w' : World) : Prop
  | no (h : out = none) (he : e = .returned (.tuple #[.slice none 0 0, .bool false])) (hb : Below w.heap.size w w')
  | yes (x : GV) (r : List Int) (A : Option Addr) (c : Nat) (wm : World) (u : Value) (h : out = some (x, r)) (he : e = .returned (.tuple #[.slice A r.length c, .bool true])) (hc : r.length ≤ c) (hr : Kd.C (Kd.int .u8) w0 A r.length r) (hb : Below w.heap.size w wm) (hx : x.is wm w.heap.size u) (hw : w' = wm.setCell a u)
theorem no_of {w0 w : World} {a : Addr} {e : Ending} {w' : World} (h : GPost w0 w a none e w') : e = .returned (.tuple #[.slice none 0 0, .bool false]) ∧ Below w.heap.size w w' := by
  rcases h with ⟨_, he, hb⟩ | ⟨_, _, _, _, _, _, h, _⟩
  · exact ⟨he, hb⟩
  · cases h
/-- What a part that is read leaves behind. -/
def Left (w : World) (a : Addr) (x : GV) (w' : World) : Prop := ∃ wm u, Below w.heap.size w wm ∧ x.is wm w.heap.size u ∧ w' = wm.setCell a u
theorem yes_of {w0 w : World} {a : Addr} {x : GV} {r : List Int} {e : Ending} {w' : World} (h : GPost w0 w a (some (x, r)) e w') : ∃ A c, e = .returned (.tuple #[.slice A r.length c, .bool true]) ∧ r.length ≤ c ∧ Kd.C (Kd.int .u8) w0 A r.length r ∧ Left w a x w' := by
  rcases h with ⟨h, _, _⟩ | ⟨_, _, A, c, wm, u, h, he, hc, hr, hb, hx, hw⟩
  · cases h
  · cases h
    exact ⟨A, c, he, hc, hr, wm, u, hb, hx, hw⟩
theorem bytes_take {l : List Int} (h : ∀ x ∈ l, 0 ≤ x ∧ x ≤ 255) (n : Nat) : ∀ x ∈ l.take n, 0 ≤ x ∧ x ≤ 255 := fun x hx => h x (List.mem_of_mem_take hx)
theorem bytes_drop {l : List Int} (h : ∀ x ∈ l, 0 ≤ x ∧ x ≤ 255) (n : Nat) : ∀ x ∈ l.drop n, 0 ≤ x ∧ x ≤ 255 := fun x hx => h x (List.mem_of_mem_drop hx)
theorem info5g : ∃ i5, Try.prog.info? 5 = some i5 ∧ i5.size = 1 := by
  obtain ⟨i5, hi5, hz5⟩ := Option.map_eq_some_iff.1 info5m
  exact ⟨i5, hi5, by simp only [Prod.mk.injEq] at hz5; exact hz5.2.1⟩
set_option maxHeartbeats 4000000 in
set_option maxRecDepth 100000 in
theorem get_num (wd : Nat) (hw : wd = 1 ∨ wd = 2 ∨ wd = 4) (n0 : Int) (w0 : World) (g o : Nat) (cells : Array Value) (ty : TypeId) (A : Option Addr) (c : Nat) (l : List Int) (w : World) (hB0 : Below w0.heap.size w0 w) (hr : Kd.C (Kd.int .u8) w0 A l.length l) (hc : l.length ≤ c) (hb : ∀ x ∈ l, 0 ≤ x ∧ x ≤ 255) (hl : l.length ≤ 140737488351232) (hg : w.heap[g]? = some (.cells cells ty (0, 0))) (ho : o < cells.size) :
    Calls Try.prog 57 #[.agg #[.int .i64 (wd : Int), .pointer (some ⟨g, o, none⟩), .pointer none, .pointer none], .slice A l.length c] w fun e w' => GPost w0 w ⟨g, o, none⟩ (getG (.num wd ⟨g, o, none⟩ n0) l) e w' := by
  obtain ⟨old, hold⟩ : ∃ v, cells[o]? = some v := ⟨_, Array.getElem?_eq_getElem ho⟩
  obtain ⟨W1, hW1⟩ : ∃ W, w.alloc (.cells #[.int .i64 (wd : Int), .pointer (some ⟨g, o, none⟩), .pointer none, .pointer none] 78) = W := ⟨_, rfl⟩
  obtain ⟨b2, hb2⟩ : ∃ x, w.heap.size = x := ⟨_, rfl⟩
  have hn := heap_alloc_new w (.cells #[.int .i64 (wd : Int), .pointer (some ⟨g, o, none⟩), .pointer none, .pointer none] 78)
  have HB := Aside0.mk ((Below.refl _ w).alloc (Nat.le_refl _) (.cells #[.int .i64 (wd : Int), .pointer (some ⟨g, o, none⟩), .pointer none, .pointer none] 78))
  rw [hW1] at hn HB
  rw [hb2] at hn
  have HN := Aside0.mk hn
  have hc0 : W1.cell? ⟨b2, 0, none⟩ = some (.int .i64 (wd : Int)) := (blk_cell hn 0).trans rfl
  have hc1 : W1.cell? ⟨b2, 1, none⟩ = some (.pointer (some ⟨g, o, none⟩)) := (blk_cell hn 1).trans rfl
  have hc2 : W1.cell? ⟨b2, 2, none⟩ = some (.pointer none) := (blk_cell hn 2).trans rfl
  have hc3 : W1.cell? ⟨b2, 3, none⟩ = some (.pointer none) := (blk_cell hn 3).trans rfl
  have HG := Aside0.mk (show W1.heap[g]? = some (.cells cells ty (0, 0)) from (HB.out.block _ (blk_ltn hg)).trans hg)
  have HBW := Aside0.mk (hB0.trans (HB.out.mono hB0.size))
  have HOLD := Aside0.mk hold
  have HGF := Aside0.mk (fun (W : World) (hB : Below W1.heap.size W1 W) => (⟨(blk_cell ((hB.block _ (blk_ltn HG.out)).trans HG.out) o).trans HOLD.out, blk_frozen ((hB.block _ (blk_ltn HG.out)).trans HG.out) o⟩ : W.cell? ⟨g, o, none⟩ = some old ∧ W.frozen? ⟨g, o, none⟩ = false))
  have HR0 := Aside0.mk hr
  have HC0 := Aside0.mk hc
  have HBY := Aside0.mk hb
  clear hn hg hr hold hb hB0
  by_cases hlt : l.length < wd
  · have d1 : decide ((l.length : Int) < (wd : Int)) = true := decide_eq_true (by omega)
    have d1n : decide (l.length < wd) = true := decide_eq_true hlt
    have HO := Aside0.mk (show getG (.num wd ⟨g, o, none⟩ n0) l = none by show (if l.length < wd then none else _) = none; rw [if_pos hlt])
    clear hlt ho
    go_enter Try.func57, Try.ntmps57
    go_upto_region 1 with fail
    (try rw [hW1])
    (try rw [hb2])
    clear hW1 hb2
    go_wp2
    go_ret2
    exact .no HO.out rfl HB.out
  · have d1 : decide ((l.length : Int) < (wd : Int)) = false := decide_eq_false (by omega)
    have d1n : decide (l.length < wd) = false := decide_eq_false hlt
    have HO := Aside0.mk (show getG (.num wd ⟨g, o, none⟩ n0) l = some (.num (valN (l.take wd)), l.drop wd) by show (if l.length < wd then none else _) = _; rw [if_neg hlt])
    obtain ⟨i5, hi5, hsz5⟩ := info5g
    have ht_ := cut_to (P := Try.prog) 27 5 .i64 Try.underlying27 hi5 A l.length c (wd : Int) (by omega) (by omega) hc
    have hf_ := cut_from (P := Try.prog) 27 5 .i64 Try.underlying27 hi5 1 hsz5 A l.length c (wd : Int) (by omega) (by omega)
    have hCT := Kd.C_take (m := wd) HR0.out (by omega)
    have hCF := Kd.C_drop (m := wd) (c := c) HR0.out (by omega) hc
    rw [show (Kd.int .u8).sz = 1 from rfl] at hCF
    rw [Int.toNat_natCast] at ht_ hf_
    have hlt_ : (l.take wd).length = wd := by rw [List.length_take]; omega
    have hld_ : (l.drop wd).length = l.length - wd := List.length_drop
    have hbt_ := bytes_take HBY.out wd
    have hbd_ := bytes_drop HBY.out wd
    obtain ⟨A2, hA2⟩ : ∃ Aq, (if c = wd then A else A.map (·.add (wd * 1))) = Aq := ⟨_, rfl⟩
    obtain ⟨c2, hc2_⟩ : ∃ cq : Nat, c - wd = cq := ⟨_, rfl⟩
    obtain ⟨l1, hl1_⟩ : ∃ lq, l.take wd = lq := ⟨_, rfl⟩
    obtain ⟨l2, hl2_⟩ : ∃ lq, l.drop wd = lq := ⟨_, rfl⟩
    rw [hA2] at hf_ hCF
    rw [hl1_] at hCT hlt_ hbt_
    rw [hl2_] at hCF hld_ hbd_
    rw [hl1_, hl2_] at HO
    rw [hc2_] at hf_
    have htl1 : ∀ W : World, (Instr.slice 27 (.slice A l.length c) none (some (.int .i64 (wd : Int))) none).run Try.prog W = .ok (.slice A l1.length c) W := fun W => by rw [hlt_]; exact ht_ W
    have hfl2 : ∀ W : World, (Instr.slice 27 (.slice A l.length c) (some (.int .i64 (wd : Int))) none none).run Try.prog W = .ok (.slice A2 l2.length c2) W := fun W => by rw [hld_]; exact hf_ W
    have HCl2 := Aside0.mk (show l2.length ≤ c2 by have := hc; omega)
    have HCl1 := Aside0.mk (show l1.length ≤ c by have := hc; omega)
    have HLl1 := Aside0.mk hlt_
    have HLl2 := Aside0.mk hld_
    have HRl1 := Aside0.mk hCT
    have HRl2 := Aside0.mk hCF
    have HBl1 := Aside0.mk hbt_
    have HBl2 := Aside0.mk hbd_
    clear ht_ hf_ hCT hCF hlt_ hld_ hbt_ hbd_ hA2 hc2_ hl1_ hl2_ hi5 hsz5 i5
    clear hlt ho
    go_enter Try.func57, Try.ntmps57
    go_upto_region 1 with fail
    (try rw [hW1])
    (try rw [hb2])
    clear hW1 hb2
    obtain ⟨n, hn⟩ : ∃ n, valN l1 = n := ⟨_, rfl⟩
    rw [hn] at HO
    have HG1 := Aside0.mk (show frame_Get.f 10 l1 = some (n : Int) by rw [← hn]; exact get_is l1 HBl1.out (by rw [HLl1.out]; omega))
    clear hn hw
    go_upto_region 9 with (go_at_call 83; (with_reducible refine (frame_Get.calls 10 A c l1 _ _ (Kd.C_below HRl1.out HBW.out) HCl1.out HG1.out).mono ?_); rintro e w3 ⟨rfl, hd_⟩; have HB3 := Aside0.mk (Drawn0.below hd_); have hc1 := (HB3.out.cell (World.block_lt_of_cell? _ _ hc1)).trans hc1; obtain ⟨hco, hfo⟩ := HGF.out _ HB3.out; clear hd_)
    go_wp2
    go_ret2
    exact .yes _ _ _ _ _ _ HO.out rfl HCl2.out HRl2.out (HB.out.trans (HB3.out.mono HB.out.size)) rfl rfl
def getp.T14 : Bool × List (List Nat × List Nat) := (true, [([], []), ([0], [0]), ([], []), ([], []), ([2, 3], [2, 3]), ([4], [4]), ([1, 0, 1, 2, 3, 4, 5], [1]), ([6, 5, 0, 1, 2, 3, 4, 5], [5, 6])])
def getp.B14 : List Nat := [0, 1, 0, 0, 12, 28, 63, 127]
theorem getp.tab14 : rtab .any (opsOf Try.f57 14) = getp.T14 := by kernel_rfl
theorem getp.bits14 : waitsOk getp.T14.2 getp.B14 = true := by kernel_rfl
set_option maxHeartbeats 8000000 in
set_option maxRecDepth 100000 in
theorem get_text (s0 : ByteArray) (w0 : World) (g o : Nat) (cells : Array Value) (ty : TypeId) (A : Option Addr) (c : Nat) (l : List Int) (w : World) (hB0 : Below w0.heap.size w0 w) (hr : Kd.C (Kd.int .u8) w0 A l.length l) (hc : l.length ≤ c) (hb : ∀ x ∈ l, 0 ≤ x ∧ x ≤ 255) (hl : l.length ≤ 140737488351232) (hg : w.heap[g]? = some (.cells cells ty (0, 0))) (ho : o < cells.size) :
    Calls Try.prog 57 #[.agg #[.int .i64 0, .pointer none, .pointer (some ⟨g, o, none⟩), .pointer none], .slice A l.length c] w fun e w' => GPost w0 w ⟨g, o, none⟩ (getG (.text ⟨g, o, none⟩ s0) l) e w' := by
  obtain ⟨old, hold⟩ : ∃ v, cells[o]? = some v := ⟨_, Array.getElem?_eq_getElem ho⟩
  obtain ⟨W1, hW1⟩ : ∃ W, w.alloc (.cells #[.int .i64 0, .pointer none, .pointer (some ⟨g, o, none⟩), .pointer none] 78) = W := ⟨_, rfl⟩
  obtain ⟨b2, hb2⟩ : ∃ x, w.heap.size = x := ⟨_, rfl⟩
  have hn := heap_alloc_new w (.cells #[.int .i64 0, .pointer none, .pointer (some ⟨g, o, none⟩), .pointer none] 78)
  have HB := Aside0.mk ((Below.refl _ w).alloc (Nat.le_refl _) (.cells #[.int .i64 0, .pointer none, .pointer (some ⟨g, o, none⟩), .pointer none] 78))
  rw [hW1] at hn HB
  rw [hb2] at hn
  have HN := Aside0.mk hn
  have hc0 : W1.cell? ⟨b2, 0, none⟩ = some (.int .i64 0) := (blk_cell hn 0).trans rfl
  have hc1 : W1.cell? ⟨b2, 1, none⟩ = some (.pointer none) := (blk_cell hn 1).trans rfl
  have hc2 : W1.cell? ⟨b2, 2, none⟩ = some (.pointer (some ⟨g, o, none⟩)) := (blk_cell hn 2).trans rfl
  have hc3 : W1.cell? ⟨b2, 3, none⟩ = some (.pointer none) := (blk_cell hn 3).trans rfl
  have HG := Aside0.mk (show W1.heap[g]? = some (.cells cells ty (0, 0)) from (HB.out.block _ (blk_ltn hg)).trans hg)
  have HBW := Aside0.mk (hB0.trans (HB.out.mono hB0.size))
  have HOLD := Aside0.mk hold
  have HGF := Aside0.mk (fun (W : World) (hB : Below W1.heap.size W1 W) => (⟨(blk_cell ((hB.block _ (blk_ltn HG.out)).trans HG.out) o).trans HOLD.out, blk_frozen ((hB.block _ (blk_ltn HG.out)).trans HG.out) o⟩ : W.cell? ⟨g, o, none⟩ = some old ∧ W.frozen? ⟨g, o, none⟩ = false))
  have HR0 := Aside0.mk hr
  have HC0 := Aside0.mk hc
  have HBY := Aside0.mk hb
  clear hn hg hr hold hb hB0
  by_cases hlt : l.length < 2
  · have d1 : decide ((l.length : Int) < 2) = true := decide_eq_true (by omega)
    have d1n : decide (l.length < 2) = true := decide_eq_true hlt
    have HO := Aside0.mk (show getG (.text ⟨g, o, none⟩ s0) l = none by show (if l.length < 2 then none else _) = none; rw [if_pos hlt])
    clear hlt ho
    go_enter Try.func57, Try.ntmps57
    go_upto_region 1 with fail
    (try rw [hW1])
    (try rw [hb2])
    clear hW1 hb2
    go_wp2
    go_ret2
    exact .no HO.out rfl HB.out
  have d1 : decide ((l.length : Int) < 2) = false := decide_eq_false (by omega)
  have d1n : decide (l.length < 2) = false := decide_eq_false hlt
  have HO := Aside0.mk (show getG (.text ⟨g, o, none⟩ s0) l = if (l.drop 2).length < valN (l.take 2) then none else some (.text (strOfNums ((l.drop 2).take (valN (l.take 2)))), (l.drop 2).drop (valN (l.take 2))) by show (if l.length < 2 then none else _) = _; rw [if_neg hlt])
  obtain ⟨wd, hwd⟩ : ∃ wd : Nat, wd = 2 := ⟨_, rfl⟩
  rw [← hwd] at HO hlt
  obtain ⟨i5, hi5, hsz5⟩ := info5g
  have ht_ := cut_to (P := Try.prog) 27 5 .i64 Try.underlying27 hi5 A l.length c (wd : Int) (by omega) (by omega) hc
  have hf_ := cut_from (P := Try.prog) 27 5 .i64 Try.underlying27 hi5 1 hsz5 A l.length c (wd : Int) (by omega) (by omega)
  have hCT := Kd.C_take (m := wd) HR0.out (by omega)
  have hCF := Kd.C_drop (m := wd) (c := c) HR0.out (by omega) hc
  rw [show (Kd.int .u8).sz = 1 from rfl] at hCF
  rw [Int.toNat_natCast] at ht_ hf_
  have hlt_ : (l.take wd).length = wd := by rw [List.length_take]; omega
  have hld_ : (l.drop wd).length = l.length - wd := List.length_drop
  have hbt_ := bytes_take HBY.out wd
  have hbd_ := bytes_drop HBY.out wd
  obtain ⟨A2, hA2⟩ : ∃ Aq, (if c = wd then A else A.map (·.add (wd * 1))) = Aq := ⟨_, rfl⟩
  obtain ⟨c2, hc2_⟩ : ∃ cq : Nat, c - wd = cq := ⟨_, rfl⟩
  obtain ⟨l1, hl1_⟩ : ∃ lq, l.take wd = lq := ⟨_, rfl⟩
  obtain ⟨l2, hl2_⟩ : ∃ lq, l.drop wd = lq := ⟨_, rfl⟩
  rw [hA2] at hf_ hCF
  rw [hl1_] at hCT hlt_ hbt_
  rw [hl2_] at hCF hld_ hbd_
  rw [hl1_, hl2_] at HO
  rw [hc2_] at hf_
  have htl1 : ∀ W : World, (Instr.slice 27 (.slice A l.length c) none (some (.int .i64 (wd : Int))) none).run Try.prog W = .ok (.slice A l1.length c) W := fun W => by rw [hlt_]; exact ht_ W
  have hfl2 : ∀ W : World, (Instr.slice 27 (.slice A l.length c) (some (.int .i64 (wd : Int))) none none).run Try.prog W = .ok (.slice A2 l2.length c2) W := fun W => by rw [hld_]; exact hf_ W
  have HCl2 := Aside0.mk (show l2.length ≤ c2 by have := hc; omega)
  have HCl1 := Aside0.mk (show l1.length ≤ c by have := hc; omega)
  have HLl1 := Aside0.mk hlt_
  have HLl2 := Aside0.mk hld_
  have HRl1 := Aside0.mk hCT
  have HRl2 := Aside0.mk hCF
  have HBl1 := Aside0.mk hbt_
  have HBl2 := Aside0.mk hbd_
  clear ht_ hf_ hCT hCF hlt_ hld_ hbt_ hbd_ hA2 hc2_ hl1_ hl2_ hi5 hsz5 i5
  obtain ⟨n, hn⟩ : ∃ n, valN l1 = n := ⟨_, rfl⟩
  rw [hn] at HO
  have HG1 := Aside0.mk (show frame_Get.f 10 l1 = some (n : Int) by rw [← hn]; exact get_is l1 HBl1.out (by rw [HLl1.out]; omega))
  have HL2L := Aside0.mk (show l2.length ≤ 140737488351232 by rw [HLl2.out]; omega)
  have hwi : (2 : Int) = (wd : Int) := by omega
  have d1w : decide ((l.length : Int) < (wd : Int)) = false := decide_eq_false (by omega)
  have d1wn : decide (l.length < wd) = false := decide_eq_false hlt
  clear hwd hn hlt ho hl
  by_cases hln : l2.length < n
  · rw [if_pos hln] at HO
    have d2 : decide ((l2.length : Int) < (n : Int)) = true := decide_eq_true (by omega)
    have d2n : decide (l2.length < n) = true := decide_eq_true hln
    clear hln
    go_enter Try.func57, Try.ntmps57
    go_upto_region 1 with fail
    (try rw [hW1])
    (try rw [hb2])
    clear hW1 hb2
    go_upto_region 6 with fail
    rw [hwi]
    go_wp2_with (go_at_call 83; (with_reducible refine (frame_Get.calls 10 A c l1 _ _ (Kd.C_below HRl1.out HBW.out) HCl1.out HG1.out).mono ?_); rintro e w3 ⟨rfl, hd_⟩; have HB3 := Aside0.mk (Drawn0.below hd_); have hc1 := (HB3.out.cell (World.block_lt_of_cell? _ _ hc1)).trans hc1; have hc2 := (HB3.out.cell (World.block_lt_of_cell? _ _ hc2)).trans hc2; have hc3 := (HB3.out.cell (World.block_lt_of_cell? _ _ hc3)).trans hc3; clear hd_)
    go_ret2
    exact .no HO.out rfl (HB.out.trans (HB3.out.mono HB.out.size))
  rw [if_neg hln] at HO
  have d2 : decide ((l2.length : Int) < (n : Int)) = false := decide_eq_false (by omega)
  have d2n : decide (l2.length < n) = false := decide_eq_false hln
  obtain ⟨i5, hi5, hsz5⟩ := info5g
  have ht_ := cut_to (P := Try.prog) 27 5 .i64 Try.underlying27 hi5 A2 l2.length c2 (n : Int) (by omega) (by omega) HCl2.out
  have hf_ := cut_from (P := Try.prog) 27 5 .i64 Try.underlying27 hi5 1 hsz5 A2 l2.length c2 (n : Int) (by omega) (by omega)
  have hCT := Kd.C_take (m := n) HRl2.out (by omega)
  have hCF := Kd.C_drop (m := n) (c := c2) HRl2.out (by omega) HCl2.out
  rw [show (Kd.int .u8).sz = 1 from rfl] at hCF
  rw [Int.toNat_natCast] at ht_ hf_
  have hlt_ : (l2.take n).length = n := by rw [List.length_take]; omega
  have hld_ : (l2.drop n).length = l2.length - n := List.length_drop
  have hbt_ := bytes_take HBl2.out n
  have hbd_ := bytes_drop HBl2.out n
  obtain ⟨A4, hA2⟩ : ∃ Aq, (if c2 = n then A2 else A2.map (·.add (n * 1))) = Aq := ⟨_, rfl⟩
  obtain ⟨c4, hc2_⟩ : ∃ cq : Nat, c2 - n = cq := ⟨_, rfl⟩
  obtain ⟨l3, hl1_⟩ : ∃ lq, l2.take n = lq := ⟨_, rfl⟩
  obtain ⟨l4, hl2_⟩ : ∃ lq, l2.drop n = lq := ⟨_, rfl⟩
  rw [hA2] at hf_ hCF
  rw [hl1_] at hCT hlt_ hbt_
  rw [hl2_] at hCF hld_ hbd_
  rw [hl1_, hl2_] at HO
  rw [hc2_] at hf_
  have htl3 : ∀ W : World, (Instr.slice 27 (.slice A2 l2.length c2) none (some (.int .i64 (n : Int))) none).run Try.prog W = .ok (.slice A2 l3.length c2) W := fun W => by rw [hlt_]; exact ht_ W
  have hfl4 : ∀ W : World, (Instr.slice 27 (.slice A2 l2.length c2) (some (.int .i64 (n : Int))) none none).run Try.prog W = .ok (.slice A4 l4.length c4) W := fun W => by rw [hld_]; exact hf_ W
  have HCl4 := Aside0.mk (show l4.length ≤ c4 by have := HCl2.out; omega)
  have HCl3 := Aside0.mk (show l3.length ≤ c2 by have := HCl2.out; omega)
  have HLl3 := Aside0.mk hlt_
  have HLl4 := Aside0.mk hld_
  have HRl3 := Aside0.mk hCT
  have HRl4 := Aside0.mk hCF
  have HBl3 := Aside0.mk hbt_
  have HBl4 := Aside0.mk hbd_
  clear ht_ hf_ hCT hCF hlt_ hld_ hbt_ hbd_ hA2 hc2_ hl1_ hl2_ hi5 hsz5 i5
  have HL3 := Aside0.mk (show l3.length < 140737488351233 by have := HL2L.out; rw [HLl3.out]; omega)
  clear hln
  go_enter Try.func57, Try.ntmps57
  go_upto_region 1 with fail
  (try rw [hW1])
  (try rw [hb2])
  clear hW1 hb2
  go_upto_region 6 with fail
  rw [hwi]
  go_upto_region 14 with (go_at_call 83; (with_reducible refine (frame_Get.calls 10 A c l1 _ _ (Kd.C_below HRl1.out HBW.out) HCl1.out HG1.out).mono ?_); rintro e w3 ⟨rfl, hd_⟩; have HB3 := Aside0.mk (Drawn0.below hd_); have hc1 := (HB3.out.cell (World.block_lt_of_cell? _ _ hc1)).trans hc1; have hc2 := (HB3.out.cell (World.block_lt_of_cell? _ _ hc2)).trans hc2; have hc3 := (HB3.out.cell (World.block_lt_of_cell? _ _ hc3)).trans hc3; clear hd_)
  refine start_ (n := 8) (S := fun w' => w'.cell? ⟨b2, 2, none⟩ = some (.pointer (some ⟨g, o, none⟩))) (ds := [7]) #[false, false, false, false, false, false, false, false] (by kernel_rfl) rfl rfl (hc2) (fun hHeld => ?_)
  refine with_tabW getp.tab14 getp.bits14 (fun HT_ HW_ => ?_)
  have HB4 := Aside0.mk (below_drew1 HB3.out)
  have hc2 := (show w3.drew.cell? _ = _ from hc2)
  generalize w3.drew = w4 at HB4 hc2 hHeld ⊢
  obtain ⟨hco, hfo⟩ := HGF.out _ HB4.out
  have hcv := Kd.C_string (P := Try.prog) (src := 27) (dst := 9) (e := 5) (c := c2) Try.underlying27 Try.underlying5 Try.underlying9 (Kd.C_below HRl3.out (HBW.out.trans (HB4.out.mono HBW.out.size)))
  refine pure_ (i := 0) (N := some 39) (v := ?_) (a' := ?_) #[true, false, false, false, false, false, false, false] rfl rfl (any_of HT_.out (by kernel_rfl)) (fun _ _ _ h => h) (Or.inl ⟨by rfl, ?_⟩) ?_ ?_
  rotate_left
  · intro w'
    go_simp
    with_reducible rfl
  rotate_left
  · simp only [Act.put, List.setIfInBounds_toArray, List.set_cons_zero, List.set_cons_succ, i64_w, i32_w]
    rfl
  refine pure_ (i := 2) (N := some 41) (v := ?_) (a' := ?_) #[true, false, true, false, false, false, false, false] rfl rfl (any_of HT_.out (by kernel_rfl)) (fun _ _ _ h => h) (Or.inl ⟨by rfl, ?_⟩) ?_ ?_
  rotate_left
  · intro w'
    go_simp
    with_reducible rfl
  rotate_left
  · simp only [Act.put, List.setIfInBounds_toArray, List.set_cons_zero, List.set_cons_succ, i64_w, i32_w]
    rfl
  refine pure_ (i := 3) (N := some 42) (v := ?_) (a' := ?_) #[true, false, true, true, false, false, false, false] rfl rfl (any_of HT_.out (by kernel_rfl)) (fun _ _ _ h => h) (Or.inl ⟨by rfl, ?_⟩) ?_ ?_
  rotate_left
  · intro w'
    go_simp
    with_reducible rfl
  rotate_left
  · simp only [Act.put, List.setIfInBounds_toArray, List.set_cons_zero, List.set_cons_succ, i64_w, i32_w]
    rfl
  refine pure_ (i := 4) (N := some 43) (v := ?_) (a' := ?_) #[true, false, true, true, true, false, false, false] rfl rfl (any_of HT_.out (by kernel_rfl)) (fun _ _ _ h => h) (Or.inl ⟨by rfl, ?_⟩) ?_ ?_
  rotate_left
  · intro w'
    go_simp
    with_reducible rfl
  rotate_left
  · simp only [Act.put, List.setIfInBounds_toArray, List.set_cons_zero, List.set_cons_succ, i64_w, i32_w]
    rfl
  refine take_ (i := 1) (N := some 40) (v := ?_) (a' := ?_) #[true, true, true, true, true, false, false, false] rfl rfl (take_ofW HT_.out HW_.out (by kernel_rfl)) (fun _ _ _ h => h) (Or.inl ⟨by rfl, ?_⟩) hHeld ?_ ?_
  rotate_left
  · intro w' s0
    go_simp
    with_reducible rfl
  rotate_left
  · simp only [Act.put, List.setIfInBounds_toArray, List.set_cons_zero, List.set_cons_succ, i64_w, i32_w]
    rfl
  refine one_ (i := 5) (N := some 44) #[true, true, true, true, true, true, false, false] rfl rfl (one_of HT_.out (by kernel_rfl)) (by decide) (fun K hK => ?_)
  refine value_ (w1 := ?_) (v := ?_) (by rfl) rfl ?_ ?_
  rotate_left 2
  · go_simp
    constructor
    · rfl
    · rfl
  refine hK.out _ _ (hc2) (fun hHeld => ?_)
  clear hK K
  refine norm_ (a' := ?_) ?_ ?_
  rotate_left
  · show Act.put _ (some 44) _ = _
    simp only [Act.put, List.setIfInBounds_toArray, List.set_cons_zero, List.set_cons_succ, i64_w, i32_w]
    rfl
  refine pure_ (i := 6) (N := some 45) (v := ?_) (a' := ?_) #[true, true, true, true, true, true, true, false] rfl rfl (any_of HT_.out (by kernel_rfl)) (fun _ _ _ h => h) (Or.inl ⟨by rfl, ?_⟩) ?_ ?_
  rotate_left
  · intro w'
    go_simp
    with_reducible rfl
  rotate_left
  · simp only [Act.put, List.setIfInBounds_toArray, List.set_cons_zero, List.set_cons_succ, i64_w, i32_w]
    rfl
  refine last_ (i := 7) (N := none) #[true, true, true, true, true, true, true, true] rfl rfl (one_of HT_.out (by kernel_rfl)) (by decide) (fun K hK => ?_)
  refine skip_ (w1 := ?_) (by rfl) rfl ?_ ?_
  rotate_left
  · go_simp
    rfl
  refine hK.out _ _ ?_
  clear hK K
  refine done_ (done_of HT_.out (by kernel_rfl)) ?_
  go_wp2
  go_ret2
  exact .yes _ _ _ _ w4 (.string (strOfNums l3)) HO.out rfl HCl4.out HRl4.out (HB.out.trans (HB4.out.mono HB.out.size)) rfl rfl
def getp.T15 : Bool × List (List Nat × List Nat) := (true, [([], []), ([0], [0]), ([], []), ([], []), ([2, 3], [2, 3]), ([4], [4]), ([1, 0, 1, 2, 3, 4, 5], [1]), ([6, 5, 5, 0, 1, 2, 3, 4, 5], [5, 6])])
def getp.B15 : List Nat := [0, 1, 0, 0, 12, 28, 63, 127]
theorem getp.tab15 : rtab .any (opsOf Try.f57 15) = getp.T15 := by kernel_rfl
theorem getp.bits15 : waitsOk getp.T15.2 getp.B15 = true := by kernel_rfl
set_option maxHeartbeats 8000000 in
set_option maxRecDepth 100000 in
theorem get_data (A0 : Option Addr) (l0 : List Int) (c0_ : Nat) (w0 : World) (g o : Nat) (cells : Array Value) (ty : TypeId) (A : Option Addr) (c : Nat) (l : List Int) (w : World) (hB0 : Below w0.heap.size w0 w) (hr : Kd.C (Kd.int .u8) w0 A l.length l) (hc : l.length ≤ c) (hb : ∀ x ∈ l, 0 ≤ x ∧ x ≤ 255) (hl : l.length ≤ 140737488351232) (hg : w.heap[g]? = some (.cells cells ty (0, 0))) (ho : o < cells.size) :
    Calls Try.prog 57 #[.agg #[.int .i64 0, .pointer none, .pointer none, .pointer (some ⟨g, o, none⟩)], .slice A l.length c] w fun e w' => GPost w0 w ⟨g, o, none⟩ (getG (.data ⟨g, o, none⟩ A0 l0 c0_) l) e w' := by
  obtain ⟨old, hold⟩ : ∃ v, cells[o]? = some v := ⟨_, Array.getElem?_eq_getElem ho⟩
  obtain ⟨W1, hW1⟩ : ∃ W, w.alloc (.cells #[.int .i64 0, .pointer none, .pointer none, .pointer (some ⟨g, o, none⟩)] 78) = W := ⟨_, rfl⟩
  obtain ⟨b2, hb2⟩ : ∃ x, w.heap.size = x := ⟨_, rfl⟩
  have hn := heap_alloc_new w (.cells #[.int .i64 0, .pointer none, .pointer none, .pointer (some ⟨g, o, none⟩)] 78)
  have HB := Aside0.mk ((Below.refl _ w).alloc (Nat.le_refl _) (.cells #[.int .i64 0, .pointer none, .pointer none, .pointer (some ⟨g, o, none⟩)] 78))
  rw [hW1] at hn HB
  rw [hb2] at hn
  have HN := Aside0.mk hn
  have hc0 : W1.cell? ⟨b2, 0, none⟩ = some (.int .i64 0) := (blk_cell hn 0).trans rfl
  have hc1 : W1.cell? ⟨b2, 1, none⟩ = some (.pointer none) := (blk_cell hn 1).trans rfl
  have hc2 : W1.cell? ⟨b2, 2, none⟩ = some (.pointer none) := (blk_cell hn 2).trans rfl
  have hc3 : W1.cell? ⟨b2, 3, none⟩ = some (.pointer (some ⟨g, o, none⟩)) := (blk_cell hn 3).trans rfl
  have HG := Aside0.mk (show W1.heap[g]? = some (.cells cells ty (0, 0)) from (HB.out.block _ (blk_ltn hg)).trans hg)
  have HBW := Aside0.mk (hB0.trans (HB.out.mono hB0.size))
  have HOLD := Aside0.mk hold
  have HGF := Aside0.mk (fun (W : World) (hB : Below W1.heap.size W1 W) => (⟨(blk_cell ((hB.block _ (blk_ltn HG.out)).trans HG.out) o).trans HOLD.out, blk_frozen ((hB.block _ (blk_ltn HG.out)).trans HG.out) o⟩ : W.cell? ⟨g, o, none⟩ = some old ∧ W.frozen? ⟨g, o, none⟩ = false))
  have HR0 := Aside0.mk hr
  have HC0 := Aside0.mk hc
  have HBY := Aside0.mk hb
  clear hn hg hr hold hb hB0
  by_cases hlt : l.length < 2
  · have d1 : decide ((l.length : Int) < 2) = true := decide_eq_true (by omega)
    have d1n : decide (l.length < 2) = true := decide_eq_true hlt
    have HO := Aside0.mk (show getG (.data ⟨g, o, none⟩ A0 l0 c0_) l = none by show (if l.length < 2 then none else _) = none; rw [if_pos hlt])
    clear hlt ho
    go_enter Try.func57, Try.ntmps57
    go_upto_region 1 with fail
    (try rw [hW1])
    (try rw [hb2])
    clear hW1 hb2
    go_wp2
    go_ret2
    exact .no HO.out rfl HB.out
  have d1 : decide ((l.length : Int) < 2) = false := decide_eq_false (by omega)
  have d1n : decide (l.length < 2) = false := decide_eq_false hlt
  have HO := Aside0.mk (show getG (.data ⟨g, o, none⟩ A0 l0 c0_) l = if (l.drop 2).length < valN (l.take 2) then none else some (.data ((l.drop 2).take (valN (l.take 2))), (l.drop 2).drop (valN (l.take 2))) by show (if l.length < 2 then none else _) = _; rw [if_neg hlt])
  obtain ⟨wd, hwd⟩ : ∃ wd : Nat, wd = 2 := ⟨_, rfl⟩
  rw [← hwd] at HO hlt
  obtain ⟨i5, hi5, hsz5⟩ := info5g
  have ht_ := cut_to (P := Try.prog) 27 5 .i64 Try.underlying27 hi5 A l.length c (wd : Int) (by omega) (by omega) hc
  have hf_ := cut_from (P := Try.prog) 27 5 .i64 Try.underlying27 hi5 1 hsz5 A l.length c (wd : Int) (by omega) (by omega)
  have hCT := Kd.C_take (m := wd) HR0.out (by omega)
  have hCF := Kd.C_drop (m := wd) (c := c) HR0.out (by omega) hc
  rw [show (Kd.int .u8).sz = 1 from rfl] at hCF
  rw [Int.toNat_natCast] at ht_ hf_
  have hlt_ : (l.take wd).length = wd := by rw [List.length_take]; omega
  have hld_ : (l.drop wd).length = l.length - wd := List.length_drop
  have hbt_ := bytes_take HBY.out wd
  have hbd_ := bytes_drop HBY.out wd
  obtain ⟨A2, hA2⟩ : ∃ Aq, (if c = wd then A else A.map (·.add (wd * 1))) = Aq := ⟨_, rfl⟩
  obtain ⟨c2, hc2_⟩ : ∃ cq : Nat, c - wd = cq := ⟨_, rfl⟩
  obtain ⟨l1, hl1_⟩ : ∃ lq, l.take wd = lq := ⟨_, rfl⟩
  obtain ⟨l2, hl2_⟩ : ∃ lq, l.drop wd = lq := ⟨_, rfl⟩
  rw [hA2] at hf_ hCF
  rw [hl1_] at hCT hlt_ hbt_
  rw [hl2_] at hCF hld_ hbd_
  rw [hl1_, hl2_] at HO
  rw [hc2_] at hf_
  have htl1 : ∀ W : World, (Instr.slice 27 (.slice A l.length c) none (some (.int .i64 (wd : Int))) none).run Try.prog W = .ok (.slice A l1.length c) W := fun W => by rw [hlt_]; exact ht_ W
  have hfl2 : ∀ W : World, (Instr.slice 27 (.slice A l.length c) (some (.int .i64 (wd : Int))) none none).run Try.prog W = .ok (.slice A2 l2.length c2) W := fun W => by rw [hld_]; exact hf_ W
  have HCl2 := Aside0.mk (show l2.length ≤ c2 by have := hc; omega)
  have HCl1 := Aside0.mk (show l1.length ≤ c by have := hc; omega)
  have HLl1 := Aside0.mk hlt_
  have HLl2 := Aside0.mk hld_
  have HRl1 := Aside0.mk hCT
  have HRl2 := Aside0.mk hCF
  have HBl1 := Aside0.mk hbt_
  have HBl2 := Aside0.mk hbd_
  clear ht_ hf_ hCT hCF hlt_ hld_ hbt_ hbd_ hA2 hc2_ hl1_ hl2_ hi5 hsz5 i5
  obtain ⟨n, hn⟩ : ∃ n, valN l1 = n := ⟨_, rfl⟩
  rw [hn] at HO
  have HG1 := Aside0.mk (show frame_Get.f 10 l1 = some (n : Int) by rw [← hn]; exact get_is l1 HBl1.out (by rw [HLl1.out]; omega))
  have HL2L := Aside0.mk (show l2.length ≤ 140737488351232 by rw [HLl2.out]; omega)
  have hwi : (2 : Int) = (wd : Int) := by omega
  have d1w : decide ((l.length : Int) < (wd : Int)) = false := decide_eq_false (by omega)
  have d1wn : decide (l.length < wd) = false := decide_eq_false hlt
  clear hwd hn hlt ho hl
  by_cases hln : l2.length < n
  · rw [if_pos hln] at HO
    have d2 : decide ((l2.length : Int) < (n : Int)) = true := decide_eq_true (by omega)
    have d2n : decide (l2.length < n) = true := decide_eq_true hln
    clear hln
    go_enter Try.func57, Try.ntmps57
    go_upto_region 1 with fail
    (try rw [hW1])
    (try rw [hb2])
    clear hW1 hb2
    go_upto_region 6 with fail
    rw [hwi]
    go_wp2_with (go_at_call 83; (with_reducible refine (frame_Get.calls 10 A c l1 _ _ (Kd.C_below HRl1.out HBW.out) HCl1.out HG1.out).mono ?_); rintro e w3 ⟨rfl, hd_⟩; have HB3 := Aside0.mk (Drawn0.below hd_); have hc1 := (HB3.out.cell (World.block_lt_of_cell? _ _ hc1)).trans hc1; have hc2 := (HB3.out.cell (World.block_lt_of_cell? _ _ hc2)).trans hc2; have hc3 := (HB3.out.cell (World.block_lt_of_cell? _ _ hc3)).trans hc3; clear hd_)
    go_ret2
    exact .no HO.out rfl (HB.out.trans (HB3.out.mono HB.out.size))
  rw [if_neg hln] at HO
  have d2 : decide ((l2.length : Int) < (n : Int)) = false := decide_eq_false (by omega)
  have d2n : decide (l2.length < n) = false := decide_eq_false hln
  obtain ⟨i5, hi5, hsz5⟩ := info5g
  have ht_ := cut_to (P := Try.prog) 27 5 .i64 Try.underlying27 hi5 A2 l2.length c2 (n : Int) (by omega) (by omega) HCl2.out
  have hf_ := cut_from (P := Try.prog) 27 5 .i64 Try.underlying27 hi5 1 hsz5 A2 l2.length c2 (n : Int) (by omega) (by omega)
  have hCT := Kd.C_take (m := n) HRl2.out (by omega)
  have hCF := Kd.C_drop (m := n) (c := c2) HRl2.out (by omega) HCl2.out
  rw [show (Kd.int .u8).sz = 1 from rfl] at hCF
  rw [Int.toNat_natCast] at ht_ hf_
  have hlt_ : (l2.take n).length = n := by rw [List.length_take]; omega
  have hld_ : (l2.drop n).length = l2.length - n := List.length_drop
  have hbt_ := bytes_take HBl2.out n
  have hbd_ := bytes_drop HBl2.out n
  obtain ⟨A4, hA2⟩ : ∃ Aq, (if c2 = n then A2 else A2.map (·.add (n * 1))) = Aq := ⟨_, rfl⟩
  obtain ⟨c4, hc2_⟩ : ∃ cq : Nat, c2 - n = cq := ⟨_, rfl⟩
  obtain ⟨l3, hl1_⟩ : ∃ lq, l2.take n = lq := ⟨_, rfl⟩
  obtain ⟨l4, hl2_⟩ : ∃ lq, l2.drop n = lq := ⟨_, rfl⟩
  rw [hA2] at hf_ hCF
  rw [hl1_] at hCT hlt_ hbt_
  rw [hl2_] at hCF hld_ hbd_
  rw [hl1_, hl2_] at HO
  rw [hc2_] at hf_
  have htl3 : ∀ W : World, (Instr.slice 27 (.slice A2 l2.length c2) none (some (.int .i64 (n : Int))) none).run Try.prog W = .ok (.slice A2 l3.length c2) W := fun W => by rw [hlt_]; exact ht_ W
  have hfl4 : ∀ W : World, (Instr.slice 27 (.slice A2 l2.length c2) (some (.int .i64 (n : Int))) none none).run Try.prog W = .ok (.slice A4 l4.length c4) W := fun W => by rw [hld_]; exact hf_ W
  have HCl4 := Aside0.mk (show l4.length ≤ c4 by have := HCl2.out; omega)
  have HCl3 := Aside0.mk (show l3.length ≤ c2 by have := HCl2.out; omega)
  have HLl3 := Aside0.mk hlt_
  have HLl4 := Aside0.mk hld_
  have HRl3 := Aside0.mk hCT
  have HRl4 := Aside0.mk hCF
  have HBl3 := Aside0.mk hbt_
  have HBl4 := Aside0.mk hbd_
  clear ht_ hf_ hCT hCF hlt_ hld_ hbt_ hbd_ hA2 hc2_ hl1_ hl2_ hi5 hsz5 i5
  have HL3 := Aside0.mk (show l3.length < 140737488351233 by have := HL2L.out; rw [HLl3.out]; omega)
  clear hln
  go_enter Try.func57, Try.ntmps57
  go_upto_region 1 with fail
  (try rw [hW1])
  (try rw [hb2])
  clear hW1 hb2
  go_upto_region 6 with fail
  rw [hwi]
  go_upto_region 15 with (go_at_call 83; (with_reducible refine (frame_Get.calls 10 A c l1 _ _ (Kd.C_below HRl1.out HBW.out) HCl1.out HG1.out).mono ?_); rintro e w3 ⟨rfl, hd_⟩; have HB3 := Aside0.mk (Drawn0.below hd_); have hc1 := (HB3.out.cell (World.block_lt_of_cell? _ _ hc1)).trans hc1; have hc2 := (HB3.out.cell (World.block_lt_of_cell? _ _ hc2)).trans hc2; have hc3 := (HB3.out.cell (World.block_lt_of_cell? _ _ hc3)).trans hc3; clear hd_)
  refine start_ (n := 8) (S := fun w' => w'.cell? ⟨b2, 3, none⟩ = some (.pointer (some ⟨g, o, none⟩))) (ds := [7]) #[false, false, false, false, false, false, false, false] (by kernel_rfl) rfl rfl (hc3) (fun hHeld => ?_)
  refine with_tabW getp.tab15 getp.bits15 (fun HT_ HW_ => ?_)
  have HB4 := Aside0.mk (below_drew1 HB3.out)
  have hc3 := (show w3.drew.cell? _ = _ from hc3)
  generalize w3.drew = w4 at HB4 hc3 hHeld ⊢
  refine pure_ (i := 0) (N := some 46) (v := ?_) (a' := ?_) #[true, false, false, false, false, false, false, false] rfl rfl (any_of HT_.out (by kernel_rfl)) (fun _ _ _ h => h) (Or.inl ⟨by rfl, ?_⟩) ?_ ?_
  rotate_left
  · intro w'
    go_simp
    with_reducible rfl
  rotate_left
  · simp only [Act.put, List.setIfInBounds_toArray, List.set_cons_zero, List.set_cons_succ, i64_w, i32_w]
    rfl
  refine pure_ (i := 2) (N := some 48) (v := ?_) (a' := ?_) #[true, false, true, false, false, false, false, false] rfl rfl (any_of HT_.out (by kernel_rfl)) (fun _ _ _ h => h) (Or.inl ⟨by rfl, ?_⟩) ?_ ?_
  rotate_left
  · intro w'
    go_simp
    with_reducible rfl
  rotate_left
  · simp only [Act.put, List.setIfInBounds_toArray, List.set_cons_zero, List.set_cons_succ, i64_w, i32_w]
    rfl
  refine pure_ (i := 3) (N := some 49) (v := ?_) (a' := ?_) #[true, false, true, true, false, false, false, false] rfl rfl (any_of HT_.out (by kernel_rfl)) (fun _ _ _ h => h) (Or.inl ⟨by rfl, ?_⟩) ?_ ?_
  rotate_left
  · intro w'
    go_simp
    with_reducible rfl
  rotate_left
  · simp only [Act.put, List.setIfInBounds_toArray, List.set_cons_zero, List.set_cons_succ, i64_w, i32_w]
    rfl
  refine pure_ (i := 4) (N := some 50) (v := ?_) (a' := ?_) #[true, false, true, true, true, false, false, false] rfl rfl (any_of HT_.out (by kernel_rfl)) (fun _ _ _ h => h) (Or.inl ⟨by rfl, ?_⟩) ?_ ?_
  rotate_left
  · intro w'
    go_simp
    with_reducible rfl
  rotate_left
  · simp only [Act.put, List.setIfInBounds_toArray, List.set_cons_zero, List.set_cons_succ, i64_w, i32_w]
    rfl
  refine take_ (i := 1) (N := some 47) (v := ?_) (a' := ?_) #[true, true, true, true, true, false, false, false] rfl rfl (take_ofW HT_.out HW_.out (by kernel_rfl)) (fun _ _ _ h => h) (Or.inl ⟨by rfl, ?_⟩) hHeld ?_ ?_
  rotate_left
  · intro w' s0
    go_simp
    with_reducible rfl
  rotate_left
  · simp only [Act.put, List.setIfInBounds_toArray, List.set_cons_zero, List.set_cons_succ, i64_w, i32_w]
    rfl
  refine one_ (i := 5) (N := some 51) #[true, true, true, true, true, true, false, false] rfl rfl (one_of HT_.out (by kernel_rfl)) (by decide) (fun K hK => ?_)
  refine call_ 84 #[.slice A2 l3.length c2] (by rfl) rfl ?hr ?_
  (case hr => first | rfl | (go_simp; done) | (go_simp; rfl))
  refine (slices_Clone_byte_byte.calls A2 c2 l3 l3 _ (Kd.C_below HRl3.out (HBW.out.trans (HB4.out.mono HBW.out.size))) HCl3.out (by unfold slices_Clone_byte_byte.f; rw [if_pos (by have := HL3.out; omega)])).mono ?_
  rintro e' w5 ⟨v5, rfl, ho5, hb5⟩
  obtain ⟨A5, c5, e5⟩ := Kd.R_slice ho5
  subst e5
  refine ⟨_, rfl, ?_⟩
  have HB5 := Aside0.mk (HB4.out.trans (hb5.mono HB4.out.size))
  have HO5 := Aside0.mk (Kd.R_lower ho5 (Nat.le_trans HB.out.size HB4.out.size))
  have hc3 := (hb5.cell (World.block_lt_of_cell? _ _ hc3)).trans hc3
  obtain ⟨hco, hfo⟩ := HGF.out _ HB5.out
  clear ho5 hb5
  refine hK.out _ _ (hc3) (fun hHeld => ?_)
  clear hK K
  refine norm_ (a' := ?_) ?_ ?_
  rotate_left
  · show Act.put _ (some 51) _ = _
    simp only [Act.put, List.setIfInBounds_toArray, List.set_cons_zero, List.set_cons_succ, i64_w, i32_w]
    rfl
  refine pure_ (i := 6) (N := some 52) (v := ?_) (a' := ?_) #[true, true, true, true, true, true, true, false] rfl rfl (any_of HT_.out (by kernel_rfl)) (fun _ _ _ h => h) (Or.inl ⟨by rfl, ?_⟩) ?_ ?_
  rotate_left
  · intro w'
    go_simp
    with_reducible rfl
  rotate_left
  · simp only [Act.put, List.setIfInBounds_toArray, List.set_cons_zero, List.set_cons_succ, i64_w, i32_w]
    rfl
  refine last_ (i := 7) (N := none) #[true, true, true, true, true, true, true, true] rfl rfl (one_of HT_.out (by kernel_rfl)) (by decide) (fun K hK => ?_)
  refine skip_ (w1 := ?_) (by rfl) rfl ?_ ?_
  rotate_left
  · go_simp
    rfl
  refine hK.out _ _ ?_
  clear hK K
  refine done_ (done_of HT_.out (by kernel_rfl)) ?_
  go_wp2
  go_ret2
  exact .yes _ _ _ _ w5 _ HO.out rfl HCl4.out HRl4.out (HB.out.trans (HB5.out.mono HB.out.size)) HO5.out rfl
end Go.Proofs.Ytkghoodhgihokaa.Msg
