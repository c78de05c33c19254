/- The contracts of the functions that the law DeltaDeltas reaches: Go's code comes to what these Lean functions tell (written by a program of ours and the kit's, out of the translation). -/
import Derived.Maps.OwnRows
import Derived.Maps.GroupsBeside
import Derived.Maps.Views
import Derived.Outline
import Derived.Test.YtjhmjgcebijmiaaHDeltaDeltasx0
import Derived.Test.YtjhmjgcebijmiaaHDeltaDeltasx1
namespace Go.Proofs.Ytjhmjgcebijmiaa.HDeltaDeltas
open Go.RowKit Go.Proofs.YtjhmjgcebijmiaaW.PrintWords Go.Proofs.YtjhmjgcebijmiaaW.PrintLast Go.Proofs.YtjhmjgcebijmiaaW.PrintMore
attribute [local go_sem] max2_int min2_int max_two min_two max_three min_three max_four min_four   -- for this text's walks alone
set_option linter.unusedVariables false
set_option linter.unusedSimpArgs false

/-! ### delta_Delta: function 17 -/
section
open Go.Maps Go.WideMaps
open Go.ChangeShapes (lits)
theorem infoI3 : (Try.prog.info? 3).map (fun i => (i.zero, i.size, i.bytes)) = some (some (.int .i64 0), 1, 8) := by kernel_rfl
theorem zero59 (w : World) : (zeroValue 59).run Try.prog w = .ok (.slice none 0 0) w := by kernel_rfl
theorem keyed9 : Keyed Try.prog 9 := string_keyed Try.underlying9
/-- The run of eight bytes from place i on. -/
def run8 (l : List Int) (i : Nat) : List Int := (l.take (i + 8)).drop i
theorem run8_length (l : List Int) (i : Nat) (h : i + 8 ≤ l.length) : (run8 l i).length = 8 := by unfold run8; rw [List.length_drop, List.length_take]; omega
theorem run8_mem {l : List Int} {i : Nat} {a : Int} (h : a ∈ run8 l i) : a ∈ l := List.mem_of_mem_take (List.mem_of_mem_drop h)
def kl (x : List Int) : Lit := .string (strOfNums x).data.toList
/-- The places below n where the run stands. -/
def idx (l : List Int) (x : List Int) (n : Nat) : List Int := ((List.range n).filter (fun i => run8 l i = x)).map (fun i : Nat => (i : Int))
def datum (zs : List Int) : DataW Unit := if zs = [] then .nil else .slice (lits .i64 zs) []
theorem idx_hit (l x : List Int) (n : Nat) (h : run8 l n = x) : idx l x (n + 1) = idx l x n ++ [(n : Int)] := by
  unfold idx
  rw [List.range_succ, List.filter_append, List.filter_cons, if_pos (by simp [h])]
  simp
theorem idx_miss (l x : List Int) (n : Nat) (h : run8 l n ≠ x) : idx l x (n + 1) = idx l x n := by
  unfold idx
  rw [List.range_succ, List.filter_append, List.filter_cons, if_neg (by simp [h])]
  simp
theorem kl_inj {x y : List Int} (hx : ∀ a ∈ x, 0 ≤ a ∧ a ≤ 255) (hy : ∀ a ∈ y, 0 ≤ a ∧ a ≤ 255) (h : kl x = kl y) : x = y := by
  simp only [kl, strOfNums, Lit.string.injEq] at h
  have h2 := congrArg (List.map fun b : UInt8 => (b.toNat : Int)) h
  simp only [List.map_map] at h2
  have e : ∀ l : List Int, (∀ a ∈ l, 0 ≤ a ∧ a ≤ 255) → l.map ((fun b : UInt8 => (b.toNat : Int)) ∘ fun n : Int => UInt8.ofNat n.toNat) = l := by
    intro l hl
    conv => rhs; rw [← List.map_id l]
    refine List.map_congr_left fun a ha => ?_
    have := hl a ha
    simp only [Function.comp, UInt8.toNat_ofNat', id]
    omega
  rw [e x hx, e y hy] at h2
  exact h2
theorem meas_ (n i : Nat) (h : i < n) : n - (intOf (.int .i64 ((i : Int) + 1))).toNat < n - (intOf (.int .i64 (i : Int))).toNat := by simp only [intOf]; omega
theorem kl_key (x : List Int) (h : x.length = 8) : keyOf Try.prog 9 (.string (strOfNums x)) = some (kl x) := keyOf_string_mk Try.underlying9 (by
  have e : (strOfNums x).size = x.length := by show ((x.map fun n => UInt8.ofNat n.toNat).toArray).size = x.length; rw [List.size_toArray, List.length_map]
  rw [e, h]
  decide)
theorem datum_row {w : World} {base : Nat} {v : Value} {zs ys : List Int} (h : w.ownsInts base 3 .i64 v zs) (hd : datum ys = rowDatum .i64 v zs) : zs = ys := by
  unfold datum at hd
  rcases h.datum (H := Unit) with ⟨h1, rfl⟩ | h1
  · rw [h1] at hd
    split at hd
    · rename_i e; exact e.symm
    · cases hd
  · rw [h1] at hd
    split at hd
    · cases hd
    · simp only [lits, DataW.slice.injEq, and_true] at hd
      have h2 := congrArg (List.map fun d : DataW Unit => match d with | .lit (.int _ n) => n | _ => 0) hd
      have e : ∀ l : List Int, List.map (fun d : DataW Unit => match d with | .lit (.int _ n) => n | _ => 0) (l.map fun n => .lit (.int .i64 n)) = l := by
        intro l
        induction l with
        | nil => rfl
        | cons a l ih => rw [List.map_cons, List.map_cons, ih]
      rw [e, e] at h2
      exact h2.symm
set_option maxRecDepth 100000 in
set_option maxHeartbeats 2000000 in
theorem delta_seeds.calls (A0 : Option Addr) (c0 : Nat) (l0 : List Int) (w : World) (hr0 : Kd.C (Kd.int .u8) w A0 l0.length l0) (hc0 : l0.length ≤ c0) (hl : l0.length ≤ 2048) (hby : ∀ x ∈ l0, 0 ≤ x ∧ x ≤ 255) :
    Calls Try.prog 47 #[.slice A0 l0.length c0] w fun e w' => e = .returned (.map (some w.heap.size)) ∧ (∃ D : DataW Unit, w'.ownsGroups Try.prog 9 (w.heap.size + 1) 3 .i64 w.heap.size (l0.length - 7) D ∧ ∀ x : List Int, x.length = 8 → (∀ a ∈ x, 0 ≤ a ∧ a ≤ 255) → D.atKey (kl x) .nil = datum (idx l0 x (l0.length - 7))) ∧ Below w.heap.size w w' := by
  have hmm := @run_makeMap Try.prog
  obtain ⟨i0, hi, hz0, hz1, hz2⟩ := info_parts infoI3
  obtain ⟨i5, hi5, _, hsz5, _⟩ := info_parts info5
  have HR0 := Aside0.mk hr0
  have HC0 := Aside0.mk hc0
  clear hr0
  go_enter Try.func47, Try.ntmps47
  go_wp2
  go_loopw [4] (fun v4 wr => ∃ (i : Nat) (D : DataW Unit), v4 = .int .i64 (i : Int) ∧ Aside0 (i ≤ l0.length - 7) ∧ Aside0 (IsMap D) ∧ wr.ownsGroups Try.prog 9 (w.heap.size + 1) 3 .i64 w.heap.size i D ∧ Aside0 (∀ x : List Int, x.length = 8 → (∀ a ∈ x, 0 ≤ a ∧ a ≤ 255) → D.atKey (kl x) .nil = datum (idx l0 x i)) ∧ Aside0 (Below w.heap.size w wr) ∧ Aside0 (w.heap.size + 1 ≤ wr.heap.size))
    (fun v4 _ => l0.length + 1 - (intOf v4).toNat)
  case atStart => exact ⟨0, .map [], rfl, ⟨Nat.zero_le _⟩, ⟨isMap_empty⟩, World.ownsGroups_made _ _ _ _ _, ⟨fun x _ _ => rfl⟩, ⟨(Below.refl _ _).alloc (Nat.le_refl _) _⟩, ⟨by simp⟩⟩
  case round =>
    obtain ⟨i, D, rfl, HI, HM, hown, HD, HB, HS⟩ := hrel
    have hi8 : i ≤ 2048 := by have := HI.out; omega
    by_cases hlt : i + 8 ≤ l0.length
    · have b1_ : decide ((i : Int) + 8 ≤ (l0.length : Int)) = true := decide_eq_true (by omega)
      have hx8 := run8_length l0 i hlt
      have hxb : ∀ a ∈ run8 l0 i, 0 ≤ a ∧ a ≤ 255 := fun a ha => hby a (run8_mem ha)
      have hcut := cut_mid (P := Try.prog) 30 5 .i64 .i64 Try.underlying30 hi5 1 hsz5 A0 l0.length c0 (i : Int) ((i : Int) + 8) (by omega) (by omega) (by omega) hc0
      have hC := Kd.C_mid (lo := i) (hi := i + 8) (c := c0) (Kd.C_below HR0.out HB.out) (by omega) hlt hc0
      rw [show (((i : Int) + 8).toNat - (i : Int).toNat) = 8 by omega, show (i : Int).toNat = i by omega] at hcut
      change Kd.C _ _ _ (run8 l0 i).length (run8 l0 i) at hC
      rw [hx8] at hC
      rw [show (Kd.int .u8).sz = 1 from rfl] at hC
      generalize (if c0 = i then A0 else A0.map (·.add (i * 1))) = A9 at hcut hC
      generalize c0 - i = c9 at hcut
      have hkey := kl_key (run8 l0 i) hx8
      have hconv := Kd.C_string (P := Try.prog) (src := 30) (dst := 9) (c := c9) Try.underlying30 Try.underlying5 Try.underlying9 hC
      have hat0 := HD.out (run8 l0 i) hx8 hxb
      have HX := Aside0.mk (And.intro hx8 hxb)
      have HL := Aside0.mk hlt
      clear hC hx8 hxb
      go_wp2_with (first
        | (at_lookup; refine wpList_lookup_groups _ rfl _ _ 93 rfl 9 59 3 .i64 keyed9 Try.underlying93 (zero59 _) (w.heap.size + 1) w.heap.size i _ rfl hown (by have := HI.out; unfold maxLen; omega) _ _ rfl hkey ?_; intro v zs hat hoi hzl hback)
        | (at_builtin; refine wpList_append_own_at _ rfl _ _ 59 rfl (w.heap.size + 1) 3 i0 (.int .i64 0) 1 8 Try.underlying59 hi hz0 hz1 hz2 rfl (by decide) _ _ _ rfl (hoi.1.alloc _) ⟨wr.heap.size, 0, none⟩ 1 1 [.int .i64 i] rfl rfl (cell_one_new _ _ _) (ints_oneCell .i64 [(i : Int)]) (by have := HI.out; unfold maxLen; omega) (by have := HI.out; omega) (by have := HS.out; simp; omega) ?_; intro v' w1 hown' hgrow hnil hloc)
        | (at_mapUpdate; refine wpList_mapUpdate_back _ rfl _ _ _ 93 rfl hback rfl rfl rfl ((World.grownBy_alloc _ _ _).trans hgrow) (hoi.appended hown' (WalkArith.wf_i64 (by have := HI.out; omega))) (by simp; omega) (hloc.imp id (fun h => ⟨_, h, by simp⟩)) ?_; intro w2 hown2 hgrow2))
      have hall := (World.grownBy_alloc wr _ _).trans hgrow
      go_roundw
      case measure => exact meas_ _ _ (by omega)
      case rel =>
        refine ⟨i + 1, _, by go_num, ⟨by omega⟩, ⟨HM.out.put _ _⟩, hown2, ⟨?_⟩, ⟨HB.out.groups hoi hall hgrow2 HB.out.size (Nat.le_succ _) (Nat.le_refl _)⟩, ⟨Nat.le_trans HS.out (Nat.le_trans hall.size hgrow2.size)⟩⟩
        intro x hx hxb
        have hrow := (hoi.appended hown' (WalkArith.wf_i64 (by have := HI.out; omega))).datum_pos (H := Unit) (by simp)
        by_cases he : x = run8 l0 i
        · subst he
          rw [atKey_put_same HM.out (by exact trivial)]
          refine Eq.trans hrow ?_
          rw [idx_hit l0 _ i rfl, datum_row hoi (hat0.symm.trans hat)]
          unfold datum
          rw [if_neg (by simp)]
        · rw [atKey_put_other (fun h => he (kl_inj hxb HX.out.2 h)), idx_miss l0 x i (fun h => he h.symm)]
          exact HD.out x hx hxb
    · have b1_ : decide ((i : Int) + 8 ≤ (l0.length : Int)) = false := decide_eq_false (by omega)
      have hi2 : i = l0.length - 7 := by have := HI.out; omega
      go_wp2
      go_ret
      exact ⟨rfl, ⟨D, hi2 ▸ hown, hi2 ▸ HD.out⟩, HB.out⟩
theorem groups_below {w1 W : World} {base b n : Nat} {D : DataW Unit} (h : w1.ownsGroups Try.prog 9 base 3 .i64 b n D) (hb : Below w1.heap.size w1 W) : W.ownsGroups Try.prog 9 base 3 .i64 b n D := by
  have hg : w1.grownBy W none := ⟨hb.os, hb.tape, hb.output, hb.size, fun k hk _ => hb.block k hk⟩
  exact h.kept hg (by simp) (fun es clock hh x hx => by cases x.val.ownBlock <;> simp)
/-- The longest of the places' runs, the first of its length. -/
def best (k : Nat) (l0 l1 : List Int) (at_ : Nat) : List Int → Int × Int → Option (Int × Int)
  | [], s => some s
  | i :: is, s => (delta_alike.f k (l0.drop i.toNat) (l1.drop at_)).bind fun n => best k l0 l1 at_ is (if n > s.2 then (i, n) else s)
def lastCopy (o : List S96) : Bool := o.length == 0 || (rd_T96 o ((o.length : Int) - 1)).f0
def push (o : List S96) (x : Int) : List S96 := o.set (o.length - 1) ⟨(rd_T96 o ((o.length : Int) - 1)).f0, (rd_T96 o ((o.length : Int) - 1)).f1, (rd_T96 o ((o.length : Int) - 1)).f2, (rd_T96 o ((o.length : Int) - 1)).f3 ++ [x]⟩
def fresh (o : List S96) : List S96 := if lastCopy o = true then o ++ [(⟨false, 0, 0, []⟩ : S96)] else o
def delta_Delta.l0 : Nat → List Int → List Int → List S96 → Int → Option (List S96 × Int)
  | 0, _, _, _, _ => none
  | k + 1, l0, l1, o, x8 =>
    if x8 < (l1.length : Int) then
      (if 0 ≤ x8 then
        ((if x8 + 8 ≤ (l1.length : Int) then best k l0 l1 x8.toNat (idx l0 (run8 l1 x8.toNat) (l0.length - 7)) (0, 0) else some (0, 0)).bind fun s =>
          if s.2 > 0 then (if o.length < 2097152 then delta_Delta.l0 k l0 l1 (o ++ [(⟨true, s.1, s.2, []⟩ : S96)]) (wrap64 (x8 + s.2)) else none)
          else (if o.length < 2097152 then (if ((rd_T96 (fresh o) (((fresh o).length : Int) - 1)).f3).length < 2097152 then delta_Delta.l0 k l0 l1 (push (fresh o) (rd l1 x8)) (x8 + 1) else none) else none))
      else none)
    else some (o, 0)
theorem fresh_pos (o : List S96) : 0 < (fresh o).length := by
  unfold fresh lastCopy
  split
  · simp
  · rename_i h
    rcases Nat.eq_zero_or_pos o.length with e | e
    · simp [e] at h
    · exact e
def delta_Delta.T23 : Bool × List (List Nat × List Nat) := (true, [([], []), ([], []), ([1], [1]), ([2], [2]), ([3], [3]), ([], []), ([], []), ([5, 6], [5, 6]), ([7], [7]), ([8], [8]), ([4, 9], [4, 9]), ([0, 0, 1, 2, 3, 4, 5, 6, 7, 8, 9, 10], [0]), ([11, 0, 1, 2, 3, 4, 5, 6, 7, 8, 9, 10], [11]), ([12, 10, 10, 0, 1, 2, 3, 4, 5, 6, 7, 8, 9, 10], [10, 12])])
def delta_Delta.B23 : List Nat := [0, 0, 2, 6, 14, 0, 0, 96, 224, 480, 1022, 2047, 4095, 8191]
theorem delta_Delta.tab23 : rtab .any (opsOf Try.f17 23) = delta_Delta.T23 := by kernel_rfl
theorem delta_Delta.bits23 : waitsOk delta_Delta.T23.2 delta_Delta.B23 = true := by kernel_rfl
theorem fresh_le {o : List S96} (h : o.length < 2097152) : (fresh o).length ≤ 2097152 := by
  unfold fresh
  split
  · rw [List.length_append]; simp only [List.length_cons, List.length_nil]; omega
  · omega
def byteB (l : List Int) : Bool := l.all fun a => decide (0 ≤ a) && decide (a ≤ 255)
theorem byteB_mem {l : List Int} (h : byteB l = true) : ∀ a ∈ l, 0 ≤ a ∧ a ≤ 255 := by
  intro a ha
  have := List.all_eq_true.1 h a ha
  simpa [Bool.and_eq_true, decide_eq_true_eq] using this
def delta_Delta.f (k : Nat) (l0 l1 : List Int) : Option (List S96 × Int) := if byteB l0 = true ∧ byteB l1 = true then (if (l0.length : Int) > 2048 then some ([], 1) else (if (l1.length : Int) > 2048 then some ([], 1) else delta_Delta.l0 k l0 l1 [] 0)) else none
theorem idx_bd {l x : List Int} {n : Nat} {z : Int} (h : z ∈ idx l x n) : ∃ i : Nat, z = (i : Int) ∧ i < n := by
  unfold idx at h
  obtain ⟨i, hi, rfl⟩ := List.mem_map.1 h
  exact ⟨i, rfl, List.mem_range.1 (List.mem_filter.1 hi).1⟩
theorem best_cell {W : World} {g : Nat} {f n : Int} (h : W.heap[g]? = some (.cells #[.bool true, .int .i64 f, .int .i64 n, .slice none 0 0] 96 (0, 0))) : W.cell? ⟨g, 2, none⟩ = some (.int .i64 n) := (blk_cell h 2).trans rfl
theorem best_cell1 {W : World} {g : Nat} {f n : Int} (h : W.heap[g]? = some (.cells #[.bool true, .int .i64 f, .int .i64 n, .slice none 0 0] 96 (0, 0))) : W.cell? ⟨g, 1, none⟩ = some (.int .i64 f) := (blk_cell h 1).trans rfl
theorem set1 {W : World} {g : Nat} {f n : Int} (h : W.heap[g]? = some (.cells #[.bool true, .int .i64 f, .int .i64 n, .slice none 0 0] 96 (0, 0))) (x : Int) : (W.setCell ⟨g, 1, none⟩ (.int .i64 x)).heap[g]? = some (.cells #[.bool true, .int .i64 x, .int .i64 n, .slice none 0 0] 96 (0, 0)) := by simpa using blk_set h 1 (.int .i64 x)
theorem set2 {W : World} {g : Nat} {f n : Int} (h : W.heap[g]? = some (.cells #[.bool true, .int .i64 f, .int .i64 n, .slice none 0 0] 96 (0, 0))) (x : Int) : (W.setCell ⟨g, 2, none⟩ (.int .i64 x)).heap[g]? = some (.cells #[.bool true, .int .i64 f, .int .i64 x, .slice none 0 0] 96 (0, 0)) := by simpa using blk_set h 2 (.int .i64 x)
theorem grow_set {w W : World} {g : Nat} (h : w.grownBy W (some g)) (k : Nat) (u : Value) : w.grownBy (W.setCell ⟨g, k, none⟩ u) (some g) := by
  refine ⟨h.os, h.tape, h.output, by simpa [World.setCell] using h.size, fun i hi hg => (Below.heap_setCell W ⟨g, k, none⟩ u i (fun e => hg (by rw [e]))).trans (h.block i hi hg)⟩
theorem grow_drew {w W : World} {row : Option Nat} (h : w.grownBy W row) (m : Nat) : w.grownBy (W.drewN m) row := ⟨h.os, h.tape, h.output, h.size, h.block⟩
theorem places_at {W : World} {base n c : Nat} {A : Option Addr} {zs : List Int} (h : W.ownsInts base 3 .i64 (.slice A n c) zs) (i : Nat) (hi : i < zs.length) : ∃ ad, A = some ad ∧ W.cell? (ad.add i) = some (.int .i64 (zs.getD i 0)) := by
  obtain ⟨h, _⟩ := h
  rcases h.2 with ⟨e, e2⟩ | ⟨g, cap, cur, e, _⟩
  · omega
  · simp only [Value.slice.injEq] at e
    obtain ⟨rfl, rfl, rfl⟩ := e
    refine ⟨_, rfl, h.cells (g := g) rfl i _ ?_⟩
    rw [List.getElem?_map, List.getD_eq_getElem?_getD, List.getElem?_eq_getElem hi]
    rfl
set_option maxRecDepth 100000 in
set_option maxHeartbeats 2000000 in
theorem delta_Delta.calls (k : Nat) (A0 : Option Addr) (c0 : Nat) (l0 : List Int) (A1 : Option Addr) (c1 : Nat) (l1 : List Int) (r1 : List (S96)) (r2 : Int) (w : World) (hr0 : Kd.C (Kd.int .u8) w A0 l0.length l0) (hc0 : l0.length ≤ c0) (hr1 : Kd.C (Kd.int .u8) w A1 l1.length l1) (hc1 : l1.length ≤ c1) (h : delta_Delta.f k l0 l1 = some (r1, r2)) :
    Calls Try.prog 17 #[.slice A0 l0.length c0, .slice A1 l1.length c1] w fun e w' => ∃ v0_ : Value, e = .returned (.tuple #[v0_, .int .i64 r2]) ∧ Kd.S k96 96 w' w.heap.size (fun _ => True) v0_ r1 ∧ Below w.heap.size w w' := by
  have HR0 := Aside0.mk hr0
  have HC0 := Aside0.mk hc0
  have HR1 := Aside0.mk hr1
  have HC1 := Aside0.mk hc1
  clear hr0 hc0 hr1 hc1
  unfold delta_Delta.f at h
  by_cases hbb : byteB l0 = true ∧ byteB l1 = true
  case neg => rw [if_neg hbb] at h; cases h
  rw [if_pos hbb] at h
  have hby := byteB_mem hbb.1
  have hby1 := byteB_mem hbb.2
  clear hbb
  by_cases h0 : (l0.length : Int) > 2048
  · rw [if_pos h0] at h
    simp only [Option.some.injEq, Prod.mk.injEq] at h
    obtain ⟨rfl, rfl⟩ := h
    have c0_ : decide (2048 < (l0.length : Int)) = true := decide_eq_true h0
    have c1_ : decide (2048 < l0.length) = true := decide_eq_true (by omega)
    clear h0
    go_enter Try.func17, Try.ntmps17
    go_wp2
    repeat (go_quiet (fail); try go_wp2)
    go_ret2
    exact ⟨_, rfl, Kd.S_nil _ _ _ _ _, Below.refl _ _⟩
  · rw [if_neg h0] at h
    have c0_ : decide (2048 < (l0.length : Int)) = false := decide_eq_false h0
    have c1_ : decide (2048 < l0.length) = false := decide_eq_false (by omega)
    by_cases h1 : (l1.length : Int) > 2048
    · rw [if_pos h1] at h
      simp only [Option.some.injEq, Prod.mk.injEq] at h
      obtain ⟨rfl, rfl⟩ := h
      have c2_ : decide (2048 < (l1.length : Int)) = true := decide_eq_true h1
      have c3_ : decide (2048 < l1.length) = true := decide_eq_true (by omega)
      clear h0 h1
      go_enter Try.func17, Try.ntmps17
      go_wp2
      repeat (go_quiet (fail); try go_wp2)
      go_ret2
      exact ⟨_, rfl, Kd.S_nil _ _ _ _ _, Below.refl _ _⟩
    · rw [if_neg h1] at h
      have c2_ : decide (2048 < (l1.length : Int)) = false := decide_eq_false h1
      have c3_ : decide (2048 < l1.length) = false := decide_eq_false (by omega)
      have H0 := Aside0.mk (show l0.length ≤ 2048 by omega)
      have H1 := Aside0.mk (show l1.length ≤ 2048 by omega)
      have HH := Aside0.mk h
      clear h0 h1 h
      go_enter Try.func17, Try.ntmps17
      go_wp2_with (first | ((with_reducible refine gate_callee (f := 47) rfl ?_); refine goesL_ (some 24) rfl rfl Try.func47 (by kernel_rfl) rfl #[.slice A0 l0.length c0] rfl (by (try simp only [List.map_toArray, List.map_cons, List.map_nil]); first | done | rfl) ?_; refine (delta_seeds.calls A0 c0 l0 _ HR0.out HC0.out H0.out hby).mono ?_; rintro e w' ⟨rfl, ⟨D, hg, hD⟩, hb⟩; refine ⟨_, rfl, ?_⟩; have m0_ := Aside0.mk hg; have m1_ := Aside0.mk hD; have m2_ := Aside0.mk hb; clear hg hD hb))
      obtain ⟨wS, hwS⟩ : ∃ x, w' = x := ⟨_, rfl⟩
      subst hwS
      go_loopg [7, 8] k (fun kq v7 v8 wr => ∃ (o : List S96) (x8 : Int), v8 = .int .i64 x8 ∧ Aside0 (delta_Delta.l0 kq l0 l1 o x8 = some (r1, r2)) ∧ Aside0 (kq ≤ k) ∧ Aside0 (Kd.S k96 96 wr w'.heap.size (fun _ => True) v7 o) ∧ Aside0 (Below w'.heap.size w' wr))
      case atStart => exact ⟨[], 0, rfl, HH, ⟨Nat.le_refl _⟩, ⟨Kd.S_nil _ _ _ _ _⟩, ⟨Below.refl _ _⟩⟩
      case round =>
        obtain ⟨o, x8, rfl, HA, HK1, HO, HB⟩ := hrel
        cases gk with
        | zero => exact absurd HA.out (by simp [delta_Delta.l0])
        | succ k1 =>
          have H := HA.out
          clear HA
          rw [delta_Delta.l0] at H
          by_cases c1 : x8 < (l1.length : Int)
          · rw [if_pos c1] at H
            by_cases c2 : 0 ≤ x8
            · rw [if_pos c2] at H
              obtain ⟨j, rfl⟩ : ∃ j : Nat, x8 = (j : Int) := ⟨x8.toNat, by omega⟩
              rw [Int.toNat_natCast] at H
              have hj : j < l1.length := by omega
              have c1_ : decide ((j : Int) < (l1.length : Int)) = true := decide_eq_true c1
              have c3_ : decide (j < l1.length) = true := decide_eq_true hj
              have hl1 := H1.out
              obtain ⟨s, hs, H⟩ := Option.bind_eq_some_iff.1 H
              have HS := Aside0.mk hs
              have HQ := Aside0.mk H
              clear hs H c1 c2
              go_upto_if 34 with (fail)
              go_cut [] (fun wc => Aside0 (wc.heap[wr.heap.size]? = some (.cells #[.bool true, .int .i64 s.1, .int .i64 s.2, .slice none 0 0] 96 (0, 0))) ∧ Aside0 (Below wr.heap.size wr wc))
              case first =>
                by_cases hm : j + 8 ≤ l1.length
                · have d1_ : decide ((j : Int) + 8 ≤ (l1.length : Int)) = true := decide_eq_true (by omega)
                  have d2_ : (j : Int) + 8 ≤ (l1.length : Int) := by omega
                  have hs := HS.out
                  rw [if_pos d2_] at hs
                  have HS2 := Aside0.mk hs
                  clear hs d2_
                  obtain ⟨i5, hi5, _, hsz5, _⟩ := info_parts info5
                  obtain ⟨W1, hW1⟩ : ∃ x, wr.alloc (Obj.cells #[Value.bool true, Value.int IntKind.i64 0, Value.int IntKind.i64 0, Value.slice none 0 0] 96) = x := ⟨_, rfl⟩
                  have hb1 : Below wr.heap.size wr W1 := by rw [← hW1]; exact (Below.refl _ _).alloc (Nat.le_refl _) _
                  have hn1 : W1.heap[wr.heap.size]? = some (.cells #[.bool true, .int .i64 0, .int .i64 0, .slice none 0 0] 96 (0, 0)) := by rw [← hW1]; exact heap_alloc_new wr _
                  have hBw : Below w.heap.size w W1 := m2_.out.trans ((HB.out.trans (hb1.mono HB.out.size)).mono m2_.out.size)
                  have hg1 := groups_below m0_.out (HB.out.trans (hb1.mono HB.out.size))
                  rw [hW1]
                  have hx8 := run8_length l1 j hm
                  have hcut := cut_mid (P := Try.prog) 30 5 .i64 .i64 Try.underlying30 hi5 1 hsz5 A1 l1.length c1 (j : Int) ((j : Int) + 8) (by omega) (by omega) (by omega) HC1.out
                  have hC := Kd.C_mid (lo := j) (hi := j + 8) (c := c1) (Kd.C_below HR1.out hBw) (by omega) hm HC1.out
                  rw [show (((j : Int) + 8).toNat - (j : Int).toNat) = 8 by omega, show (j : Int).toNat = j by omega] at hcut
                  change Kd.C _ _ _ (run8 l1 j).length (run8 l1 j) at hC
                  rw [hx8] at hC
                  rw [show (Kd.int .u8).sz = 1 from rfl] at hC
                  generalize (if c1 = j then A1 else A1.map (·.add (j * 1))) = A9 at hcut hC
                  generalize c1 - j = c9 at hcut
                  have hkey := kl_key (run8 l1 j) hx8
                  have hconv := Kd.C_string (P := Try.prog) (src := 30) (dst := 9) (c := c9) Try.underlying30 Try.underlying5 Try.underlying9 hC
                  have HX := Aside0.mk hx8
                  have HBW := Aside0.mk hBw
                  have HB1 := Aside0.mk hb1
                  have HN1 := Aside0.mk hn1
                  have HW1 := Aside0.mk hW1
                  clear hC hx8 hBw hb1 hn1 hW1
                  go_wp2_with (first | (at_lookup; refine wpList_lookup_groups _ rfl _ _ 93 rfl 9 59 3 .i64 keyed9 Try.underlying93 (zero59 _) (w.heap.size + 1) w.heap.size (l0.length - 7) _ rfl hg1 (by have := H0.out; unfold maxLen; omega) _ _ rfl hkey ?_; intro v zs hat hoi hzl hback; clear hback; obtain ⟨A8, c8, rfl⟩ := own_slice hoi.1))
                  have hz : zs = idx l0 (run8 l1 j) (l0.length - 7) := datum_row hoi ((m1_.out (run8 l1 j) HX.out (fun a ha => hby1 a (run8_mem ha))).symm.trans hat)
                  have HZ := Aside0.mk hz
                  have hne : (Value.slice A8 zs.length c8).ownBlock ≠ some wr.heap.size := by
                    intro hh
                    obtain ⟨cs, hcs⟩ := own_typed hoi.1 _ hh
                    rw [HN1.out] at hcs
                    simp at hcs
                  have HNE := Aside0.mk hne
                  have HOI := Aside0.mk hoi
                  have HZL := Aside0.mk hzl
                  clear hz hat hoi hne hzl hg1 hcut hconv hkey
                  obtain ⟨wo, hwo⟩ : ∃ x, x = wr := ⟨_, rfl⟩
                  subst hwo
                  go_loopw [44] (fun v44 wr => ∃ (n : Nat) (b : Int × Int), v44 = .int .i64 (n : Int) ∧ Aside0 (n ≤ zs.length) ∧ Aside0 (best k1 l0 l1 j (zs.drop n) b = some s) ∧ Aside0 (wr.heap[wo.heap.size]? = some (.cells #[.bool true, .int .i64 b.1, .int .i64 b.2, .slice none 0 0] 96 (0, 0))) ∧ Aside0 (W1.grownBy wr (some wo.heap.size)))
                    (fun v44 _ => zs.length - (intOf v44).toNat)
                  case atStart => exact ⟨0, (0, 0), rfl, ⟨Nat.zero_le _⟩, ⟨by rw [List.drop_zero, HZ.out]; exact HS2.out⟩, HN1, ⟨World.grownBy.refl _ _⟩⟩
                  case round =>
                    obtain ⟨n, b, rfl, HN, HBE, HBC, HG⟩ := hrel
                    by_cases hn : n < zs.length
                    · have e1_ : decide ((n : Int) < (zs.length : Int)) = true := decide_eq_true (by omega)
                      have e2_ : (0 : Int) ≤ (n : Int) := by omega
                      have e3_ : (n : Int) < (zs.length : Int) := by omega
                      obtain ⟨ad, rfl, hcell⟩ := places_at (HOI.out.kept HG.out (.inr HNE.out)) n hn
                      obtain ⟨i, hi, hil⟩ := idx_bd (l := l0) (x := run8 l1 j) (n := l0.length - 7) (z := zs.getD n 0) (by rw [← HZ.out]; rw [List.getD_eq_getElem?_getD, List.getElem?_eq_getElem hn]; exact List.getElem_mem hn)
                      rw [hi] at hcell
                      have hbe := HBE.out
                      rw [List.drop_eq_getElem_cons hn, show zs[n] = (i : Int) by rw [← hi, List.getD_eq_getElem?_getD, List.getElem?_eq_getElem hn]; rfl] at hbe
                      unfold best at hbe
                      rw [Int.toNat_natCast] at hbe
                      obtain ⟨x, hx, hbe⟩ := Option.bind_eq_some_iff.1 hbe
                      have hq : Below w.heap.size w wr := HBW.out.trans (⟨HG.out.os, HG.out.tape, HG.out.output, HG.out.size, fun k_ hk_ => HG.out.block k_ (Nat.lt_of_lt_of_le hk_ HBW.out.size) (by have := (m2_.out.trans (HB.out.mono m2_.out.size)).size; simp; omega)⟩ : Below w.heap.size W1 wr)
                      have hcutI := cut_from (P := Try.prog) 30 5 .i64 Try.underlying30 hi5 1 hsz5 A0 l0.length c0 (i : Int) (by omega) (by omega)
                      have hcutJ := cut_from (P := Try.prog) 30 5 .i64 Try.underlying30 hi5 1 hsz5 A1 l1.length c1 (j : Int) (by omega) (by omega)
                      have hCI := Kd.C_drop (m := i) (c := c0) (Kd.C_below HR0.out hq) (by omega) HC0.out
                      have hCJ := Kd.C_drop (m := j) (c := c1) (Kd.C_below HR1.out hq) (by omega) HC1.out
                      rw [show (Kd.int .u8).sz = 1 from rfl] at hCI hCJ
                      rw [Int.toNat_natCast, show l0.length - i = (l0.drop i).length by rw [List.length_drop]] at hcutI
                      rw [Int.toNat_natCast, show l1.length - j = (l1.drop j).length by rw [List.length_drop]] at hcutJ
                      have hcI : (l0.drop i).length ≤ c0 - i := by rw [List.length_drop]; have := HC0.out; omega
                      have hcJ : (l1.drop j).length ≤ c1 - j := by rw [List.length_drop]; have := HC1.out; omega
                      generalize (if c0 = i then A0 else A0.map (·.add (i * 1))) = A6 at hcutI hCI
                      generalize (if c1 = j then A1 else A1.map (·.add (j * 1))) = A5 at hcutJ hCJ
                      generalize c0 - i = c6 at hcutI hcI
                      generalize c1 - j = c5 at hcutJ hcJ
                      generalize l0.drop i = li at hcutI hCI hcI hx
                      generalize l1.drop j = lj at hcutJ hCJ hcJ hx
                      have HQB := Aside0.mk hq
                      have HBE2 := Aside0.mk hbe
                      clear hbe hq HBE
                      go_wp2
                      go_quiet (first | (go_at_call 48; refine Calls.quiet_of (v := .int .i64 x) ((delta_alike.calls k1 A6 c6 li A5 c5 lj x _ (Kd.C_below hCI (Drawn0.below ⟨⟨_, rfl⟩⟩)) hcI (Kd.C_below hCJ (Drawn0.below ⟨⟨_, rfl⟩⟩)) hcJ hx).mono ?_); rintro e_ w_ ⟨he_, hd_⟩; obtain ⟨m_, hm_⟩ := hd_; exact ⟨he_, m_, hm_⟩))
                      have hbcell := best_cell HBC.out
                      have hbcell1 := best_cell1 HBC.out
                      have hfz1 := blk_frozen HBC.out 1
                      have hfz2 := blk_frozen HBC.out 2
                      have hzl' : zs.length ≤ 2048 := by have := HZL.out; have := H0.out; omega
                      by_cases hxb : x > b.2
                      · rw [if_pos hxb] at HBE2
                        have f1_ : decide (b.2 < x) = true := decide_eq_true hxb
                        clear hxb
                        go_wp2
                        go_roundw
                        case measure => exact meas_ _ _ hn
                        case rel => exact ⟨n + 1, ((i : Int), x), by go_num, ⟨by omega⟩, HBE2, ⟨set2 (set1 (W := wr.drewN nq) HBC.out _) _⟩, ⟨grow_set (grow_set (grow_drew HG.out nq) 1 _) 2 _⟩⟩
                      · rw [if_neg hxb] at HBE2
                        have f1_ : decide (b.2 < x) = false := decide_eq_false hxb
                        clear hxb
                        go_wp2
                        go_roundw
                        case measure => exact meas_ _ _ hn
                        case rel => exact ⟨n + 1, b, by go_num, ⟨by omega⟩, HBE2, ⟨HBC.out⟩, ⟨grow_drew HG.out nq⟩⟩
                    · have e1_ : decide ((n : Int) < (zs.length : Int)) = false := decide_eq_false (by omega)
                      have hbe := HBE.out
                      have hnl := HN.out
                      rw [List.drop_eq_nil_of_le (by omega)] at hbe
                      obtain rfl : b = s := Option.some.inj hbe
                      go_wp2
                      go_meet
                      case rel => exact ⟨HBC, ⟨HB1.out.trans (⟨HG.out.os, HG.out.tape, HG.out.output, HG.out.size, fun k_ hk_ => HG.out.block k_ (Nat.lt_of_lt_of_le hk_ HB1.out.size) (by simp; omega)⟩ : Below wo.heap.size W1 wr)⟩⟩
                · have d1_ : decide ((j : Int) + 8 ≤ (l1.length : Int)) = false := decide_eq_false (by omega)
                  have hs := HS.out
                  rw [if_neg (by omega)] at hs
                  obtain rfl := Option.some.inj hs
                  clear hs
                  go_wp2
                  go_meet
                  case rel => exact ⟨⟨heap_alloc_new wr _⟩, ⟨(Below.refl _ _).alloc (Nat.le_refl _) _⟩⟩
              case rest =>
                obtain ⟨HC, HBc⟩ := hcut
                have HO2 := Aside0.mk (Kd.S_below HO.out HBc.out)
                have HB2 := Aside0.mk (HB.out.trans (HBc.out.mono HB.out.size))
                have hb0 : wc.cell? ⟨wr.heap.size, 0, none⟩ = some (.bool true) := (blk_cell HC.out 0).trans rfl
                have hb1 := best_cell1 HC.out
                have hb2 := best_cell HC.out
                have hb3 : wc.cell? ⟨wr.heap.size, 3, none⟩ = some (.slice none 0 0) := (blk_cell HC.out 3).trans rfl
                have hbne : some wr.heap.size ≠ u7.ownBlock := fun e_ => Nat.lt_irrefl _ (Kd.S_lt HO.out _ e_.symm)
                by_cases hp : s.2 > 0
                · have hq := HQ.out
                  rw [if_pos hp] at hq
                  by_cases ho : o.length < 2097152
                  case neg => rw [if_neg ho] at hq; cases hq
                  rw [if_pos ho] at hq
                  have c9_ : decide (0 < s.2) = true := decide_eq_true hp
                  have LMo := Aside0.mk ho
                  have HR := Aside0.mk hq
                  clear hq ho hp
                  go_wp2_with (first | ((with_reducible refine gate_builtin (b := .append) (xs := #[.tmp 67, .tmp 69]) rfl ?_); (try (refine gate_guard (by rfl) ?_; dsimp only)); at_builtin; refine Kd.S_append k96 (w0 := w') w'.heap.size rfl (.tmp 67) (.tmp 69) 31 96 (.agg #[(.bool false), (.int .i64 0), (.int .i64 0), (.slice none 0 0)]) 48 rfl Try.underlying31 info96 rfl (by decide) (by omega) u7 o (⟨true, s.1, s.2, []⟩ : S96) [.bool true, .int .i64 s.1, .int .i64 s.2, .slice none 0 0] (fun _ => True) (fun _ => False) rfl rfl ?aP (fun k_ hk_ => hk_.elim) ?aF ?aO ?aB ?aS ?aL ?_; (case aP => exact k96_mkM _ _ _ (⟨true, s.1, s.2, []⟩ : S96) (Kd.R_nil _ _ _ _ _)); (case aB => exact (by repeat (first | (with_reducible first | exact HB2.out | apply below_alloc | apply pw_below_drewN | apply below_drew1) | exact HB2.out))); (case aF => exact (fun _ _ => trivial)); (case aO => exact (by (with_reducible repeat (first | apply Kd.S_alloc | apply Kd.S_drewN | apply Kd.S_drew)); exact Kd.S_mono HO2.out (fun k_ hk => ⟨trivial, fun e_ => e_⟩))); (case aS => exact (below_size (by repeat (first | (with_reducible first | exact HB2.out | apply below_alloc | apply pw_below_drewN | apply below_drew1) | exact HB2.out)))); (case aL => have := LMo.out; omega); intro v106 w27 ho hb hg hat; have HF2 := cell_grown hg hb2 hbne; have HB3 := Aside0.mk hb; have HO3 := Aside0.mk ho; clear ho hb hg hat))
                  go_roundg k1
                  case measure => have := HK1.out; omega
                  case rel => exact ⟨_, _, rfl, HR, ⟨by have := HK1.out; omega⟩, HO3, HB3⟩
                · have hq := HQ.out
                  rw [if_neg hp] at hq
                  by_cases ho : o.length < 2097152
                  case neg => rw [if_neg ho] at hq; cases hq
                  rw [if_pos ho] at hq
                  have c9_ : decide (0 < s.2) = false := decide_eq_false hp
                  have LMo := Aside0.mk ho
                  have HR := Aside0.mk hq
                  have ho63 : o.length < 2097152 := ho
                  clear hq hp
                  obtain ⟨A7, c7, hu7⟩ := Kd.S_slice HO2.out
                  subst hu7
                  rcases Nat.eq_zero_or_pos o.length with ho0 | ho0
                  · have hlc : lastCopy o = true := by unfold lastCopy; rw [ho0]; rfl
                    have hfr : fresh o = o ++ [(⟨false, 0, 0, []⟩ : S96)] := by unfold fresh; rw [if_pos hlc]
                    have g0_ : ((o.length : Int) == 0) = true := by rw [ho0]; rfl
                    clear ho0
                    go_upto_region 22 with (first | ((with_reducible refine gate_builtin (b := .append) (xs := #[.tmp 87, .tmp 89]) rfl ?_); (try (refine gate_guard (by rfl) ?_; dsimp only)); at_builtin; refine Kd.S_append k96 (w0 := w') w'.heap.size rfl (.tmp 87) (.tmp 89) 31 96 (.agg #[(.bool false), (.int .i64 0), (.int .i64 0), (.slice none 0 0)]) 48 rfl Try.underlying31 info96 rfl (by decide) (by omega) (.slice A7 o.length c7) o (⟨false, 0, 0, []⟩ : S96) [.bool false, .int .i64 0, .int .i64 0, .slice none 0 0] (fun _ => True) (fun _ => False) rfl rfl ?aP (fun k_ hk_ => hk_.elim) ?aF ?aO ?aB ?aS ?aL ?_; (case aP => exact k96_mkM _ _ _ (⟨false, 0, 0, []⟩ : S96) (Kd.R_nil _ _ _ _ _)); (case aB => exact (by repeat (first | (with_reducible first | exact HB2.out | apply below_alloc | apply pw_below_drewN | apply below_drew1) | exact HB2.out))); (case aF => exact (fun _ _ => trivial)); (case aO => exact (by (with_reducible repeat (first | apply Kd.S_alloc | apply Kd.S_drewN | apply Kd.S_drew)); exact Kd.S_mono HO2.out (fun k_ hk => ⟨trivial, fun e_ => e_⟩))); (case aS => exact (below_size (by repeat (first | (with_reducible first | exact HB2.out | apply below_alloc | apply pw_below_drewN | apply below_drew1) | exact HB2.out)))); (case aL => have := LMo.out; omega); intro v106 w27 ho hb hg hat; have HB3 := Aside0.mk hb; have HO3 := Aside0.mk ho; clear ho hb hg hat))
                    have hyl : (fresh o).length ≤ 2097152 := fresh_le ho63
                    have hyp : 0 < (fresh o).length := fresh_pos o
                    have hq := HR.out
                    rw [← hfr] at HO3
                    obtain ⟨y108, hy108⟩ : ∃ y_ : List S96, fresh o = y_ := ⟨_, rfl⟩
                    rw [hy108] at hyl hyp hq HO3
                    clear hfr
                    obtain ⟨ji30, hji⟩ : ∃ x : Int, (y108.length : Int) - 1 = x := ⟨_, rfl⟩
                    have hjw : IntKind.i64.wrap ((y108.length : Int) - 1) = ji30 := by rw [i64_w]; unfold wrap64; omega
                    have c31b0 : decide (0 ≤ ji30) = true := decide_eq_true (by omega)
                    have c32b0 : decide (ji30 < (y108.length : Int)) = true := decide_eq_true (by omega)
                    have hjt : y108.length - 1 = ji30.toNat := by omega
                    rw [hji] at hq
                    by_cases c35 : ((rd_T96 y108 ji30).f3).length < 2097152
                    case neg => rw [if_neg c35] at hq; cases hq
                    rw [if_pos c35] at hq
                    have LMc35 := Aside0.mk c35
                    unfold push at hq
                    rw [hji, hjt] at hq
                    clear hji hjt c35
                    obtain ⟨y113, hy113⟩ : ∃ y_ : List Int, y_ = (((rd_T96 y108 (ji30)).f3) ++ [rd l1 (j : Int)]) := ⟨_, rfl⟩
                    rw [← hy113] at hq
                    have Ny113 := Aside0.mk hy113
                    clear hy113
                    obtain ⟨y116, hy116⟩ : ∃ y_ : List (S96), y_ = (y108.set ((ji30) : Int).toNat (⟨(rd_T96 y108 (ji30)).f0, (rd_T96 y108 (ji30)).f1, (rd_T96 y108 (ji30)).f2, y113⟩ : S96)) := ⟨_, rfl⟩
                    rw [← hy116] at hq
                    have Ny116 := Aside0.mk hy116
                    clear hy116
                    have H' := Aside0.mk hq
                    clear hq
                    obtain ⟨Ao38, co38, eo38⟩ := Kd.S_slice HO3.out
                    subst eo38
                    have p111 : 0 ≤ ((ji30) : Int) := of_decide_eq_true (by first | (with_reducible assumption) | assumption)
                    have q111 : (ji30) < (y108.length : Int) := of_decide_eq_true (by first | (with_reducible assumption) | assumption)
                    obtain ⟨ad111, A111_3, c111_3, e111, hx111_0, hx111_1, hx111_2, hx111_3, hl111_3, hi111_3⟩ := at_T96 (Kd.S_reads' HO3.out).2.2 (ji30) p111 q111
                    cases e111
                    replace p111 := eq_true p111
                    replace q111 := eq_true q111
                    go_upto_region 23 with (fail)
                    have n0_ := Aside0.mk (Kd.S_drew HO3.out)
                    have n1_ := Aside0.mk (below_drew1 HB3.out)
                    clear HO3 HB3
                    have HO3 := n0_
                    have HB3 := n1_
                    clear n0_ n1_
                    have p111_ : 0 ≤ ((ji30) : Int) := of_decide_eq_true (by first | (with_reducible assumption) | assumption)
                    obtain ⟨ce111, hce111, hMe111, hcc111⟩ := Kd.S_get HO3.out z96 (ji30) p111_ (by first | exact of_decide_eq_true (by first | (with_reducible assumption) | assumption) | (have e_ := (Kd.S_reads' HO3.out).1; omega))
                    clear p111_
                    obtain ⟨ve111_3, rfl, ge111_3⟩ := k96_openM hMe111
                    have hv111_3 := hcc111 3 _ rfl
                    rw [add_field _ _ 3 (by omega)] at hv111_3
                    replace hv111_3 := Option.some.inj (hv111_3.symm.trans hx111_3)
                    rw [hv111_3] at ge111_3
                    have HL111_3 := Aside0.mk (show Kd.R (Kd.int .u8) 5 _ _ _ _ ((rd_T96 y108 (ji30)).f3) from ge111_3)
                    clear hv111_3 ge111_3
                    have HX111_3 := Aside0.mk hx111_3
                    clear hcc111 hce111
                    have HR111_3 := Aside0.mk hi111_3
                    have HC111_3 := Aside0.mk hl111_3
                    clear hi111_3 hl111_3
                    have p112 : 0 ≤ ((j : Int)) := by omega
                    have q112 : (j : Int) < (l1.length : Int) := by omega
                    obtain ⟨ad112, e112, hx112_0⟩ := Kd.at_int (Kd.C_below HR1.out m2_.out) (j : Int) p112 q112
                    rw [Int.toNat_natCast] at hx112_0
                    have hw112_0 := hx112_0
                    cases e112
                    replace hx112_0 := (HB3.out.cell (World.block_lt_of_cell? w' _ hx112_0)).trans hx112_0
                    replace p112 := eq_true p112
                    replace q112 := eq_true q112
                    obtain ⟨go40, co40, eo40, gb40, gl40, cl40, HG40⟩ := Kd.S_form HO3.out (by have h_ : ((ji30) : Int) < ((y108.length : Int) : Int) := of_decide_eq_true (by first | (with_reducible assumption) | assumption); have h2_ : 0 ≤ ((ji30) : Int) := (of_decide_eq_true (by first | (with_reducible assumption) | assumption)); omega)
                    (first | cases eo40 | (injection eo40 with ea_ en_ ec_; (first | subst ea_ | (injection ea_ with ea_; subst ea_)); subst ec_; clear en_))
                    have GB40 := Aside0.mk gb40
                    have GG40 := Aside0.mk HG40
                    clear gb40 gl40 HG40
                    (first | simp only [add_plain] at hx111_0 | skip)
                    (first | simp only [add_plain] at hx111_1 | skip)
                    (first | simp only [add_plain] at hx111_2 | skip)
                    (first | simp only [add_plain] at hx111_3 | skip)
                    obtain ⟨oki40, ce40, hcl40, hM40, hcc40, _, _, hH40⟩ := Kd.S_elem HO3.out z96 ((ji30) : Int) (of_decide_eq_true (by first | (with_reducible assumption) | assumption)) (by have h_ : ((ji30) : Int) < ((y108.length : Int) : Int) := of_decide_eq_true (by first | (with_reducible assumption) | assumption); first | exact h_ | (have e_ := (Kd.S_reads' HO3.out).1; omega) | simpa using h_)
                    obtain ⟨ve40_3, rfl, ge40_3⟩ := k96_openM hM40
                    have hv40 := hcc40 3 _ rfl
                    have hX40 := HX111_3.out
                    (try simp only [add_plain] at hX40)
                    (try simp only [Nat.add_zero] at hv40)
                    replace hv40 := Option.some.inj (hv40.symm.trans hX40)
                    subst hv40
                    clear hX40 hcc40 hcl40
                    have UU40 := Aside0.mk (show Kd.R (Kd.int .u8) 5 _ w'.heap.size oki40 (.slice A111_3 ((rd_T96 y108 (ji30)).f3).length c111_3) ((rd_T96 y108 (ji30)).f3) from ge40_3)
                    have HH40 := Aside0.mk hH40
                    have HN40 := Aside0.mk (Kd.S_reads' HO3.out).1
                    clear hH40 ge40_3
                    refine start_ (n := 14) (S := fun w'' => w''.cell? ⟨go40, ji30.toNat * 4, none⟩ = some (.bool ((rd_T96 y108 (ji30)).f0)) ∧ w''.cell? ⟨go40, ji30.toNat * 4 + 1, none⟩ = some (.int .i64 ((rd_T96 y108 (ji30)).f1)) ∧ w''.cell? ⟨go40, ji30.toNat * 4 + 2, none⟩ = some (.int .i64 ((rd_T96 y108 (ji30)).f2)) ∧ w''.cell? ⟨go40, ji30.toNat * 4 + 3, none⟩ = some (.slice A111_3 ((rd_T96 y108 (ji30)).f3).length c111_3) ∧ w''.cell? (ad112.add j) = some (.int .u8 (rd l1 (j : Int)))) (ds := [13]) #[false, false, false, false, false, false, false, false, false, false, false, false, false, false] (by kernel_rfl) rfl rfl ⟨hx111_0, hx111_1, hx111_2, hx111_3, ((HB3.out.cell (World.block_lt_of_cell? w' _ hw112_0)).trans hw112_0)⟩ (fun hHeld => ?_); refine with_tabW delta_Delta.tab23 delta_Delta.bits23 (fun HT_ HW_ => ?_)
                    generalize w27.drew = w39 at HO3 HB3 GG40 HH40 HL111_3 HR111_3 HX111_3 UU40 hx111_0 hx111_1 hx111_2 hx111_3 hx112_0 hHeld ⊢
                    refine pure_ (i := 0) (N := some 96) (v := ?_) (a' := ?_) #[true, false, false, false, false, false, false, false, false, false, false, false, false, false] rfl rfl (any_of HT_.out (by kernel_rfl)) (fun _ _ _ h => h) (Or.inl ⟨by rfl, ?_⟩) ?_ ?_
                    rotate_left
                    · intro w''
                      go_simp
                      with_reducible rfl
                    rotate_left
                    · simp only [Act.put, List.setIfInBounds_toArray, List.set_cons_zero, List.set_cons_succ, i64_w, i32_w]
                      rfl
                    refine pure_ (i := 1) (N := some 97) (v := ?_) (a' := ?_) #[true, true, false, false, false, false, false, false, false, false, false, false, false, false] rfl rfl (any_of HT_.out (by kernel_rfl)) (fun _ _ _ h => h) (Or.inl ⟨by rfl, ?_⟩) ?_ ?_
                    rotate_left
                    · intro w''
                      go_simp
                      with_reducible rfl
                    rotate_left
                    · simp only [Act.put, List.setIfInBounds_toArray, List.set_cons_zero, List.set_cons_succ, i64_w, i32_w]
                      rfl
                    refine pure_ (i := 2) (N := some 98) (v := ?_) (a' := ?_) #[true, true, true, false, false, false, false, false, false, false, false, false, false, false] rfl rfl (any_of HT_.out (by kernel_rfl)) (fun _ _ _ h => h) (Or.inl ⟨by rfl, ?_⟩) ?_ ?_
                    rotate_left
                    · intro w''
                      go_simp
                      with_reducible rfl
                    rotate_left
                    · simp only [Act.put, List.setIfInBounds_toArray, List.set_cons_zero, List.set_cons_succ, i64_w, i32_w]
                      rfl
                    refine pure_ (i := 3) (N := some 99) (v := ?_) (a' := ?_) #[true, true, true, true, false, false, false, false, false, false, false, false, false, false] rfl rfl (any_of HT_.out (by kernel_rfl)) (fun _ _ _ h => h) (Or.inl ⟨by rfl, ?_⟩) ?_ ?_
                    rotate_left
                    · intro w''
                      go_simp
                      with_reducible rfl
                    rotate_left
                    · simp only [Act.put, List.setIfInBounds_toArray, List.set_cons_zero, List.set_cons_succ, i64_w, i32_w]
                      rfl
                    refine pure_ (i := 5) (N := some 101) (v := ?_) (a' := ?_) #[true, true, true, true, false, true, false, false, false, false, false, false, false, false] rfl rfl (any_of HT_.out (by kernel_rfl)) (fun _ _ _ h => h) (Or.inl ⟨by rfl, ?_⟩) ?_ ?_
                    rotate_left
                    · intro w''
                      go_simp
                      with_reducible rfl
                    rotate_left
                    · simp only [Act.put, List.setIfInBounds_toArray, List.set_cons_zero, List.set_cons_succ, i64_w, i32_w]
                      rfl
                    refine pure_ (i := 6) (N := some 102) (v := ?_) (a' := ?_) #[true, true, true, true, false, true, true, false, false, false, false, false, false, false] rfl rfl (any_of HT_.out (by kernel_rfl)) (fun _ _ _ h => h) (Or.inl ⟨by rfl, ?_⟩) ?_ ?_
                    rotate_left
                    · intro w''
                      go_simp
                      with_reducible rfl
                    rotate_left
                    · simp only [Act.put, List.setIfInBounds_toArray, List.set_cons_zero, List.set_cons_succ, i64_w, i32_w]
                      rfl
                    refine pure_ (i := 7) (N := some 103) (v := ?_) (a' := ?_) #[true, true, true, true, false, true, true, true, false, false, false, false, false, false] rfl rfl (any_of HT_.out (by kernel_rfl)) (fun _ _ _ h => h) (Or.inl ⟨by rfl, ?_⟩) ?_ ?_
                    rotate_left
                    · intro w''
                      go_simp
                      with_reducible rfl
                    rotate_left
                    · simp only [Act.put, List.setIfInBounds_toArray, List.set_cons_zero, List.set_cons_succ, i64_w, i32_w]
                      rfl
                    refine take_ (i := 4) (N := some 100) (v := ?_) (a' := ?_) #[true, true, true, true, true, true, true, true, false, false, false, false, false, false] rfl rfl (take_ofW HT_.out HW_.out (by kernel_rfl)) (fun _ _ _ h => h) (Or.inl ⟨by rfl, ?_⟩) hHeld ?_ ?_
                    rotate_left
                    · rintro w'' ⟨s0, s1, s2, s3, s4⟩
                      go_simp
                      with_reducible rfl
                    rotate_left
                    · simp only [Act.put, List.setIfInBounds_toArray, List.set_cons_zero, List.set_cons_succ, i64_w, i32_w]
                      rfl
                    refine take_ (i := 8) (N := some 104) (v := ?_) (a' := ?_) #[true, true, true, true, true, true, true, true, true, false, false, false, false, false] rfl rfl (take_ofW HT_.out HW_.out (by kernel_rfl)) (fun _ _ _ h => h) (Or.inl ⟨by rfl, ?_⟩) hHeld ?_ ?_
                    rotate_left
                    · rintro w'' ⟨s0, s1, s2, s3, s4⟩
                      go_simp
                      with_reducible rfl
                    rotate_left
                    · simp only [Act.put, List.setIfInBounds_toArray, List.set_cons_zero, List.set_cons_succ, i64_w, i32_w]
                      rfl
                    refine one_ (i := 9) (N := some 105) #[true, true, true, true, true, true, true, true, true, true, false, false, false, false] rfl rfl (one_of HT_.out (by kernel_rfl)) (by decide) (fun K hK => ?_)
                    refine value_ (w1 := ?_) (v := ?_) (by rfl) rfl ?_ ?_
                    rotate_left 2
                    · go_simp
                      constructor
                      · rfl
                      · rfl
                    refine hK.out _ _ ⟨(World.cell?_alloc_lt _ _ _ (World.block_lt_of_cell? _ _ (hHeld.1))).trans (hHeld.1), (World.cell?_alloc_lt _ _ _ (World.block_lt_of_cell? _ _ (hHeld.2.1))).trans (hHeld.2.1), (World.cell?_alloc_lt _ _ _ (World.block_lt_of_cell? _ _ (hHeld.2.2.1))).trans (hHeld.2.2.1), (World.cell?_alloc_lt _ _ _ (World.block_lt_of_cell? _ _ (hHeld.2.2.2.1))).trans (hHeld.2.2.2.1), (World.cell?_alloc_lt _ _ _ (World.block_lt_of_cell? _ _ (((HB3.out.cell (World.block_lt_of_cell? w' _ hw112_0)).trans hw112_0)))).trans (((HB3.out.cell (World.block_lt_of_cell? w' _ hw112_0)).trans hw112_0))⟩ (fun hHeld => ?_)
                    clear hK K
                    refine norm_ (a' := ?_) ?_ ?_
                    rotate_left
                    · show Act.put _ (some 105) _ = _
                      simp only [Act.put, List.setIfInBounds_toArray, List.set_cons_zero, List.set_cons_succ, i64_w, i32_w]
                      rfl
                    refine one_ (i := 10) (N := some 106) #[true, true, true, true, true, true, true, true, true, true, true, false, false, false] rfl rfl (one_of HT_.out (by kernel_rfl)) (by decide) (fun K hK => ?_)
                    refine Kd.R_append_step (Kd.int .u8) (w0 := w') w'.heap.size (by rfl) (.tmp 100) (.tmp 105) 30 5 (.int .u8 0) 1 rfl Try.underlying30 info5 rfl (by decide) (by omega) (.slice A111_3 ((rd_T96 y108 (ji30)).f3).length c111_3) ((rd_T96 y108 (ji30)).f3) (rd l1 (j : Int)) [.int .u8 (rd l1 (j : Int))] (fun k_ => oki40 k_ ∨ ((fun _ => True)) k_ ∧ w39.heap.size ≤ k_) (fun _ => False) rfl rfl ?aP (fun _ hk => hk.elim) ?aF ?aO ?aB ?aS ?aL ?_
                    (case aP => exact rfl)
                    (case aB => exact (by repeat (first | (with_reducible first | exact HB3.out | apply below_alloc | apply pw_below_drewN | apply below_drew1) | exact HB3.out)))
                    (case aF => exact (fun k_ hk => .inr ⟨trivial, hk⟩))
                    (case aO => exact (by (with_reducible repeat (first | apply Kd.R_alloc | apply Kd.R_drewN | apply Kd.R_drew)); exact Kd.R_mono UU40.out (fun _ hk => .inl hk)))
                    (case aS => exact (below_size (by repeat (first | (with_reducible first | exact HB3.out | apply below_alloc | apply pw_below_drewN | apply below_drew1) | exact HB3.out))))
                    (case aL => have := LMc35.out; omega)
                    intro v114 w41 ho hb hg hat
                    (first | have HS0_ := cell_grown hg (hHeld.1) (by first | (rw [add_block]; exact (fun e_ => ((HL111_3.out.1 _ e_.symm).2) rfl)) | (show some (Addr.add _ _).block ≠ _; rw [add_block]; exact (fun e_ => ((HL111_3.out.1 _ e_.symm).2) rfl)) | exact (fun e_ => ((HL111_3.out.1 _ e_.symm).2) rfl)) | have HS0_ := cell_grown hg (cell_unalloc (hHeld.1) (by first | (rw [add_block]; exact Kd.S_lt HO3.out _ rfl) | (show (Addr.add _ _).block < _; rw [add_block]; exact Kd.S_lt HO3.out _ rfl) | exact Kd.S_lt HO3.out _ rfl)) (by first | (rw [add_block]; exact (fun e_ => ((HL111_3.out.1 _ e_.symm).2) rfl)) | (show some (Addr.add _ _).block ≠ _; rw [add_block]; exact (fun e_ => ((HL111_3.out.1 _ e_.symm).2) rfl)) | exact (fun e_ => ((HL111_3.out.1 _ e_.symm).2) rfl)))
                    (first | have HS1_ := cell_grown hg (hHeld.2.1) (by first | (rw [add_block]; exact (fun e_ => ((HL111_3.out.1 _ e_.symm).2) rfl)) | (show some (Addr.add _ _).block ≠ _; rw [add_block]; exact (fun e_ => ((HL111_3.out.1 _ e_.symm).2) rfl)) | exact (fun e_ => ((HL111_3.out.1 _ e_.symm).2) rfl)) | have HS1_ := cell_grown hg (cell_unalloc (hHeld.2.1) (by first | (rw [add_block]; exact Kd.S_lt HO3.out _ rfl) | (show (Addr.add _ _).block < _; rw [add_block]; exact Kd.S_lt HO3.out _ rfl) | exact Kd.S_lt HO3.out _ rfl)) (by first | (rw [add_block]; exact (fun e_ => ((HL111_3.out.1 _ e_.symm).2) rfl)) | (show some (Addr.add _ _).block ≠ _; rw [add_block]; exact (fun e_ => ((HL111_3.out.1 _ e_.symm).2) rfl)) | exact (fun e_ => ((HL111_3.out.1 _ e_.symm).2) rfl)))
                    (first | have HS2_ := cell_grown hg (hHeld.2.2.1) (by first | (rw [add_block]; exact (fun e_ => ((HL111_3.out.1 _ e_.symm).2) rfl)) | (show some (Addr.add _ _).block ≠ _; rw [add_block]; exact (fun e_ => ((HL111_3.out.1 _ e_.symm).2) rfl)) | exact (fun e_ => ((HL111_3.out.1 _ e_.symm).2) rfl)) | have HS2_ := cell_grown hg (cell_unalloc (hHeld.2.2.1) (by first | (rw [add_block]; exact Kd.S_lt HO3.out _ rfl) | (show (Addr.add _ _).block < _; rw [add_block]; exact Kd.S_lt HO3.out _ rfl) | exact Kd.S_lt HO3.out _ rfl)) (by first | (rw [add_block]; exact (fun e_ => ((HL111_3.out.1 _ e_.symm).2) rfl)) | (show some (Addr.add _ _).block ≠ _; rw [add_block]; exact (fun e_ => ((HL111_3.out.1 _ e_.symm).2) rfl)) | exact (fun e_ => ((HL111_3.out.1 _ e_.symm).2) rfl)))
                    (first | have HS3_ := cell_grown hg (hHeld.2.2.2.1) (by first | (rw [add_block]; exact (fun e_ => ((HL111_3.out.1 _ e_.symm).2) rfl)) | (show some (Addr.add _ _).block ≠ _; rw [add_block]; exact (fun e_ => ((HL111_3.out.1 _ e_.symm).2) rfl)) | exact (fun e_ => ((HL111_3.out.1 _ e_.symm).2) rfl)) | have HS3_ := cell_grown hg (cell_unalloc (hHeld.2.2.2.1) (by first | (rw [add_block]; exact Kd.S_lt HO3.out _ rfl) | (show (Addr.add _ _).block < _; rw [add_block]; exact Kd.S_lt HO3.out _ rfl) | exact Kd.S_lt HO3.out _ rfl)) (by first | (rw [add_block]; exact (fun e_ => ((HL111_3.out.1 _ e_.symm).2) rfl)) | (show some (Addr.add _ _).block ≠ _; rw [add_block]; exact (fun e_ => ((HL111_3.out.1 _ e_.symm).2) rfl)) | exact (fun e_ => ((HL111_3.out.1 _ e_.symm).2) rfl)))
                    rw [← Ny113.out] at ho
                    have n0_ := Aside0.mk (hb)
                    have n1_ := Aside0.mk (Kd.H_grown (Kd.H_widen (by repeat (first | exact HH40.out | refine Kd.H_alloc ?_ _ | refine Kd.H_drewN ?_ _ | refine Kd.H_drew ?_))) hg (fun k_ e_ => .inl (UU40.out.1 k_ e_)))
                    have n2_ := Aside0.mk (ho)
                    clear HB3 HH40 HO3 UU40 HL111_3
                    have HB3 := n0_
                    have HH40 := n1_
                    have HO115 := n2_
                    clear n0_ n1_ n2_
                    clear ho hb hg hat
                    have p36 : 0 ≤ ((ji30) : Int) := of_decide_eq_true (by first | (with_reducible assumption) | assumption)
                    have q36 : ((ji30) : Int) < ((y108.length : Int) : Int) := of_decide_eq_true (by first | (with_reducible assumption) | assumption)
                    replace p36 := eq_true p36
                    replace q36 := eq_true q36
                    obtain ⟨Ao44, co44, eo44⟩ := Kd.R_slice HO115.out
                    (first | subst eo44 | (injection eo44 with f1_ f2_ f3_; have f4_ := f1_.symm; have f5_ := f3_.symm; clear f1_ f2_ f3_; subst f4_; subst f5_))
                    obtain ⟨_, _, hraw42, _, _, hcc42, _⟩ := Kd.H_raw HH40.out (of_decide_eq_true (by first | (with_reducible assumption) | assumption)) (by have h_ : ((ji30) : Int) < ((y108.length : Int) : Int) := of_decide_eq_true (by first | (with_reducible assumption) | assumption); first | exact h_ | (have e_ := (HN40.out); omega) | simpa using h_)
                    obtain ⟨_, hfr42⟩ := Kd.H_at HH40.out (of_decide_eq_true (by first | (with_reducible assumption) | assumption)) (by have h_ : ((ji30) : Int) < ((y108.length : Int) : Int) := of_decide_eq_true (by first | (with_reducible assumption) | assumption); first | exact h_ | (have e_ := (HN40.out); omega) | simpa using h_)
                    have hx42_0 := hcc42 3 _ rfl
                    have hf42_0 := hfr42 3
                    (try rw [show (k96).sz = 4 from rfl] at hx42_0)
                    (try rw [show (k96).sz = 4 from rfl] at hf42_0)
                    have HP42 := Kd.S_seg0 HH40.out (of_decide_eq_true (by first | (with_reducible assumption) | assumption)) (by have h_ : ((ji30) : Int) < ((y108.length : Int) : Int) := of_decide_eq_true (by first | (with_reducible assumption) | assumption); first | exact h_ | (have e_ := (HN40.out); omega) | simpa using h_) (seg := [.slice Ao44 y113.length co44]) (j := 3) (show 4 ≤ 4 from by decide) (x' := (⟨(rd_T96 y108 (ji30)).f0, (rd_T96 y108 (ji30)).f1, (rd_T96 y108 (ji30)).f2, y113⟩ : S96)) (k96_mkM _ _ _ (⟨(rd_T96 y108 (ji30)).f0, (rd_T96 y108 (ji30)).f1, (rd_T96 y108 (ji30)).f2, y113⟩ : S96) HO115.out) (fun _ hk => hk)
                    clear hcc42 hfr42
                    have HS42 := HP42.1
                    rw [← Ny116.out] at HS42
                    have HQ42 := Aside0.mk HS42
                    obtain ⟨_, hgg42⟩ := Kd.R_typed hraw42 go40 rfl
                    have GG42_ := Aside0.mk hgg42
                    clear HP42 HS42 hgg42
                    refine hK.out _ _ ⟨HS0_, HS1_, HS2_, HS3_, ((HB3.out.cell (World.block_lt_of_cell? w' _ hw112_0)).trans hw112_0)⟩ (fun hHeld => ?_)
                    clear hK K
                    refine norm_ (a' := ?_) ?_ ?_
                    rotate_left
                    · show Act.put _ (some 106) _ = _
                      simp only [Act.put, List.setIfInBounds_toArray, List.set_cons_zero, List.set_cons_succ, i64_w, i32_w]
                      rfl
                    refine pure_ (i := 11) (N := some 107) (v := ?_) (a' := ?_) #[true, true, true, true, true, true, true, true, true, true, true, true, false, false] rfl rfl (any_of HT_.out (by kernel_rfl)) (fun _ _ _ h => h) (Or.inl ⟨by rfl, ?_⟩) ?_ ?_
                    rotate_left
                    · intro w''
                      go_simp
                      with_reducible rfl
                    rotate_left
                    · simp only [Act.put, List.setIfInBounds_toArray, List.set_cons_zero, List.set_cons_succ, i64_w, i32_w]
                      rfl
                    refine pure_ (i := 12) (N := some 108) (v := ?_) (a' := ?_) #[true, true, true, true, true, true, true, true, true, true, true, true, true, false] rfl rfl (any_of HT_.out (by kernel_rfl)) (fun _ _ _ h => h) (Or.inl ⟨by rfl, ?_⟩) ?_ ?_
                    rotate_left
                    · intro w''
                      go_simp
                      with_reducible rfl
                    rotate_left
                    · simp only [Act.put, List.setIfInBounds_toArray, List.set_cons_zero, List.set_cons_succ, i64_w, i32_w]
                      rfl
                    refine last_ (i := 13) (N := none) #[true, true, true, true, true, true, true, true, true, true, true, true, true, true] rfl rfl (one_of HT_.out (by kernel_rfl)) (by decide) (fun K hK => ?_)
                    refine skip_ (w1 := ?_) (by rfl) rfl ?_ ?_
                    rotate_left
                    · go_simp
                      rfl
                    refine hK.out _ _ ?_
                    clear hK K
                    refine done_ (done_of HT_.out (by kernel_rfl)) ?_
                    try go_wp2
                    go_roundg k1
                    case measure => have := HK1.out; omega
                    case rel => exact ⟨(y116), _, rfl, H', ⟨by have := HK1.out; omega⟩, ⟨by (with_reducible repeat (first | apply Kd.S_alloc | apply Kd.S_drewN | apply Kd.S_drew)); exact HQ42.out⟩, ⟨by repeat (first | (with_reducible first | exact HB3.out | apply below_alloc | apply pw_below_drewN | apply below_drew1 | refine below_set ?_ GB40.out) | exact HB3.out)⟩⟩
                  · have g0_ : ((o.length : Int) == 0) = false := beq_eq_false_iff_ne.mpr (by omega)
                    obtain ⟨ji, hji⟩ : ∃ x : Int, (o.length : Int) - 1 = x := ⟨_, rfl⟩
                    have hjw0 : IntKind.i64.wrap ((o.length : Int) - 1) = ji := by rw [i64_w]; unfold wrap64; omega
                    have p1_ : (0 : Int) ≤ ji := by omega
                    have q1_ : ji < (o.length : Int) := by omega
                    have HJI := Aside0.mk hji
                    clear hji
                    obtain ⟨ad, A3, c3, e3, hx0, hx1, hx2, hx3, _, _⟩ := at_T96 (Kd.S_reads' HO2.out).2.2 ji p1_ q1_
                    subst e3
                    replace p1_ := eq_true p1_
                    replace q1_ := eq_true q1_
                    by_cases hf : (rd_T96 o ji).f0 = true
                    · have hlc : lastCopy o = true := by unfold lastCopy; rw [HJI.out, hf, Bool.or_true]
                      have hfr : fresh o = o ++ [(⟨false, 0, 0, []⟩ : S96)] := by unfold fresh; rw [if_pos hlc]
                      rw [hf] at hx0
                      go_upto_region 22 with (first | ((with_reducible refine gate_builtin (b := .append) (xs := #[.tmp 87, .tmp 89]) rfl ?_); (try (refine gate_guard (by rfl) ?_; dsimp only)); at_builtin; refine Kd.S_append k96 (w0 := w') w'.heap.size rfl (.tmp 87) (.tmp 89) 31 96 (.agg #[(.bool false), (.int .i64 0), (.int .i64 0), (.slice none 0 0)]) 48 rfl Try.underlying31 info96 rfl (by decide) (by omega) (.slice (some ad) o.length c7) o (⟨false, 0, 0, []⟩ : S96) [.bool false, .int .i64 0, .int .i64 0, .slice none 0 0] (fun _ => True) (fun _ => False) rfl rfl ?aP (fun k_ hk_ => hk_.elim) ?aF ?aO ?aB ?aS ?aL ?_; (case aP => exact k96_mkM _ _ _ (⟨false, 0, 0, []⟩ : S96) (Kd.R_nil _ _ _ _ _)); (case aB => exact (by repeat (first | (with_reducible first | exact HB2.out | apply below_alloc | apply pw_below_drewN | apply below_drew1) | exact HB2.out))); (case aF => exact (fun _ _ => trivial)); (case aO => exact (by (with_reducible repeat (first | apply Kd.S_alloc | apply Kd.S_drewN | apply Kd.S_drew)); exact Kd.S_mono HO2.out (fun k_ hk => ⟨trivial, fun e_ => e_⟩))); (case aS => exact (below_size (by repeat (first | (with_reducible first | exact HB2.out | apply below_alloc | apply pw_below_drewN | apply below_drew1) | exact HB2.out)))); (case aL => have := LMo.out; omega); intro v106 w27 ho hb hg hat; have HB3 := Aside0.mk hb; have HO3 := Aside0.mk ho; clear ho hb hg hat))
                      clear hx0 hx1 hx2 hx3 p1_ q1_ hjw0 hf
                      have hyl : (fresh o).length ≤ 2097152 := fresh_le ho63
                      have hyp : 0 < (fresh o).length := fresh_pos o
                      have hq := HR.out
                      rw [← hfr] at HO3
                      obtain ⟨y108, hy108⟩ : ∃ y_ : List S96, fresh o = y_ := ⟨_, rfl⟩
                      rw [hy108] at hyl hyp hq HO3
                      clear hfr
                      obtain ⟨ji30, hji⟩ : ∃ x : Int, (y108.length : Int) - 1 = x := ⟨_, rfl⟩
                      have hjw : IntKind.i64.wrap ((y108.length : Int) - 1) = ji30 := by rw [i64_w]; unfold wrap64; omega
                      have c31b0 : decide (0 ≤ ji30) = true := decide_eq_true (by omega)
                      have c32b0 : decide (ji30 < (y108.length : Int)) = true := decide_eq_true (by omega)
                      have hjt : y108.length - 1 = ji30.toNat := by omega
                      rw [hji] at hq
                      by_cases c35 : ((rd_T96 y108 ji30).f3).length < 2097152
                      case neg => rw [if_neg c35] at hq; cases hq
                      rw [if_pos c35] at hq
                      have LMc35 := Aside0.mk c35
                      unfold push at hq
                      rw [hji, hjt] at hq
                      clear hji hjt c35
                      obtain ⟨y113, hy113⟩ : ∃ y_ : List Int, y_ = (((rd_T96 y108 (ji30)).f3) ++ [rd l1 (j : Int)]) := ⟨_, rfl⟩
                      rw [← hy113] at hq
                      have Ny113 := Aside0.mk hy113
                      clear hy113
                      obtain ⟨y116, hy116⟩ : ∃ y_ : List (S96), y_ = (y108.set ((ji30) : Int).toNat (⟨(rd_T96 y108 (ji30)).f0, (rd_T96 y108 (ji30)).f1, (rd_T96 y108 (ji30)).f2, y113⟩ : S96)) := ⟨_, rfl⟩
                      rw [← hy116] at hq
                      have Ny116 := Aside0.mk hy116
                      clear hy116
                      have H' := Aside0.mk hq
                      clear hq
                      obtain ⟨Ao38, co38, eo38⟩ := Kd.S_slice HO3.out
                      subst eo38
                      have p111 : 0 ≤ ((ji30) : Int) := of_decide_eq_true (by first | (with_reducible assumption) | assumption)
                      have q111 : (ji30) < (y108.length : Int) := of_decide_eq_true (by first | (with_reducible assumption) | assumption)
                      obtain ⟨ad111, A111_3, c111_3, e111, hx111_0, hx111_1, hx111_2, hx111_3, hl111_3, hi111_3⟩ := at_T96 (Kd.S_reads' HO3.out).2.2 (ji30) p111 q111
                      cases e111
                      replace p111 := eq_true p111
                      replace q111 := eq_true q111
                      go_upto_region 23 with (fail)
                      have n0_ := Aside0.mk (Kd.S_drew HO3.out)
                      have n1_ := Aside0.mk (below_drew1 HB3.out)
                      clear HO3 HB3
                      have HO3 := n0_
                      have HB3 := n1_
                      clear n0_ n1_
                      have p111_ : 0 ≤ ((ji30) : Int) := of_decide_eq_true (by first | (with_reducible assumption) | assumption)
                      obtain ⟨ce111, hce111, hMe111, hcc111⟩ := Kd.S_get HO3.out z96 (ji30) p111_ (by first | exact of_decide_eq_true (by first | (with_reducible assumption) | assumption) | (have e_ := (Kd.S_reads' HO3.out).1; omega))
                      clear p111_
                      obtain ⟨ve111_3, rfl, ge111_3⟩ := k96_openM hMe111
                      have hv111_3 := hcc111 3 _ rfl
                      rw [add_field _ _ 3 (by omega)] at hv111_3
                      replace hv111_3 := Option.some.inj (hv111_3.symm.trans hx111_3)
                      rw [hv111_3] at ge111_3
                      have HL111_3 := Aside0.mk (show Kd.R (Kd.int .u8) 5 _ _ _ _ ((rd_T96 y108 (ji30)).f3) from ge111_3)
                      clear hv111_3 ge111_3
                      have HX111_3 := Aside0.mk hx111_3
                      clear hcc111 hce111
                      have HR111_3 := Aside0.mk hi111_3
                      have HC111_3 := Aside0.mk hl111_3
                      clear hi111_3 hl111_3
                      have p112 : 0 ≤ ((j : Int)) := by omega
                      have q112 : (j : Int) < (l1.length : Int) := by omega
                      obtain ⟨ad112, e112, hx112_0⟩ := Kd.at_int (Kd.C_below HR1.out m2_.out) (j : Int) p112 q112
                      rw [Int.toNat_natCast] at hx112_0
                      have hw112_0 := hx112_0
                      cases e112
                      replace hx112_0 := (HB3.out.cell (World.block_lt_of_cell? w' _ hx112_0)).trans hx112_0
                      replace p112 := eq_true p112
                      replace q112 := eq_true q112
                      obtain ⟨go40, co40, eo40, gb40, gl40, cl40, HG40⟩ := Kd.S_form HO3.out (by have h_ : ((ji30) : Int) < ((y108.length : Int) : Int) := of_decide_eq_true (by first | (with_reducible assumption) | assumption); have h2_ : 0 ≤ ((ji30) : Int) := (of_decide_eq_true (by first | (with_reducible assumption) | assumption)); omega)
                      (first | cases eo40 | (injection eo40 with ea_ en_ ec_; (first | subst ea_ | (injection ea_ with ea_; subst ea_)); subst ec_; clear en_))
                      have GB40 := Aside0.mk gb40
                      have GG40 := Aside0.mk HG40
                      clear gb40 gl40 HG40
                      (first | simp only [add_plain] at hx111_0 | skip)
                      (first | simp only [add_plain] at hx111_1 | skip)
                      (first | simp only [add_plain] at hx111_2 | skip)
                      (first | simp only [add_plain] at hx111_3 | skip)
                      obtain ⟨oki40, ce40, hcl40, hM40, hcc40, _, _, hH40⟩ := Kd.S_elem HO3.out z96 ((ji30) : Int) (of_decide_eq_true (by first | (with_reducible assumption) | assumption)) (by have h_ : ((ji30) : Int) < ((y108.length : Int) : Int) := of_decide_eq_true (by first | (with_reducible assumption) | assumption); first | exact h_ | (have e_ := (Kd.S_reads' HO3.out).1; omega) | simpa using h_)
                      obtain ⟨ve40_3, rfl, ge40_3⟩ := k96_openM hM40
                      have hv40 := hcc40 3 _ rfl
                      have hX40 := HX111_3.out
                      (try simp only [add_plain] at hX40)
                      (try simp only [Nat.add_zero] at hv40)
                      replace hv40 := Option.some.inj (hv40.symm.trans hX40)
                      subst hv40
                      clear hX40 hcc40 hcl40
                      have UU40 := Aside0.mk (show Kd.R (Kd.int .u8) 5 _ w'.heap.size oki40 (.slice A111_3 ((rd_T96 y108 (ji30)).f3).length c111_3) ((rd_T96 y108 (ji30)).f3) from ge40_3)
                      have HH40 := Aside0.mk hH40
                      have HN40 := Aside0.mk (Kd.S_reads' HO3.out).1
                      clear hH40 ge40_3
                      refine start_ (n := 14) (S := fun w'' => w''.cell? ⟨go40, ji30.toNat * 4, none⟩ = some (.bool ((rd_T96 y108 (ji30)).f0)) ∧ w''.cell? ⟨go40, ji30.toNat * 4 + 1, none⟩ = some (.int .i64 ((rd_T96 y108 (ji30)).f1)) ∧ w''.cell? ⟨go40, ji30.toNat * 4 + 2, none⟩ = some (.int .i64 ((rd_T96 y108 (ji30)).f2)) ∧ w''.cell? ⟨go40, ji30.toNat * 4 + 3, none⟩ = some (.slice A111_3 ((rd_T96 y108 (ji30)).f3).length c111_3) ∧ w''.cell? (ad112.add j) = some (.int .u8 (rd l1 (j : Int)))) (ds := [13]) #[false, false, false, false, false, false, false, false, false, false, false, false, false, false] (by kernel_rfl) rfl rfl ⟨hx111_0, hx111_1, hx111_2, hx111_3, ((HB3.out.cell (World.block_lt_of_cell? w' _ hw112_0)).trans hw112_0)⟩ (fun hHeld => ?_); refine with_tabW delta_Delta.tab23 delta_Delta.bits23 (fun HT_ HW_ => ?_)
                      generalize w27.drew = w39 at HO3 HB3 GG40 HH40 HL111_3 HR111_3 HX111_3 UU40 hx111_0 hx111_1 hx111_2 hx111_3 hx112_0 hHeld ⊢
                      refine pure_ (i := 0) (N := some 96) (v := ?_) (a' := ?_) #[true, false, false, false, false, false, false, false, false, false, false, false, false, false] rfl rfl (any_of HT_.out (by kernel_rfl)) (fun _ _ _ h => h) (Or.inl ⟨by rfl, ?_⟩) ?_ ?_
                      rotate_left
                      · intro w''
                        go_simp
                        with_reducible rfl
                      rotate_left
                      · simp only [Act.put, List.setIfInBounds_toArray, List.set_cons_zero, List.set_cons_succ, i64_w, i32_w]
                        rfl
                      refine pure_ (i := 1) (N := some 97) (v := ?_) (a' := ?_) #[true, true, false, false, false, false, false, false, false, false, false, false, false, false] rfl rfl (any_of HT_.out (by kernel_rfl)) (fun _ _ _ h => h) (Or.inl ⟨by rfl, ?_⟩) ?_ ?_
                      rotate_left
                      · intro w''
                        go_simp
                        with_reducible rfl
                      rotate_left
                      · simp only [Act.put, List.setIfInBounds_toArray, List.set_cons_zero, List.set_cons_succ, i64_w, i32_w]
                        rfl
                      refine pure_ (i := 2) (N := some 98) (v := ?_) (a' := ?_) #[true, true, true, false, false, false, false, false, false, false, false, false, false, false] rfl rfl (any_of HT_.out (by kernel_rfl)) (fun _ _ _ h => h) (Or.inl ⟨by rfl, ?_⟩) ?_ ?_
                      rotate_left
                      · intro w''
                        go_simp
                        with_reducible rfl
                      rotate_left
                      · simp only [Act.put, List.setIfInBounds_toArray, List.set_cons_zero, List.set_cons_succ, i64_w, i32_w]
                        rfl
                      refine pure_ (i := 3) (N := some 99) (v := ?_) (a' := ?_) #[true, true, true, true, false, false, false, false, false, false, false, false, false, false] rfl rfl (any_of HT_.out (by kernel_rfl)) (fun _ _ _ h => h) (Or.inl ⟨by rfl, ?_⟩) ?_ ?_
                      rotate_left
                      · intro w''
                        go_simp
                        with_reducible rfl
                      rotate_left
                      · simp only [Act.put, List.setIfInBounds_toArray, List.set_cons_zero, List.set_cons_succ, i64_w, i32_w]
                        rfl
                      refine pure_ (i := 5) (N := some 101) (v := ?_) (a' := ?_) #[true, true, true, true, false, true, false, false, false, false, false, false, false, false] rfl rfl (any_of HT_.out (by kernel_rfl)) (fun _ _ _ h => h) (Or.inl ⟨by rfl, ?_⟩) ?_ ?_
                      rotate_left
                      · intro w''
                        go_simp
                        with_reducible rfl
                      rotate_left
                      · simp only [Act.put, List.setIfInBounds_toArray, List.set_cons_zero, List.set_cons_succ, i64_w, i32_w]
                        rfl
                      refine pure_ (i := 6) (N := some 102) (v := ?_) (a' := ?_) #[true, true, true, true, false, true, true, false, false, false, false, false, false, false] rfl rfl (any_of HT_.out (by kernel_rfl)) (fun _ _ _ h => h) (Or.inl ⟨by rfl, ?_⟩) ?_ ?_
                      rotate_left
                      · intro w''
                        go_simp
                        with_reducible rfl
                      rotate_left
                      · simp only [Act.put, List.setIfInBounds_toArray, List.set_cons_zero, List.set_cons_succ, i64_w, i32_w]
                        rfl
                      refine pure_ (i := 7) (N := some 103) (v := ?_) (a' := ?_) #[true, true, true, true, false, true, true, true, false, false, false, false, false, false] rfl rfl (any_of HT_.out (by kernel_rfl)) (fun _ _ _ h => h) (Or.inl ⟨by rfl, ?_⟩) ?_ ?_
                      rotate_left
                      · intro w''
                        go_simp
                        with_reducible rfl
                      rotate_left
                      · simp only [Act.put, List.setIfInBounds_toArray, List.set_cons_zero, List.set_cons_succ, i64_w, i32_w]
                        rfl
                      refine take_ (i := 4) (N := some 100) (v := ?_) (a' := ?_) #[true, true, true, true, true, true, true, true, false, false, false, false, false, false] rfl rfl (take_ofW HT_.out HW_.out (by kernel_rfl)) (fun _ _ _ h => h) (Or.inl ⟨by rfl, ?_⟩) hHeld ?_ ?_
                      rotate_left
                      · rintro w'' ⟨s0, s1, s2, s3, s4⟩
                        go_simp
                        with_reducible rfl
                      rotate_left
                      · simp only [Act.put, List.setIfInBounds_toArray, List.set_cons_zero, List.set_cons_succ, i64_w, i32_w]
                        rfl
                      refine take_ (i := 8) (N := some 104) (v := ?_) (a' := ?_) #[true, true, true, true, true, true, true, true, true, false, false, false, false, false] rfl rfl (take_ofW HT_.out HW_.out (by kernel_rfl)) (fun _ _ _ h => h) (Or.inl ⟨by rfl, ?_⟩) hHeld ?_ ?_
                      rotate_left
                      · rintro w'' ⟨s0, s1, s2, s3, s4⟩
                        go_simp
                        with_reducible rfl
                      rotate_left
                      · simp only [Act.put, List.setIfInBounds_toArray, List.set_cons_zero, List.set_cons_succ, i64_w, i32_w]
                        rfl
                      refine one_ (i := 9) (N := some 105) #[true, true, true, true, true, true, true, true, true, true, false, false, false, false] rfl rfl (one_of HT_.out (by kernel_rfl)) (by decide) (fun K hK => ?_)
                      refine value_ (w1 := ?_) (v := ?_) (by rfl) rfl ?_ ?_
                      rotate_left 2
                      · go_simp
                        constructor
                        · rfl
                        · rfl
                      refine hK.out _ _ ⟨(World.cell?_alloc_lt _ _ _ (World.block_lt_of_cell? _ _ (hHeld.1))).trans (hHeld.1), (World.cell?_alloc_lt _ _ _ (World.block_lt_of_cell? _ _ (hHeld.2.1))).trans (hHeld.2.1), (World.cell?_alloc_lt _ _ _ (World.block_lt_of_cell? _ _ (hHeld.2.2.1))).trans (hHeld.2.2.1), (World.cell?_alloc_lt _ _ _ (World.block_lt_of_cell? _ _ (hHeld.2.2.2.1))).trans (hHeld.2.2.2.1), (World.cell?_alloc_lt _ _ _ (World.block_lt_of_cell? _ _ (((HB3.out.cell (World.block_lt_of_cell? w' _ hw112_0)).trans hw112_0)))).trans (((HB3.out.cell (World.block_lt_of_cell? w' _ hw112_0)).trans hw112_0))⟩ (fun hHeld => ?_)
                      clear hK K
                      refine norm_ (a' := ?_) ?_ ?_
                      rotate_left
                      · show Act.put _ (some 105) _ = _
                        simp only [Act.put, List.setIfInBounds_toArray, List.set_cons_zero, List.set_cons_succ, i64_w, i32_w]
                        rfl
                      refine one_ (i := 10) (N := some 106) #[true, true, true, true, true, true, true, true, true, true, true, false, false, false] rfl rfl (one_of HT_.out (by kernel_rfl)) (by decide) (fun K hK => ?_)
                      refine Kd.R_append_step (Kd.int .u8) (w0 := w') w'.heap.size (by rfl) (.tmp 100) (.tmp 105) 30 5 (.int .u8 0) 1 rfl Try.underlying30 info5 rfl (by decide) (by omega) (.slice A111_3 ((rd_T96 y108 (ji30)).f3).length c111_3) ((rd_T96 y108 (ji30)).f3) (rd l1 (j : Int)) [.int .u8 (rd l1 (j : Int))] (fun k_ => oki40 k_ ∨ ((fun _ => True)) k_ ∧ w39.heap.size ≤ k_) (fun _ => False) rfl rfl ?aP (fun _ hk => hk.elim) ?aF ?aO ?aB ?aS ?aL ?_
                      (case aP => exact rfl)
                      (case aB => exact (by repeat (first | (with_reducible first | exact HB3.out | apply below_alloc | apply pw_below_drewN | apply below_drew1) | exact HB3.out)))
                      (case aF => exact (fun k_ hk => .inr ⟨trivial, hk⟩))
                      (case aO => exact (by (with_reducible repeat (first | apply Kd.R_alloc | apply Kd.R_drewN | apply Kd.R_drew)); exact Kd.R_mono UU40.out (fun _ hk => .inl hk)))
                      (case aS => exact (below_size (by repeat (first | (with_reducible first | exact HB3.out | apply below_alloc | apply pw_below_drewN | apply below_drew1) | exact HB3.out))))
                      (case aL => have := LMc35.out; omega)
                      intro v114 w41 ho hb hg hat
                      (first | have HS0_ := cell_grown hg (hHeld.1) (by first | (rw [add_block]; exact (fun e_ => ((HL111_3.out.1 _ e_.symm).2) rfl)) | (show some (Addr.add _ _).block ≠ _; rw [add_block]; exact (fun e_ => ((HL111_3.out.1 _ e_.symm).2) rfl)) | exact (fun e_ => ((HL111_3.out.1 _ e_.symm).2) rfl)) | have HS0_ := cell_grown hg (cell_unalloc (hHeld.1) (by first | (rw [add_block]; exact Kd.S_lt HO3.out _ rfl) | (show (Addr.add _ _).block < _; rw [add_block]; exact Kd.S_lt HO3.out _ rfl) | exact Kd.S_lt HO3.out _ rfl)) (by first | (rw [add_block]; exact (fun e_ => ((HL111_3.out.1 _ e_.symm).2) rfl)) | (show some (Addr.add _ _).block ≠ _; rw [add_block]; exact (fun e_ => ((HL111_3.out.1 _ e_.symm).2) rfl)) | exact (fun e_ => ((HL111_3.out.1 _ e_.symm).2) rfl)))
                      (first | have HS1_ := cell_grown hg (hHeld.2.1) (by first | (rw [add_block]; exact (fun e_ => ((HL111_3.out.1 _ e_.symm).2) rfl)) | (show some (Addr.add _ _).block ≠ _; rw [add_block]; exact (fun e_ => ((HL111_3.out.1 _ e_.symm).2) rfl)) | exact (fun e_ => ((HL111_3.out.1 _ e_.symm).2) rfl)) | have HS1_ := cell_grown hg (cell_unalloc (hHeld.2.1) (by first | (rw [add_block]; exact Kd.S_lt HO3.out _ rfl) | (show (Addr.add _ _).block < _; rw [add_block]; exact Kd.S_lt HO3.out _ rfl) | exact Kd.S_lt HO3.out _ rfl)) (by first | (rw [add_block]; exact (fun e_ => ((HL111_3.out.1 _ e_.symm).2) rfl)) | (show some (Addr.add _ _).block ≠ _; rw [add_block]; exact (fun e_ => ((HL111_3.out.1 _ e_.symm).2) rfl)) | exact (fun e_ => ((HL111_3.out.1 _ e_.symm).2) rfl)))
                      (first | have HS2_ := cell_grown hg (hHeld.2.2.1) (by first | (rw [add_block]; exact (fun e_ => ((HL111_3.out.1 _ e_.symm).2) rfl)) | (show some (Addr.add _ _).block ≠ _; rw [add_block]; exact (fun e_ => ((HL111_3.out.1 _ e_.symm).2) rfl)) | exact (fun e_ => ((HL111_3.out.1 _ e_.symm).2) rfl)) | have HS2_ := cell_grown hg (cell_unalloc (hHeld.2.2.1) (by first | (rw [add_block]; exact Kd.S_lt HO3.out _ rfl) | (show (Addr.add _ _).block < _; rw [add_block]; exact Kd.S_lt HO3.out _ rfl) | exact Kd.S_lt HO3.out _ rfl)) (by first | (rw [add_block]; exact (fun e_ => ((HL111_3.out.1 _ e_.symm).2) rfl)) | (show some (Addr.add _ _).block ≠ _; rw [add_block]; exact (fun e_ => ((HL111_3.out.1 _ e_.symm).2) rfl)) | exact (fun e_ => ((HL111_3.out.1 _ e_.symm).2) rfl)))
                      (first | have HS3_ := cell_grown hg (hHeld.2.2.2.1) (by first | (rw [add_block]; exact (fun e_ => ((HL111_3.out.1 _ e_.symm).2) rfl)) | (show some (Addr.add _ _).block ≠ _; rw [add_block]; exact (fun e_ => ((HL111_3.out.1 _ e_.symm).2) rfl)) | exact (fun e_ => ((HL111_3.out.1 _ e_.symm).2) rfl)) | have HS3_ := cell_grown hg (cell_unalloc (hHeld.2.2.2.1) (by first | (rw [add_block]; exact Kd.S_lt HO3.out _ rfl) | (show (Addr.add _ _).block < _; rw [add_block]; exact Kd.S_lt HO3.out _ rfl) | exact Kd.S_lt HO3.out _ rfl)) (by first | (rw [add_block]; exact (fun e_ => ((HL111_3.out.1 _ e_.symm).2) rfl)) | (show some (Addr.add _ _).block ≠ _; rw [add_block]; exact (fun e_ => ((HL111_3.out.1 _ e_.symm).2) rfl)) | exact (fun e_ => ((HL111_3.out.1 _ e_.symm).2) rfl)))
                      rw [← Ny113.out] at ho
                      have n0_ := Aside0.mk (hb)
                      have n1_ := Aside0.mk (Kd.H_grown (Kd.H_widen (by repeat (first | exact HH40.out | refine Kd.H_alloc ?_ _ | refine Kd.H_drewN ?_ _ | refine Kd.H_drew ?_))) hg (fun k_ e_ => .inl (UU40.out.1 k_ e_)))
                      have n2_ := Aside0.mk (ho)
                      clear HB3 HH40 HO3 UU40 HL111_3
                      have HB3 := n0_
                      have HH40 := n1_
                      have HO115 := n2_
                      clear n0_ n1_ n2_
                      clear ho hb hg hat
                      have p36 : 0 ≤ ((ji30) : Int) := of_decide_eq_true (by first | (with_reducible assumption) | assumption)
                      have q36 : ((ji30) : Int) < ((y108.length : Int) : Int) := of_decide_eq_true (by first | (with_reducible assumption) | assumption)
                      replace p36 := eq_true p36
                      replace q36 := eq_true q36
                      obtain ⟨Ao44, co44, eo44⟩ := Kd.R_slice HO115.out
                      (first | subst eo44 | (injection eo44 with f1_ f2_ f3_; have f4_ := f1_.symm; have f5_ := f3_.symm; clear f1_ f2_ f3_; subst f4_; subst f5_))
                      obtain ⟨_, _, hraw42, _, _, hcc42, _⟩ := Kd.H_raw HH40.out (of_decide_eq_true (by first | (with_reducible assumption) | assumption)) (by have h_ : ((ji30) : Int) < ((y108.length : Int) : Int) := of_decide_eq_true (by first | (with_reducible assumption) | assumption); first | exact h_ | (have e_ := (HN40.out); omega) | simpa using h_)
                      obtain ⟨_, hfr42⟩ := Kd.H_at HH40.out (of_decide_eq_true (by first | (with_reducible assumption) | assumption)) (by have h_ : ((ji30) : Int) < ((y108.length : Int) : Int) := of_decide_eq_true (by first | (with_reducible assumption) | assumption); first | exact h_ | (have e_ := (HN40.out); omega) | simpa using h_)
                      have hx42_0 := hcc42 3 _ rfl
                      have hf42_0 := hfr42 3
                      (try rw [show (k96).sz = 4 from rfl] at hx42_0)
                      (try rw [show (k96).sz = 4 from rfl] at hf42_0)
                      have HP42 := Kd.S_seg0 HH40.out (of_decide_eq_true (by first | (with_reducible assumption) | assumption)) (by have h_ : ((ji30) : Int) < ((y108.length : Int) : Int) := of_decide_eq_true (by first | (with_reducible assumption) | assumption); first | exact h_ | (have e_ := (HN40.out); omega) | simpa using h_) (seg := [.slice Ao44 y113.length co44]) (j := 3) (show 4 ≤ 4 from by decide) (x' := (⟨(rd_T96 y108 (ji30)).f0, (rd_T96 y108 (ji30)).f1, (rd_T96 y108 (ji30)).f2, y113⟩ : S96)) (k96_mkM _ _ _ (⟨(rd_T96 y108 (ji30)).f0, (rd_T96 y108 (ji30)).f1, (rd_T96 y108 (ji30)).f2, y113⟩ : S96) HO115.out) (fun _ hk => hk)
                      clear hcc42 hfr42
                      have HS42 := HP42.1
                      rw [← Ny116.out] at HS42
                      have HQ42 := Aside0.mk HS42
                      obtain ⟨_, hgg42⟩ := Kd.R_typed hraw42 go40 rfl
                      have GG42_ := Aside0.mk hgg42
                      clear HP42 HS42 hgg42
                      refine hK.out _ _ ⟨HS0_, HS1_, HS2_, HS3_, ((HB3.out.cell (World.block_lt_of_cell? w' _ hw112_0)).trans hw112_0)⟩ (fun hHeld => ?_)
                      clear hK K
                      refine norm_ (a' := ?_) ?_ ?_
                      rotate_left
                      · show Act.put _ (some 106) _ = _
                        simp only [Act.put, List.setIfInBounds_toArray, List.set_cons_zero, List.set_cons_succ, i64_w, i32_w]
                        rfl
                      refine pure_ (i := 11) (N := some 107) (v := ?_) (a' := ?_) #[true, true, true, true, true, true, true, true, true, true, true, true, false, false] rfl rfl (any_of HT_.out (by kernel_rfl)) (fun _ _ _ h => h) (Or.inl ⟨by rfl, ?_⟩) ?_ ?_
                      rotate_left
                      · intro w''
                        go_simp
                        with_reducible rfl
                      rotate_left
                      · simp only [Act.put, List.setIfInBounds_toArray, List.set_cons_zero, List.set_cons_succ, i64_w, i32_w]
                        rfl
                      refine pure_ (i := 12) (N := some 108) (v := ?_) (a' := ?_) #[true, true, true, true, true, true, true, true, true, true, true, true, true, false] rfl rfl (any_of HT_.out (by kernel_rfl)) (fun _ _ _ h => h) (Or.inl ⟨by rfl, ?_⟩) ?_ ?_
                      rotate_left
                      · intro w''
                        go_simp
                        with_reducible rfl
                      rotate_left
                      · simp only [Act.put, List.setIfInBounds_toArray, List.set_cons_zero, List.set_cons_succ, i64_w, i32_w]
                        rfl
                      refine last_ (i := 13) (N := none) #[true, true, true, true, true, true, true, true, true, true, true, true, true, true] rfl rfl (one_of HT_.out (by kernel_rfl)) (by decide) (fun K hK => ?_)
                      refine skip_ (w1 := ?_) (by rfl) rfl ?_ ?_
                      rotate_left
                      · go_simp
                        rfl
                      refine hK.out _ _ ?_
                      clear hK K
                      refine done_ (done_of HT_.out (by kernel_rfl)) ?_
                      try go_wp2
                      go_roundg k1
                      case measure => have := HK1.out; omega
                      case rel => exact ⟨(y116), _, rfl, H', ⟨by have := HK1.out; omega⟩, ⟨by (with_reducible repeat (first | apply Kd.S_alloc | apply Kd.S_drewN | apply Kd.S_drew)); exact HQ42.out⟩, ⟨by repeat (first | (with_reducible first | exact HB3.out | apply below_alloc | apply pw_below_drewN | apply below_drew1 | refine below_set ?_ GB40.out) | exact HB3.out)⟩⟩
                    · have hlc : ¬ lastCopy o = true := by unfold lastCopy; rw [HJI.out, Bool.eq_false_iff.2 hf, Bool.or_false]; intro e; have := beq_iff_eq.1 e; omega
                      have hfr : fresh o = o := by unfold fresh; rw [if_neg hlc]
                      rw [Bool.eq_false_iff.2 hf] at hx0
                      go_upto_region 22 with (fail)
                      clear hx0 hx1 hx2 hx3 p1_ q1_ hjw0 hf HJI
                      have hyl : o.length ≤ 2097152 := by omega
                      have hyp : 0 < o.length := ho0
                      have hq := HR.out
                      rw [hfr] at hq
                      clear hfr hlc
                      have HO3 := HO2
                      have HB3 := HB2
                      obtain ⟨y108, hy108⟩ : ∃ y_ : List S96, y_ = o := ⟨_, rfl⟩
                      subst hy108
                      obtain ⟨ji30, hji⟩ : ∃ x : Int, (y108.length : Int) - 1 = x := ⟨_, rfl⟩
                      have hjw : IntKind.i64.wrap ((y108.length : Int) - 1) = ji30 := by rw [i64_w]; unfold wrap64; omega
                      have c31b0 : decide (0 ≤ ji30) = true := decide_eq_true (by omega)
                      have c32b0 : decide (ji30 < (y108.length : Int)) = true := decide_eq_true (by omega)
                      have hjt : y108.length - 1 = ji30.toNat := by omega
                      rw [hji] at hq
                      by_cases c35 : ((rd_T96 y108 ji30).f3).length < 2097152
                      case neg => rw [if_neg c35] at hq; cases hq
                      rw [if_pos c35] at hq
                      have LMc35 := Aside0.mk c35
                      unfold push at hq
                      rw [hji, hjt] at hq
                      clear hji hjt c35
                      obtain ⟨y113, hy113⟩ : ∃ y_ : List Int, y_ = (((rd_T96 y108 (ji30)).f3) ++ [rd l1 (j : Int)]) := ⟨_, rfl⟩
                      rw [← hy113] at hq
                      have Ny113 := Aside0.mk hy113
                      clear hy113
                      obtain ⟨y116, hy116⟩ : ∃ y_ : List (S96), y_ = (y108.set ((ji30) : Int).toNat (⟨(rd_T96 y108 (ji30)).f0, (rd_T96 y108 (ji30)).f1, (rd_T96 y108 (ji30)).f2, y113⟩ : S96)) := ⟨_, rfl⟩
                      rw [← hy116] at hq
                      have Ny116 := Aside0.mk hy116
                      clear hy116
                      have H' := Aside0.mk hq
                      clear hq
                      have p111 : 0 ≤ ((ji30) : Int) := of_decide_eq_true (by first | (with_reducible assumption) | assumption)
                      have q111 : (ji30) < (y108.length : Int) := of_decide_eq_true (by first | (with_reducible assumption) | assumption)
                      obtain ⟨ad111, A111_3, c111_3, e111, hx111_0, hx111_1, hx111_2, hx111_3, hl111_3, hi111_3⟩ := at_T96 (Kd.S_reads' HO3.out).2.2 (ji30) p111 q111
                      cases e111
                      replace p111 := eq_true p111
                      replace q111 := eq_true q111
                      go_upto_region 23 with (fail)
                      have n0_ := Aside0.mk (Kd.S_drew HO3.out)
                      have n1_ := Aside0.mk (below_drew1 HB3.out)
                      clear HO3 HB3
                      have HO3 := n0_
                      have HB3 := n1_
                      clear n0_ n1_
                      have p111_ : 0 ≤ ((ji30) : Int) := of_decide_eq_true (by first | (with_reducible assumption) | assumption)
                      obtain ⟨ce111, hce111, hMe111, hcc111⟩ := Kd.S_get HO3.out z96 (ji30) p111_ (by first | exact of_decide_eq_true (by first | (with_reducible assumption) | assumption) | (have e_ := (Kd.S_reads' HO3.out).1; omega))
                      clear p111_
                      obtain ⟨ve111_3, rfl, ge111_3⟩ := k96_openM hMe111
                      have hv111_3 := hcc111 3 _ rfl
                      rw [add_field _ _ 3 (by omega)] at hv111_3
                      replace hv111_3 := Option.some.inj (hv111_3.symm.trans hx111_3)
                      rw [hv111_3] at ge111_3
                      have HL111_3 := Aside0.mk (show Kd.R (Kd.int .u8) 5 _ _ _ _ ((rd_T96 y108 (ji30)).f3) from ge111_3)
                      clear hv111_3 ge111_3
                      have HX111_3 := Aside0.mk hx111_3
                      clear hcc111 hce111
                      have HR111_3 := Aside0.mk hi111_3
                      have HC111_3 := Aside0.mk hl111_3
                      clear hi111_3 hl111_3
                      have p112 : 0 ≤ ((j : Int)) := by omega
                      have q112 : (j : Int) < (l1.length : Int) := by omega
                      obtain ⟨ad112, e112, hx112_0⟩ := Kd.at_int (Kd.C_below HR1.out m2_.out) (j : Int) p112 q112
                      rw [Int.toNat_natCast] at hx112_0
                      have hw112_0 := hx112_0
                      cases e112
                      replace hx112_0 := (HB3.out.cell (World.block_lt_of_cell? w' _ hx112_0)).trans hx112_0
                      replace p112 := eq_true p112
                      replace q112 := eq_true q112
                      obtain ⟨go40, co40, eo40, gb40, gl40, cl40, HG40⟩ := Kd.S_form HO3.out (by have h_ : ((ji30) : Int) < ((y108.length : Int) : Int) := of_decide_eq_true (by first | (with_reducible assumption) | assumption); have h2_ : 0 ≤ ((ji30) : Int) := (of_decide_eq_true (by first | (with_reducible assumption) | assumption)); omega)
                      (first | cases eo40 | (injection eo40 with ea_ en_ ec_; (first | subst ea_ | (injection ea_ with ea_; subst ea_)); subst ec_; clear en_))
                      have GB40 := Aside0.mk gb40
                      have GG40 := Aside0.mk HG40
                      clear gb40 gl40 HG40
                      (first | simp only [add_plain] at hx111_0 | skip)
                      (first | simp only [add_plain] at hx111_1 | skip)
                      (first | simp only [add_plain] at hx111_2 | skip)
                      (first | simp only [add_plain] at hx111_3 | skip)
                      obtain ⟨oki40, ce40, hcl40, hM40, hcc40, _, _, hH40⟩ := Kd.S_elem HO3.out z96 ((ji30) : Int) (of_decide_eq_true (by first | (with_reducible assumption) | assumption)) (by have h_ : ((ji30) : Int) < ((y108.length : Int) : Int) := of_decide_eq_true (by first | (with_reducible assumption) | assumption); first | exact h_ | (have e_ := (Kd.S_reads' HO3.out).1; omega) | simpa using h_)
                      obtain ⟨ve40_3, rfl, ge40_3⟩ := k96_openM hM40
                      have hv40 := hcc40 3 _ rfl
                      have hX40 := HX111_3.out
                      (try simp only [add_plain] at hX40)
                      (try simp only [Nat.add_zero] at hv40)
                      replace hv40 := Option.some.inj (hv40.symm.trans hX40)
                      subst hv40
                      clear hX40 hcc40 hcl40
                      have UU40 := Aside0.mk (show Kd.R (Kd.int .u8) 5 _ w'.heap.size oki40 (.slice A111_3 ((rd_T96 y108 (ji30)).f3).length c111_3) ((rd_T96 y108 (ji30)).f3) from ge40_3)
                      have HH40 := Aside0.mk hH40
                      have HN40 := Aside0.mk (Kd.S_reads' HO3.out).1
                      clear hH40 ge40_3
                      refine start_ (n := 14) (S := fun w'' => w''.cell? ⟨go40, ji30.toNat * 4, none⟩ = some (.bool ((rd_T96 y108 (ji30)).f0)) ∧ w''.cell? ⟨go40, ji30.toNat * 4 + 1, none⟩ = some (.int .i64 ((rd_T96 y108 (ji30)).f1)) ∧ w''.cell? ⟨go40, ji30.toNat * 4 + 2, none⟩ = some (.int .i64 ((rd_T96 y108 (ji30)).f2)) ∧ w''.cell? ⟨go40, ji30.toNat * 4 + 3, none⟩ = some (.slice A111_3 ((rd_T96 y108 (ji30)).f3).length c111_3) ∧ w''.cell? (ad112.add j) = some (.int .u8 (rd l1 (j : Int)))) (ds := [13]) #[false, false, false, false, false, false, false, false, false, false, false, false, false, false] (by kernel_rfl) rfl rfl ⟨hx111_0, hx111_1, hx111_2, hx111_3, ((HB3.out.cell (World.block_lt_of_cell? w' _ hw112_0)).trans hw112_0)⟩ (fun hHeld => ?_); refine with_tabW delta_Delta.tab23 delta_Delta.bits23 (fun HT_ HW_ => ?_)
                      generalize wc.drew = w39 at HO3 HB3 GG40 HH40 HL111_3 HR111_3 HX111_3 UU40 hx111_0 hx111_1 hx111_2 hx111_3 hx112_0 hHeld ⊢
                      refine pure_ (i := 0) (N := some 96) (v := ?_) (a' := ?_) #[true, false, false, false, false, false, false, false, false, false, false, false, false, false] rfl rfl (any_of HT_.out (by kernel_rfl)) (fun _ _ _ h => h) (Or.inl ⟨by rfl, ?_⟩) ?_ ?_
                      rotate_left
                      · intro w''
                        go_simp
                        with_reducible rfl
                      rotate_left
                      · simp only [Act.put, List.setIfInBounds_toArray, List.set_cons_zero, List.set_cons_succ, i64_w, i32_w]
                        rfl
                      refine pure_ (i := 1) (N := some 97) (v := ?_) (a' := ?_) #[true, true, false, false, false, false, false, false, false, false, false, false, false, false] rfl rfl (any_of HT_.out (by kernel_rfl)) (fun _ _ _ h => h) (Or.inl ⟨by rfl, ?_⟩) ?_ ?_
                      rotate_left
                      · intro w''
                        go_simp
                        with_reducible rfl
                      rotate_left
                      · simp only [Act.put, List.setIfInBounds_toArray, List.set_cons_zero, List.set_cons_succ, i64_w, i32_w]
                        rfl
                      refine pure_ (i := 2) (N := some 98) (v := ?_) (a' := ?_) #[true, true, true, false, false, false, false, false, false, false, false, false, false, false] rfl rfl (any_of HT_.out (by kernel_rfl)) (fun _ _ _ h => h) (Or.inl ⟨by rfl, ?_⟩) ?_ ?_
                      rotate_left
                      · intro w''
                        go_simp
                        with_reducible rfl
                      rotate_left
                      · simp only [Act.put, List.setIfInBounds_toArray, List.set_cons_zero, List.set_cons_succ, i64_w, i32_w]
                        rfl
                      refine pure_ (i := 3) (N := some 99) (v := ?_) (a' := ?_) #[true, true, true, true, false, false, false, false, false, false, false, false, false, false] rfl rfl (any_of HT_.out (by kernel_rfl)) (fun _ _ _ h => h) (Or.inl ⟨by rfl, ?_⟩) ?_ ?_
                      rotate_left
                      · intro w''
                        go_simp
                        with_reducible rfl
                      rotate_left
                      · simp only [Act.put, List.setIfInBounds_toArray, List.set_cons_zero, List.set_cons_succ, i64_w, i32_w]
                        rfl
                      refine pure_ (i := 5) (N := some 101) (v := ?_) (a' := ?_) #[true, true, true, true, false, true, false, false, false, false, false, false, false, false] rfl rfl (any_of HT_.out (by kernel_rfl)) (fun _ _ _ h => h) (Or.inl ⟨by rfl, ?_⟩) ?_ ?_
                      rotate_left
                      · intro w''
                        go_simp
                        with_reducible rfl
                      rotate_left
                      · simp only [Act.put, List.setIfInBounds_toArray, List.set_cons_zero, List.set_cons_succ, i64_w, i32_w]
                        rfl
                      refine pure_ (i := 6) (N := some 102) (v := ?_) (a' := ?_) #[true, true, true, true, false, true, true, false, false, false, false, false, false, false] rfl rfl (any_of HT_.out (by kernel_rfl)) (fun _ _ _ h => h) (Or.inl ⟨by rfl, ?_⟩) ?_ ?_
                      rotate_left
                      · intro w''
                        go_simp
                        with_reducible rfl
                      rotate_left
                      · simp only [Act.put, List.setIfInBounds_toArray, List.set_cons_zero, List.set_cons_succ, i64_w, i32_w]
                        rfl
                      refine pure_ (i := 7) (N := some 103) (v := ?_) (a' := ?_) #[true, true, true, true, false, true, true, true, false, false, false, false, false, false] rfl rfl (any_of HT_.out (by kernel_rfl)) (fun _ _ _ h => h) (Or.inl ⟨by rfl, ?_⟩) ?_ ?_
                      rotate_left
                      · intro w''
                        go_simp
                        with_reducible rfl
                      rotate_left
                      · simp only [Act.put, List.setIfInBounds_toArray, List.set_cons_zero, List.set_cons_succ, i64_w, i32_w]
                        rfl
                      refine take_ (i := 4) (N := some 100) (v := ?_) (a' := ?_) #[true, true, true, true, true, true, true, true, false, false, false, false, false, false] rfl rfl (take_ofW HT_.out HW_.out (by kernel_rfl)) (fun _ _ _ h => h) (Or.inl ⟨by rfl, ?_⟩) hHeld ?_ ?_
                      rotate_left
                      · rintro w'' ⟨s0, s1, s2, s3, s4⟩
                        go_simp
                        with_reducible rfl
                      rotate_left
                      · simp only [Act.put, List.setIfInBounds_toArray, List.set_cons_zero, List.set_cons_succ, i64_w, i32_w]
                        rfl
                      refine take_ (i := 8) (N := some 104) (v := ?_) (a' := ?_) #[true, true, true, true, true, true, true, true, true, false, false, false, false, false] rfl rfl (take_ofW HT_.out HW_.out (by kernel_rfl)) (fun _ _ _ h => h) (Or.inl ⟨by rfl, ?_⟩) hHeld ?_ ?_
                      rotate_left
                      · rintro w'' ⟨s0, s1, s2, s3, s4⟩
                        go_simp
                        with_reducible rfl
                      rotate_left
                      · simp only [Act.put, List.setIfInBounds_toArray, List.set_cons_zero, List.set_cons_succ, i64_w, i32_w]
                        rfl
                      refine one_ (i := 9) (N := some 105) #[true, true, true, true, true, true, true, true, true, true, false, false, false, false] rfl rfl (one_of HT_.out (by kernel_rfl)) (by decide) (fun K hK => ?_)
                      refine value_ (w1 := ?_) (v := ?_) (by rfl) rfl ?_ ?_
                      rotate_left 2
                      · go_simp
                        constructor
                        · rfl
                        · rfl
                      refine hK.out _ _ ⟨(World.cell?_alloc_lt _ _ _ (World.block_lt_of_cell? _ _ (hHeld.1))).trans (hHeld.1), (World.cell?_alloc_lt _ _ _ (World.block_lt_of_cell? _ _ (hHeld.2.1))).trans (hHeld.2.1), (World.cell?_alloc_lt _ _ _ (World.block_lt_of_cell? _ _ (hHeld.2.2.1))).trans (hHeld.2.2.1), (World.cell?_alloc_lt _ _ _ (World.block_lt_of_cell? _ _ (hHeld.2.2.2.1))).trans (hHeld.2.2.2.1), (World.cell?_alloc_lt _ _ _ (World.block_lt_of_cell? _ _ (((HB3.out.cell (World.block_lt_of_cell? w' _ hw112_0)).trans hw112_0)))).trans (((HB3.out.cell (World.block_lt_of_cell? w' _ hw112_0)).trans hw112_0))⟩ (fun hHeld => ?_)
                      clear hK K
                      refine norm_ (a' := ?_) ?_ ?_
                      rotate_left
                      · show Act.put _ (some 105) _ = _
                        simp only [Act.put, List.setIfInBounds_toArray, List.set_cons_zero, List.set_cons_succ, i64_w, i32_w]
                        rfl
                      refine one_ (i := 10) (N := some 106) #[true, true, true, true, true, true, true, true, true, true, true, false, false, false] rfl rfl (one_of HT_.out (by kernel_rfl)) (by decide) (fun K hK => ?_)
                      refine Kd.R_append_step (Kd.int .u8) (w0 := w') w'.heap.size (by rfl) (.tmp 100) (.tmp 105) 30 5 (.int .u8 0) 1 rfl Try.underlying30 info5 rfl (by decide) (by omega) (.slice A111_3 ((rd_T96 y108 (ji30)).f3).length c111_3) ((rd_T96 y108 (ji30)).f3) (rd l1 (j : Int)) [.int .u8 (rd l1 (j : Int))] (fun k_ => oki40 k_ ∨ ((fun _ => True)) k_ ∧ w39.heap.size ≤ k_) (fun _ => False) rfl rfl ?aP (fun _ hk => hk.elim) ?aF ?aO ?aB ?aS ?aL ?_
                      (case aP => exact rfl)
                      (case aB => exact (by repeat (first | (with_reducible first | exact HB3.out | apply below_alloc | apply pw_below_drewN | apply below_drew1) | exact HB3.out)))
                      (case aF => exact (fun k_ hk => .inr ⟨trivial, hk⟩))
                      (case aO => exact (by (with_reducible repeat (first | apply Kd.R_alloc | apply Kd.R_drewN | apply Kd.R_drew)); exact Kd.R_mono UU40.out (fun _ hk => .inl hk)))
                      (case aS => exact (below_size (by repeat (first | (with_reducible first | exact HB3.out | apply below_alloc | apply pw_below_drewN | apply below_drew1) | exact HB3.out))))
                      (case aL => have := LMc35.out; omega)
                      intro v114 w41 ho hb hg hat
                      (first | have HS0_ := cell_grown hg (hHeld.1) (by first | (rw [add_block]; exact (fun e_ => ((HL111_3.out.1 _ e_.symm).2) rfl)) | (show some (Addr.add _ _).block ≠ _; rw [add_block]; exact (fun e_ => ((HL111_3.out.1 _ e_.symm).2) rfl)) | exact (fun e_ => ((HL111_3.out.1 _ e_.symm).2) rfl)) | have HS0_ := cell_grown hg (cell_unalloc (hHeld.1) (by first | (rw [add_block]; exact Kd.S_lt HO3.out _ rfl) | (show (Addr.add _ _).block < _; rw [add_block]; exact Kd.S_lt HO3.out _ rfl) | exact Kd.S_lt HO3.out _ rfl)) (by first | (rw [add_block]; exact (fun e_ => ((HL111_3.out.1 _ e_.symm).2) rfl)) | (show some (Addr.add _ _).block ≠ _; rw [add_block]; exact (fun e_ => ((HL111_3.out.1 _ e_.symm).2) rfl)) | exact (fun e_ => ((HL111_3.out.1 _ e_.symm).2) rfl)))
                      (first | have HS1_ := cell_grown hg (hHeld.2.1) (by first | (rw [add_block]; exact (fun e_ => ((HL111_3.out.1 _ e_.symm).2) rfl)) | (show some (Addr.add _ _).block ≠ _; rw [add_block]; exact (fun e_ => ((HL111_3.out.1 _ e_.symm).2) rfl)) | exact (fun e_ => ((HL111_3.out.1 _ e_.symm).2) rfl)) | have HS1_ := cell_grown hg (cell_unalloc (hHeld.2.1) (by first | (rw [add_block]; exact Kd.S_lt HO3.out _ rfl) | (show (Addr.add _ _).block < _; rw [add_block]; exact Kd.S_lt HO3.out _ rfl) | exact Kd.S_lt HO3.out _ rfl)) (by first | (rw [add_block]; exact (fun e_ => ((HL111_3.out.1 _ e_.symm).2) rfl)) | (show some (Addr.add _ _).block ≠ _; rw [add_block]; exact (fun e_ => ((HL111_3.out.1 _ e_.symm).2) rfl)) | exact (fun e_ => ((HL111_3.out.1 _ e_.symm).2) rfl)))
                      (first | have HS2_ := cell_grown hg (hHeld.2.2.1) (by first | (rw [add_block]; exact (fun e_ => ((HL111_3.out.1 _ e_.symm).2) rfl)) | (show some (Addr.add _ _).block ≠ _; rw [add_block]; exact (fun e_ => ((HL111_3.out.1 _ e_.symm).2) rfl)) | exact (fun e_ => ((HL111_3.out.1 _ e_.symm).2) rfl)) | have HS2_ := cell_grown hg (cell_unalloc (hHeld.2.2.1) (by first | (rw [add_block]; exact Kd.S_lt HO3.out _ rfl) | (show (Addr.add _ _).block < _; rw [add_block]; exact Kd.S_lt HO3.out _ rfl) | exact Kd.S_lt HO3.out _ rfl)) (by first | (rw [add_block]; exact (fun e_ => ((HL111_3.out.1 _ e_.symm).2) rfl)) | (show some (Addr.add _ _).block ≠ _; rw [add_block]; exact (fun e_ => ((HL111_3.out.1 _ e_.symm).2) rfl)) | exact (fun e_ => ((HL111_3.out.1 _ e_.symm).2) rfl)))
                      (first | have HS3_ := cell_grown hg (hHeld.2.2.2.1) (by first | (rw [add_block]; exact (fun e_ => ((HL111_3.out.1 _ e_.symm).2) rfl)) | (show some (Addr.add _ _).block ≠ _; rw [add_block]; exact (fun e_ => ((HL111_3.out.1 _ e_.symm).2) rfl)) | exact (fun e_ => ((HL111_3.out.1 _ e_.symm).2) rfl)) | have HS3_ := cell_grown hg (cell_unalloc (hHeld.2.2.2.1) (by first | (rw [add_block]; exact Kd.S_lt HO3.out _ rfl) | (show (Addr.add _ _).block < _; rw [add_block]; exact Kd.S_lt HO3.out _ rfl) | exact Kd.S_lt HO3.out _ rfl)) (by first | (rw [add_block]; exact (fun e_ => ((HL111_3.out.1 _ e_.symm).2) rfl)) | (show some (Addr.add _ _).block ≠ _; rw [add_block]; exact (fun e_ => ((HL111_3.out.1 _ e_.symm).2) rfl)) | exact (fun e_ => ((HL111_3.out.1 _ e_.symm).2) rfl)))
                      rw [← Ny113.out] at ho
                      have n0_ := Aside0.mk (hb)
                      have n1_ := Aside0.mk (Kd.H_grown (Kd.H_widen (by repeat (first | exact HH40.out | refine Kd.H_alloc ?_ _ | refine Kd.H_drewN ?_ _ | refine Kd.H_drew ?_))) hg (fun k_ e_ => .inl (UU40.out.1 k_ e_)))
                      have n2_ := Aside0.mk (ho)
                      clear HB3 HH40 HO3 UU40 HL111_3
                      have HB3 := n0_
                      have HH40 := n1_
                      have HO115 := n2_
                      clear n0_ n1_ n2_
                      clear ho hb hg hat
                      have p36 : 0 ≤ ((ji30) : Int) := of_decide_eq_true (by first | (with_reducible assumption) | assumption)
                      have q36 : ((ji30) : Int) < ((y108.length : Int) : Int) := of_decide_eq_true (by first | (with_reducible assumption) | assumption)
                      replace p36 := eq_true p36
                      replace q36 := eq_true q36
                      obtain ⟨Ao44, co44, eo44⟩ := Kd.R_slice HO115.out
                      (first | subst eo44 | (injection eo44 with f1_ f2_ f3_; have f4_ := f1_.symm; have f5_ := f3_.symm; clear f1_ f2_ f3_; subst f4_; subst f5_))
                      obtain ⟨_, _, hraw42, _, _, hcc42, _⟩ := Kd.H_raw HH40.out (of_decide_eq_true (by first | (with_reducible assumption) | assumption)) (by have h_ : ((ji30) : Int) < ((y108.length : Int) : Int) := of_decide_eq_true (by first | (with_reducible assumption) | assumption); first | exact h_ | (have e_ := (HN40.out); omega) | simpa using h_)
                      obtain ⟨_, hfr42⟩ := Kd.H_at HH40.out (of_decide_eq_true (by first | (with_reducible assumption) | assumption)) (by have h_ : ((ji30) : Int) < ((y108.length : Int) : Int) := of_decide_eq_true (by first | (with_reducible assumption) | assumption); first | exact h_ | (have e_ := (HN40.out); omega) | simpa using h_)
                      have hx42_0 := hcc42 3 _ rfl
                      have hf42_0 := hfr42 3
                      (try rw [show (k96).sz = 4 from rfl] at hx42_0)
                      (try rw [show (k96).sz = 4 from rfl] at hf42_0)
                      have HP42 := Kd.S_seg0 HH40.out (of_decide_eq_true (by first | (with_reducible assumption) | assumption)) (by have h_ : ((ji30) : Int) < ((y108.length : Int) : Int) := of_decide_eq_true (by first | (with_reducible assumption) | assumption); first | exact h_ | (have e_ := (HN40.out); omega) | simpa using h_) (seg := [.slice Ao44 y113.length co44]) (j := 3) (show 4 ≤ 4 from by decide) (x' := (⟨(rd_T96 y108 (ji30)).f0, (rd_T96 y108 (ji30)).f1, (rd_T96 y108 (ji30)).f2, y113⟩ : S96)) (k96_mkM _ _ _ (⟨(rd_T96 y108 (ji30)).f0, (rd_T96 y108 (ji30)).f1, (rd_T96 y108 (ji30)).f2, y113⟩ : S96) HO115.out) (fun _ hk => hk)
                      clear hcc42 hfr42
                      have HS42 := HP42.1
                      rw [← Ny116.out] at HS42
                      have HQ42 := Aside0.mk HS42
                      obtain ⟨_, hgg42⟩ := Kd.R_typed hraw42 go40 rfl
                      have GG42_ := Aside0.mk hgg42
                      clear HP42 HS42 hgg42
                      refine hK.out _ _ ⟨HS0_, HS1_, HS2_, HS3_, ((HB3.out.cell (World.block_lt_of_cell? w' _ hw112_0)).trans hw112_0)⟩ (fun hHeld => ?_)
                      clear hK K
                      refine norm_ (a' := ?_) ?_ ?_
                      rotate_left
                      · show Act.put _ (some 106) _ = _
                        simp only [Act.put, List.setIfInBounds_toArray, List.set_cons_zero, List.set_cons_succ, i64_w, i32_w]
                        rfl
                      refine pure_ (i := 11) (N := some 107) (v := ?_) (a' := ?_) #[true, true, true, true, true, true, true, true, true, true, true, true, false, false] rfl rfl (any_of HT_.out (by kernel_rfl)) (fun _ _ _ h => h) (Or.inl ⟨by rfl, ?_⟩) ?_ ?_
                      rotate_left
                      · intro w''
                        go_simp
                        with_reducible rfl
                      rotate_left
                      · simp only [Act.put, List.setIfInBounds_toArray, List.set_cons_zero, List.set_cons_succ, i64_w, i32_w]
                        rfl
                      refine pure_ (i := 12) (N := some 108) (v := ?_) (a' := ?_) #[true, true, true, true, true, true, true, true, true, true, true, true, true, false] rfl rfl (any_of HT_.out (by kernel_rfl)) (fun _ _ _ h => h) (Or.inl ⟨by rfl, ?_⟩) ?_ ?_
                      rotate_left
                      · intro w''
                        go_simp
                        with_reducible rfl
                      rotate_left
                      · simp only [Act.put, List.setIfInBounds_toArray, List.set_cons_zero, List.set_cons_succ, i64_w, i32_w]
                        rfl
                      refine last_ (i := 13) (N := none) #[true, true, true, true, true, true, true, true, true, true, true, true, true, true] rfl rfl (one_of HT_.out (by kernel_rfl)) (by decide) (fun K hK => ?_)
                      refine skip_ (w1 := ?_) (by rfl) rfl ?_ ?_
                      rotate_left
                      · go_simp
                        rfl
                      refine hK.out _ _ ?_
                      clear hK K
                      refine done_ (done_of HT_.out (by kernel_rfl)) ?_
                      try go_wp2
                      go_roundg k1
                      case measure => have := HK1.out; omega
                      case rel => exact ⟨(y116), _, rfl, H', ⟨by have := HK1.out; omega⟩, ⟨by (with_reducible repeat (first | apply Kd.S_alloc | apply Kd.S_drewN | apply Kd.S_drew)); exact HQ42.out⟩, ⟨by repeat (first | (with_reducible first | exact HB3.out | apply below_alloc | apply pw_below_drewN | apply below_drew1 | refine below_set ?_ GB40.out) | exact HB3.out)⟩⟩
            · rw [if_neg c2] at H
              cases H
          · rw [if_neg c1] at H
            simp only [Option.some.injEq, Prod.mk.injEq] at H
            obtain ⟨rfl, rfl⟩ := H
            have c1_ : decide (x8 < (l1.length : Int)) = false := decide_eq_false c1
            clear c1
            go_wp2
            go_ret2
            exact ⟨_, rfl, Kd.S_lower HO.out m2_.out.size, m2_.out.trans (HB.out.mono m2_.out.size)⟩
theorem best_mono (k : Nat) (l0 l1 : List Int) (at_ : Nat) : ∀ (zs : List Int) (s : Int × Int), LeO (best k l0 l1 at_ zs s) (best (k + 1) l0 l1 at_ zs s) := by
  intro zs
  induction zs with
  | nil => intro s; exact LeO.refl _
  | cons z zs ih =>
    intro s
    unfold best
    exact LeO.bind (delta_alike.mono _ _ _) (fun n => ih _)
theorem delta_Delta.mono_l : ∀ (k : Nat) (y0 y1 : List Int) (y2 : List S96) (y3 : Int), LeO (delta_Delta.l0 k y0 y1 y2 y3) (delta_Delta.l0 (k + 1) y0 y1 y2 y3) := by
  intro k
  induction k with
  | zero => intro y0 y1 y2 y3; exact LeO.none _
  | succ k ih =>
    intro y0 y1 y2 y3
    rw [delta_Delta.l0.eq_def (k + 1 + 1) y0 y1 y2 y3, delta_Delta.l0.eq_def (k + 1) y0 y1 y2 y3]
    dsimp only
    exact LeO.ite (LeO.ite (LeO.bind (LeO.ite (best_mono _ _ _ _ _ _) (LeO.refl _)) (fun s => LeO.ite (LeO.ite (ih _ _ _ _) (LeO.none _)) (LeO.ite (LeO.ite (ih _ _ _ _) (LeO.none _)) (LeO.none _)))) (LeO.none _)) (LeO.refl _)
theorem delta_Delta.mono : ∀ a0 a1 k, LeO (delta_Delta.f k a0 a1) (delta_Delta.f (k + 1) a0 a1) := by
  intro a0 a1 k
  unfold delta_Delta.f
  exact LeO.ite (LeO.ite (LeO.refl _) (LeO.ite (LeO.refl _) (delta_Delta.mono_l _ _ _ _ _))) (LeO.none _)
end

end Go.Proofs.Ytjhmjgcebijmiaa.HDeltaDeltas
