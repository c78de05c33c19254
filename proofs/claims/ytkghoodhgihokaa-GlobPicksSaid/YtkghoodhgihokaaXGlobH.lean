/- Patterns of names: packthreadref.globItems: its items. -/
import Derived.Test.YtkghoodhgihokaaXGlobF
namespace Go.Proofs.Ytkghoodhgihokaa.Glob
open Go.RowKit Go.Lib Go.Proofs.YtkghoodhgihokaaW.PrintWords Go.Proofs.YtkghoodhgihokaaW.PrintLast Go.Proofs.YtkghoodhgihokaaW.PrintMore
set_option linter.unusedVariables false
set_option linter.unusedSimpArgs false
abbrev It := Nat × Nat × List (Nat × Nat) × Bool
def ku8 : Kd Nat := Kd.scalar (fun x => .int .u8 (x : Int)) (fun _ => rfl)
def krg : Kd (Nat × Nat) := Kd.pair ku8 ku8
def kitem : Kd It := Kd.pair ku8 (Kd.pair ku8 (Kd.pair (Kd.slice 141 krg) Kd.bool))
theorem krg_M (w : World) (base : Nat) (ok : Nat → Prop) (a b : Nat) : krg.M w base ok (a, b) [.int .u8 (a : Int), .int .u8 (b : Int)] := ⟨[_], [_], rfl, rfl, rfl⟩
theorem item_Mr {w : World} {base : Nat} {ok : Nat → Prop} {v : Value} {rs : List (Nat × Nat)} (h : krg.R 141 w base ok v rs) (a b : Nat) (nt : Bool) : kitem.M w base ok (a, b, rs, nt) [.int .u8 (a : Int), .int .u8 (b : Int), v, .bool nt] :=
  ⟨[_], [_, _, _], rfl, rfl, [_], [_, _], rfl, rfl, [_], [_], rfl, ⟨v, rfl, h⟩, rfl⟩
theorem item_M (w : World) (base : Nat) (ok : Nat → Prop) (a b : Nat) : kitem.M w base ok (a, b, [], false) [.int .u8 (a : Int), .int .u8 (b : Int), .slice none 0 0, .bool false] := item_Mr (Kd.R_nil _ _ _ _ _) a b false
/-- The ranges of a set, as pairs. -/
def rangesR (l : List UInt8) (rs : List (Nat × Nat)) : Option (List (Nat × Nat) × List UInt8) :=
  match l with
  | [] => some (rs, [])
  | c :: t =>
    if plainB (c :: t) = true then (if (stepT c t).1.toNat < c.toNat then none else rangesR (stepT c t).2 (rs ++ [(c.toNat, (stepT c t).1.toNat)]))
    else some (rs, c :: t)
  termination_by l.length
  decreasing_by have := stepT_len c t; simp only [List.length_cons]; omega
theorem rangesR_out {l : List UInt8} {rs : List (Nat × Nat)} (h : plainB l = false) : rangesR l rs = some (rs, l) := by
  cases l with
  | nil => rw [rangesR]
  | cons c t => rw [rangesR, if_neg (by rw [h]; simp)]
theorem rangesR_in {c : UInt8} {t : List UInt8} {rs : List (Nat × Nat)} (h : plainB (c :: t) = true) : rangesR (c :: t) rs = if (stepT c t).1.toNat < c.toNat then none else rangesR (stepT c t).2 (rs ++ [(c.toNat, (stepT c t).1.toNat)]) := by
  rw [rangesR, if_pos h]
def setR (t : List UInt8) : Option (It × List UInt8) :=
  (rangesR (if t.head? = some 94 then t.drop 1 else t) []).bind fun r => if r.1 = [] ∨ r.2.head? ≠ some 93 then none else some ((91, 0, r.1, t.head? == some 94), r.2.drop 1)
/-- The items of a pattern. -/
def itemsK : Nat → List UInt8 → List It → Option (List It)
  | 0, _, _ => none
  | _ + 1, [], o => some o
  | k + 1, c :: t, o =>
    if c = 91 then (match setR t with | none => none | some r => itemsK k r.2 (o ++ [r.1]))
    else if c = 92 then (match t with | [] => none | d :: u => itemsK k u (o ++ [(61, d.toNat, [], false)]))
    else if c = 42 then itemsK k t (o ++ [(42, 0, [], false)])
    else if c = 63 then itemsK k t (o ++ [(63, 0, [], false)])
    else itemsK k t (o ++ [(61, c.toNat, [], false)])
theorem itemsK_cons (k : Nat) (c : UInt8) (t : List UInt8) (o : List It) : itemsK (k + 1) (c :: t) o =
    if c = 91 then (match setR t with | none => none | some r => itemsK k r.2 (o ++ [r.1]))
    else if c = 92 then (match t with | [] => none | d :: u => itemsK k u (o ++ [(61, d.toNat, [], false)]))
    else if c = 42 then itemsK k t (o ++ [(42, 0, [], false)])
    else if c = 63 then itemsK k t (o ++ [(63, 0, [], false)])
    else itemsK k t (o ++ [(61, c.toNat, [], false)]) := rfl
def itemsF (l : List UInt8) : Option (List It) := if 40 < l.length then none else itemsK 41 l []
/-- The end of a set. -/
def endI (g : Nat) (xs : List It) (nt : Bool) (o : Option (List (Nat × Nat) × List UInt8)) : Option (List It) :=
  match o with
  | none => none
  | some r => if r.1 = [] ∨ r.2.head? ≠ some 93 then none else itemsK g (r.2.drop 1) (xs ++ [(91, 0, r.1, nt)])
theorem endI_none {g : Nat} {xs : List It} {nt : Bool} : endI g xs nt none = none := rfl
theorem endI_bad {g : Nat} {xs : List It} {nt : Bool} {rs : List (Nat × Nat)} {l : List UInt8} (h : rs = [] ∨ l.head? ≠ some 93) : endI g xs nt (some (rs, l)) = none := by
  unfold endI
  exact if_pos h
theorem endI_ok {g : Nat} {xs : List It} {nt : Bool} {rs : List (Nat × Nat)} {t : List UInt8} (h : rs ≠ []) : endI g xs nt (some (rs, 93 :: t)) = itemsK g t (xs ++ [(91, 0, rs, nt)]) := by
  unfold endI
  exact if_neg (by simp [h])
theorem endI_set (g : Nat) (xs : List It) (t : List UInt8) : (match setR t with | none => none | some r => itemsK g r.2 (xs ++ [r.1])) = endI g xs (t.head? == some 94) (rangesR (if t.head? = some 94 then t.drop 1 else t) []) := by
  unfold setR endI
  cases rangesR (if t.head? = some 94 then t.drop 1 else t) [] with
  | none => rfl
  | some r =>
    rw [Option.bind_some]
    by_cases h : r.1 = [] ∨ r.2.head? ≠ some 93
    · rw [if_pos h]; exact (if_pos h).symm
    · rw [if_neg h]; exact (if_neg h).symm
def ItemsPost (o : Option (List It)) (w w' : World) (v : Value) (ok : Bool) : Prop := match o with | some xs => ok = true ∧ kitem.R 140 w' w.heap.size (fun _ => True) v xs | none => ok = false
theorem ItemsPost.some {o : Option (List It)} {xs : List It} {w w' : World} {v : Value} (h : some xs = o) (hr : kitem.R 140 w' w.heap.size (fun _ => True) v xs) : ItemsPost o w w' v true := by rw [← h]; exact ⟨rfl, hr⟩
theorem ItemsPost.none {o : Option (List It)} {w w' : World} {v : Value} (h : none = o) : ItemsPost o w w' v false := by rw [← h]; exact rfl
/-- What the reference keeps: the text in its box, and what it made. -/
structure GJ (ok : Nat → Prop) (l : List UInt8) (w wx : World) (v : Value) (xs : List It) : Prop where
  box : wx.heap[w.heap.size]? = some (.cells #[.string (bs l)] 9 (0, 0))
  out : kitem.R 140 wx w.heap.size ok v xs
  b : Below w.heap.size w wx
def tt : Nat → Prop := fun _ => True
theorem GJ.lt {ok : Nat → Prop} {l : List UInt8} {w wx : World} {v : Value} {xs : List It} (h : GJ ok l w wx v xs) : w.heap.size < wx.heap.size := (Array.getElem?_eq_some_iff.1 h.box).1
theorem GJ.cell {ok : Nat → Prop} {l : List UInt8} {w wx : World} {v : Value} {xs : List It} (h : GJ ok l w wx v xs) : wx.cell? ⟨w.heap.size, 0, none⟩ = some (.string (bs l)) := by
  rw [cell_of_row wx _ _ _ _ _ h.box]; rfl
theorem GJ.below {ok : Nat → Prop} {l : List UInt8} {w wx w1 : World} {v : Value} {xs : List It} (h : GJ ok l w wx v xs) (hb : Below wx.heap.size wx w1) : GJ ok l w w1 v xs :=
  ⟨(hb.block _ h.lt).trans h.box, Kd.R_below h.out hb, h.b.trans (hb.mono h.b.size)⟩
theorem GJ.any {ok : Nat → Prop} {l : List UInt8} {w wx : World} {v : Value} {xs : List It} (h : GJ ok l w wx v xs) : GJ tt l w wx v xs := ⟨h.box, Kd.R_mono h.out (fun _ _ => trivial), h.b⟩
theorem GJ.app {ok : Nat → Prop} {l : List UInt8} {w wx w1 : World} {v v1 : Value} {xs : List It} {p : It} (h : GJ ok l w wx v xs) (ho : kitem.R 140 w1 w.heap.size (fun _ => True) v1 (xs ++ [p])) (hb : Below w.heap.size w w1) (hg : wx.grownBy w1 v.ownBlock) : GJ tt l w w1 v1 (xs ++ [p]) :=
  ⟨(hg.block _ h.lt (fun e => by
    obtain ⟨cells, hc⟩ := Kd.R_typed h.out _ e.symm
    rw [h.box] at hc
    simp at hc)).trans h.box, ho, hb⟩
/-- What the reference keeps within a set: the item at a block of its own, its ranges a row. -/
structure IJ (l : List UInt8) (w wx : World) (b6 : Nat) (v4 : Value) (xs : List It) (vr : Value) (rs : List (Nat × Nat)) (nt : Bool) : Prop where
  gm : GJ (fun k => k < b6) l w wx v4 xs
  it : wx.heap[b6]? = some (.cells #[.int .u8 91, .int .u8 0, vr, .bool nt] 140 (0, 0))
  rr : krg.R 141 wx w.heap.size (fun k => b6 < k) vr rs
  lt : w.heap.size < b6
section
variable {l : List UInt8} {w wx w1 : World} {b6 : Nat} {v4 vr v8 : Value} {xs : List It} {rs : List (Nat × Nat)} {nt : Bool}
theorem IJ.new {ok : Nat → Prop} (h : GJ ok l w wx v4 xs) : IJ l w (wx.alloc (.cells #[.int .u8 91, .int .u8 0, .slice none 0 0, .bool false] 140)) wx.heap.size v4 xs (.slice none 0 0) [] false := by
  have hb := (Below.refl wx.heap.size wx).alloc (Nat.le_refl _) (.cells #[.int .u8 91, .int .u8 0, .slice none 0 0, .bool false] 140)
  have h2 : GJ (fun k => k < wx.heap.size) l w wx v4 xs := ⟨h.box, Kd.R_mono (Kd.R_bound h.out) (fun _ hk => hk.2.2.1), h.b⟩
  exact ⟨h2.below hb, heap_alloc_new wx _, Kd.R_nil _ _ _ _ _, h.lt⟩
theorem IJ.below (h : IJ l w wx b6 v4 xs vr rs nt) (hb : Below wx.heap.size wx w1) : IJ l w w1 b6 v4 xs vr rs nt :=
  ⟨h.gm.below hb, (hb.block _ (Array.getElem?_eq_some_iff.1 h.it).1).trans h.it, Kd.R_below h.rr hb, h.lt⟩
theorem IJ.drew (h : IJ l w wx b6 v4 xs vr rs nt) : IJ l w wx.drew b6 v4 xs vr rs nt := h.below ((Below.refl _ _).drew)
theorem IJ.app {rs2 : List (Nat × Nat)} (h : IJ l w wx b6 v4 xs vr rs nt) (ho : krg.R 141 w1 w.heap.size (fun k => b6 < k) v8 rs2) (hb : Below w.heap.size w w1) (hg : wx.grownBy w1 vr.ownBlock) :
    GJ (fun k => k < b6) l w w1 v4 xs ∧ w1.heap[b6]? = some (.cells #[.int .u8 91, .int .u8 0, vr, .bool nt] 140 (0, 0)) ∧ krg.R 141 w1 w.heap.size (fun k => b6 < k) v8 rs2 := by
  have hn : ∀ k, k ≤ b6 → some k ≠ vr.ownBlock := fun k hk e => by have := h.rr.1 k e.symm; omega
  exact ⟨⟨(hg.block _ h.gm.lt (hn _ (Nat.le_of_lt h.lt))).trans h.gm.box, Kd.R_grown h.gm.out hg (fun k hk => hn k (Nat.le_of_lt hk)), hb⟩, (hg.block _ (Array.getElem?_eq_some_iff.1 h.it).1 (hn _ (Nat.le_refl _))).trans h.it, ho⟩
theorem IJ.put {rs2 : List (Nat × Nat)} (h : GJ (fun k => k < b6) l w w1 v4 xs ∧ w1.heap[b6]? = some (.cells #[.int .u8 91, .int .u8 0, vr, .bool nt] 140 (0, 0)) ∧ krg.R 141 w1 w.heap.size (fun k => b6 < k) v8 rs2)
    (hlt : w.heap.size < b6) : IJ l w (w1.setCell ⟨b6, 2, none⟩ v8) b6 v4 xs v8 rs2 nt := by
  obtain ⟨g, it, rr⟩ := h
  have hb : Below w.heap.size w (w1.setCell ⟨b6, 2, none⟩ v8) := g.b.setCell (p := ⟨b6, 2, none⟩) (Nat.le_of_lt hlt) _
  exact ⟨⟨(heap_setCell_other w1 _ _ _ (by simp; omega)).trans g.box, Kd.R_far (p := ⟨b6, 2, none⟩) g.out (fun k hk => by show k ≠ b6; omega) _, hb⟩, by rw [heap_setCell_same w1 _ _ _ _ _ it]; rfl, Kd.R_far (p := ⟨b6, 2, none⟩) rr (fun k hk => by show k ≠ b6; omega) _, hlt⟩
theorem IJ.neg (h : IJ l w wx b6 v4 xs vr rs nt) (b : Bool) : IJ l w (wx.setCell ⟨b6, 3, none⟩ (.bool b)) b6 v4 xs vr rs b := by
  have hb : Below w.heap.size w (wx.setCell ⟨b6, 3, none⟩ (.bool b)) := h.gm.b.setCell (p := ⟨b6, 3, none⟩) (Nat.le_of_lt h.lt) _
  have hlt := h.lt
  exact ⟨⟨(heap_setCell_other wx _ _ _ (by simp; omega)).trans h.gm.box, Kd.R_far (p := ⟨b6, 3, none⟩) h.gm.out (fun k hk => by show k ≠ b6; omega) _, hb⟩, by rw [heap_setCell_same wx _ _ _ _ _ h.it]; rfl, Kd.R_far (p := ⟨b6, 3, none⟩) h.rr (fun k hk => by show k ≠ b6; omega) _, hlt⟩
theorem IJ.c2 (h : IJ l w wx b6 v4 xs vr rs nt) : wx.cell? ⟨b6, 2, none⟩ = some vr := by
  rw [cell_of_row wx _ _ _ _ _ h.it]; rfl
theorem IJ.c3 (h : IJ l w wx b6 v4 xs vr rs nt) : wx.cell? ⟨b6, 3, none⟩ = some (.bool nt) := by
  rw [cell_of_row wx _ _ _ _ _ h.it]; rfl
theorem IJ.fz (h : IJ l w wx b6 v4 xs vr rs nt) (x : Nat) : wx.frozen? ⟨b6, x, none⟩ = false := frozen_of_row wx _ _ _ _ h.it
theorem it_c2 (h : wx.heap[b6]? = some (.cells #[.int .u8 91, .int .u8 0, vr, .bool nt] 140 (0, 0))) : wx.cell? ⟨b6, 2, none⟩ = some vr ∧ wx.frozen? ⟨b6, 2, none⟩ = false := by
  refine ⟨?_, frozen_of_row wx _ _ _ _ h⟩
  rw [cell_of_row wx _ _ _ _ _ h]; rfl
/-- .. and the range that is being read, at a block of its own. -/
structure BJ (l : List UInt8) (w wx : World) (b6 : Nat) (v4 : Value) (xs : List It) (vr : Value) (rs : List (Nat × Nat)) (nt : Bool) (b8 c d : Nat) : Prop where
  im : IJ l w wx b6 v4 xs vr rs nt
  r : wx.heap[b8]? = some (.cells #[.int .u8 (c : Int), .int .u8 (d : Int)] 141 (0, 0))
  r8 : krg.R 141 wx w.heap.size (fun k => b6 < k ∧ k < b8) vr rs
  lt : b6 < b8
theorem BJ.new (h : IJ l w wx b6 v4 xs vr rs nt) (c : Nat) : BJ l w (wx.alloc (.cells #[.int .u8 (c : Int), .int .u8 (c : Int)] 141)) b6 v4 xs vr rs nt wx.heap.size c c :=
  have hb := (Below.refl wx.heap.size wx).alloc (Nat.le_refl _) (.cells #[.int .u8 (c : Int), .int .u8 (c : Int)] 141)
  ⟨h.below hb, heap_alloc_new wx _, Kd.R_below (Kd.R_mono (Kd.R_bound h.rr) (fun _ hk => ⟨hk.1, hk.2.2.1⟩)) hb, (Array.getElem?_eq_some_iff.1 h.it).1⟩
theorem BJ.set {b8 c d : Nat} (h : BJ l w wx b6 v4 xs vr rs nt b8 c d) (e : Nat) : BJ l w (wx.setCell ⟨b8, 1, none⟩ (.int .u8 (e : Int))) b6 v4 xs vr rs nt b8 c e := by
  have h1 := h.lt
  have h2 := h.im.lt
  have hb : Below w.heap.size w (wx.setCell ⟨b8, 1, none⟩ (.int .u8 (e : Int))) := h.im.gm.b.setCell (p := ⟨b8, 1, none⟩) (by simp; omega) _
  have r8 := Kd.R_far (p := ⟨b8, 1, none⟩) h.r8 (fun k hk => by show k ≠ b8; omega) (.int .u8 (e : Int))
  exact ⟨⟨⟨(heap_setCell_other wx _ _ _ (by simp; omega)).trans h.im.gm.box, Kd.R_far (p := ⟨b8, 1, none⟩) h.im.gm.out (fun k hk => by show k ≠ b8; omega) _, hb⟩, (heap_setCell_other wx _ _ _ (by simp; omega)).trans h.im.it, Kd.R_mono r8 (fun _ hk => hk.1), h2⟩, by rw [heap_setCell_same wx _ _ _ _ _ h.r]; rfl, r8, h1⟩
theorem BJ.c0 {b8 c d : Nat} (h : BJ l w wx b6 v4 xs vr rs nt b8 c d) : wx.cell? ⟨b8, 0, none⟩ = some (.int .u8 (c : Int)) := by
  rw [cell_of_row wx _ _ _ _ _ h.r]; rfl
theorem BJ.c1 {b8 c d : Nat} (h : BJ l w wx b6 v4 xs vr rs nt b8 c d) : wx.cell? ⟨b8, 1, none⟩ = some (.int .u8 (d : Int)) := by
  rw [cell_of_row wx _ _ _ _ _ h.r]; rfl
theorem BJ.fz {b8 c d : Nat} (h : BJ l w wx b6 v4 xs vr rs nt b8 c d) (x : Nat) : wx.frozen? ⟨b8, x, none⟩ = false := frozen_of_row wx _ _ _ _ h.r
end
def items26.T26 : Bool × List (List Nat × List Nat) := (true, [([], []), ([], []), ([0, 1], [0, 1]), ([], []), ([], []), ([3, 4], [3, 4]), ([2, 5], [2, 5]), ([], []), ([7, 6, 0, 1, 2, 3, 4, 5, 6, 7], [6, 7])])
def items26.B26 : List Nat := [0, 0, 3, 0, 0, 24, 63, 0, 255]
theorem items26.tab26 : rtab .any (opsOf Try.f59 26) = items26.T26 := by kernel_rfl
theorem items26.bits26 : waitsOk items26.T26.2 items26.B26 = true := by kernel_rfl
set_option maxHeartbeats 8000000 in
set_option maxRecDepth 100000 in
theorem itemsF_calls (l : List UInt8) (w : World) : Calls Try.prog 59 #[.string (bs l)] w fun e w' =>
    (∃ v ok, e = .returned (.tuple #[v, .bool ok]) ∧ ItemsPost (itemsF l) w w' v ok) ∧ Below w.heap.size w w' := by
  have hbx : Below w.heap.size w (w.alloc (.cells #[.string (bs l)] 9)) := (Below.refl _ w).alloc (Nat.le_refl _) _
  have hcb : (w.alloc (.cells #[.string (bs l)] 9)).cell? ⟨w.heap.size, 0, none⟩ = some (.string (bs l)) := by rw [cell_of_row _ _ _ _ _ _ (heap_alloc_new w _)]; rfl
  by_cases hlen : 40 < l.length
  · have d1 : decide ((40 : Int) < ((bs l).size : Int)) = true := decide_eq_true (by rw [bs_size]; omega)
    have d2 : decide (40 < (bs l).size) = true := decide_eq_true (by rw [bs_size]; omega)
    have hF : itemsF l = none := by unfold itemsF; rw [if_pos hlen]
    rw [hF]
    go_enter Try.func59, Try.ntmps59
    go_wp2
    go_ret2
    exact ⟨⟨_, _, rfl, .none rfl⟩, hbx⟩
  · have d1 : decide ((40 : Int) < ((bs l).size : Int)) = false := decide_eq_false (by rw [bs_size]; omega)
    have d2 : decide (40 < (bs l).size) = false := decide_eq_false (by rw [bs_size]; omega)
    obtain ⟨RES, hRES⟩ : ∃ RES, itemsF l = RES := ⟨_, rfl⟩
    rw [hRES]
    have hF : itemsK 41 l [] = RES := by rw [← hRES]; unfold itemsF; rw [if_neg hlen]
    clear hRES
    have HM0 : Aside0 (GJ tt l w (w.alloc (.cells #[.string (bs l)] 9)) (.slice none 0 0) []) := ⟨⟨heap_alloc_new w _, Kd.R_nil _ _ _ _ _, hbx⟩⟩
    have hl40 : l.length ≤ 40 := by omega
    have hls : (bs l).size = l.length := rfl
    go_enter Try.func59, Try.ntmps59
    go_wp2
    go_loopg [4, 5] 41 (fun g s4 s5 wx => ∃ (i : Nat) (xs : List It), s5 = .int .i64 (i : Int) ∧ i ≤ l.length ∧ Aside0 ((l.drop i).length < g) ∧ Aside0 (xs.length + g ≤ 41) ∧ Aside0 (itemsK g (l.drop i) xs = RES) ∧ Aside0 (GJ tt l w wx s4 xs))
    case atStart => exact ⟨0, [], rfl, Nat.zero_le _, ⟨by simp; omega⟩, ⟨by simp⟩, ⟨hF⟩, HM0⟩
    case round =>
      obtain ⟨i, xs, rfl, hi, HL, HX, HE, HM⟩ := hrel
      have hcell := HM.out.cell
      cases gk with
      | zero => exact absurd HL.out (by omega)
      | succ g =>
        rcases Nat.lt_or_ge i l.length with hil | hil
        · obtain ⟨c, t, h1, h2, h3⟩ := ne_head hil
          have hE := HE.out
          rw [h1, itemsK_cons] at hE
          have hL := HL.out
          rw [h1, List.length_cons] at hL
          have hx40 := HX.out
          have q1 : decide ((i : Int) < ((bs l).size : Int)) = true := decide_eq_true (by rw [bs_size]; omega)
          have q2 : (i : Int) < ((bs l).size : Int) := by rw [bs_size]; omega
          have q3 : (0 : Int) ≤ (i : Int) := by omega
          have q4 : decide (i < (bs l).size) = true := decide_eq_true (by rw [bs_size]; exact hil)
          have q5 : i < (bs l).size := by rw [bs_size]; exact hil
          have h2' : ∀ h : i < (bs l).size, (bs l)[i]'h = c := fun _ => h2
          clear hls hF
          by_cases c91 : c = 91
          · subst c91
            rw [if_pos rfl, endI_set] at hE
            obtain ⟨hat, hhat⟩ : ∃ hat, (t.head? == some 94) = hat := ⟨_, rfl⟩
            rw [hhat] at hE
            obtain ⟨l1, hl1⟩ : ∃ l1, (if t.head? = some 94 then t.drop 1 else t) = l1 := ⟨_, rfl⟩
            rw [hl1] at hE
            have HE2 := Aside0.mk hE
            have hlim : (l.drop (i + 1)).length < g := by rw [h3]; omega
            clear hE HE HL
            have hI0 := IJ.new HM.out
            have HI0 := Aside0.mk hI0
            have hcell0 := HI0.out.gm.cell
            clear hI0
            go_upto_region 21 with fail
            obtain ⟨W1, hW1⟩ : ∃ W, wr.alloc (.cells #[.int .u8 91, .int .u8 0, .slice none 0 0, .bool false] 140) = W := ⟨_, rfl⟩
            obtain ⟨b6, hb6⟩ : ∃ b, wr.heap.size = b := ⟨_, rfl⟩
            rw [hW1, hb6] at HI0
            rw [hW1] at hcell0 ⊢
            rw [hb6]
            clear hW1 hb6 HM hcell
            go_cut [71] from 62 to 70 (fun s71 wx => s71 = .bool hat ∧ wx = W1)
            case first =>
              cases t with
              | nil =>
                have hend : i + 1 = l.length := by
                  have := congrArg List.length h1
                  rw [List.length_drop, List.length_cons, List.length_nil] at this
                  omega
                have k1 : decide ((i : Int) + 1 < ((bs l).size : Int)) = false := decide_eq_false (by rw [bs_size]; omega)
                have k2 : decide (i + 1 < (bs l).size) = false := decide_eq_false (by rw [bs_size]; omega)
                clear hend
                go_wp2_with fail
                go_meet
                exact ⟨by rw [← hhat]; rfl, rfl⟩
              | cons m t2 =>
                have hil2 : i + 1 < l.length := by
                  have := congrArg List.length h3
                  rw [List.length_drop, List.length_cons] at this
                  omega
                obtain ⟨m', t2', g1, g2, g3⟩ := ne_head hil2
                rw [h3] at g1
                injection g1 with g1a g1b
                subst g1a
                subst g1b
                have k1 : decide ((i : Int) + 1 < ((bs l).size : Int)) = true := decide_eq_true (by rw [bs_size]; omega)
                have k2 : decide (i + 1 < (bs l).size) = true := decide_eq_true (by rw [bs_size]; omega)
                have k3 : (i : Int) + 1 < ((bs l).size : Int) := by rw [bs_size]; omega
                have k4 : i + 1 < (bs l).size := by rw [bs_size]; exact hil2
                have g2' : ∀ h : i + 1 < (bs l).size, (bs l)[i + 1]'h = m := fun _ => g2
                have k5 : ((m.toNat : Int) == 94) = hat := by
                  rw [← hhat]
                  show _ = (some m == some 94)
                  by_cases hm : m = 94
                  · rw [hm]; rfl
                  · rw [beq_eq_false_iff_ne.2 (show some m ≠ some 94 from fun h => hm (Option.some.inj h)), beq_eq_false_iff_ne.2 (fun h => hm (UInt8.toNat_inj.1 (by show m.toNat = 94; omega)))]
                go_wp2_with fail
                go_meet
                exact ⟨rfl, rfl⟩
            case rest =>
            obtain ⟨rfl, rfl⟩ := hcut
            have hl2 : (hat = true → l1 = l.drop (i + 2) ∧ i + 2 ≤ l.length) ∧ (hat = false → l1 = l.drop (i + 1)) := by
              constructor
              · intro h
                rw [h] at hhat
                have h94 : t.head? = some 94 := by simpa using hhat
                rw [if_pos h94, ← h3, List.drop_drop] at hl1
                refine ⟨hl1.symm, ?_⟩
                cases t with
                | nil => cases h94
                | cons m t2 =>
                  have := congrArg List.length h3
                  rw [List.length_drop, List.length_cons] at this
                  omega
              · intro h
                rw [h] at hhat
                rw [if_neg (fun h94 => by rw [h94] at hhat; cases hhat), ← h3] at hl1
                exact hl1.symm
            have HL2 := Aside0.mk hl2
            clear hl2
            go_upto_if 71 with fail
            go_cut [5] from 72 to 74 (fun s5 wx => ∃ i1 : Nat, s5 = .int .i64 (i1 : Int) ∧ i1 ≤ l.length ∧ Aside0 (l.drop i1 = l1 ∧ i < i1) ∧ Aside0 (IJ l w wx b6 u4 xs (.slice none 0 0) [] hat))
            case first =>
              cases hat with
              | true =>
                have HX3 := Aside0.mk (HL2.out.1 rfl)
                clear HL2
                have hc3 := HI0.out.c3
                have hf3 := HI0.out.fz 3
                have HI1 := Aside0.mk (HI0.out.neg true)
                go_wp2_with fail
                go_meet
                exact ⟨i + 2, rfl, HX3.out.2, ⟨HX3.out.1.symm, by omega⟩, HI1⟩
              | false =>
                have HX3 := Aside0.mk (HL2.out.2 rfl)
                clear HL2
                go_wp2_with fail
                go_meet
                exact ⟨i + 1, rfl, hil, ⟨HX3.out.symm, by omega⟩, HI0⟩
            case rest =>
            obtain ⟨i1, rfl, hi1, HL1, HI1⟩ := hcut
            clear hcell0 HI0 HL2 hhat hl1 h1 h2 h2' h3 hL q1 q2 q3 q4 q5
            go_wp2_with fail
            obtain ⟨v4, hv4⟩ : ∃ v, u4 = v := ⟨_, rfl⟩
            rw [hv4] at HI1 ⊢
            clear hv4 wr
            go_loopg [5] 41 (fun g' s5 wx => ∃ (i2 : Nat) (rs : List (Nat × Nat)) (vr : Value), s5 = .int .i64 (i2 : Int) ∧ i2 ≤ l.length ∧ Aside0 ((l.drop i2).length < g' ∧ i < i2) ∧ Aside0 (rangesR (l.drop i2) rs = rangesR l1 []) ∧ Aside0 (rs.length + g' ≤ 41) ∧ Aside0 (IJ l w wx b6 v4 xs vr rs hat))
            case atStart => exact ⟨i1, [], _, rfl, hi1, ⟨by rw [List.length_drop]; omega, HL1.out.2⟩, ⟨by rw [HL1.out.1]⟩, ⟨by simp⟩, HI1⟩
            case round =>
              obtain ⟨i2, rs, vr, rfl, hi2, HL, HE, HX2, HI⟩ := hrel
              have hcell := HI.out.gm.cell
              cases gk with
              | zero => exact absurd HL.out.1 (by omega)
              | succ g2 =>
                cases hp : plainB (l.drop i2) with
                | false =>
                  have hE := HE.out
                  rw [rangesR_out hp] at hE
                  have hF := HE2.out
                  rw [← hE] at hF
                  have HF := Aside0.mk hF
                  clear hE hF HE HE2
                  obtain ⟨A, cp, hA⟩ := Kd.R_slice HI.out.rr
                  subst hA
                  have hc2 := HI.out.c2
                  go_upto_region 34 with (go_at_call 88; refine (fits_calls l i2 w.heap.size _ hcell).mono ?_; rintro e' w1 ⟨rfl, rfl⟩; rw [hp])
                  by_cases hrs0 : rs = []
                  · subst hrs0
                    go_wp2
                    go_ret2
                    exact ⟨⟨_, _, rfl, .none (by rw [← HF.out, endI_bad (Or.inl rfl)])⟩, HI.out.gm.b⟩
                  · have hrs : ¬ rs.length = 0 := fun h => hrs0 (List.eq_nil_of_length_eq_zero h)
                    have hr0 : (((rs.length : Nat) : Int) == 0) = false := beq_eq_false_iff_ne.2 (by omega)
                    rcases Nat.lt_or_ge i2 l.length with hil | hil
                    · obtain ⟨c2, t2, h1, h2, h3⟩ := ne_head hil
                      have q1 : decide (((bs l).size : Int) ≤ (i2 : Int)) = false := decide_eq_false (by rw [bs_size]; omega)
                      have q2 : (i2 : Int) < ((bs l).size : Int) := by rw [bs_size]; omega
                      have q3 : (0 : Int) ≤ (i2 : Int) := by omega
                      have q4 : decide ((bs l).size ≤ i2) = false := decide_eq_false (by rw [bs_size]; omega)
                      have q5 : i2 < (bs l).size := by rw [bs_size]; exact hil
                      have h2' : ∀ h : i2 < (bs l).size, (bs l)[i2]'h = c2 := fun _ => h2
                      by_cases hc : c2 = 93
                      · subst hc
                        have hE := HF.out
                        rw [h1, endI_ok hrs0] at hE
                        have HE2 := Aside0.mk hE
                        clear hE HF
                        have hit := HI.out.it
                        have hlim2 : i < i2 := HL.out.2
                        have HM := Aside0.mk HI.out.gm.any
                        go_wp2_with (first | (refine wpList_load_row rfl 140 (.tmp 6) rfl b6 rfl 140 _ (0, 0) _ hit Try.underlying140 rfl (by kernel_rfl) ?_) | ((with_reducible refine gate_builtin (b := .append) (xs := #[.tmp 142, .tmp 144]) rfl ?_); at_builtin; refine Kd.R_append kitem (w0 := w) w.heap.size rfl (.tmp 142) (.tmp 144) 99 140 (.agg #[.int .u8 0, .int .u8 0, .slice none 0 0, .bool false]) 40 rfl Try.underlying99 info140 rfl (by decide) (by decide) v4 xs (91, 0, rs, hat) [.int .u8 ((91 : Nat) : Int), .int .u8 ((0 : Nat) : Int), .slice A rs.length cp, .bool hat] (fun _ => True) (fun k => b6 < k) rfl rfl (item_Mr HI.out.rr _ _ _) (fun k hk => ⟨trivial, fun e => by have := HI.out.gm.out.1 k e.symm; omega⟩) (fun _ _ => trivial) HM.out.out HM.out.b HM.out.b.size (by omega) ?_; intro v8 w8 ho hb hg hat8; have HM8 := Aside0.mk (GJ.app HM.out ho hb hg); clear ho hb hg hat8))
                        go_roundg g
                        case measure => omega
                        case rel => exact ⟨i2 + 1, _, rfl, by omega, ⟨by rw [List.length_drop]; rw [List.length_drop] at hlim; omega⟩, ⟨by rw [List.length_append, List.length_singleton]; omega⟩, ⟨by rw [h3]; exact HE2.out⟩, HM8⟩
                      · have n1 : ((c2.toNat : Int) != 93) = true := bne_iff_ne.2 (fun h => hc (UInt8.toNat_inj.1 (by show c2.toNat = 93; omega)))
                        have HF2 := Aside0.mk (show none = RES by rw [← HF.out, h1, endI_bad (Or.inr (by simp [hc]))])
                        clear HF h1 h3
                        go_wp2
                        go_ret2
                        exact ⟨⟨_, _, rfl, .none HF2.out⟩, HI.out.gm.b⟩
                    · have q1 : decide (((bs l).size : Int) ≤ (i2 : Int)) = true := decide_eq_true (by rw [bs_size]; omega)
                      have q4 : decide ((bs l).size ≤ i2) = true := decide_eq_true (by rw [bs_size]; exact hil)
                      have HF2 := Aside0.mk (show none = RES by rw [← HF.out, List.drop_eq_nil_of_le hil, endI_bad (Or.inr (by simp))])
                      clear HF
                      go_wp2
                      go_ret2
                      exact ⟨⟨_, _, rfl, .none HF2.out⟩, HI.out.gm.b⟩
                | true =>
                  have hil : i2 < l.length := by
                    rcases Nat.lt_or_ge i2 l.length with h | h
                    · exact h
                    · rw [List.drop_eq_nil_of_le h] at hp; cases hp
                  obtain ⟨c2, t2, h1, h2, h3⟩ := ne_head hil
                  rw [h1] at hp
                  have hE := HE.out
                  rw [h1, rangesR_in hp] at hE
                  have HE3 := Aside0.mk hE
                  clear hE HE
                  have q1 : (i2 < (bs l).size) = True := eq_true (by rw [bs_size]; exact hil)
                  have q2 : (i2 : Int) < ((bs l).size : Int) := by rw [bs_size]; omega
                  have q3 : (0 : Int) ≤ (i2 : Int) := by omega
                  have h2' : ∀ h : i2 < (bs l).size, (bs l)[i2]'h = c2 := fun _ => h2
                  have hcell4 := HI.out.drew.gm.cell
                  go_upto_region 26 with (go_at_call 88; refine (fits_calls l i2 w.heap.size _ hcell).mono ?_; rintro e' w1 ⟨rfl, rfl⟩; rw [h1, hp])
                  refine start_ (n := 9) (S := fun w' => w'.cell? ⟨w.heap.size, 0, none⟩ = some (.string (bs l))) (ds := [8]) #[false, false, false, false, false, false, false, false, false] (by kernel_rfl) rfl rfl (hcell4) (fun hHeld => ?_)
                  refine with_tabW items26.tab26 items26.bits26 (fun HT_ HW_ => ?_)
                  obtain ⟨W4, hW4⟩ : ∃ W, w1.drew = W := ⟨_, rfl⟩
                  have HI4 := Aside0.mk HI.out.drew
                  rw [hW4] at HI4 hHeld hcell4 ⊢
                  clear hW4
                  refine pure_ (i := 1) (N := some 80) (v := ?_) (a' := ?_) #[false, true, false, false, false, false, false, false, false] rfl rfl (any_of HT_.out (by kernel_rfl)) (fun _ _ _ h => h) (Or.inl ⟨by rfl, ?_⟩) ?_ ?_
                  rotate_left
                  · intro w'
                    go_simp
                    with_reducible rfl
                  rotate_left
                  · simp only [Act.put, List.setIfInBounds_toArray, List.set_cons_zero, List.set_cons_succ, i64_w, i32_w]
                    rfl
                  refine pure_ (i := 4) (N := some 83) (v := ?_) (a' := ?_) #[false, true, false, false, true, false, false, false, false] rfl rfl (any_of HT_.out (by kernel_rfl)) (fun _ _ _ h => h) (Or.inl ⟨by rfl, ?_⟩) ?_ ?_
                  rotate_left
                  · intro w'
                    go_simp
                    with_reducible rfl
                  rotate_left
                  · simp only [Act.put, List.setIfInBounds_toArray, List.set_cons_zero, List.set_cons_succ, i64_w, i32_w]
                    rfl
                  refine take_ (i := 0) (N := some 79) (v := ?_) (a' := ?_) #[true, true, false, false, true, false, false, false, false] rfl rfl (take_ofW HT_.out HW_.out (by kernel_rfl)) (fun _ _ _ h => h) (Or.inl ⟨by rfl, ?_⟩) hHeld ?_ ?_
                  rotate_left
                  · intro w' s0
                    go_simp
                    with_reducible rfl
                  rotate_left
                  · simp only [Act.put, List.setIfInBounds_toArray, List.set_cons_zero, List.set_cons_succ, i64_w, i32_w]
                    rfl
                  refine take_ (i := 2) (N := some 81) (v := ?_) (a' := ?_) #[true, true, true, false, true, false, false, false, false] rfl rfl (take_ofW HT_.out HW_.out (by kernel_rfl)) (fun _ _ _ h => h) (Or.inl ⟨by rfl, ?_⟩) hHeld ?_ ?_
                  rotate_left
                  · intro w' s0
                    go_simp
                    with_reducible rfl
                  rotate_left
                  · simp only [Act.put, List.setIfInBounds_toArray, List.set_cons_zero, List.set_cons_succ, i64_w, i32_w]
                    rfl
                  refine take_ (i := 3) (N := some 82) (v := ?_) (a' := ?_) #[true, true, true, true, true, false, false, false, false] rfl rfl (take_ofW HT_.out HW_.out (by kernel_rfl)) (fun _ _ _ h => h) (Or.inl ⟨by rfl, ?_⟩) hHeld ?_ ?_
                  rotate_left
                  · intro w' s0
                    go_simp
                    with_reducible rfl
                  rotate_left
                  · simp only [Act.put, List.setIfInBounds_toArray, List.set_cons_zero, List.set_cons_succ, i64_w, i32_w]
                    rfl
                  refine take_ (i := 5) (N := some 84) (v := ?_) (a' := ?_) #[true, true, true, true, true, true, false, false, false] rfl rfl (take_ofW HT_.out HW_.out (by kernel_rfl)) (fun _ _ _ h => h) (Or.inl ⟨by rfl, ?_⟩) hHeld ?_ ?_
                  rotate_left
                  · intro w' s0
                    go_simp
                    with_reducible rfl
                  rotate_left
                  · simp only [Act.put, List.setIfInBounds_toArray, List.set_cons_zero, List.set_cons_succ, i64_w, i32_w]
                    rfl
                  refine pure_ (i := 6) (N := some 85) (v := ?_) (a' := ?_) #[true, true, true, true, true, true, true, false, false] rfl rfl (any_of HT_.out (by kernel_rfl)) (fun _ _ _ h => h) (Or.inl ⟨by rfl, ?_⟩) ?_ ?_
                  rotate_left
                  · intro w'
                    go_simp
                    with_reducible rfl
                  rotate_left
                  · simp only [Act.put, List.setIfInBounds_toArray, List.set_cons_zero, List.set_cons_succ, i64_w, i32_w]
                    rfl
                  refine one_ (i := 7) (N := some 8) #[true, true, true, true, true, true, true, true, false] rfl rfl (one_of HT_.out (by kernel_rfl)) (by decide) (fun K hK => ?_)
                  refine value_ (w1 := ?_) (v := ?_) (by rfl) rfl ?_ ?_
                  rotate_left 2
                  · go_simp
                    constructor
                    · rfl
                    · rfl
                  refine hK.out _ _ ((Below.cell (below_alloc (Below.refl W4.heap.size W4) _) (p := ⟨w.heap.size, 0, none⟩) (World.block_lt_of_cell? W4 _ hcell4)).trans hcell4) (fun hHeld => ?_)
                  clear hK K
                  refine norm_ (a' := ?_) ?_ ?_
                  rotate_left
                  · show Act.put _ (some 8) _ = _
                    simp only [Act.put, List.setIfInBounds_toArray, List.set_cons_zero, List.set_cons_succ, i64_w, i32_w]
                    rfl
                  refine last_ (i := 8) (N := none) #[true, true, true, true, true, true, true, true, true] rfl rfl (one_of HT_.out (by kernel_rfl)) (by decide) (fun K hK => ?_)
                  refine skip_ (w1 := ?_) (by rfl) rfl ?_ ?_
                  rotate_left
                  · go_simp
                    rfl
                  refine hK.out _ _ ?_
                  clear hK K
                  refine done_ (done_of HT_.out (by kernel_rfl)) ?_
                  have HB5 := Aside0.mk (BJ.new HI4.out c2.toNat)
                  obtain ⟨W5, hW5⟩ : ∃ W, W4.alloc (.cells #[.int .u8 (c2.toNat : Int), .int .u8 (c2.toNat : Int)] 141) = W := ⟨_, rfl⟩
                  obtain ⟨b8, hb8⟩ : ∃ b, W4.heap.size = b := ⟨_, rfl⟩
                  rw [hW5, hb8] at HB5
                  rw [hW5, hb8]
                  clear hW5 hb8 HI4 HI hcell4 hcell q1 q2 q3 h2' h2
                  have hcell5 := HB5.out.im.gm.cell
                  obtain ⟨hb, hhb⟩ : ∃ hb, decide (t2.head? = some 45 ∧ plainB (t2.drop 1) = true) = hb := ⟨_, rfl⟩
                  have htl : t2.length = l.length - (i2 + 1) := by rw [← h3, List.length_drop]
                  go_upto_region 27 with fail
                  go_cut [103] from 86 to 102 (fun s103 wx => s103 = .bool hb ∧ wx = W5)
                  case first =>
                    cases t2 with
                    | nil =>
                      rw [List.length_nil] at htl
                      have k1 : decide ((i2 : Int) + 1 < ((bs l).size : Int)) = false := decide_eq_false (by rw [bs_size]; omega)
                      have k2 : decide (i2 + 1 < (bs l).size) = false := decide_eq_false (by rw [bs_size]; omega)
                      clear htl
                      go_wp2_with fail
                      go_meet
                      exact ⟨by rw [← hhb]; rfl, rfl⟩
                    | cons m t3 =>
                      rw [List.length_cons] at htl
                      have hil2 : i2 + 1 < l.length := by omega
                      obtain ⟨m', t3', g1, g2, g3⟩ := ne_head hil2
                      rw [h3] at g1
                      injection g1 with g1a g1b
                      subst g1a
                      subst g1b
                      have k1 : decide ((i2 : Int) + 1 < ((bs l).size : Int)) = true := decide_eq_true (by rw [bs_size]; omega)
                      have k2 : decide (i2 + 1 < (bs l).size) = true := decide_eq_true (by rw [bs_size]; omega)
                      have k3 : (i2 : Int) + 1 < ((bs l).size : Int) := by rw [bs_size]; omega
                      have k4 : i2 + 1 < (bs l).size := by rw [bs_size]; exact hil2
                      have g2' : ∀ h : i2 + 1 < (bs l).size, (bs l)[i2 + 1]'h = m := fun _ => g2
                      clear htl
                      by_cases hm : m = 45
                      · subst hm
                        obtain ⟨pp, hpp⟩ : ∃ pp, plainB t3 = pp := ⟨_, rfl⟩
                        go_wp2_with (go_at_call 88; refine (fits_calls l (i2 + 2) w.heap.size _ hcell5).mono ?_; rintro e' w6 ⟨rfl, rfl⟩; rw [g3, hpp])
                        go_meet
                        exact ⟨by rw [← hhb]; simp [hpp], rfl⟩
                      · have hm2 : ((m.toNat : Int) == 45) = false := beq_eq_false_iff_ne.2 (fun h => hm (UInt8.toNat_inj.1 (by show m.toNat = 45; omega)))
                        go_wp2_with fail
                        go_meet
                        exact ⟨by rw [← hhb]; simp [hm], rfl⟩
                  case rest =>
                  obtain ⟨rfl, rfl⟩ := hcut
                  go_upto_if 103 with fail
                  go_cut [5] from 104 to 110 (fun s5 wx => ∃ (i3 d : Nat), s5 = .int .i64 (i3 : Int) ∧ i3 + 1 ≤ l.length ∧ d < 256 ∧ Aside0 ((stepT c2 t2).1.toNat = d ∧ (stepT c2 t2).2 = l.drop (i3 + 1) ∧ i2 ≤ i3) ∧ Aside0 (BJ l w wx b6 v4 xs vr rs hat b8 c2.toNat d))
                  case first =>
                    cases hb with
                    | false =>
                      have hst : stepT c2 t2 = (c2, t2) := by unfold stepT; rw [if_neg (of_decide_eq_false hhb)]
                      go_wp2_with fail
                      go_meet
                      exact ⟨i2, c2.toNat, rfl, hil, c2.toNat_lt, ⟨by rw [hst], by rw [hst, h3], Nat.le_refl _⟩, HB5⟩
                    | true =>
                      obtain ⟨h45, hpl⟩ := of_decide_eq_true hhb
                      match t2, h45, hpl with
                      | m :: d :: u, h45, hpl =>
                        have hst : stepT c2 (m :: d :: u) = (d, u) := by unfold stepT; rw [if_pos ⟨h45, hpl⟩]; rfl
                        rw [List.length_cons, List.length_cons] at htl
                        have hil2 : i2 + 2 < l.length := by omega
                        obtain ⟨d', u', g1, g2, g3⟩ := ne_head hil2
                        have g0 : l.drop (i2 + 2) = d :: u := by
                          have := congrArg (List.drop 1) h3
                          rw [List.drop_drop] at this
                          exact this
                        rw [g0] at g1
                        injection g1 with g1a g1b
                        subst g1a
                        subst g1b
                        have k3 : (i2 : Int) + 2 < ((bs l).size : Int) := by rw [bs_size]; omega
                        have k4 : i2 + 2 < (bs l).size := by rw [bs_size]; exact hil2
                        have g2' : ∀ h : i2 + 2 < (bs l).size, (bs l)[i2 + 2]'h = d := fun _ => g2
                        have hc1 := HB5.out.c1
                        have hf1 := HB5.out.fz 1
                        have HB6 := Aside0.mk (HB5.out.set d.toNat)
                        clear htl h1 h3 hhb
                        go_wp2_with fail
                        go_meet
                        exact ⟨i2 + 2, d.toNat, rfl, by omega, d.toNat_lt, ⟨by rw [hst], by rw [hst, g3], by omega⟩, HB6⟩
                      | [m], _, hpl => cases hpl
                  case rest =>
                  obtain ⟨i3, d, rfl, hi3, hd256, HST, HB6⟩ := hcut
                  have hE := HE3.out
                  rw [HST.out.1, HST.out.2.1] at hE
                  have HE4 := Aside0.mk hE
                  clear hE HE3 hcell5 HB5
                  have hc0 := HB6.out.c0
                  have hc1 := HB6.out.c1
                  have hc8 := c2.toNat_lt
                  by_cases hdc : d < c2.toNat
                  · have b1 : decide ((d : Int) < (c2.toNat : Int)) = true := decide_eq_true (by omega)
                    have b2 : decide (d < c2.toNat) = true := decide_eq_true hdc
                    have hE := HE4.out
                    rw [if_pos hdc] at hE
                    have hF := HE2.out
                    rw [← hE] at hF
                    have HF := Aside0.mk (show none = RES from hF)
                    clear hE hF HE4 HE2
                    go_wp2
                    go_ret2
                    exact ⟨⟨_, _, rfl, .none HF.out⟩, HB6.out.im.gm.b⟩
                  · have b1 : decide ((d : Int) < (c2.toNat : Int)) = false := decide_eq_false (by omega)
                    have b2 : decide (d < c2.toNat) = false := decide_eq_false hdc
                    have hE := HE4.out
                    rw [if_neg hdc] at hE
                    have HE5 := Aside0.mk hE
                    clear hE HE4
                    have hrow := HB6.out.r
                    have hc2 := HB6.out.im.c2
                    have hx41 := HX2.out
                    obtain ⟨rs2, hrs2⟩ : ∃ r, rs ++ [(c2.toNat, d)] = r := ⟨_, rfl⟩
                    have hln : rs2.length = rs.length + 1 := by rw [← hrs2]; simp
                    go_wp2_with (first | (refine wpList_load_row rfl 141 (.tmp 8) rfl b8 rfl 141 _ (0, 0) _ hrow Try.underlying141 rfl (by kernel_rfl) ?_) | ((with_reducible refine gate_builtin (b := .append) (xs := #[.tmp 119, .tmp 121]) rfl ?_); at_builtin; refine Kd.R_append krg (w0 := w) w.heap.size rfl (.tmp 119) (.tmp 121) 138 141 (.agg #[.int .u8 0, .int .u8 0]) 2 rfl Try.underlying138 info141 rfl (by decide) (by decide) vr rs (c2.toNat, d) [.int .u8 (c2.toNat : Int), .int .u8 (d : Int)] (fun k => b6 < k) (fun _ => False) rfl rfl (krg_M _ _ _ _ _) (fun _ hk => hk.elim) (fun k hk => Nat.lt_of_lt_of_le (Array.getElem?_eq_some_iff.1 HB6.out.im.it).1 hk) HB6.out.im.rr HB6.out.im.gm.b HB6.out.im.gm.b.size (by omega) ?_; intro v8 w8 ho hb_ hg hat_; have ht := HB6.out.im.app ho hb_ hg; rw [hrs2] at ho ht; obtain ⟨A8, c8, e8⟩ := Kd.R_slice ho; subst e8; have HT := Aside0.mk ht; have hcv := (it_c2 ht.2.1).1; have hfv := (it_c2 ht.2.1).2; clear ho hb_ hg hat_ ht))
                    go_roundg g2
                    case measure => omega
                    case rel =>
                      have hp := HT.out
                      have HP := IJ.put (v8 := .slice A8 (rs.length + 1) c8) (rs2 := rs2) (by first | exact hp | (rw [← hln]; exact hp)) HB6.out.im.lt
                      rw [← hrs2] at HP
                      exact ⟨i3 + 1, rs ++ [(c2.toNat, d)], _, rfl, hi3, ⟨by have := HL.out.1; rw [List.length_drop] at this ⊢; have := HST.out.2.2; omega, by have := HL.out.2; have := HST.out.2.2; omega⟩, HE5, ⟨by rw [List.length_append, List.length_singleton]; omega⟩, ⟨HP⟩⟩
          rw [if_neg c91] at hE
          have n91 : ((c.toNat : Int) == 91) = false := beq_eq_false_iff_ne.2 (fun h => c91 (UInt8.toNat_inj.1 (by show c.toNat = 91; omega)))
          by_cases c92 : c = 92
          · subst c92
            rw [if_pos rfl] at hE
            cases t with
            | nil =>
              have HE2 := Aside0.mk (show none = RES from hE)
              have hend : l.length = i + 1 := by
                have := congrArg List.length h1
                rw [List.length_drop, List.length_cons, List.length_nil] at this
                omega
              have k1 : decide (((bs l).size : Int) ≤ (i : Int) + 1) = true := decide_eq_true (by rw [bs_size]; omega)
              have k2 : decide ((bs l).size ≤ i + 1) = true := decide_eq_true (by rw [bs_size]; omega)
              clear hE HE HL hend
              go_wp2
              go_ret2
              exact ⟨⟨_, _, rfl, .none HE2.out⟩, HM.out.b⟩
            | cons d u =>
              have HE2 := Aside0.mk (show itemsK g u (xs ++ [(61, d.toNat, [], false)]) = RES from hE)
              have hil2 : i + 1 < l.length := by
                have := congrArg List.length h3
                rw [List.length_drop, List.length_cons] at this
                omega
              obtain ⟨d2, t2, g1, g2, g3⟩ := ne_head hil2
              rw [h3] at g1
              injection g1 with g1a g1b
              subst g1a
              subst g1b
              have k1 : decide (((bs l).size : Int) ≤ (i : Int) + 1) = false := decide_eq_false (by rw [bs_size]; omega)
              have k2 : decide ((bs l).size ≤ i + 1) = false := decide_eq_false (by rw [bs_size]; omega)
              have k3 : (i : Int) + 1 < ((bs l).size : Int) := by rw [bs_size]; omega
              have k4 : i + 1 < (bs l).size := by rw [bs_size]; exact hil2
              have g2' : ∀ h : i + 1 < (bs l).size, (bs l)[i + 1]'h = d := fun _ => g2
              have hlu : u.length < g := by simp only [List.length_cons] at hL; omega
              clear hE HE HL
              go_wp2_with (first | ((with_reducible refine gate_builtin (b := .append) (xs := #[.tmp 47, .tmp 53]) rfl ?_); at_builtin; refine Kd.R_append kitem (w0 := w) w.heap.size rfl (.tmp 47) (.tmp 53) 99 140 (.agg #[.int .u8 0, .int .u8 0, .slice none 0 0, .bool false]) 40 rfl Try.underlying99 info140 rfl (by decide) (by decide) u4 xs (61, d.toNat, [], false) [.int .u8 ((61 : Nat) : Int), .int .u8 ((d.toNat : Nat) : Int), .slice none 0 0, .bool false] (fun _ => True) (fun _ => False) rfl rfl (item_M _ _ _ _ _) (fun _ hk => hk.elim) (fun _ _ => trivial) HM.out.out HM.out.b HM.out.b.size (by omega) ?_; intro v8 w8 ho hb hg hat8; have HM8 := Aside0.mk (GJ.app HM.out ho hb hg); clear ho hb hg hat8))
              go_roundg g
              case measure => omega
              case rel => exact ⟨i + 2, _, rfl, by omega, ⟨by rw [g3]; omega⟩, ⟨by rw [List.length_append, List.length_singleton]; omega⟩, ⟨by rw [g3]; exact HE2.out⟩, HM8⟩
          rw [if_neg c92] at hE
          have n92 : ((c.toNat : Int) == 92) = false := beq_eq_false_iff_ne.2 (fun h => c92 (UInt8.toNat_inj.1 (by show c.toNat = 92; omega)))
          clear HE HL
          by_cases c42 : c = 42
          · subst c42
            rw [if_pos rfl] at hE
            have HE2 := Aside0.mk hE
            clear hE
            go_wp2_with (first | ((with_reducible refine gate_builtin (b := .append) (xs := #[.tmp 31, .tmp 36]) rfl ?_); at_builtin; refine Kd.R_append kitem (w0 := w) w.heap.size rfl (.tmp 31) (.tmp 36) 99 140 (.agg #[.int .u8 0, .int .u8 0, .slice none 0 0, .bool false]) 40 rfl Try.underlying99 info140 rfl (by decide) (by decide) u4 xs (42, 0, [], false) [.int .u8 ((42 : Nat) : Int), .int .u8 ((0 : Nat) : Int), .slice none 0 0, .bool false] (fun _ => True) (fun _ => False) rfl rfl (item_M _ _ _ _ _) (fun _ hk => hk.elim) (fun _ _ => trivial) HM.out.out HM.out.b HM.out.b.size (by omega) ?_; intro v8 w8 ho hb hg hat8; have HM8 := Aside0.mk (GJ.app HM.out ho hb hg); clear ho hb hg hat8))
            go_roundg g
            case measure => omega
            case rel => exact ⟨i + 1, _, rfl, by omega, ⟨by rw [h3]; omega⟩, ⟨by rw [List.length_append, List.length_singleton]; omega⟩, ⟨by rw [h3]; exact HE2.out⟩, HM8⟩
          rw [if_neg c42] at hE
          by_cases c63 : c = 63
          · subst c63
            rw [if_pos rfl] at hE
            have HE2 := Aside0.mk hE
            clear hE
            go_wp2_with (first | ((with_reducible refine gate_builtin (b := .append) (xs := #[.tmp 31, .tmp 36]) rfl ?_); at_builtin; refine Kd.R_append kitem (w0 := w) w.heap.size rfl (.tmp 31) (.tmp 36) 99 140 (.agg #[.int .u8 0, .int .u8 0, .slice none 0 0, .bool false]) 40 rfl Try.underlying99 info140 rfl (by decide) (by decide) u4 xs (63, 0, [], false) [.int .u8 ((63 : Nat) : Int), .int .u8 ((0 : Nat) : Int), .slice none 0 0, .bool false] (fun _ => True) (fun _ => False) rfl rfl (item_M _ _ _ _ _) (fun _ hk => hk.elim) (fun _ _ => trivial) HM.out.out HM.out.b HM.out.b.size (by omega) ?_; intro v8 w8 ho hb hg hat8; have HM8 := Aside0.mk (GJ.app HM.out ho hb hg); clear ho hb hg hat8))
            go_roundg g
            case measure => omega
            case rel => exact ⟨i + 1, _, rfl, by omega, ⟨by rw [h3]; omega⟩, ⟨by rw [List.length_append, List.length_singleton]; omega⟩, ⟨by rw [h3]; exact HE2.out⟩, HM8⟩
          rw [if_neg c63] at hE
          have HE2 := Aside0.mk hE
          clear hE
          have n42 : ((c.toNat : Int) == 42) = false := beq_eq_false_iff_ne.2 (fun h => c42 (UInt8.toNat_inj.1 (by show c.toNat = 42; omega)))
          have n63 : ((c.toNat : Int) == 63) = false := beq_eq_false_iff_ne.2 (fun h => c63 (UInt8.toNat_inj.1 (by show c.toNat = 63; omega)))
          go_wp2_with (first | ((with_reducible refine gate_builtin (b := .append) (xs := #[.tmp 19, .tmp 24]) rfl ?_); at_builtin; refine Kd.R_append kitem (w0 := w) w.heap.size rfl (.tmp 19) (.tmp 24) 99 140 (.agg #[.int .u8 0, .int .u8 0, .slice none 0 0, .bool false]) 40 rfl Try.underlying99 info140 rfl (by decide) (by decide) u4 xs (61, c.toNat, [], false) [.int .u8 ((61 : Nat) : Int), .int .u8 ((c.toNat : Nat) : Int), .slice none 0 0, .bool false] (fun _ => True) (fun _ => False) rfl rfl (item_M _ _ _ _ _) (fun _ hk => hk.elim) (fun _ _ => trivial) HM.out.out HM.out.b HM.out.b.size (by omega) ?_; intro v8 w8 ho hb hg hat8; have HM8 := Aside0.mk (GJ.app HM.out ho hb hg); clear ho hb hg hat8))
          go_roundg g
          case measure => omega
          case rel => exact ⟨i + 1, _, rfl, by omega, ⟨by rw [h3]; omega⟩, ⟨by rw [List.length_append, List.length_singleton]; omega⟩, ⟨by rw [h3]; exact HE2.out⟩, HM8⟩
        · have q1 : decide ((i : Int) < ((bs l).size : Int)) = false := decide_eq_false (by rw [bs_size]; omega)
          have q4 : decide (i < (bs l).size) = false := decide_eq_false (by rw [bs_size]; omega)
          have hE := HE.out
          rw [List.drop_eq_nil_of_le hil] at hE
          have HE2 := Aside0.mk (show some xs = RES from hE)
          clear hls hF hE HE
          go_wp2
          go_ret2
          exact ⟨⟨_, _, rfl, .some HE2.out HM.out.out⟩, HM.out.b⟩
end Go.Proofs.Ytkghoodhgihokaa.Glob
