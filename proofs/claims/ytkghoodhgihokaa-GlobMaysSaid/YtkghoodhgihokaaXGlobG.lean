/- Patterns of names: packthreadref.globItems: whether it answers. -/
import Derived.Test.YtkghoodhgihokaaXGlobF
namespace Go.Proofs.Ytkghoodhgihokaa.Glob
open Go.RowKit Go.Lib Go.Proofs.YtkghoodhgihokaaW.PrintWords Go.Proofs.YtkghoodhgihokaaW.PrintLast Go.Proofs.YtkghoodhgihokaaW.PrintMore
set_option linter.unusedVariables false
set_option linter.unusedSimpArgs false
theorem GM.app {l : List UInt8} {w wx w1 : World} {v v1 : Value} {xs : List Unit} (h : GM l w wx v xs) (ho : (kraw 4).R 140 w1 w.heap.size (fun _ => True) v1 (xs ++ [()])) (hb : Below w.heap.size w w1) (hg : wx.grownBy w1 v.ownBlock) : GM l w w1 v1 (xs ++ [()]) :=
  ⟨(hg.block _ h.lt (fun e => by
    obtain ⟨cells, hc⟩ := Kd.R_typed h.out _ e.symm
    rw [h.box] at hc
    simp at hc)).trans h.box, ho, hb⟩
/-- Have the parts an end? -/
def okB (k : Nat) (l : List UInt8) (n : Nat) : Bool := (partsK k l (List.replicate n allP)).isSome
theorem isSome_any : ∀ (k : Nat) (l : List UInt8) (o o' : List Pt), (partsK k l o).isSome = (partsK k l o').isSome
  | 0, _, _, _ => rfl
  | k + 1, [], _, _ => rfl
  | k + 1, c :: t, o, o' => by
    rw [partsK_cons, partsK_cons]
    by_cases h1 : c = 63
    · rw [if_pos h1, if_pos h1]; exact isSome_any k _ _ _
    rw [if_neg h1, if_neg h1]
    by_cases h2 : c = 42
    · rw [if_pos h2, if_pos h2]; exact isSome_any k _ _ _
    rw [if_neg h2, if_neg h2]
    by_cases h3 : c = 91
    · rw [if_pos h3, if_pos h3]
      cases setF t with
      | none => rfl
      | some r => exact isSome_any k _ _ _
    rw [if_neg h3, if_neg h3]
    by_cases h4 : c = 92
    · rw [if_pos h4, if_pos h4]
      cases t with
      | nil => rfl
      | cons d u => exact isSome_any k _ _ _
    rw [if_neg h4, if_neg h4]
    exact isSome_any k _ _ _
/-- May a text be a pattern, from here on? -/
def mayK (k : Nat) (l : List UInt8) : Bool := (partsK k l []).isSome
theorem mayK_cons (k : Nat) (c : UInt8) (t : List UInt8) : mayK (k + 1) (c :: t) =
    if c = 91 then (match setF t with | none => false | some r => mayK k r.2)
    else if c = 92 then (match t with | [] => false | _ :: u => mayK k u)
    else mayK k t := by
  unfold mayK
  rw [partsK_cons]
  by_cases h1 : c = 63
  · rw [if_pos h1, if_neg (by rw [h1]; decide), if_neg (by rw [h1]; decide)]; exact isSome_any k _ _ _
  rw [if_neg h1]
  by_cases h2 : c = 42
  · rw [if_pos h2, if_neg (by rw [h2]; decide), if_neg (by rw [h2]; decide)]; exact isSome_any k _ _ _
  rw [if_neg h2]
  by_cases h3 : c = 91
  · rw [if_pos h3, if_pos h3]
    cases setF t with
    | none => rfl
    | some r => exact isSome_any k _ _ _
  rw [if_neg h3, if_neg h3]
  by_cases h4 : c = 92
  · rw [if_pos h4, if_pos h4]
    cases t with
    | nil => rfl
    | cons d u => exact isSome_any k _ _ _
  rw [if_neg h4, if_neg h4]
  exact isSome_any k _ _ _
/-- What the reference keeps within a set: the item at a block of its own, its ranges a row. -/
structure IM (l : List UInt8) (w wx : World) (b6 : Nat) (v4 : Value) (xs : List Unit) (vr : Value) (rs : List Unit) (nt : Bool) : Prop where
  gm : GM l w wx v4 xs
  it : wx.heap[b6]? = some (.cells #[.int .u8 91, .int .u8 0, vr, .bool nt] 140 (0, 0))
  rr : (kraw 2).R 141 wx w.heap.size (fun _ => True) vr rs
  ne : ∀ k, v4.ownBlock = some k → k < b6
  lt : w.heap.size < b6
theorem IM.below {l : List UInt8} {w wx w1 : World} {b6 : Nat} {v4 vr : Value} {xs rs : List Unit} {nt : Bool} (h : IM l w wx b6 v4 xs vr rs nt) (hb : Below wx.heap.size wx w1) : IM l w w1 b6 v4 xs vr rs nt :=
  ⟨h.gm.below hb, (hb.block _ (Array.getElem?_eq_some_iff.1 h.it).1).trans h.it, Kd.R_below h.rr hb, h.ne, h.lt⟩
theorem IM.drew {l : List UInt8} {w wx : World} {b6 : Nat} {v4 vr : Value} {xs rs : List Unit} {nt : Bool} (h : IM l w wx b6 v4 xs vr rs nt) : IM l w wx.drew b6 v4 xs vr rs nt := h.below ((Below.refl _ _).drew)
theorem IM.app {l : List UInt8} {w wx w1 : World} {b6 : Nat} {v4 vr v8 : Value} {xs rs : List Unit} {nt : Bool} (h : IM l w wx b6 v4 xs vr rs nt) (ho : (kraw 2).R 141 w1 w.heap.size (fun _ => True) v8 (rs ++ [()])) (hb : Below w.heap.size w w1) (hg : wx.grownBy w1 vr.ownBlock) :
    GM l w w1 v4 xs ∧ w1.heap[b6]? = some (.cells #[.int .u8 91, .int .u8 0, vr, .bool nt] 140 (0, 0)) ∧ (kraw 2).R 141 w1 w.heap.size (fun _ => True) v8 (rs ++ [()]) := by
  have hty := Kd.R_typed h.rr
  refine ⟨⟨(hg.block _ h.gm.lt (fun e => ?_)).trans h.gm.box, Kd.R_over' h.gm.out hty (by intro q hq; simp [kraw] at hq; subst hq; decide) hg, hb⟩, (hg.block _ (Array.getElem?_eq_some_iff.1 h.it).1 (fun e => ?_)).trans h.it, ho⟩
  · obtain ⟨cells, hc⟩ := hty _ e.symm
    rw [h.gm.box] at hc
    simp at hc
  · obtain ⟨cells, hc⟩ := hty _ e.symm
    rw [h.it] at hc
    simp at hc
theorem IM.put {l : List UInt8} {w w1 : World} {b6 : Nat} {v4 vr v8 : Value} {xs rs : List Unit} {nt : Bool} (h : GM l w w1 v4 xs ∧ w1.heap[b6]? = some (.cells #[.int .u8 91, .int .u8 0, vr, .bool nt] 140 (0, 0)) ∧ (kraw 2).R 141 w1 w.heap.size (fun _ => True) v8 (rs ++ [()]))
    (hne : ∀ k, v4.ownBlock = some k → k < b6) (hlt : w.heap.size < b6) : IM l w (w1.setCell ⟨b6, 2, none⟩ v8) b6 v4 xs v8 (rs ++ [()]) nt := by
  obtain ⟨g, it, rr⟩ := h
  have hb : Below w.heap.size w (w1.setCell ⟨b6, 2, none⟩ v8) := g.b.setCell (p := ⟨b6, 2, none⟩) (Nat.le_of_lt hlt) _
  refine ⟨⟨(heap_setCell_other w1 _ _ _ (by simp; omega)).trans g.box, keepR g.out rfl (fun k hk => heap_setCell_other w1 _ _ _ (by have := hne k hk; simp; omega)), hb⟩, by rw [heap_setCell_same w1 _ _ _ _ _ it]; rfl, keepR rr rfl (fun k hk => heap_setCell_other w1 _ _ _ (fun e => ?_)), hne, hlt⟩
  obtain ⟨cells, hc⟩ := Kd.R_typed rr k hk
  simp at e
  subst e
  rw [it] at hc
  simp at hc
theorem IM.keep {l : List UInt8} {w wx w1 : World} {b6 b8 : Nat} {v4 vr : Value} {xs rs : List Unit} {nt : Bool} (h : IM l w wx b6 v4 xs vr rs nt) (h8 : b6 < b8) (hr : ∀ k, vr.ownBlock = some k → k < b8)
    (hk : ∀ k, k < b8 → w1.heap[k]? = wx.heap[k]?) (hb : Below w.heap.size w w1) : IM l w w1 b6 v4 xs vr rs nt :=
  ⟨⟨(hk _ (by have := h.lt; omega)).trans h.gm.box, keepR h.gm.out rfl (fun k e => hk k (by have := h.ne k e; omega)), hb⟩, (hk _ h8).trans h.it, keepR h.rr rfl (fun k e => hk k (hr k e)), h.ne, h.lt⟩
theorem IM.neg {l : List UInt8} {w wx : World} {b6 : Nat} {v4 vr : Value} {xs rs : List Unit} {nt : Bool} (h : IM l w wx b6 v4 xs vr rs nt) (b : Bool) : IM l w (wx.setCell ⟨b6, 3, none⟩ (.bool b)) b6 v4 xs vr rs b := by
  have hb : Below w.heap.size w (wx.setCell ⟨b6, 3, none⟩ (.bool b)) := h.gm.b.setCell (p := ⟨b6, 3, none⟩) (Nat.le_of_lt h.lt) _
  refine ⟨⟨(heap_setCell_other wx _ _ _ (by have := h.lt; simp; omega)).trans h.gm.box, keepR h.gm.out rfl (fun k hk => heap_setCell_other wx _ _ _ (by have := h.ne k hk; simp; omega)), hb⟩, by rw [heap_setCell_same wx _ _ _ _ _ h.it]; rfl, keepR h.rr rfl (fun k hk => heap_setCell_other wx _ _ _ (fun e => ?_)), h.ne, h.lt⟩
  obtain ⟨cells, hc⟩ := Kd.R_typed h.rr k hk
  simp at e
  subst e
  rw [h.it] at hc
  simp at hc
theorem IM.c2 {l : List UInt8} {w wx : World} {b6 : Nat} {v4 vr : Value} {xs rs : List Unit} {nt : Bool} (h : IM l w wx b6 v4 xs vr rs nt) : wx.cell? ⟨b6, 2, none⟩ = some vr := by
  rw [cell_of_row wx _ _ _ _ _ h.it]; rfl
theorem IM.c3 {l : List UInt8} {w wx : World} {b6 : Nat} {v4 vr : Value} {xs rs : List Unit} {nt : Bool} (h : IM l w wx b6 v4 xs vr rs nt) : wx.cell? ⟨b6, 3, none⟩ = some (.bool nt) := by
  rw [cell_of_row wx _ _ _ _ _ h.it]; rfl
theorem IM.fz {l : List UInt8} {w wx : World} {b6 : Nat} {v4 vr : Value} {xs rs : List Unit} {nt : Bool} (h : IM l w wx b6 v4 xs vr rs nt) (x : Nat) : wx.frozen? ⟨b6, x, none⟩ = false := frozen_of_row wx _ _ _ _ h.it
theorem it_c2 {wx : World} {b6 : Nat} {vr : Value} {nt : Bool} (h : wx.heap[b6]? = some (.cells #[.int .u8 91, .int .u8 0, vr, .bool nt] 140 (0, 0))) : wx.cell? ⟨b6, 2, none⟩ = some vr ∧ wx.frozen? ⟨b6, 2, none⟩ = false := by
  refine ⟨?_, frozen_of_row wx _ _ _ _ h⟩
  rw [cell_of_row wx _ _ _ _ _ h]; rfl
/-- .. and the range that is being read, at a block of its own. -/
structure BM (l : List UInt8) (w wx : World) (b6 : Nat) (v4 : Value) (xs : List Unit) (vr : Value) (rs : List Unit) (nt : Bool) (b8 c d : Nat) : Prop where
  im : IM l w wx b6 v4 xs vr rs nt
  r : wx.heap[b8]? = some (.cells #[.int .u8 (c : Int), .int .u8 (d : Int)] 141 (0, 0))
  ne : ∀ k, vr.ownBlock = some k → k < b8
  lt : b6 < b8
theorem BM.new {l : List UInt8} {w wx : World} {b6 : Nat} {v4 vr : Value} {xs rs : List Unit} {nt : Bool} (h : IM l w wx b6 v4 xs vr rs nt) (c : Nat) : BM l w (wx.alloc (.cells #[.int .u8 (c : Int), .int .u8 (c : Int)] 141)) b6 v4 xs vr rs nt wx.heap.size c c :=
  ⟨h.below ((Below.refl _ _).alloc (Nat.le_refl _) _), heap_alloc_new wx _, fun k hk => Kd.R_lt h.rr k hk, (Array.getElem?_eq_some_iff.1 h.it).1⟩
theorem BM.set {l : List UInt8} {w wx : World} {b6 : Nat} {v4 vr : Value} {xs rs : List Unit} {nt : Bool} {b8 c d : Nat} (h : BM l w wx b6 v4 xs vr rs nt b8 c d) (e : Nat) : BM l w (wx.setCell ⟨b8, 1, none⟩ (.int .u8 (e : Int))) b6 v4 xs vr rs nt b8 c e :=
  ⟨h.im.keep h.lt h.ne (fun k hk => heap_setCell_other wx _ _ _ (by simp; omega)) (h.im.gm.b.setCell (p := ⟨b8, 1, none⟩) (by have := h.lt; have := h.im.lt; simp; omega) _), by rw [heap_setCell_same wx _ _ _ _ _ h.r]; rfl, h.ne, h.lt⟩
theorem BM.c0 {l : List UInt8} {w wx : World} {b6 : Nat} {v4 vr : Value} {xs rs : List Unit} {nt : Bool} {b8 c d : Nat} (h : BM l w wx b6 v4 xs vr rs nt b8 c d) : wx.cell? ⟨b8, 0, none⟩ = some (.int .u8 (c : Int)) := by
  rw [cell_of_row wx _ _ _ _ _ h.r]; rfl
theorem BM.c1 {l : List UInt8} {w wx : World} {b6 : Nat} {v4 vr : Value} {xs rs : List Unit} {nt : Bool} {b8 c d : Nat} (h : BM l w wx b6 v4 xs vr rs nt b8 c d) : wx.cell? ⟨b8, 1, none⟩ = some (.int .u8 (d : Int)) := by
  rw [cell_of_row wx _ _ _ _ _ h.r]; rfl
theorem BM.fz {l : List UInt8} {w wx : World} {b6 : Nat} {v4 vr : Value} {xs rs : List Unit} {nt : Bool} {b8 c d : Nat} (h : BM l w wx b6 v4 xs vr rs nt b8 c d) (x : Nat) : wx.frozen? ⟨b8, x, none⟩ = false := frozen_of_row wx _ _ _ _ h.r
/-- The end of a set. -/
def endB (g : Nat) (o : Option ((Nat → Bool) × List UInt8 × Bool)) : Bool :=
  match o with
  | none => false
  | some r => if r.2.2 = true ∨ r.2.1.head? ≠ some 93 then false else mayK g (r.2.1.drop 1)
theorem endB_bad {g : Nat} {e : Bool} {f : Nat → Bool} {l : List UInt8} (h : e = true ∨ l.head? ≠ some 93) : endB g (some (f, l, e)) = false := by
  unfold endB
  exact if_pos h
theorem endB_ok {g : Nat} {f : Nat → Bool} {t : List UInt8} : endB g (some (f, 93 :: t, false)) = mayK g t := by
  unfold endB
  exact if_neg (by simp)
theorem endB_set (g : Nat) (t : List UInt8) : (match setF t with | none => false | some r => mayK g r.2) = endB g (rangesL (if t.head? = some 94 then t.drop 1 else t) (fun _ => false) true) := by
  unfold setF endB
  cases rangesL (if t.head? = some 94 then t.drop 1 else t) (fun _ => false) true with
  | none => rfl
  | some r =>
    rw [Option.bind_some]
    by_cases h : r.2.2 = true ∨ r.2.1.head? ≠ some 93
    · rw [if_pos h]; exact (if_pos h).symm
    · rw [if_neg h]; exact (if_neg h).symm
def items26.T26 : Bool × List (List Nat × List Nat) := (true, [([], []), ([], []), ([0, 1], [0, 1]), ([], []), ([], []), ([3, 4], [3, 4]), ([2, 5], [2, 5]), ([], []), ([7, 6, 0, 1, 2, 3, 4, 5, 6, 7], [6, 7])])
def items26.B26 : List Nat := [0, 0, 3, 0, 0, 24, 63, 0, 255]
theorem items26.tab26 : rtab .any (opsOf Try.f59 26) = items26.T26 := by kernel_rfl
theorem items26.bits26 : waitsOk items26.T26.2 items26.B26 = true := by kernel_rfl
set_option maxHeartbeats 8000000 in
set_option maxRecDepth 100000 in
theorem items_calls (l : List UInt8) (w : World) : Calls Try.prog 59 #[.string (bs l)] w fun e w' =>
    (∃ v, e = .returned (.tuple #[v, .bool (partsF l).isSome])) ∧ Below w.heap.size w w' := by
  have hbx : Below w.heap.size w (w.alloc (.cells #[.string (bs l)] 9)) := (Below.refl _ w).alloc (Nat.le_refl _) _
  have hcb : (w.alloc (.cells #[.string (bs l)] 9)).cell? ⟨w.heap.size, 0, none⟩ = some (.string (bs l)) := by rw [cell_of_row _ _ _ _ _ _ (heap_alloc_new w _)]; rfl
  by_cases hlen : 40 < l.length
  · have d1 : decide ((40 : Int) < ((bs l).size : Int)) = true := decide_eq_true (by rw [bs_size]; omega)
    have d2 : decide (40 < (bs l).size) = true := decide_eq_true (by rw [bs_size]; omega)
    have hF : partsF l = none := by unfold partsF; rw [if_pos hlen]
    rw [hF]
    go_enter Try.func59, Try.ntmps59
    go_wp2
    go_ret2
    exact ⟨⟨_, rfl⟩, hbx⟩
  · have d1 : decide ((40 : Int) < ((bs l).size : Int)) = false := decide_eq_false (by rw [bs_size]; omega)
    have d2 : decide (40 < (bs l).size) = false := decide_eq_false (by rw [bs_size]; omega)
    obtain ⟨RES, hRES⟩ : ∃ RES, (partsF l).isSome = RES := ⟨_, rfl⟩
    rw [hRES]
    have hF : mayK 41 l = RES := by rw [← hRES]; unfold partsF mayK; rw [if_neg hlen]
    clear hRES
    have HM0 : Aside0 (GM l w (w.alloc (.cells #[.string (bs l)] 9)) (.slice none 0 0) []) := ⟨⟨heap_alloc_new w _, Kd.R_nil _ _ _ _ _, hbx⟩⟩
    have hl40 : l.length ≤ 40 := by omega
    have hls : (bs l).size = l.length := rfl
    go_enter Try.func59, Try.ntmps59
    go_wp2
    go_loopg [4, 5] 41 (fun g s4 s5 wx => ∃ (i : Nat) (xs : List Unit), s5 = .int .i64 (i : Int) ∧ i ≤ l.length ∧ Aside0 ((l.drop i).length < g) ∧ Aside0 (xs.length + g ≤ 41) ∧ Aside0 (mayK g (l.drop i) = RES) ∧ Aside0 (GM l w wx s4 xs))
    case atStart => exact ⟨0, [], rfl, Nat.zero_le _, ⟨by simp; omega⟩, ⟨by simp⟩, ⟨hF⟩, HM0⟩
    case round =>
      obtain ⟨i, xs, rfl, hi, HL, HX, HE, HM⟩ := hrel
      have hcell := HM.out.cell
      cases gk with
      | zero => exact absurd HL.out (by omega)
      | succ g =>
        rcases Nat.lt_or_ge i l.length with hil | hil
        · obtain ⟨c, t, h1, h2, h3⟩ := ne_head hil
          have hE := HE.out
          rw [h1, mayK_cons] at hE
          have hL := HL.out
          rw [h1, List.length_cons] at hL
          have hx40 := HX.out
          have q1 : decide ((i : Int) < ((bs l).size : Int)) = true := decide_eq_true (by rw [bs_size]; omega)
          have q2 : (i : Int) < ((bs l).size : Int) := by rw [bs_size]; omega
          have q3 : (0 : Int) ≤ (i : Int) := by omega
          have q4 : decide (i < (bs l).size) = true := decide_eq_true (by rw [bs_size]; exact hil)
          have q5 : i < (bs l).size := by rw [bs_size]; exact hil
          have h2' : ∀ h : i < (bs l).size, (bs l)[i]'h = c := fun _ => h2
          clear hls hF
          by_cases c91 : c = 91
          · subst c91
            rw [if_pos rfl, endB_set] at hE
            obtain ⟨l1, hl1⟩ : ∃ l1, (if t.head? = some 94 then t.drop 1 else t) = l1 := ⟨_, rfl⟩
            rw [hl1] at hE
            have HE2 := Aside0.mk hE
            have hlim : (l.drop (i + 1)).length < g := by rw [h3]; omega
            clear hE HE HL
            have hlt6 := HM.out.lt
            have hI0 : IM l w (wr.alloc (.cells #[.int .u8 91, .int .u8 0, .slice none 0 0, .bool false] 140)) wr.heap.size u4 xs (.slice none 0 0) [] false := by
              have hb := (Below.refl wr.heap.size wr).alloc (Nat.le_refl _) (.cells #[.int .u8 91, .int .u8 0, .slice none 0 0, .bool false] 140)
              exact ⟨HM.out.below hb, heap_alloc_new wr _, Kd.R_nil _ _ _ _ _, fun k hk => Kd.R_lt HM.out.out k hk, hlt6⟩
            have HI0 := Aside0.mk hI0
            have hcell0 := HI0.out.gm.cell
            clear hI0 hlt6
            obtain ⟨hat, hhat⟩ : ∃ hat, (t.head? == some 94) = hat := ⟨_, rfl⟩
            go_upto_region 21 with fail
            obtain ⟨W1, hW1⟩ : ∃ W, wr.alloc (.cells #[.int .u8 91, .int .u8 0, .slice none 0 0, .bool false] 140) = W := ⟨_, rfl⟩
            obtain ⟨b6, hb6⟩ : ∃ b, wr.heap.size = b := ⟨_, rfl⟩
            rw [hW1, hb6] at HI0
            rw [hW1] at hcell0 ⊢
            rw [hb6]
            clear hW1 hb6 HM hcell
            go_cut [71] from 62 to 70 (fun s71 wx => s71 = .bool hat ∧ wx = W1)
            case first =>
              cases t with
              | nil =>
                have hend : i + 1 = l.length := by
                  have := congrArg List.length h1
                  rw [List.length_drop, List.length_cons, List.length_nil] at this
                  omega
                have k1 : decide ((i : Int) + 1 < ((bs l).size : Int)) = false := decide_eq_false (by rw [bs_size]; omega)
                have k2 : decide (i + 1 < (bs l).size) = false := decide_eq_false (by rw [bs_size]; omega)
                clear hend
                go_wp2_with fail
                go_meet
                exact ⟨by rw [← hhat]; rfl, rfl⟩
              | cons m t2 =>
                have hil2 : i + 1 < l.length := by
                  have := congrArg List.length h3
                  rw [List.length_drop, List.length_cons] at this
                  omega
                obtain ⟨m', t2', g1, g2, g3⟩ := ne_head hil2
                rw [h3] at g1
                injection g1 with g1a g1b
                subst g1a
                subst g1b
                have k1 : decide ((i : Int) + 1 < ((bs l).size : Int)) = true := decide_eq_true (by rw [bs_size]; omega)
                have k2 : decide (i + 1 < (bs l).size) = true := decide_eq_true (by rw [bs_size]; omega)
                have k3 : (i : Int) + 1 < ((bs l).size : Int) := by rw [bs_size]; omega
                have k4 : i + 1 < (bs l).size := by rw [bs_size]; exact hil2
                have g2' : ∀ h : i + 1 < (bs l).size, (bs l)[i + 1]'h = m := fun _ => g2
                have k5 : ((m.toNat : Int) == 94) = hat := by
                  rw [← hhat]
                  show _ = (some m == some 94)
                  by_cases hm : m = 94
                  · rw [hm]; rfl
                  · rw [beq_eq_false_iff_ne.2 (show some m ≠ some 94 from fun h => hm (Option.some.inj h)), beq_eq_false_iff_ne.2 (fun h => hm (UInt8.toNat_inj.1 (by show m.toNat = 94; omega)))]
                go_wp2_with fail
                go_meet
                exact ⟨rfl, rfl⟩
            case rest =>
            obtain ⟨rfl, rfl⟩ := hcut
            have hl2 : (hat = true → l1 = l.drop (i + 2) ∧ i + 2 ≤ l.length) ∧ (hat = false → l1 = l.drop (i + 1)) := by
              constructor
              · intro h
                rw [h] at hhat
                have h94 : t.head? = some 94 := by simpa using hhat
                rw [if_pos h94, ← h3, List.drop_drop] at hl1
                refine ⟨hl1.symm, ?_⟩
                cases t with
                | nil => cases h94
                | cons m t2 =>
                  have := congrArg List.length h3
                  rw [List.length_drop, List.length_cons] at this
                  omega
              · intro h
                rw [h] at hhat
                rw [if_neg (fun h94 => by rw [h94] at hhat; cases hhat), ← h3] at hl1
                exact hl1.symm
            have HL2 := Aside0.mk hl2
            clear hl2
            go_upto_if 71 with fail
            go_cut [5] from 72 to 74 (fun s5 wx => ∃ i1 : Nat, s5 = .int .i64 (i1 : Int) ∧ i1 ≤ l.length ∧ Aside0 (l.drop i1 = l1 ∧ i < i1) ∧ Aside0 (IM l w wx b6 u4 xs (.slice none 0 0) [] hat))
            case first =>
              cases hat with
              | true =>
                have HX3 := Aside0.mk (HL2.out.1 rfl)
                clear HL2
                have hc3 := HI0.out.c3
                have hf3 := HI0.out.fz 3
                have HI1 := Aside0.mk (HI0.out.neg true)
                go_wp2_with fail
                go_meet
                exact ⟨i + 2, rfl, HX3.out.2, ⟨HX3.out.1.symm, by omega⟩, HI1⟩
              | false =>
                have HX3 := Aside0.mk (HL2.out.2 rfl)
                clear HL2
                go_wp2_with fail
                go_meet
                exact ⟨i + 1, rfl, hil, ⟨HX3.out.symm, by omega⟩, HI0⟩
            case rest =>
            obtain ⟨i1, rfl, hi1, HL1, HI1⟩ := hcut
            clear hcell0 HI0 HL2 hhat hl1 h1 h2 h2' h3 hL q1 q2 q3 q4 q5
            go_wp2_with fail
            obtain ⟨v4, hv4⟩ : ∃ v, u4 = v := ⟨_, rfl⟩
            rw [hv4] at HI1 ⊢
            clear hv4 wr
            go_loopg [5] 41 (fun g' s5 wx => ∃ (i2 : Nat) (f : Nat → Bool) (e : Bool) (rs : List Unit) (vr : Value), s5 = .int .i64 (i2 : Int) ∧ i2 ≤ l.length ∧ Aside0 ((l.drop i2).length < g' ∧ i < i2) ∧ Aside0 (rangesL (l.drop i2) f e = rangesL l1 (fun _ => false) true) ∧ Aside0 (e = true ↔ rs = []) ∧ Aside0 (rs.length + g' ≤ 41) ∧ Aside0 (IM l w wx b6 v4 xs vr rs hat))
            case atStart => exact ⟨i1, _, true, [], _, rfl, hi1, ⟨by rw [List.length_drop]; omega, HL1.out.2⟩, ⟨by rw [HL1.out.1]⟩, ⟨by simp⟩, ⟨by simp⟩, HI1⟩
            case round =>
              obtain ⟨i2, f, e, rs, vr, rfl, hi2, HL, HE, HR, HX2, HI⟩ := hrel
              have hcell := HI.out.gm.cell
              cases gk with
              | zero => exact absurd HL.out.1 (by omega)
              | succ g2 =>
                cases hp : plainB (l.drop i2) with
                | false =>
                  have hE := HE.out
                  rw [rangesL_out hp] at hE
                  have hF := HE2.out
                  rw [← hE] at hF
                  have HF := Aside0.mk hF
                  clear hE hF HE HE2
                  obtain ⟨A, cp, hA⟩ := Kd.R_slice HI.out.rr
                  subst hA
                  have hc2 := HI.out.c2
                  go_upto_region 34 with (go_at_call 88; refine (fits_calls l i2 w.heap.size _ hcell).mono ?_; rintro e' w1 ⟨rfl, rfl⟩; rw [hp])
                  cases e with
                  | true =>
                    have hrs : rs = [] := HR.out.1 rfl
                    subst hrs
                    go_wp2
                    go_ret2
                    exact ⟨⟨_, by rw [← HF.out, endB_bad (by simp)]; rfl⟩, HI.out.gm.b⟩
                  | false =>
                    have hrs : ¬ rs.length = 0 := fun h => by
                      have := HR.out.2 (List.eq_nil_of_length_eq_zero h)
                      cases this
                    have hr0 : (((rs.length : Nat) : Int) == 0) = false := beq_eq_false_iff_ne.2 (by omega)
                    clear HR
                    rcases Nat.lt_or_ge i2 l.length with hil | hil
                    · obtain ⟨c2, t2, h1, h2, h3⟩ := ne_head hil
                      have q1 : decide (((bs l).size : Int) ≤ (i2 : Int)) = false := decide_eq_false (by rw [bs_size]; omega)
                      have q2 : (i2 : Int) < ((bs l).size : Int) := by rw [bs_size]; omega
                      have q3 : (0 : Int) ≤ (i2 : Int) := by omega
                      have q4 : decide ((bs l).size ≤ i2) = false := decide_eq_false (by rw [bs_size]; omega)
                      have q5 : i2 < (bs l).size := by rw [bs_size]; exact hil
                      have h2' : ∀ h : i2 < (bs l).size, (bs l)[i2]'h = c2 := fun _ => h2
                      by_cases hc : c2 = 93
                      · subst hc
                        have hE := HF.out
                        rw [h1, endB_ok] at hE
                        have HE2 := Aside0.mk hE
                        clear hE HF
                        have hit := HI.out.it
                        have hlim2 : i < i2 := HL.out.2
                        have HM := Aside0.mk HI.out.gm
                        go_wp2_with (first | (refine wpList_load_row rfl 140 (.tmp 6) rfl b6 rfl 140 _ (0, 0) _ hit Try.underlying140 rfl (by kernel_rfl) ?_) | ((with_reducible refine gate_builtin (b := .append) (xs := #[.tmp 142, .tmp 144]) rfl ?_); at_builtin; refine Kd.R_append (kraw 4) (w0 := w) w.heap.size rfl (.tmp 142) (.tmp 144) 99 140 (.agg #[.int .u8 0, .int .u8 0, .slice none 0 0, .bool false]) 40 rfl Try.underlying99 info140 rfl (by decide) (by decide) v4 xs () [.int .u8 91, .int .u8 0, .slice A rs.length cp, .bool hat] (fun _ => True) (fun _ => False) rfl rfl ⟨rfl, fun u hu => by simp at hu; rcases hu with rfl | rfl | rfl | rfl <;> rfl⟩ (fun _ hk => hk.elim) (fun _ _ => trivial) HM.out.out HM.out.b HM.out.b.size (by omega) ?_; intro v8 w8 ho hb hg hat; have HM8 := Aside0.mk (GM.app HM.out ho hb hg); clear ho hb hg hat))
                        go_roundg g
                        case measure => omega
                        case rel => exact ⟨i2 + 1, _, rfl, by omega, ⟨by rw [List.length_drop]; rw [List.length_drop] at hlim; omega⟩, ⟨by rw [List.length_append, List.length_singleton]; omega⟩, ⟨by rw [h3]; exact HE2.out⟩, HM8⟩
                      · have n1 : ((c2.toNat : Int) != 93) = true := bne_iff_ne.2 (fun h => hc (UInt8.toNat_inj.1 (by show c2.toNat = 93; omega)))
                        have HF2 := Aside0.mk (show false = RES by rw [← HF.out, h1, endB_bad (Or.inr (by simp [hc]))])
                        clear HF h1 h3
                        go_wp2
                        go_ret2
                        exact ⟨⟨_, by rw [← HF2.out]; rfl⟩, HI.out.gm.b⟩
                    · have q1 : decide (((bs l).size : Int) ≤ (i2 : Int)) = true := decide_eq_true (by rw [bs_size]; omega)
                      have q4 : decide ((bs l).size ≤ i2) = true := decide_eq_true (by rw [bs_size]; exact hil)
                      have HF2 := Aside0.mk (show false = RES by rw [← HF.out, List.drop_eq_nil_of_le hil, endB_bad (Or.inr (by simp))])
                      clear HF
                      go_wp2
                      go_ret2
                      exact ⟨⟨_, by rw [← HF2.out]; rfl⟩, HI.out.gm.b⟩
                | true =>
                  have hil : i2 < l.length := by
                    rcases Nat.lt_or_ge i2 l.length with h | h
                    · exact h
                    · rw [List.drop_eq_nil_of_le h] at hp; cases hp
                  obtain ⟨c2, t2, h1, h2, h3⟩ := ne_head hil
                  rw [h1] at hp
                  have hE := HE.out
                  rw [h1, rangesL_in hp] at hE
                  have HE3 := Aside0.mk hE
                  clear hE HE
                  have q1 : (i2 < (bs l).size) = True := eq_true (by rw [bs_size]; exact hil)
                  have q2 : (i2 : Int) < ((bs l).size : Int) := by rw [bs_size]; omega
                  have q3 : (0 : Int) ≤ (i2 : Int) := by omega
                  have h2' : ∀ h : i2 < (bs l).size, (bs l)[i2]'h = c2 := fun _ => h2
                  have hcell4 := HI.out.drew.gm.cell
                  go_upto_region 26 with (go_at_call 88; refine (fits_calls l i2 w.heap.size _ hcell).mono ?_; rintro e' w1 ⟨rfl, rfl⟩; rw [h1, hp])
                  refine start_ (n := 9) (S := fun w' => w'.cell? ⟨w.heap.size, 0, none⟩ = some (.string (bs l))) (ds := [8]) #[false, false, false, false, false, false, false, false, false] (by kernel_rfl) rfl rfl (hcell4) (fun hHeld => ?_)
                  refine with_tabW items26.tab26 items26.bits26 (fun HT_ HW_ => ?_)
                  obtain ⟨W4, hW4⟩ : ∃ W, w1.drew = W := ⟨_, rfl⟩
                  have HI4 := Aside0.mk HI.out.drew
                  rw [hW4] at HI4 hHeld hcell4 ⊢
                  clear hW4
                  refine pure_ (i := 1) (N := some 80) (v := ?_) (a' := ?_) #[false, true, false, false, false, false, false, false, false] rfl rfl (any_of HT_.out (by kernel_rfl)) (fun _ _ _ h => h) (Or.inl ⟨by rfl, ?_⟩) ?_ ?_
                  rotate_left
                  · intro w'
                    go_simp
                    with_reducible rfl
                  rotate_left
                  · simp only [Act.put, List.setIfInBounds_toArray, List.set_cons_zero, List.set_cons_succ, i64_w, i32_w]
                    rfl
                  refine pure_ (i := 4) (N := some 83) (v := ?_) (a' := ?_) #[false, true, false, false, true, false, false, false, false] rfl rfl (any_of HT_.out (by kernel_rfl)) (fun _ _ _ h => h) (Or.inl ⟨by rfl, ?_⟩) ?_ ?_
                  rotate_left
                  · intro w'
                    go_simp
                    with_reducible rfl
                  rotate_left
                  · simp only [Act.put, List.setIfInBounds_toArray, List.set_cons_zero, List.set_cons_succ, i64_w, i32_w]
                    rfl
                  refine take_ (i := 0) (N := some 79) (v := ?_) (a' := ?_) #[true, true, false, false, true, false, false, false, false] rfl rfl (take_ofW HT_.out HW_.out (by kernel_rfl)) (fun _ _ _ h => h) (Or.inl ⟨by rfl, ?_⟩) hHeld ?_ ?_
                  rotate_left
                  · intro w' s0
                    go_simp
                    with_reducible rfl
                  rotate_left
                  · simp only [Act.put, List.setIfInBounds_toArray, List.set_cons_zero, List.set_cons_succ, i64_w, i32_w]
                    rfl
                  refine take_ (i := 2) (N := some 81) (v := ?_) (a' := ?_) #[true, true, true, false, true, false, false, false, false] rfl rfl (take_ofW HT_.out HW_.out (by kernel_rfl)) (fun _ _ _ h => h) (Or.inl ⟨by rfl, ?_⟩) hHeld ?_ ?_
                  rotate_left
                  · intro w' s0
                    go_simp
                    with_reducible rfl
                  rotate_left
                  · simp only [Act.put, List.setIfInBounds_toArray, List.set_cons_zero, List.set_cons_succ, i64_w, i32_w]
                    rfl
                  refine take_ (i := 3) (N := some 82) (v := ?_) (a' := ?_) #[true, true, true, true, true, false, false, false, false] rfl rfl (take_ofW HT_.out HW_.out (by kernel_rfl)) (fun _ _ _ h => h) (Or.inl ⟨by rfl, ?_⟩) hHeld ?_ ?_
                  rotate_left
                  · intro w' s0
                    go_simp
                    with_reducible rfl
                  rotate_left
                  · simp only [Act.put, List.setIfInBounds_toArray, List.set_cons_zero, List.set_cons_succ, i64_w, i32_w]
                    rfl
                  refine take_ (i := 5) (N := some 84) (v := ?_) (a' := ?_) #[true, true, true, true, true, true, false, false, false] rfl rfl (take_ofW HT_.out HW_.out (by kernel_rfl)) (fun _ _ _ h => h) (Or.inl ⟨by rfl, ?_⟩) hHeld ?_ ?_
                  rotate_left
                  · intro w' s0
                    go_simp
                    with_reducible rfl
                  rotate_left
                  · simp only [Act.put, List.setIfInBounds_toArray, List.set_cons_zero, List.set_cons_succ, i64_w, i32_w]
                    rfl
                  refine pure_ (i := 6) (N := some 85) (v := ?_) (a' := ?_) #[true, true, true, true, true, true, true, false, false] rfl rfl (any_of HT_.out (by kernel_rfl)) (fun _ _ _ h => h) (Or.inl ⟨by rfl, ?_⟩) ?_ ?_
                  rotate_left
                  · intro w'
                    go_simp
                    with_reducible rfl
                  rotate_left
                  · simp only [Act.put, List.setIfInBounds_toArray, List.set_cons_zero, List.set_cons_succ, i64_w, i32_w]
                    rfl
                  refine one_ (i := 7) (N := some 8) #[true, true, true, true, true, true, true, true, false] rfl rfl (one_of HT_.out (by kernel_rfl)) (by decide) (fun K hK => ?_)
                  refine value_ (w1 := ?_) (v := ?_) (by rfl) rfl ?_ ?_
                  rotate_left 2
                  · go_simp
                    constructor
                    · rfl
                    · rfl
                  refine hK.out _ _ ((Below.cell (below_alloc (Below.refl W4.heap.size W4) _) (p := ⟨w.heap.size, 0, none⟩) (World.block_lt_of_cell? W4 _ hcell4)).trans hcell4) (fun hHeld => ?_)
                  clear hK K
                  refine norm_ (a' := ?_) ?_ ?_
                  rotate_left
                  · show Act.put _ (some 8) _ = _
                    simp only [Act.put, List.setIfInBounds_toArray, List.set_cons_zero, List.set_cons_succ, i64_w, i32_w]
                    rfl
                  refine last_ (i := 8) (N := none) #[true, true, true, true, true, true, true, true, true] rfl rfl (one_of HT_.out (by kernel_rfl)) (by decide) (fun K hK => ?_)
                  refine skip_ (w1 := ?_) (by rfl) rfl ?_ ?_
                  rotate_left
                  · go_simp
                    rfl
                  refine hK.out _ _ ?_
                  clear hK K
                  refine done_ (done_of HT_.out (by kernel_rfl)) ?_
                  have HB5 := Aside0.mk (BM.new HI4.out c2.toNat)
                  obtain ⟨W5, hW5⟩ : ∃ W, W4.alloc (.cells #[.int .u8 (c2.toNat : Int), .int .u8 (c2.toNat : Int)] 141) = W := ⟨_, rfl⟩
                  obtain ⟨b8, hb8⟩ : ∃ b, W4.heap.size = b := ⟨_, rfl⟩
                  rw [hW5, hb8] at HB5
                  rw [hW5, hb8]
                  clear hW5 hb8 HI4 HI hcell4 hcell q1 q2 q3 h2' h2
                  have hcell5 := HB5.out.im.gm.cell
                  obtain ⟨hb, hhb⟩ : ∃ hb, decide (t2.head? = some 45 ∧ plainB (t2.drop 1) = true) = hb := ⟨_, rfl⟩
                  have htl : t2.length = l.length - (i2 + 1) := by rw [← h3, List.length_drop]
                  go_upto_region 27 with fail
                  go_cut [103] from 86 to 102 (fun s103 wx => s103 = .bool hb ∧ wx = W5)
                  case first =>
                    cases t2 with
                    | nil =>
                      rw [List.length_nil] at htl
                      have k1 : decide ((i2 : Int) + 1 < ((bs l).size : Int)) = false := decide_eq_false (by rw [bs_size]; omega)
                      have k2 : decide (i2 + 1 < (bs l).size) = false := decide_eq_false (by rw [bs_size]; omega)
                      clear htl
                      go_wp2_with fail
                      go_meet
                      exact ⟨by rw [← hhb]; rfl, rfl⟩
                    | cons m t3 =>
                      rw [List.length_cons] at htl
                      have hil2 : i2 + 1 < l.length := by omega
                      obtain ⟨m', t3', g1, g2, g3⟩ := ne_head hil2
                      rw [h3] at g1
                      injection g1 with g1a g1b
                      subst g1a
                      subst g1b
                      have k1 : decide ((i2 : Int) + 1 < ((bs l).size : Int)) = true := decide_eq_true (by rw [bs_size]; omega)
                      have k2 : decide (i2 + 1 < (bs l).size) = true := decide_eq_true (by rw [bs_size]; omega)
                      have k3 : (i2 : Int) + 1 < ((bs l).size : Int) := by rw [bs_size]; omega
                      have k4 : i2 + 1 < (bs l).size := by rw [bs_size]; exact hil2
                      have g2' : ∀ h : i2 + 1 < (bs l).size, (bs l)[i2 + 1]'h = m := fun _ => g2
                      clear htl
                      by_cases hm : m = 45
                      · subst hm
                        obtain ⟨pp, hpp⟩ : ∃ pp, plainB t3 = pp := ⟨_, rfl⟩
                        go_wp2_with (go_at_call 88; refine (fits_calls l (i2 + 2) w.heap.size _ hcell5).mono ?_; rintro e' w6 ⟨rfl, rfl⟩; rw [g3, hpp])
                        go_meet
                        exact ⟨by rw [← hhb]; simp [hpp], rfl⟩
                      · have hm2 : ((m.toNat : Int) == 45) = false := beq_eq_false_iff_ne.2 (fun h => hm (UInt8.toNat_inj.1 (by show m.toNat = 45; omega)))
                        go_wp2_with fail
                        go_meet
                        exact ⟨by rw [← hhb]; simp [hm], rfl⟩
                  case rest =>
                  obtain ⟨rfl, rfl⟩ := hcut
                  go_upto_if 103 with fail
                  go_cut [5] from 104 to 110 (fun s5 wx => ∃ (i3 d : Nat), s5 = .int .i64 (i3 : Int) ∧ i3 + 1 ≤ l.length ∧ d < 256 ∧ Aside0 ((stepT c2 t2).1.toNat = d ∧ (stepT c2 t2).2 = l.drop (i3 + 1) ∧ i2 ≤ i3) ∧ Aside0 (BM l w wx b6 v4 xs vr rs hat b8 c2.toNat d))
                  case first =>
                    cases hb with
                    | false =>
                      have hst : stepT c2 t2 = (c2, t2) := by unfold stepT; rw [if_neg (of_decide_eq_false hhb)]
                      go_wp2_with fail
                      go_meet
                      exact ⟨i2, c2.toNat, rfl, hil, c2.toNat_lt, ⟨by rw [hst], by rw [hst, h3], Nat.le_refl _⟩, HB5⟩
                    | true =>
                      obtain ⟨h45, hpl⟩ := of_decide_eq_true hhb
                      match t2, h45, hpl with
                      | m :: d :: u, h45, hpl =>
                        have hst : stepT c2 (m :: d :: u) = (d, u) := by unfold stepT; rw [if_pos ⟨h45, hpl⟩]; rfl
                        rw [List.length_cons, List.length_cons] at htl
                        have hil2 : i2 + 2 < l.length := by omega
                        obtain ⟨d', u', g1, g2, g3⟩ := ne_head hil2
                        have g0 : l.drop (i2 + 2) = d :: u := by
                          have := congrArg (List.drop 1) h3
                          rw [List.drop_drop] at this
                          exact this
                        rw [g0] at g1
                        injection g1 with g1a g1b
                        subst g1a
                        subst g1b
                        have k3 : (i2 : Int) + 2 < ((bs l).size : Int) := by rw [bs_size]; omega
                        have k4 : i2 + 2 < (bs l).size := by rw [bs_size]; exact hil2
                        have g2' : ∀ h : i2 + 2 < (bs l).size, (bs l)[i2 + 2]'h = d := fun _ => g2
                        have hc1 := HB5.out.c1
                        have hf1 := HB5.out.fz 1
                        have HB6 := Aside0.mk (HB5.out.set d.toNat)
                        clear htl h1 h3 hhb
                        go_wp2_with fail
                        go_meet
                        exact ⟨i2 + 2, d.toNat, rfl, by omega, d.toNat_lt, ⟨by rw [hst], by rw [hst, g3], by omega⟩, HB6⟩
                      | [m], _, hpl => cases hpl
                  case rest =>
                  obtain ⟨i3, d, rfl, hi3, hd256, HST, HB6⟩ := hcut
                  have hE := HE3.out
                  rw [HST.out.1, HST.out.2.1] at hE
                  have HE4 := Aside0.mk hE
                  clear hE HE3 hcell5 HB5
                  have hc0 := HB6.out.c0
                  have hc1 := HB6.out.c1
                  have hc8 := c2.toNat_lt
                  by_cases hdc : d < c2.toNat
                  · have b1 : decide ((d : Int) < (c2.toNat : Int)) = true := decide_eq_true (by omega)
                    have b2 : decide (d < c2.toNat) = true := decide_eq_true hdc
                    have hE := HE4.out
                    rw [if_pos hdc] at hE
                    have hF := HE2.out
                    rw [← hE] at hF
                    have HF := Aside0.mk (show false = RES from hF)
                    clear hE hF HE4 HE2
                    go_wp2
                    go_ret2
                    exact ⟨⟨_, by rw [← HF.out]; rfl⟩, HB6.out.im.gm.b⟩
                  · have b1 : decide ((d : Int) < (c2.toNat : Int)) = false := decide_eq_false (by omega)
                    have b2 : decide (d < c2.toNat) = false := decide_eq_false hdc
                    have hE := HE4.out
                    rw [if_neg hdc] at hE
                    have HE5 := Aside0.mk hE
                    clear hE HE4
                    have hrow := HB6.out.r
                    have hc2 := HB6.out.im.c2
                    have hx41 := HX2.out
                    obtain ⟨rs2, hrs2⟩ : ∃ r, rs ++ [()] = r := ⟨_, rfl⟩
                    have hln : rs2.length = rs.length + 1 := by rw [← hrs2]; simp
                    go_wp2_with (first | (refine wpList_load_row rfl 141 (.tmp 8) rfl b8 rfl 141 _ (0, 0) _ hrow Try.underlying141 rfl (by kernel_rfl) ?_) | ((with_reducible refine gate_builtin (b := .append) (xs := #[.tmp 119, .tmp 121]) rfl ?_); at_builtin; refine Kd.R_append (kraw 2) (w0 := w) w.heap.size rfl (.tmp 119) (.tmp 121) 138 141 (.agg #[.int .u8 0, .int .u8 0]) 2 rfl Try.underlying138 info141 rfl (by decide) (by decide) vr rs () [.int .u8 (c2.toNat : Int), .int .u8 (d : Int)] (fun _ => True) (fun _ => False) rfl rfl ⟨rfl, fun u hu => by simp at hu; rcases hu with rfl | rfl <;> rfl⟩ (fun _ hk => hk.elim) (fun _ _ => trivial) HB6.out.im.rr HB6.out.im.gm.b HB6.out.im.gm.b.size (by omega) ?_; intro v8 w8 ho hb_ hg hat_; have ht := HB6.out.im.app ho hb_ hg; rw [hrs2] at ho ht; obtain ⟨A8, c8, e8⟩ := Kd.R_slice ho; subst e8; have HT := Aside0.mk ht; have hcv := (it_c2 ht.2.1).1; have hfv := (it_c2 ht.2.1).2; clear ho hb_ hg hat_ ht))
                    go_roundg g2
                    case measure => omega
                    case rel =>
                      have hp := HT.out
                      have HP := IM.put (v8 := .slice A8 (rs.length + 1) c8) (rs := rs) (by rw [hrs2]; first | exact hp | (rw [← hln]; exact hp)) HB6.out.im.ne HB6.out.im.lt
                      exact ⟨i3 + 1, _, false, rs ++ [()], _, rfl, hi3, ⟨by have := HL.out.1; rw [List.length_drop] at this ⊢; have := HST.out.2.2; omega, by have := HL.out.2; have := HST.out.2.2; omega⟩, HE5, ⟨by simp⟩, ⟨by rw [List.length_append, List.length_singleton]; omega⟩, ⟨HP⟩⟩
          rw [if_neg c91] at hE
          have n91 : ((c.toNat : Int) == 91) = false := beq_eq_false_iff_ne.2 (fun h => c91 (UInt8.toNat_inj.1 (by show c.toNat = 91; omega)))
          by_cases c92 : c = 92
          · subst c92
            rw [if_pos rfl] at hE
            cases t with
            | nil =>
              have HE2 := Aside0.mk (show false = RES from hE)
              have hend : l.length = i + 1 := by
                have := congrArg List.length h1
                rw [List.length_drop, List.length_cons, List.length_nil] at this
                omega
              have k1 : decide (((bs l).size : Int) ≤ (i : Int) + 1) = true := decide_eq_true (by rw [bs_size]; omega)
              have k2 : decide ((bs l).size ≤ i + 1) = true := decide_eq_true (by rw [bs_size]; omega)
              clear hE HE HL hend
              go_wp2
              go_ret2
              exact ⟨⟨_, by rw [← HE2.out]; rfl⟩, HM.out.b⟩
            | cons d u =>
              have HE2 := Aside0.mk (show mayK g u = RES from hE)
              have hil2 : i + 1 < l.length := by
                have := congrArg List.length h3
                rw [List.length_drop, List.length_cons] at this
                omega
              obtain ⟨d2, t2, g1, g2, g3⟩ := ne_head hil2
              rw [h3] at g1
              injection g1 with g1a g1b
              subst g1a
              subst g1b
              have k1 : decide (((bs l).size : Int) ≤ (i : Int) + 1) = false := decide_eq_false (by rw [bs_size]; omega)
              have k2 : decide ((bs l).size ≤ i + 1) = false := decide_eq_false (by rw [bs_size]; omega)
              have k3 : (i : Int) + 1 < ((bs l).size : Int) := by rw [bs_size]; omega
              have k4 : i + 1 < (bs l).size := by rw [bs_size]; exact hil2
              have g2' : ∀ h : i + 1 < (bs l).size, (bs l)[i + 1]'h = d := fun _ => g2
              have hlu : u.length < g := by simp only [List.length_cons] at hL; omega
              clear hE HE HL
              go_wp2_with (first | ((with_reducible refine gate_builtin (b := .append) (xs := #[.tmp 47, .tmp 53]) rfl ?_); at_builtin; refine Kd.R_append (kraw 4) (w0 := w) w.heap.size rfl (.tmp 47) (.tmp 53) 99 140 (.agg #[.int .u8 0, .int .u8 0, .slice none 0 0, .bool false]) 40 rfl Try.underlying99 info140 rfl (by decide) (by decide) u4 xs () [.int .u8 61, .int .u8 (d.toNat : Int), .slice none 0 0, .bool false] (fun _ => True) (fun _ => False) rfl rfl ⟨rfl, fun u hu => by simp at hu; rcases hu with rfl | rfl | rfl | rfl <;> rfl⟩ (fun _ hk => hk.elim) (fun _ _ => trivial) HM.out.out HM.out.b HM.out.b.size (by omega) ?_; intro v8 w8 ho hb hg hat; have HM8 := Aside0.mk (GM.app HM.out ho hb hg); clear ho hb hg hat))
              go_roundg g
              case measure => omega
              case rel => exact ⟨i + 2, _, rfl, by omega, ⟨by rw [g3]; omega⟩, ⟨by rw [List.length_append, List.length_singleton]; omega⟩, ⟨by rw [g3]; exact HE2.out⟩, HM8⟩
          rw [if_neg c92] at hE
          have n92 : ((c.toNat : Int) == 92) = false := beq_eq_false_iff_ne.2 (fun h => c92 (UInt8.toNat_inj.1 (by show c.toNat = 92; omega)))
          have HE2 := Aside0.mk hE
          clear hE HE HL
          by_cases c42 : c = 42
          · subst c42
            go_wp2_with (first | ((with_reducible refine gate_builtin (b := .append) (xs := #[.tmp 31, .tmp 36]) rfl ?_); at_builtin; refine Kd.R_append (kraw 4) (w0 := w) w.heap.size rfl (.tmp 31) (.tmp 36) 99 140 (.agg #[.int .u8 0, .int .u8 0, .slice none 0 0, .bool false]) 40 rfl Try.underlying99 info140 rfl (by decide) (by decide) u4 xs () [.int .u8 42, .int .u8 0, .slice none 0 0, .bool false] (fun _ => True) (fun _ => False) rfl rfl ⟨rfl, fun u hu => by simp at hu; rcases hu with rfl | rfl | rfl | rfl <;> rfl⟩ (fun _ hk => hk.elim) (fun _ _ => trivial) HM.out.out HM.out.b HM.out.b.size (by omega) ?_; intro v8 w8 ho hb hg hat; have HM8 := Aside0.mk (GM.app HM.out ho hb hg); clear ho hb hg hat))
            go_roundg g
            case measure => omega
            case rel => exact ⟨i + 1, _, rfl, by omega, ⟨by rw [h3]; omega⟩, ⟨by rw [List.length_append, List.length_singleton]; omega⟩, ⟨by rw [h3]; exact HE2.out⟩, HM8⟩
          by_cases c63 : c = 63
          · subst c63
            go_wp2_with (first | ((with_reducible refine gate_builtin (b := .append) (xs := #[.tmp 31, .tmp 36]) rfl ?_); at_builtin; refine Kd.R_append (kraw 4) (w0 := w) w.heap.size rfl (.tmp 31) (.tmp 36) 99 140 (.agg #[.int .u8 0, .int .u8 0, .slice none 0 0, .bool false]) 40 rfl Try.underlying99 info140 rfl (by decide) (by decide) u4 xs () [.int .u8 63, .int .u8 0, .slice none 0 0, .bool false] (fun _ => True) (fun _ => False) rfl rfl ⟨rfl, fun u hu => by simp at hu; rcases hu with rfl | rfl | rfl | rfl <;> rfl⟩ (fun _ hk => hk.elim) (fun _ _ => trivial) HM.out.out HM.out.b HM.out.b.size (by omega) ?_; intro v8 w8 ho hb hg hat; have HM8 := Aside0.mk (GM.app HM.out ho hb hg); clear ho hb hg hat))
            go_roundg g
            case measure => omega
            case rel => exact ⟨i + 1, _, rfl, by omega, ⟨by rw [h3]; omega⟩, ⟨by rw [List.length_append, List.length_singleton]; omega⟩, ⟨by rw [h3]; exact HE2.out⟩, HM8⟩
          have n42 : ((c.toNat : Int) == 42) = false := beq_eq_false_iff_ne.2 (fun h => c42 (UInt8.toNat_inj.1 (by show c.toNat = 42; omega)))
          have n63 : ((c.toNat : Int) == 63) = false := beq_eq_false_iff_ne.2 (fun h => c63 (UInt8.toNat_inj.1 (by show c.toNat = 63; omega)))
          go_wp2_with (first | ((with_reducible refine gate_builtin (b := .append) (xs := #[.tmp 19, .tmp 24]) rfl ?_); at_builtin; refine Kd.R_append (kraw 4) (w0 := w) w.heap.size rfl (.tmp 19) (.tmp 24) 99 140 (.agg #[.int .u8 0, .int .u8 0, .slice none 0 0, .bool false]) 40 rfl Try.underlying99 info140 rfl (by decide) (by decide) u4 xs () [.int .u8 61, .int .u8 (c.toNat : Int), .slice none 0 0, .bool false] (fun _ => True) (fun _ => False) rfl rfl ⟨rfl, fun u hu => by simp at hu; rcases hu with rfl | rfl | rfl | rfl <;> rfl⟩ (fun _ hk => hk.elim) (fun _ _ => trivial) HM.out.out HM.out.b HM.out.b.size (by omega) ?_; intro v8 w8 ho hb hg hat; have HM8 := Aside0.mk (GM.app HM.out ho hb hg); clear ho hb hg hat))
          go_roundg g
          case measure => omega
          case rel => exact ⟨i + 1, _, rfl, by omega, ⟨by rw [h3]; omega⟩, ⟨by rw [List.length_append, List.length_singleton]; omega⟩, ⟨by rw [h3]; exact HE2.out⟩, HM8⟩
        · have q1 : decide ((i : Int) < ((bs l).size : Int)) = false := decide_eq_false (by rw [bs_size]; omega)
          have q4 : decide (i < (bs l).size) = false := decide_eq_false (by rw [bs_size]; omega)
          have hE := HE.out
          rw [List.drop_eq_nil_of_le hil] at hE
          have HE2 := Aside0.mk (show true = RES from hE)
          clear hls hF hE HE
          go_wp2
          go_ret2
          exact ⟨⟨_, by rw [← HE2.out]; rfl⟩, HM.out.b⟩
end Go.Proofs.Ytkghoodhgihokaa.Glob
