/- Patterns of names: glob.parts. -/
import Derived.Test.YtkghoodhgihokaaXGlobD
namespace Go.Proofs.Ytkghoodhgihokaa.Glob
open Go.RowKit Go.Lib Go.Proofs.YtkghoodhgihokaaW.PrintWords Go.Proofs.YtkghoodhgihokaaW.PrintLast Go.Proofs.YtkghoodhgihokaaW.PrintMore
set_option linter.unusedVariables false
set_option linter.unusedSimpArgs false
def allP : Pt := (false, fun _ => true)
def runP : Pt := (true, fun _ => false)
def oneP (x : UInt8) : Pt := (false, fun j => decide (j = x.toNat))
/-- The parts of a pattern, behind what came. -/
def partsK : Nat → List UInt8 → List Pt → Option (List Pt)
  | 0, _, _ => none
  | _ + 1, [], o => some o
  | k + 1, c :: t, o =>
    if c = 63 then partsK k t (o ++ [allP])
    else if c = 42 then partsK k t (o ++ [runP])
    else if c = 91 then (match setF t with | none => none | some r => partsK k r.2 (o ++ [((false, r.1) : Pt)]))
    else if c = 92 then (match t with | [] => none | d :: u => partsK k u (o ++ [oneP d]))
    else partsK k t (o ++ [oneP c])
theorem partsK_nil (k : Nat) (o : List Pt) : partsK (k + 1) [] o = some o := rfl
theorem partsK_cons (k : Nat) (c : UInt8) (t : List UInt8) (o : List Pt) : partsK (k + 1) (c :: t) o =
    if c = 63 then partsK k t (o ++ [allP])
    else if c = 42 then partsK k t (o ++ [runP])
    else if c = 91 then (match setF t with | none => none | some r => partsK k r.2 (o ++ [((false, r.1) : Pt)]))
    else if c = 92 then (match t with | [] => none | d :: u => partsK k u (o ++ [oneP d]))
    else partsK k t (o ++ [oneP c]) := rfl
/-- The parts of a pattern. -/
def partsF (l : List UInt8) : Option (List Pt) := if 40 < l.length then none else partsK 41 l []
theorem rangesL_len : ∀ (n : Nat) (l : List UInt8), l.length ≤ n → ∀ f e r, rangesL l f e = some r → r.2.1.length ≤ l.length := by
  intro n
  induction n with
  | zero =>
    intro l hl f e r h
    cases l with
    | nil => rw [rangesL] at h; cases h; exact Nat.le_refl _
    | cons c t => simp at hl
  | succ n ih =>
    intro l hl f e r h
    cases l with
    | nil => rw [rangesL] at h; cases h; exact Nat.le_refl _
    | cons c t =>
      cases hp : plainB (c :: t) with
      | false => rw [rangesL_out hp] at h; cases h; exact Nat.le_refl _
      | true =>
        rw [rangesL_in hp] at h
        have hs := stepT_len c t
        simp only [List.length_cons] at hl ⊢
        split at h
        · cases h
        · have := ih _ (by omega) _ _ _ h
          omega
theorem setF_len {l : List UInt8} {r : (Nat → Bool) × List UInt8} (h : setF l = some r) : r.2.length ≤ l.length := by
  unfold setF at h
  obtain ⟨q, hq, h⟩ := Option.bind_eq_some_iff.1 h
  have h1 := rangesL_len _ _ (Nat.le_refl _) _ _ _ hq
  have h2 : (if l.head? = some 94 then l.drop 1 else l).length ≤ l.length := by split <;> (try rw [List.length_drop]) <;> omega
  split at h
  · cases h
  · cases h
    rw [List.length_drop]
    omega
/-- What parts hands back. -/
def PartsPost (o : Option (List Pt)) (w w' : World) (v : Value) (ok : Bool) : Prop := match o with | some xs => ok = true ∧ Kd.R kpt 133 w' w.heap.size (fun _ => True) v xs | none => ok = false
theorem PartsPost.some {o : Option (List Pt)} {xs : List Pt} {w w' : World} {v : Value} (h : some xs = o) (hr : Kd.R kpt 133 w' w.heap.size (fun _ => True) v xs) : PartsPost o w w' v true := by rw [← h]; exact ⟨rfl, hr⟩
theorem PartsPost.none {o : Option (List Pt)} {w w' : World} {v : Value} (h : none = o) : PartsPost o w w' v false := by rw [← h]; exact rfl
theorem cellsP_set0 (r : Bool) (f : Nat → Bool) (v : Bool) : (cellsP r f).setIfInBounds 0 (.bool v) = cellsP v f := by
  apply Array.ext_getElem?
  intro i
  rw [Array.getElem?_setIfInBounds, cellsP_size]
  by_cases h1 : 0 = i
  · subst h1
    rw [if_pos rfl, if_pos (by omega), cellsP_zero]
  · rw [if_neg h1]
    by_cases h2 : i < 257
    · obtain ⟨x, rfl⟩ : ∃ x, i = 1 + x := ⟨i - 1, by omega⟩
      rw [cellsP_at _ _ _ (by omega), cellsP_at _ _ _ (by omega)]
    · rw [Array.getElem?_eq_none (by rw [cellsP_size]; omega), Array.getElem?_eq_none (by rw [cellsP_size]; omega)]
set_option maxRecDepth 100000 in
theorem run_buildR (w : World) : (Instr.build 133 #[(0, .bool true)]).run Try.prog w = .ok (.agg (cellsP true fun _ => false)) w := by
  have hz : (zeroValue 133).run Try.prog w = .ok (.agg Zp) w := by rw [← Zp_eq]; exact Try.zeroValue133 w
  have hzc : (Value.agg Zp).cells = Zp := rfl
  have hset := cellsP_set0 false (fun _ => false) true
  have hset' : Zp.setIfInBounds 0 (.bool true) = cellsP true fun _ => false := hset
  have hs := Zp_size
  unfold Instr.build
  simp [Sem.run_bind, run_underlying Try.underlying133, Result.andThen, Try.sizeOf4, Try.sizeOf131, hz, hzc, Instr.fill, hs, hset', Value.cells]
theorem wpList_buildR {ops : Array Oper} {rest : List Oper} {o : Oper} {a : Act} {w : World} {Q : Exit → Act → World → Prop} (hgd : o.guard = none) (ho : o.op = .build 133 #[(0, .const (.bool true))])
    (h : wpList Try.prog ops Q rest (a.put o.dst (.agg (cellsP true fun _ => false))) w) : wpList Try.prog ops Q (o :: rest) a w :=
  wpList_plain hgd fun K hK => by
    unfold Oper.wp execOp
    simp only [ho, List.map_toArray, List.map_cons, List.map_nil, Act.eval]
    rw [Sem.run_bind, run_buildR w]
    exact hK _ _ h
theorem step_build {ops : Array Oper} {o : Oper} {a : Act} {w : World} {Q : Exit → Act → World → Prop} {Kc : Act → World → Prop} (hw : Region.wanted o (yielded ops a.tmps) = true) (x : Operand) (ho : o.op = .buildSlice 96 1 #[(0, x)])
    (C : Array Value) (hx : a.eval x = .agg C) (hC : C.size = 257) (h : Kc (a.put o.dst (.slice (some ⟨w.heap.size, 0, none⟩) 1 1)) (w.alloc (.cells C 133))) :
    if Region.wanted o (yielded ops a.tmps) = true then Oper.wp Try.prog o a w Kc Q else Kc (a.put o.dst undef) w := by
  rw [if_pos hw]
  unfold Oper.wp execOp
  simp only [ho, List.map_toArray, List.map_cons, List.map_nil, hx]
  rw [Sem.run_bind, run_build C hC w]
  exact h
def parts21.T21 : Bool × List (List Nat × List Nat) := (true, [([], []), ([], []), ([1], [1]), ([2], [2]), ([3], [3]), ([0, 4, 3], [0, 4]), ([], []), ([6], [6]), ([5, 5, 0, 1, 2, 3, 4, 5], [0, 5]), ([7, 8, 0, 1, 2, 3, 4, 5, 6, 7, 8], [1, 6, 7])])
def parts21.B21 : List Nat := [0, 0, 2, 6, 14, 31, 0, 64, 63, 511]
theorem parts21.tab21 : rtab .any (opsOf Try.f58 21) = parts21.T21 := by kernel_rfl
theorem parts21.bits21 : waitsOk parts21.T21.2 parts21.B21 = true := by kernel_rfl
set_option maxHeartbeats 8000000 in
set_option maxRecDepth 100000 in
theorem parts_calls (l : List UInt8) (w : World) : Calls Try.prog 58 #[.string (bs l)] w fun e w' =>
    (∃ v ok, e = .returned (.tuple #[v, .bool ok]) ∧ PartsPost (partsF l) w w' v ok) ∧ Below w.heap.size w w' := by
  have hz := Zp_eq
  have hbz := bs_size l
  by_cases hlen : 40 < l.length
  · have d1 : decide ((40 : Int) < ((bs l).size : Int)) = true := decide_eq_true (by rw [bs_size]; omega)
    have d2 : decide (40 < (bs l).size) = true := decide_eq_true (by rw [bs_size]; omega)
    have hF : partsF l = none := by unfold partsF; rw [if_pos hlen]
    rw [hF]
    clear hbz
    go_enter Try.func58, Try.ntmps58
    go_wp2
    go_ret2
    exact ⟨⟨_, _, rfl, .none rfl⟩, Below.refl _ _⟩
  · have d1 : decide ((40 : Int) < ((bs l).size : Int)) = false := decide_eq_false (by rw [bs_size]; omega)
    have d2 : decide (40 < (bs l).size) = false := decide_eq_false (by rw [bs_size]; omega)
    have hF : partsF l = partsK 41 l [] := by unfold partsF; rw [if_neg hlen]
    rw [hF]
    obtain ⟨RES, hRES⟩ : ∃ RES, partsK 41 l [] = RES := ⟨_, rfl⟩
    rw [hRES]
    clear hbz hF
    go_enter Try.func58, Try.ntmps58
    go_wp2
    go_loopg [0, 4] 41 (fun g s0 s4 wx => ∃ (l' : List UInt8) (xs : List Pt), s0 = .string (bs l') ∧ Aside0 (l'.length < g) ∧ Aside0 (xs.length + g ≤ 41) ∧ Aside0 (partsK g l' xs = RES) ∧ Aside0 (Kd.R kpt 133 wx w.heap.size (fun _ => True) s4 xs) ∧ Aside0 (Below w.heap.size w wx))
    case atStart => exact ⟨l, [], rfl, ⟨by omega⟩, ⟨by simp⟩, ⟨hRES⟩, ⟨Kd.R_nil _ _ _ _ _⟩, ⟨Below.refl _ _⟩⟩
    case round =>
      obtain ⟨l', xs, rfl, HL, HX, HE, HO, HB⟩ := hrel
      cases gk with
      | zero => exact absurd HL.out (by omega)
      | succ g =>
        cases l' with
        | nil =>
          have e1 : (bs []).toList = [] := bs_list []
          have hE := HE.out
          rw [partsK_nil] at hE
          go_wp2
          go_ret2
          exact ⟨⟨_, _, rfl, .some hE HO.out⟩, HB.out⟩
        | cons c t =>
          have hx40 := HX.out
          have hlt : t.length < g := by have := HL.out; simp only [List.length_cons] at this; omega
          have e1 : (bs (c :: t)).toList.isEmpty = false := by rw [bs_list]; rfl
          have e2 : (0 : Int) < ((bs (c :: t)).size : Int) := by rw [bs_size, List.length_cons]; omega
          have e3 : ∀ h : 0 < (bs (c :: t)).size, (bs (c :: t))[0]'h = c := fun _ => rfl
          have e4 : (bs (c :: t)).extract 1 (bs (c :: t)).size = bs t := bs_drop (c :: t) 1
          have e5 : (1 : Int) ≤ ((bs (c :: t)).size : Int) := by rw [bs_size, List.length_cons]; omega
          have hE := HE.out
          rw [partsK_cons] at hE
          by_cases c63 : c = 63
          · subst c63
            rw [if_pos rfl] at hE
            have HE2 := Aside0.mk hE
            clear hE HE
            go_wp2_with fail
            refine (any_calls _).mono ?_
            rintro e w1 ⟨rfl, hb1⟩
            have HO1 := Aside0.mk (Kd.R_below HO.out hb1)
            have HB1 := Aside0.mk (HB.out.trans (hb1.mono HB.out.size))
            clear hb1
            obtain ⟨C, hC⟩ : ∃ C, cellsP allP.1 allP.2 = C := ⟨_, rfl⟩
            have hCs : C.size = 257 := by rw [← hC]; exact cellsP_size _ _
            have hCl : C.toList = (cellsP allP.1 allP.2).toList := by rw [← hC]
            rw [show cellsP false (fun _ => true) = C from hC]
            go_wp2_with (first
              | (refine wpList_build rfl (.tmp 27) rfl C rfl hCs ?_)
              | ((with_reducible refine gate_builtin (b := .append) (xs := #[.tmp 26, .tmp 28]) rfl ?_); at_builtin; refine Kd.R_append kpt (w0 := w) w.heap.size rfl (.tmp 26) (.tmp 28) 96 133 (.agg Zp) 257 rfl Try.underlying96 info133z Zp_size (by decide) (by decide) u4 xs allP C.toList (fun _ => True) (fun _ => False) rfl rfl hCl (fun _ hk => hk.elim) (fun _ _ => trivial) HO1.out HB1.out HB1.out.size (by omega) ?_; intro v8 w8 ho hb hg hat; have HO8 := Aside0.mk ho; have HB8 := Aside0.mk hb; clear ho hb hg hat))
            go_roundg g
            case measure => omega
            case rel => exact ⟨t, _, rfl, ⟨hlt⟩, ⟨by rw [List.length_append, List.length_singleton]; omega⟩, HE2, HO8, HB8⟩
          rw [if_neg c63] at hE
          have n63 : ((c.toNat : Int) == 63) = false := beq_eq_false_iff_ne.2 (fun h => c63 (UInt8.toNat_inj.1 (by show c.toNat = 63; omega)))
          by_cases c42 : c = 42
          · subst c42
            rw [if_pos rfl] at hE
            have HE2 := Aside0.mk hE
            clear hE HE
            obtain ⟨C, hC⟩ : ∃ C, cellsP true (fun _ => false) = C := ⟨_, rfl⟩
            have hCs : C.size = 257 := by rw [← hC]; exact cellsP_size _ _
            have hCl : C.toList = (cellsP runP.1 runP.2).toList := by rw [← hC]; rfl
            go_wp2_with (first
              | (refine wpList_buildR rfl rfl ?_; rw [hC])
              | (refine wpList_build rfl (.tmp 33) rfl C rfl hCs ?_)
              | ((with_reducible refine gate_builtin (b := .append) (xs := #[.tmp 32, .tmp 34]) rfl ?_); at_builtin; refine Kd.R_append kpt (w0 := w) w.heap.size rfl (.tmp 32) (.tmp 34) 96 133 (.agg Zp) 257 rfl Try.underlying96 info133z Zp_size (by decide) (by decide) u4 xs runP C.toList (fun _ => True) (fun _ => False) rfl rfl hCl (fun _ hk => hk.elim) (fun _ _ => trivial) HO.out HB.out HB.out.size (by omega) ?_; intro v8 w8 ho hb hg hat; have HO8 := Aside0.mk ho; have HB8 := Aside0.mk hb; clear ho hb hg hat))
            go_roundg g
            case measure => omega
            case rel => exact ⟨t, _, rfl, ⟨hlt⟩, ⟨by rw [List.length_append, List.length_singleton]; omega⟩, HE2, HO8, HB8⟩
          rw [if_neg c42] at hE
          have n42 : ((c.toNat : Int) == 42) = false := beq_eq_false_iff_ne.2 (fun h => c42 (UInt8.toNat_inj.1 (by show c.toNat = 42; omega)))
          by_cases c91 : c = 91
          · subst c91
            rw [if_pos rfl] at hE
            go_wp2_with fail
            refine (set_calls t (by omega) _).mono ?_
            rintro e w1 ⟨rfl, hb1⟩
            have HO1 := Aside0.mk (Kd.R_below HO.out hb1)
            have HB1 := Aside0.mk (HB.out.trans (hb1.mono HB.out.size))
            clear hb1
            have hbb := (Below.refl w1.heap.size w1)
            cases hs : setF t with
            | none =>
              rw [hs] at hE
              have HE2 := Aside0.mk (show none = RES from hE)
              clear hE HE
              dsimp only [setV]
              have HB2 := Aside0.mk (HB1.out.alloc HB1.out.size (.cells Zp 133))
              go_wp2_with (first | (refine wpList_store_row rfl 133 (.tmp 6) (.tmp 41) rfl w1.heap.size Zp rfl rfl 133 Zp (heap_alloc_new w1 _) (by rw [Zp_size]; exact info133) rfl Zp_one ?_; rw [World.setRow_alloc_new]))
              go_ret2
              exact ⟨⟨_, _, rfl, .none HE2.out⟩, HB2.out⟩
            | some r =>
              rw [hs] at hE
              have HE2 := Aside0.mk (show partsK g r.2 (xs ++ [((false, r.1) : Pt)]) = RES from hE)
              clear hE HE
              have hrl := setF_len hs
              dsimp only [setV]
              obtain ⟨C, hC⟩ : ∃ C, cellsP false r.1 = C := ⟨_, rfl⟩
              have hCs : C.size = 257 := by rw [← hC]; exact cellsP_size _ _
              have hC1 : C.all (·.oneCell') = true := by rw [← hC]; exact cellsP_one _ _
              have hCl : C.toList = (cellsP ((false, r.1) : Pt).1 ((false, r.1) : Pt).2).toList := by rw [← hC]
              rw [hC]
              have HB2 := Aside0.mk (HB1.out.alloc HB1.out.size (.cells C 133))
              have HO2 := Aside0.mk (Kd.R_below HO1.out (hbb.alloc (Nat.le_refl _) (.cells C 133)))
              go_wp2_with (first
                | (refine wpList_store_row rfl 133 (.tmp 6) (.tmp 41) rfl w1.heap.size C rfl rfl 133 Zp (heap_alloc_new w1 _) (by rw [hCs]; exact info133) (by rw [hCs]; exact Zp_size) hC1 ?_; rw [World.setRow_alloc_new])
                | (refine wpList_load_row rfl 133 (.tmp 6) rfl w1.heap.size rfl 133 C (0, 0) _ (heap_alloc_new w1 _) Try.underlying133 rfl (by rw [hCs]; exact info133) ?_)
                | (refine wpList_build rfl (.tmp 47) rfl C rfl hCs ?_)
                | ((with_reducible refine gate_builtin (b := .append) (xs := #[.tmp 46, .tmp 48]) rfl ?_); at_builtin; refine Kd.R_append kpt (w0 := w) w.heap.size rfl (.tmp 46) (.tmp 48) 96 133 (.agg Zp) 257 rfl Try.underlying96 info133z Zp_size (by decide) (by decide) u4 xs ((false, r.1) : Pt) C.toList (fun _ => True) (fun _ => False) rfl rfl hCl (fun _ hk => hk.elim) (fun _ _ => trivial) HO2.out HB2.out HB2.out.size (by omega) ?_; intro v8 w8 ho hb hg hat; have HO8 := Aside0.mk ho; have HB8 := Aside0.mk hb; clear ho hb hg hat))
              go_roundg g
              case measure => omega
              case rel => exact ⟨r.2, _, rfl, ⟨by omega⟩, ⟨by rw [List.length_append, List.length_singleton]; omega⟩, HE2, HO8, HB8⟩
          rw [if_neg c91] at hE
          have n91 : ((c.toNat : Int) == 91) = false := beq_eq_false_iff_ne.2 (fun h => c91 (UInt8.toNat_inj.1 (by show c.toNat = 91; omega)))
          by_cases c92 : c = 92
          · subst c92
            rw [if_pos rfl] at hE
            cases t with
            | nil =>
              have HE2 := Aside0.mk (show none = RES from hE)
              clear hE HE
              have f1 : (bs []).toList = [] := bs_list []
              go_wp2
              go_ret2
              exact ⟨⟨_, _, rfl, .none HE2.out⟩, HB.out⟩
            | cons d u =>
              have HE2 := Aside0.mk (show partsK g u (xs ++ [oneP d]) = RES from hE)
              clear hE HE
              have f1 : (bs (d :: u)).toList.isEmpty = false := by rw [bs_list]; rfl
              have f2 : (0 : Int) < ((bs (d :: u)).size : Int) := by rw [bs_size, List.length_cons]; omega
              have f3 : ∀ h : 0 < (bs (d :: u)).size, (bs (d :: u))[0]'h = d := fun _ => rfl
              have f4 : (bs (d :: u)).extract 1 (bs (d :: u)).size = bs u := bs_drop (d :: u) 1
              have f5 : (1 : Int) ≤ ((bs (d :: u)).size : Int) := by rw [bs_size, List.length_cons]; omega
              have f2n : (0 < (bs (d :: u)).size) = True := eq_true (by rw [bs_size, List.length_cons]; omega)
              have f5n : (1 ≤ (bs (d :: u)).size) = True := eq_true (by rw [bs_size, List.length_cons]; omega)
              have hlt2 : u.length < g := by simp only [List.length_cons] at hlt; omega
              obtain ⟨C, hC⟩ : ∃ C, cellsP (oneP d).1 (oneP d).2 = C := ⟨_, rfl⟩
              have hCs : C.size = 257 := by rw [← hC]; exact cellsP_size _ _
              have hCl : C.toList = (cellsP (oneP d).1 (oneP d).2).toList := by rw [← hC]
              go_upto_region 21 with fail
              refine start_ (n := 10) (S := fun w' => True) (ds := []) #[false, false, false, false, false, false, false, false, false, false] (by kernel_rfl) rfl rfl trivial (fun hHeld => ?_)
              refine with_tabW parts21.tab21 parts21.bits21 (fun HT_ HW_ => ?_)
              have HOd := Aside0.mk (Kd.R_drew HO.out)
              have HBd := Aside0.mk (below_drew1 HB.out)
              generalize wr.drew = wd at HOd HBd hHeld ⊢
              refine pure_ (i := 0) (N := some 55) (v := ?_) (a' := ?_) #[true, false, false, false, false, false, false, false, false, false] rfl rfl (any_of HT_.out (by kernel_rfl)) (fun _ _ _ h => h) (Or.inl ⟨by rfl, ?_⟩) ?_ ?_
              rotate_left
              · intro w'
                go_simp
                with_reducible rfl
              rotate_left
              · simp only [Act.put, List.setIfInBounds_toArray, List.set_cons_zero, List.set_cons_succ, i64_w, i32_w]
                rfl
              refine pure_ (i := 1) (N := some 56) (v := ?_) (a' := ?_) #[true, true, false, false, false, false, false, false, false, false] rfl rfl (any_of HT_.out (by kernel_rfl)) (fun _ _ _ h => h) (Or.inl ⟨by rfl, ?_⟩) ?_ ?_
              rotate_left
              · intro w'
                go_simp
                with_reducible rfl
              rotate_left
              · simp only [Act.put, List.setIfInBounds_toArray, List.set_cons_zero, List.set_cons_succ, i64_w, i32_w]
                rfl
              refine pure_ (i := 6) (N := some 61) (v := ?_) (a' := ?_) #[true, true, false, false, false, false, true, false, false, false] rfl rfl (any_of HT_.out (by kernel_rfl)) (fun _ _ _ h => h) (Or.inl ⟨by rfl, ?_⟩) ?_ ?_
              rotate_left
              · intro w'
                go_simp
                with_reducible rfl
              rotate_left
              · simp only [Act.put, List.setIfInBounds_toArray, List.set_cons_zero, List.set_cons_succ, i64_w, i32_w]
                rfl
              refine pure_ (i := 7) (N := some 62) (v := ?_) (a' := ?_) #[true, true, false, false, false, false, true, true, false, false] rfl rfl (any_of HT_.out (by kernel_rfl)) (fun _ _ _ h => h) (Or.inl ⟨by rfl, ?_⟩) ?_ ?_
              rotate_left
              · intro w'
                go_simp
                with_reducible rfl
              rotate_left
              · simp only [Act.put, List.setIfInBounds_toArray, List.set_cons_zero, List.set_cons_succ, i64_w, i32_w]
                rfl
              refine take_ (i := 2) (N := some 57) (v := ?_) (a' := ?_) #[true, true, true, false, false, false, true, true, false, false] rfl rfl (take_ofW HT_.out HW_.out (by kernel_rfl)) (fun _ _ _ h => h) (Or.inl ⟨by rfl, ?_⟩) hHeld ?_ ?_
              rotate_left
              · intro w' _
                go_simp
                with_reducible rfl
              rotate_left
              · simp only [Act.put, List.setIfInBounds_toArray, List.set_cons_zero, List.set_cons_succ, i64_w, i32_w]
                rfl
              refine one_ (i := 3) (N := some 58) #[true, true, true, true, false, false, true, true, false, false] rfl rfl (one_of HT_.out (by kernel_rfl)) (by decide) (fun K hK => ?_)
              refine call_ 87 #[.int .u8 (d.toNat : Int)] (by rfl) rfl ?hr ?_
              (case hr => first | rfl | (go_simp; done) | (go_simp; rfl))
              refine (one_calls d _).mono ?_
              rintro e' w2 ⟨rfl, hb2⟩
              refine ⟨_, rfl, ?_⟩
              have HO2 := Aside0.mk (Kd.R_below HOd.out hb2)
              have HB2 := Aside0.mk (HBd.out.trans (hb2.mono HBd.out.size))
              clear hb2
              rw [show cellsP false (fun j => decide (j = d.toNat)) = C from hC]
              refine hK.out _ _ trivial (fun hHeld => ?_)
              clear hK K
              refine norm_ (a' := ?_) ?_ ?_
              rotate_left
              · show Act.put _ (some 58) _ = _
                simp only [Act.put, List.setIfInBounds_toArray, List.set_cons_zero, List.set_cons_succ, i64_w, i32_w]
                rfl
              refine one_ (i := 4) (N := some 59) #[true, true, true, true, true, false, true, true, false, false] rfl rfl (one_of HT_.out (by kernel_rfl)) (by decide) (fun K hK => ?_)
              refine step_build (by rfl) (.tmp 58) rfl C rfl hCs ?_
              refine hK.out _ _ trivial (fun hHeld => ?_)
              clear hK K
              refine norm_ (a' := ?_) ?_ ?_
              rotate_left
              · show Act.put _ (some 59) _ = _
                simp only [Act.put, List.setIfInBounds_toArray, List.set_cons_zero, List.set_cons_succ, i64_w, i32_w]
                rfl
              refine one_ (i := 5) (N := some 60) #[true, true, true, true, true, true, true, true, false, false] rfl rfl (one_of HT_.out (by kernel_rfl)) (by decide) (fun K hK => ?_)
              refine Kd.R_append_step kpt (w0 := w) w.heap.size (by rfl) (.tmp 55) (.tmp 59) 96 133 (.agg Zp) 257 rfl Try.underlying96 info133z Zp_size (by decide) (by decide) u4 xs (oneP d) C.toList (fun _ => True) (fun _ => False) rfl rfl hCl (fun _ hk => hk.elim) (fun _ _ => trivial) HO2.out HB2.out HB2.out.size (by omega) ?_
              intro v8 w8 ho hb hg hat
              have HO8 := Aside0.mk ho
              have HB8 := Aside0.mk hb
              clear ho hb hg hat
              refine hK.out _ _ trivial (fun hHeld => ?_)
              clear hK K
              refine norm_ (a' := ?_) ?_ ?_
              rotate_left
              · show Act.put _ (some 60) _ = _
                simp only [Act.put, List.setIfInBounds_toArray, List.set_cons_zero, List.set_cons_succ, i64_w, i32_w]
                rfl
              refine pure_ (i := 8) (N := some 4) (v := ?_) (a' := ?_) #[true, true, true, true, true, true, true, true, true, false] rfl rfl (any_of HT_.out (by kernel_rfl)) (fun _ _ _ h => h) (Or.inl ⟨by rfl, ?_⟩) ?_ ?_
              rotate_left
              · intro w'
                go_simp
                with_reducible rfl
              rotate_left
              · simp only [Act.put, List.setIfInBounds_toArray, List.set_cons_zero, List.set_cons_succ, i64_w, i32_w]
                rfl
              refine pure_ (i := 9) (N := some 0) (v := ?_) (a' := ?_) #[true, true, true, true, true, true, true, true, true, true] rfl rfl (any_of HT_.out (by kernel_rfl)) (fun _ _ _ h => h) (Or.inl ⟨by rfl, ?_⟩) ?_ ?_
              rotate_left
              · intro w'
                go_simp
                with_reducible rfl
              rotate_left
              · simp only [Act.put, List.setIfInBounds_toArray, List.set_cons_zero, List.set_cons_succ, i64_w, i32_w]
                rfl
              refine done_ (done_of HT_.out (by kernel_rfl)) ?_
              go_wp2
              go_roundg g
              case measure => omega
              case rel => exact ⟨u, _, by first | rfl | exact congrArg Value.string f4, ⟨hlt2⟩, ⟨by rw [List.length_append, List.length_singleton]; omega⟩, HE2, HO8, HB8⟩
          rw [if_neg c92] at hE
          have n92 : ((c.toNat : Int) == 92) = false := beq_eq_false_iff_ne.2 (fun h => c92 (UInt8.toNat_inj.1 (by show c.toNat = 92; omega)))
          have HE2 := Aside0.mk hE
          clear hE HE
          go_wp2_with fail
          refine (one_calls c _).mono ?_
          rintro e w1 ⟨rfl, hb1⟩
          have HO1 := Aside0.mk (Kd.R_below HO.out hb1)
          have HB1 := Aside0.mk (HB.out.trans (hb1.mono HB.out.size))
          clear hb1
          obtain ⟨C, hC⟩ : ∃ C, cellsP (oneP c).1 (oneP c).2 = C := ⟨_, rfl⟩
          have hCs : C.size = 257 := by rw [← hC]; exact cellsP_size _ _
          have hCl : C.toList = (cellsP (oneP c).1 (oneP c).2).toList := by rw [← hC]
          rw [show cellsP false (fun j => decide (j = c.toNat)) = C from hC]
          go_wp2_with (first
            | (refine wpList_build rfl (.tmp 21) rfl C rfl hCs ?_)
            | ((with_reducible refine gate_builtin (b := .append) (xs := #[.tmp 19, .tmp 22]) rfl ?_); at_builtin; refine Kd.R_append kpt (w0 := w) w.heap.size rfl (.tmp 19) (.tmp 22) 96 133 (.agg Zp) 257 rfl Try.underlying96 info133z Zp_size (by decide) (by decide) u4 xs (oneP c) C.toList (fun _ => True) (fun _ => False) rfl rfl hCl (fun _ hk => hk.elim) (fun _ _ => trivial) HO1.out HB1.out HB1.out.size (by omega) ?_; intro v8 w8 ho hb hg hat; have HO8 := Aside0.mk ho; have HB8 := Aside0.mk hb; clear ho hb hg hat))
          go_roundg g
          case measure => omega
          case rel => exact ⟨t, _, rfl, ⟨hlt⟩, ⟨by rw [List.length_append, List.length_singleton]; omega⟩, HE2, HO8, HB8⟩
end Go.Proofs.Ytkghoodhgihokaa.Glob
