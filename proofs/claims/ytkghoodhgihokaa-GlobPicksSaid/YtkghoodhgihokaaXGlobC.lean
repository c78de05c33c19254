/- Patterns of names: glob.set. -/
import Derived.Test.YtkghoodhgihokaaXGlobB
import Derived.Deep.CutRange
import Derived.Deep.CutBlock
import Derived.Deep.MidRow
import Derived.Laws.CopyOwn
namespace Go.Proofs.Ytkghoodhgihokaa.Glob
open Go.RowKit Go.Lib Go.Proofs.YtkghoodhgihokaaW.PrintWords Go.Proofs.YtkghoodhgihokaaW.PrintLast Go.Proofs.YtkghoodhgihokaaW.PrintMore
set_option linter.unusedVariables false
set_option linter.unusedSimpArgs false
def Zp : Array Value := cellsP false (fun _ => false)
theorem Zp_eq : Try.zeroCells133 = Zp := zeroP
/-- What set's memory holds: its result, and the part that it makes. -/
structure SM (w wx : World) (f : Nat → Bool) : Prop where
  g0 : wx.heap[w.heap.size]? = some (.cells Zp 133 (0, 0))
  g1 : wx.heap[w.heap.size + 1]? = some (.cells (cellsP false f) 133 (0, 0))
  b : Below w.heap.size w wx
theorem SM.drew {w wx : World} {f : Nat → Bool} (h : SM w wx f) (n : Nat) : SM w (wx.drewN n) f := by
  have e : (wx.drewN n).heap = wx.heap := by simp
  exact ⟨by rw [e]; exact h.g0, by rw [e]; exact h.g1, pw_below_drewN h.b n⟩
theorem SM.drawn {w wx w' : World} {f : Nat → Bool} (h : SM w wx f) (hd : Drawn0 wx w') : SM w w' f := by
  obtain ⟨n, rfl⟩ := hd.out
  exact h.drew n
theorem SM.drew1 {w wx : World} {f : Nat → Bool} (h : SM w wx f) : SM w wx.drew f := ⟨h.g0, h.g1, h.b.drew⟩
theorem SM.range {w wx : World} {f : Nat → Bool} (h : SM w wx f) : wx.rangeAt (w.heap.size + 1) 0 (cellsP false f).toList := by
  intro j v hj
  rw [Nat.zero_add, cell_of_row wx _ _ _ _ _ h.g1]
  simpa using hj
theorem SM.put {w wx : World} {f : Nat → Bool} (h : SM w wx f) {x : Nat} (hx : x < 256) (v : Bool) : SM w (wx.setCell ⟨w.heap.size + 1, 1 + x, none⟩ (.bool v)) (fun j => if j = x then v else f j) :=
  ⟨(heap_setCell_other wx _ _ _ (by simp)).trans h.g0, by rw [heap_setCell_same wx _ _ _ _ _ h.g1, cellsP_set _ _ _ hx], h.b.setCell (p := ⟨w.heap.size + 1, 1 + x, none⟩) (Nat.le_succ _) _⟩
theorem SM.cell {w wx : World} {f : Nat → Bool} (h : SM w wx f) {x : Nat} (hx : x < 256) : wx.cell? ⟨w.heap.size + 1, 1 + x, none⟩ = some (.bool (f x)) := by
  rw [cell_of_row wx _ _ _ _ _ h.g1, cellsP_at _ _ _ hx]
theorem SM.frozen {w wx : World} {f : Nat → Bool} (h : SM w wx f) (x : Nat) : wx.frozen? ⟨w.heap.size + 1, x, none⟩ = false := frozen_of_row wx _ _ _ _ h.g1
theorem SM.congr {w wx : World} {f g : Nat → Bool} (h : SM w wx f) (e : ∀ j, j < 256 → f j = g j) : SM w wx g := ⟨h.g0, by rw [h.g1, cellsP_congr e], h.b⟩
theorem SM.setR {w wx : World} {f : Nat → Bool} (h : SM w wx f) (C : Array Value) : (wx.setRow w.heap.size C).heap[w.heap.size]? = some (.cells C 133 (0, 0)) ∧ Below w.heap.size w (wx.setRow w.heap.size C) :=
  ⟨setRow_heap wx _ _ _ _ _ h.g0, below_setRow h.b (Nat.le_refl _) _⟩
theorem res86 (tmps : Array Value) (W : World) (g : Nat) (C : Array Value) (x y : Value) (hC : C.size = 257) (h2 : tmps.getD 2 undef = .pointer (some ⟨g, 0, none⟩)) (h3 : tmps.getD 3 undef = x) (h4 : tmps.getD 4 undef = y) (hg : W.heap[g]? = some (.cells C 133 (0, 0))) :
    (results Try.f86 tmps).run Try.prog W = .ok (.tuple #[.agg C, x, y]) W := by
  have hr : Try.f86.results = #[.cell 2 133, .tmp 3, .tmp 4] := rfl
  simp only [results, hr]
  have hl := run_loadVar_row (P := Try.prog) W g 133 133 C (0, 0) _ hg Try.underlying133 rfl (by rw [hC]; exact info133)
  have h2' : tmps[2]?.getD undef = .pointer (some ⟨g, 0, none⟩) := by simpa using h2
  have h3' : tmps[3]?.getD undef = x := by simpa using h3
  have h4' : tmps[4]?.getD undef = y := by simpa using h4
  simp [Sem.run_bind, Result.andThen, asAddr, h2', h3', h4', hl]
theorem Zp_size : Zp.size = 257 := cellsP_size _ _
theorem Zp_one : Zp.all (·.oneCell') = true := cellsP_one _ _
/-- What set hands back. -/
def setV : Option ((Nat → Bool) × List UInt8) → Value
  | some r => .tuple #[.agg (cellsP false r.1), .string (bs r.2), .bool true]
  | none => .tuple #[.agg Zp, .string (bs []), .bool false]
/-- .. out of the ranges. -/
def endV (n : Bool) (o : Option ((Nat → Bool) × List UInt8 × Bool)) : Value :=
  setV (o.bind fun r => if r.2.2 = true ∨ r.2.1.head? ≠ some 93 then none else some (fun j => r.1 j != n, r.2.1.drop 1))
theorem endV_none (n : Bool) : endV n none = .tuple #[.agg Zp, .string (bs []), .bool false] := rfl
theorem endV_bad {n e : Bool} {f : Nat → Bool} {l : List UInt8} (h : e = true ∨ l.head? ≠ some 93) : endV n (some (f, l, e)) = .tuple #[.agg Zp, .string (bs []), .bool false] := by
  unfold endV
  rw [Option.bind_some, if_pos h]
  rfl
theorem endV_ok {n : Bool} {f : Nat → Bool} {t : List UInt8} : endV n (some (f, 93 :: t, false)) = .tuple #[.agg (cellsP false fun j => f j != n), .string (bs t), .bool true] := by
  unfold endV
  rw [Option.bind_some, if_neg (by simp)]
  rfl
def set26.T26 : Bool × List (List Nat × List Nat) := (true, [([], []), ([], []), ([1], [1]), ([0, 0], [0]), ([2, 3, 0, 1, 2, 3], [2]), ([4, 0, 1, 2, 3, 4], [])])
def set26.B26 : List Nat := [0, 0, 2, 1, 15, 31]
theorem set26.tab26 : rtab .any (opsOf Try.f86 26) = set26.T26 := by kernel_rfl
theorem set26.bits26 : waitsOk set26.T26.2 set26.B26 = true := by kernel_rfl
set_option maxHeartbeats 8000000 in
set_option maxRecDepth 100000 in
theorem set_calls (l : List UInt8) (hl : l.length ≤ 40) (w : World) : Calls Try.prog 86 #[.string (bs l)] w fun e w' =>
    e = .returned (setV (setF l)) ∧ Below w.heap.size w w' := by
  have hz := Zp_eq
  obtain ⟨n, hn⟩ : ∃ n, (l.head? == some 94) = n := ⟨_, rfl⟩
  obtain ⟨l1, hl1⟩ : ∃ l1, (if l.head? = some 94 then l.drop 1 else l) = l1 := ⟨_, rfl⟩
  have hlen : l1.length ≤ 40 := by rw [← hl1]; split <;> (try rw [List.length_drop]) <;> omega
  obtain ⟨RR, hRR⟩ : ∃ RR, setV (setF l) = RR := ⟨_, rfl⟩
  rw [hRR]
  have hset : endV n (rangesL l1 (fun _ => false) true) = RR := by
    rw [← hRR, ← hl1, ← hn]
    rfl
  have HRR := Aside0.mk hset
  clear hRR hset
  go_enter Try.func86, Try.ntmps86
  go_upto_region 2 with fail
  have hS0 : SM w ((w.alloc (.cells Zp 133)).alloc (.cells Zp 133)) (fun _ => false) := ⟨heap_alloc2_old w _ _, heap_alloc2_new w _ _, ((Below.refl _ w).alloc (Nat.le_refl _) _).alloc (by simp) _⟩
  obtain ⟨W0, hW0⟩ : ∃ W, (w.alloc (.cells Zp 133)).alloc (.cells Zp 133) = W := ⟨_, rfl⟩
  rw [hW0] at hS0 ⊢
  clear hW0
  have HS0 := Aside0.mk hS0
  clear hS0
  go_cut [6] from 12 to 18 (fun s6 wx => s6 = .bool n ∧ wx = W0)
  case first =>
    cases l with
    | nil =>
      have e1 : (bs []).toList = [] := bs_list []
      go_wp2_with fail
      go_meet
      exact ⟨by rw [← hn]; rfl, rfl⟩
    | cons c t =>
      have e1 : (bs (c :: t)).toList.isEmpty = false := by rw [bs_list]; rfl
      have e2 : (0 : Int) < ((bs (c :: t)).size : Int) := by rw [bs_size, List.length_cons]; omega
      have e3 : ∀ h : 0 < (bs (c :: t)).size, (bs (c :: t))[0]'h = c := fun _ => rfl
      by_cases hc : c = 94
      · subst hc
        go_wp2_with fail
        go_meet
        exact ⟨by rw [← hn]; rfl, rfl⟩
      · have hc2 : ((c.toNat : Int) == 94) = false := beq_eq_false_iff_ne.2 (fun h => hc (UInt8.toNat_inj.1 (by show c.toNat = 94; omega)))
        go_wp2_with fail
        go_meet
        exact ⟨by rw [← hn]; simp [hc], rfl⟩
  case rest =>
    obtain ⟨rfl, rfl⟩ := hcut
    go_upto_if 19 with fail
    go_cut [0] from 19 to 21 (fun s0 wx => s0 = .string (bs l1) ∧ wx = wc)
    case first =>
      cases n with
      | true =>
        cases l with
        | nil => cases hn
        | cons c t =>
          have hc : c = 94 := by simpa using hn
          have e2 : (1 : Int) ≤ ((bs (c :: t)).size : Int) := by rw [bs_size, List.length_cons]; omega
          have e4 : (bs (c :: t)).extract 1 (bs (c :: t)).size = bs t := bs_drop (c :: t) 1
          have e5 : l1 = t := by rw [← hl1, hc]; rfl
          subst e5
          go_wp2_with fail
          go_meet
          exact ⟨congrArg Value.string (by first | exact e4 | exact bs_drop (94 :: l1) 1), rfl⟩
      | false =>
        have e5 : l1 = l := by rw [← hl1, if_neg (fun h => by rw [h] at hn; cases hn)]
        subst e5
        go_wp2_with fail
        go_meet
        exact ⟨rfl, rfl⟩
    case rest =>
      obtain ⟨rfl, rfl⟩ := hcut
      clear hl1 hn hl
      go_wp2_with fail
      go_loopg [0, 7] 41 (fun g s0 s7 wx => ∃ (l' : List UInt8) (f : Nat → Bool) (e : Bool), Aside0 (l'.length < g) ∧ s0 = .string (bs l') ∧ s7 = .bool e ∧ Aside0 (rangesL l' f e = rangesL l1 (fun _ => false) true) ∧ Aside0 (SM w wx f))
      case atStart => exact ⟨l1, _, true, ⟨by omega⟩, rfl, rfl, ⟨rfl⟩, HS0⟩
      case round =>
        obtain ⟨l', f, e, HL, rfl, rfl, HE, HM⟩ := hrel
        cases gk with
        | zero => exact absurd HL.out (by omega)
        | succ g =>
          cases hp : plainB l' with
          | false =>
            have hE := HRR.out
            rw [← HE.out, rangesL_out hp] at hE
            have HRE := Aside0.mk hE
            clear hE
            go_upto_region 19 with (go_at_call 100; refine (plain_calls l' _).mono ?_; rintro e w1 ⟨rfl, hd⟩; have HM1 := Aside0.mk (HM.out.drawn hd); clear hd; rw [hp])
            cases e with
            | true =>
              go_wp2_with (first | (refine wpList_store_row rfl 133 (.tmp 2) (.tmp 70) rfl w.heap.size Zp rfl rfl 133 Zp HM1.out.g0 (by rw [Zp_size]; exact info133) rfl Zp_one ?_))
              refine bodyPost_ret (v := RR) ?_ rfl ⟨rfl, (HM1.out.setR Zp).2⟩
              rw [← HRE.out, endV_bad (by simp)]
              exact res86 _ _ w.heap.size Zp _ _ Zp_size rfl rfl rfl (HM1.out.setR Zp).1
            | false =>
              cases l' with
              | nil =>
                have e1 : (bs []).toList = [] := bs_list []
                go_wp2_with (first | (refine wpList_store_row rfl 133 (.tmp 2) (.tmp 70) rfl w.heap.size Zp rfl rfl 133 Zp HM1.out.g0 (by rw [Zp_size]; exact info133) rfl Zp_one ?_))
                refine bodyPost_ret (v := RR) ?_ rfl ⟨rfl, (HM1.out.setR Zp).2⟩
                rw [← HRE.out, endV_bad (by simp)]
                exact res86 _ _ w.heap.size Zp _ _ Zp_size rfl rfl rfl (HM1.out.setR Zp).1
              | cons c t =>
                have e1 : (bs (c :: t)).toList.isEmpty = false := by rw [bs_list]; rfl
                have e2 : (0 : Int) < ((bs (c :: t)).size : Int) := by rw [bs_size, List.length_cons]; omega
                have e3 : ∀ h : 0 < (bs (c :: t)).size, (bs (c :: t))[0]'h = c := fun _ => rfl
                by_cases hc : c = 93
                · subst hc
                  have e4 : (bs (93 :: t)).extract 1 (bs (93 :: t)).size = bs t := bs_drop (93 :: t) 1
                  have e5 : (1 : Int) ≤ ((bs (93 :: t)).size : Int) := by rw [bs_size, List.length_cons]; omega
                  go_wp2_with fail
                  go_loopg [71] 256 (fun g s71 wx => ∃ i : Nat, i + g = 256 ∧ s71 = .int .i64 i ∧ Aside0 (SM w wx (fun j => if j < i then f j != n else f j)))
                  case atStart => exact ⟨0, rfl, rfl, ⟨HM1.out.congr (fun j _ => by rw [if_neg (by omega)])⟩⟩
                  case round =>
                    obtain ⟨i, hig, rfl, HM2⟩ := hrel
                    cases gk with
                    | zero =>
                      obtain rfl : i = 256 := by omega
                      have HM3 := Aside0.mk (HM2.out.congr (g := fun j => f j != n) (fun j hj => by rw [if_pos hj]))
                      obtain ⟨CC, hCC⟩ : ∃ CC, cellsP false (fun j => f j != n) = CC := ⟨_, rfl⟩
                      have hCs : CC.size = 257 := by rw [← hCC]; exact cellsP_size _ _
                      have hC1 : CC.all (·.oneCell') = true := by rw [← hCC]; exact cellsP_one _ _
                      have hrg := HM3.out.range
                      rw [hCC] at hrg
                      go_upto_region 26 with fail
                      refine start_ (n := 6) (S := fun w' => w'.rangeAt (w.heap.size + 1) 0 CC.toList) (ds := [3]) #[false, false, false, false, false, false] (by kernel_rfl) rfl rfl (hrg) (fun hHeld => ?_)
                      refine with_tabW set26.tab26 set26.bits26 (fun HT_ HW_ => ?_)
                      have HM4 := Aside0.mk (SM.drew1 HM3.out)
                      generalize wr.drew = w4 at HM4 hHeld ⊢
                      refine pure_ (i := 1) (N := some 85) (v := ?_) (a' := ?_) #[false, true, false, false, false, false] rfl rfl (any_of HT_.out (by kernel_rfl)) (fun _ _ _ h => h) (Or.inl ⟨by rfl, ?_⟩) ?_ ?_
                      rotate_left
                      · intro w'
                        go_simp
                        with_reducible rfl
                      rotate_left
                      · simp only [Act.put, List.setIfInBounds_toArray, List.set_cons_zero, List.set_cons_succ, i64_w, i32_w]
                        rfl
                      refine pure_ (i := 2) (N := some 86) (v := ?_) (a' := ?_) #[false, true, true, false, false, false] rfl rfl (any_of HT_.out (by kernel_rfl)) (fun _ _ _ h => h) (Or.inl ⟨by rfl, ?_⟩) ?_ ?_
                      rotate_left
                      · intro w'
                        go_simp
                        with_reducible rfl
                      rotate_left
                      · simp only [Act.put, List.setIfInBounds_toArray, List.set_cons_zero, List.set_cons_succ, i64_w, i32_w]
                        rfl
                      refine take_ (i := 0) (N := some 84) (a' := ?_) #[true, true, true, false, false, false] rfl rfl (take_ofW HT_.out HW_.out (by kernel_rfl)) (fun _ _ _ h => h) (yieldsIf_load_mid (by rfl) 133 (.tmp 5) rfl (w.heap.size + 1) 0 rfl CC.toList _ (fun _ h => h) Try.underlying133 rfl (by rw [Array.length_toList, hCs]; exact info133)) hHeld ?_ ?_
                      rotate_left
                      · simp only [Act.put, List.setIfInBounds_toArray, List.set_cons_zero, List.set_cons_succ, i64_w, i32_w]
                        rfl
                      refine last_ (i := 3) (N := none) #[true, true, true, true, false, false] rfl rfl (one_of HT_.out (by kernel_rfl)) (by decide) (fun K hK => ?_)
                      refine wp_store_row 133 (.tmp 2) (.tmp 84) rfl w.heap.size CC rfl rfl 133 Zp HM4.out.g0 (by rw [hCs]; exact info133) (by rw [hCs]; exact Zp_size) hC1 ?_
                      refine hK.out _ _ ?_
                      clear hK K
                      refine pure_ (i := 4) (N := some 3) (v := ?_) (a' := ?_) #[true, true, true, true, true, false] rfl rfl (any_of HT_.out (by kernel_rfl)) (fun _ _ _ h => h) (Or.inl ⟨by rfl, ?_⟩) ?_ ?_
                      rotate_left
                      · intro w'
                        go_simp
                        with_reducible rfl
                      rotate_left
                      · simp only [Act.put, List.setIfInBounds_toArray, List.set_cons_zero, List.set_cons_succ, i64_w, i32_w]
                        rfl
                      refine pure_ (i := 5) (N := some 4) (v := ?_) (a' := ?_) #[true, true, true, true, true, true] rfl rfl (any_of HT_.out (by kernel_rfl)) (fun _ _ _ h => h) (Or.inl ⟨by rfl, ?_⟩) ?_ ?_
                      rotate_left
                      · intro w'
                        go_simp
                        with_reducible rfl
                      rotate_left
                      · simp only [Act.put, List.setIfInBounds_toArray, List.set_cons_zero, List.set_cons_succ, i64_w, i32_w]
                        rfl
                      refine done_ (done_of HT_.out (by kernel_rfl)) ?_
                      go_wp2
                      refine bodyPost_ret (v := RR) ?_ rfl ⟨rfl, (HM4.out.setR CC).2⟩
                      rw [← HRE.out, endV_ok, hCC]
                      exact res86 _ _ w.heap.size CC _ _ hCs rfl (by first | rfl | (rw [e4]; rfl)) rfl (HM4.out.setR CC).1
                    | succ g =>
                      have hi : i < 256 := by omega
                      have hi1 : (i : Int) < 256 := by omega
                      have hi0 : (0 : Int) ≤ (i : Int) := by omega
                      have hd : decide ((i : Int) < 256) = true := decide_eq_true (by omega)
                      obtain ⟨fi, hfi⟩ : ∃ fi, f i = fi := ⟨_, rfl⟩
                      have hcell := HM2.out.cell hi
                      have hfz := HM2.out.frozen (1 + i)
                      rw [if_neg (Nat.lt_irrefl i), hfi] at hcell
                      have HP := Aside0.mk (SM.congr (HM2.out.put hi (fi != n)) (g := fun j => if j < i + 1 then f j != n else f j) (fun j hj => by
                        by_cases h : j = i
                        · subst h; rw [if_pos rfl, if_pos (by omega), hfi]
                        · rw [if_neg h]
                          by_cases h2 : j < i
                          · rw [if_pos h2, if_pos (by omega)]
                          · rw [if_neg h2, if_neg (by omega)]))
                      obtain ⟨v, hv⟩ : ∃ v, (fi != n) = v := ⟨_, rfl⟩
                      rw [hv] at HP
                      have hv' : (!(fi == n)) = v := hv
                      go_wp2
                      go_roundg g
                      case measure => omega
                      case rel => exact ⟨i + 1, by omega, rfl, HP⟩
                · have hc2 : ((c.toNat : Int) != 93) = true := bne_iff_ne.2 (fun h => hc (UInt8.toNat_inj.1 (by show c.toNat = 93; omega)))
                  go_wp2_with (first | (refine wpList_store_row rfl 133 (.tmp 2) (.tmp 70) rfl w.heap.size Zp rfl rfl 133 Zp HM1.out.g0 (by rw [Zp_size]; exact info133) rfl Zp_one ?_))
                  refine bodyPost_ret (v := RR) ?_ rfl ⟨rfl, (HM1.out.setR Zp).2⟩
                  rw [← HRE.out, endV_bad (by simp [hc])]
                  exact res86 _ _ w.heap.size Zp _ _ Zp_size rfl rfl rfl (HM1.out.setR Zp).1
          | true =>
            cases l' with
            | nil => cases hp
            | cons c t =>
              have hE := HE.out
              rw [rangesL_in hp] at hE
              have HE2 := Aside0.mk hE
              clear hE HE
              have e2 : (0 : Int) < ((bs (c :: t)).size : Int) := by rw [bs_size, List.length_cons]; omega
              have e3 : ∀ h : 0 < (bs (c :: t)).size, (bs (c :: t))[0]'h = c := fun _ => rfl
              have e4 : (bs (c :: t)).extract 1 (bs (c :: t)).size = bs t := bs_drop (c :: t) 1
              have e5 : (1 : Int) ≤ ((bs (c :: t)).size : Int) := by rw [bs_size, List.length_cons]; omega
              have hlt : t.length < g := by have := HL.out; simp only [List.length_cons] at this; omega
              obtain ⟨hb, hhb⟩ : ∃ hb, decide (t.head? = some 45 ∧ plainB (t.drop 1) = true) = hb := ⟨_, rfl⟩
              go_upto_region 11 with (go_at_call 100; refine (plain_calls (c :: t) _).mono ?_; rintro e w1 ⟨rfl, hd⟩; have HM1 := Aside0.mk (HM.out.drawn hd); clear hd; rw [hp])
              go_cut [40] from 29 to 39 (fun s40 wx => s40 = .bool hb ∧ Aside0 (SM w wx f))
              case first =>
                cases t with
                | nil =>
                  have e1 : (bs []).toList = [] := bs_list []
                  go_wp2_with fail
                  go_meet
                  exact ⟨by rw [← hhb]; rfl, HM1⟩
                | cons m t2 =>
                  have f1 : (bs (m :: t2)).toList.isEmpty = false := by rw [bs_list]; rfl
                  have f2 : (0 : Int) < ((bs (m :: t2)).size : Int) := by rw [bs_size, List.length_cons]; omega
                  have f3 : ∀ h : 0 < (bs (m :: t2)).size, (bs (m :: t2))[0]'h = m := fun _ => rfl
                  have f4 : (bs (m :: t2)).extract 1 (bs (m :: t2)).size = bs t2 := bs_drop (m :: t2) 1
                  have f5 : (1 : Int) ≤ ((bs (m :: t2)).size : Int) := by rw [bs_size, List.length_cons]; omega
                  by_cases hm : m = 45
                  · subst hm
                    cases hp2 : plainB t2 with
                    | false =>
                      go_wp2_with (go_at_call 100; refine (plain_calls t2 _).mono ?_; rintro e w2 ⟨rfl, hd⟩; have HM2 := Aside0.mk (HM1.out.drawn hd); clear hd; rw [hp2])
                      go_meet
                      exact ⟨by rw [← hhb]; simp [hp2], HM2⟩
                    | true =>
                      go_wp2_with (go_at_call 100; refine (plain_calls t2 _).mono ?_; rintro e w2 ⟨rfl, hd⟩; have HM2 := Aside0.mk (HM1.out.drawn hd); clear hd; rw [hp2])
                      go_meet
                      exact ⟨by rw [← hhb]; simp [hp2], HM2⟩
                  · have hm2 : ((m.toNat : Int) == 45) = false := beq_eq_false_iff_ne.2 (fun h => hm (UInt8.toNat_inj.1 (by show m.toNat = 45; omega)))
                    go_wp2_with fail
                    go_meet
                    exact ⟨by rw [← hhb]; simp [hm], HM1⟩
              case rest =>
              obtain ⟨rfl, HM1b⟩ := hcut
              go_upto_if 40 with fail
              go_cut [0, 9] from 41 to 44 (fun s0 s9 wx => s0 = .string (bs (stepT c t).2) ∧ s9 = .int .u8 (stepT c t).1.toNat ∧ Aside0 (SM w wx f))
              case first =>
                cases hb with
                | false =>
                  have hst : stepT c t = (c, t) := by unfold stepT; rw [if_neg (of_decide_eq_false hhb)]
                  go_wp2_with fail
                  go_meet
                  rw [hst]
                  exact ⟨rfl, rfl, HM1b⟩
                | true =>
                  obtain ⟨h45, hpl⟩ := of_decide_eq_true hhb
                  match t, h45, hpl with
                  | m :: d :: u, h45, hpl =>
                    have hst : stepT c (m :: d :: u) = (d, u) := by unfold stepT; rw [if_pos ⟨h45, hpl⟩]; rfl
                    have k1 : (1 : Int) < ((bs (m :: d :: u)).size : Int) := by rw [bs_size, List.length_cons, List.length_cons]; omega
                    have k2 : (2 : Int) ≤ ((bs (m :: d :: u)).size : Int) := by rw [bs_size, List.length_cons, List.length_cons]; omega
                    have k3 : ∀ h : 1 < (bs (m :: d :: u)).size, (bs (m :: d :: u))[1]'h = d := fun _ => rfl
                    have k4 : (bs (m :: d :: u)).extract 2 (bs (m :: d :: u)).size = bs u := bs_drop (m :: d :: u) 2
                    go_wp2_with fail
                    go_quiet (fail)
                    have HM3 := Aside0.mk (HM1b.out.drew nq)
                    go_wp2
                    go_meet
                    rw [hst]
                    exact ⟨by first | rfl | exact congrArg Value.string k4, rfl, HM3⟩
                  | [m], _, hpl => cases hpl
              case rest =>
                obtain ⟨rfl, rfl, HM4⟩ := hcut
                have hsl := stepT_len c t
                obtain ⟨d, hd⟩ : ∃ d, (stepT c t).1 = d := ⟨_, rfl⟩
                obtain ⟨u, hu⟩ : ∃ u, (stepT c t).2 = u := ⟨_, rfl⟩
                have hE := HE2.out
                rw [hd, hu] at hE
                rw [hu] at hsl
                rw [hd, hu]
                have HE3 := Aside0.mk hE
                clear hE HE2 hd hu e2 e3 e4 e5
                have hc8 := c.toNat_lt
                have hd8 := d.toNat_lt
                by_cases hdc : d.toNat < c.toNat
                · have b1 : decide ((d.toNat : Int) < (c.toNat : Int)) = true := decide_eq_true (by omega)
                  have b2 : decide (d.toNat < c.toNat) = true := decide_eq_true hdc
                  have hE := HE3.out
                  rw [if_pos hdc] at hE
                  have hR := HRR.out
                  rw [← hE, endV_none] at hR
                  have HRE := Aside0.mk hR
                  clear hR hE
                  go_wp2_with (first | (refine wpList_store_row rfl 133 (.tmp 2) (.tmp 48) rfl w.heap.size Zp rfl rfl 133 Zp HM4.out.g0 (by rw [Zp_size]; exact info133) rfl Zp_one ?_))
                  refine bodyPost_ret (v := RR) ?_ rfl ⟨rfl, (HM4.out.setR Zp).2⟩
                  rw [← HRE.out]
                  exact res86 _ _ w.heap.size Zp _ _ Zp_size rfl rfl rfl (HM4.out.setR Zp).1
                · have b1 : decide ((d.toNat : Int) < (c.toNat : Int)) = false := decide_eq_false (by omega)
                  have b2 : decide (d.toNat < c.toNat) = false := decide_eq_false hdc
                  have hE := HE3.out
                  rw [if_neg hdc] at hE
                  have HE4 := Aside0.mk hE
                  clear hE HE3
                  go_wp2_with fail
                  go_loopg [10] 256 (fun g s10 wx => ∃ b : Nat, s10 = .int .i64 b ∧ c.toNat ≤ b ∧ b ≤ d.toNat + 1 ∧ d.toNat + 1 - b ≤ g ∧ Aside0 (SM w wx (fun j => f j || (decide (c.toNat ≤ j) && decide (j < b)))))
                  case atStart => exact ⟨c.toNat, rfl, Nat.le_refl _, by omega, by omega, ⟨HM4.out.congr (fun j _ => by by_cases h : c.toNat ≤ j <;> simp [h] <;> omega)⟩⟩
                  case round =>
                    obtain ⟨b, rfl, hb1, hb2, hb3, HM5⟩ := hrel
                    by_cases hb : b ≤ d.toNat
                    · cases gk with
                      | zero => omega
                      | succ gi =>
                        have hx : b < 256 := by omega
                        have hi1 : (b : Int) < 256 := by omega
                        have q1 : decide ((b : Int) ≤ (d.toNat : Int)) = true := decide_eq_true (by omega)
                        have q2 : decide (b ≤ d.toNat) = true := decide_eq_true hb
                        have hcell := HM5.out.cell hx
                        have hfz := HM5.out.frozen (1 + b)
                        have HP := Aside0.mk (SM.congr (HM5.out.put hx true) (g := fun j => f j || (decide (c.toNat ≤ j) && decide (j < b + 1))) (fun j hj => by
                          by_cases h : j = b
                          · subst h; simp; omega
                          · rw [if_neg h]
                            by_cases h2 : j < b
                            · simp [h2, show j < b + 1 by omega]
                            · simp [h2, show ¬ j < b + 1 by omega]))
                        go_wp2
                        go_roundg gi
                        case measure => omega
                        case rel => exact ⟨b + 1, rfl, by omega, by omega, by omega, HP⟩
                    · have q1 : decide ((b : Int) ≤ (d.toNat : Int)) = false := decide_eq_false (by omega)
                      have q2 : decide (b ≤ d.toNat) = false := decide_eq_false hb
                      have HP := Aside0.mk (SM.congr HM5.out (g := addR f c.toNat d.toNat) (fun j hj => by
                        unfold addR
                        rw [show decide (j < b) = decide (j ≤ d.toNat) by rw [Bool.eq_iff_iff, decide_eq_true_eq, decide_eq_true_eq]; omega]))
                      go_wp2
                      go_roundg g
                      case measure => omega
                      case rel => exact ⟨u, _, false, ⟨by omega⟩, rfl, rfl, HE4, HP⟩
end Go.Proofs.Ytkghoodhgihokaa.Glob
