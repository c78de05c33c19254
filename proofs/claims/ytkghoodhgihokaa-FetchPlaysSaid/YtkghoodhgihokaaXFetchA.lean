/- Fetch: a fetcher and a Next in memory; ask. -/
import Derived.Test.YtkghoodhgihokaaXFetchP
namespace Go.Proofs.Ytkghoodhgihokaa.Fetch
open Go.RowKit Go.Lib Go.Proofs.YtkghoodhgihokaaW.PrintWords Go.Proofs.YtkghoodhgihokaaW.PrintLast Go.Proofs.YtkghoodhgihokaaW.PrintMore Go.Proofs.Ytkghoodhgihokaa.HFetchPlays
set_option linter.unusedVariables false
set_option linter.unusedSimpArgs false
/-- A fetcher. -/
structure Fs where
  out : List S61
  front : Int
  fin : Int
  data : List Int
/-- What is asked next. -/
structure Nx where
  code : Int
  wants : List S61
  done : Bool
  data : List Int
theorem blk_ltn {w : World} {b : Nat} {o : Obj} (h : w.heap[b]? = some o) : b < w.heap.size := (Array.getElem?_eq_some_iff.1 h).1
theorem k61_E : k61.E = [] := rfl
theorem u8_E : (Kd.int .u8).E = [] := rfl
theorem k61_not {t : TypeId} (h : t ≠ 61) : ∀ q, q ∈ (61 : TypeId) :: k61.E → q ≠ t := by
  intro q hq
  rw [k61_E] at hq
  simp at hq
  subst hq
  exact h.symm
theorem u8_not {t : TypeId} (h : t ≠ 5) : ∀ q, q ∈ (5 : TypeId) :: (Kd.int .u8).E → q ≠ t := by
  intro q hq
  rw [u8_E] at hq
  simp at hq
  subst hq
  exact h.symm
/-- A fetcher at f and a Next at n; their rows lie in blocks of M. -/
structure FN (M : Nat → Prop) (w0 w : World) (f n : Nat) (F : Fs) (N : Nx) (vo vd vw vD : Value) : Prop where
  hf : w.heap[f]? = some (.cells #[vo, .int .i64 F.front, .int .i64 F.fin, vd] 106 (0, 0))
  hn : w.heap[n]? = some (.cells #[.int .i64 N.code, vw, .bool N.done, vD] 59 (0, 0))
  ho : Kd.R k61 61 w w0.heap.size M vo F.out
  hd : Kd.R (Kd.int .u8) 5 w w0.heap.size M vd F.data
  hw : Kd.R k61 61 w w0.heap.size M vw N.wants
  hD : Kd.R (Kd.int .u8) 5 w w0.heap.size M vD N.data
  ne1 : ∀ k, vo.ownBlock = some k → some k ≠ vw.ownBlock
  ne2 : ∀ k, vd.ownBlock = some k → some k ≠ vD.ownBlock
  lf : w0.heap.size ≤ f
  ln : w0.heap.size ≤ n
  hb : Below w0.heap.size w0 w
theorem FN.below {M : Nat → Prop} {w0 w : World} {f n : Nat} {F : Fs} {N : Nx} {vo vd vw vD : Value} {w' : World} (h : FN M w0 w f n F N vo vd vw vD) (hb : Below w.heap.size w w') : FN M w0 w' f n F N vo vd vw vD :=
  ⟨(hb.block _ (blk_ltn h.hf)).trans h.hf, (hb.block _ (blk_ltn h.hn)).trans h.hn, Kd.R_below h.ho hb, Kd.R_below h.hd hb, Kd.R_below h.hw hb, Kd.R_below h.hD hb, h.ne1, h.ne2, h.lf, h.ln, h.hb.trans (hb.mono h.hb.size)⟩
theorem FN.grown {M : Nat → Prop} {w0 w : World} {f n : Nat} {F : Fs} {N : Nx} {vo vd vw vD : Value} {w' : World} (h : FN M w0 w f n F N vo vd vw vD) (hg : w.grownBy w' none) (hb : Below w0.heap.size w0 w') : FN M w0 w' f n F N vo vd vw vD := by
  have n : ∀ {j : Nat} {o : Obj}, w.heap[j]? = some o → w'.heap[j]? = some o := fun hj => (hg.block _ (blk_ltn hj) (by simp)).trans hj
  exact ⟨n h.hf, n h.hn, Kd.R_grown h.ho hg (by simp), Kd.R_grown h.hd hg (by simp), Kd.R_grown h.hw hg (by simp), Kd.R_grown h.hD hg (by simp), h.ne1, h.ne2, h.lf, h.ln, hb⟩
theorem own_lt {α : Type} {d : Kd α} {e base : Nat} {ok : Nat → Prop} {v : Value} {xs : List α} {w : World} (h : d.R e w base ok v xs) {k : Nat} (hk : v.ownBlock = some k) : k < w.heap.size := ((Kd.R_bound h).1 k hk).2.2.1
theorem own_ne {α : Type} {d : Kd α} {e base : Nat} {ok : Nat → Prop} {v : Value} {xs : List α} {w : World} (h : d.R e w base ok v xs) {j : Nat} {cells : Array Value} {t : TypeId} {fr : Nat × Nat} (hj : w.heap[j]? = some (.cells cells t fr)) (ht : t ≠ e) : some j ≠ v.ownBlock := by
  intro e1
  obtain ⟨_, hc⟩ := Kd.R_typed h j e1.symm
  rw [hj] at hc
  cases hc
  exact ht rfl
/-- The fetcher's row of wants grows. -/
theorem FN.out {M : Nat → Prop} {w0 w : World} {f n : Nat} {F : Fs} {N : Nx} {vo vd vw vD : Value} {w' : World} {v' : Value} {out' : List S61} (h : FN M w0 w f n F N vo vd vw vD) (hg : w.grownBy w' vo.ownBlock) (hb : Below w0.heap.size w0 w') (ho : Kd.R k61 61 w' w0.heap.size M v' out') (hat : v'.ownBlock = vo.ownBlock ∨ ∃ b, v'.ownBlock = some b ∧ w.heap.size ≤ b) :
    FN M w0 (w'.setCell ⟨f, 0, none⟩ v') f n { F with out := out' } N v' vd vw vD := by
  have n1 : ∀ {j : Nat} {cells : Array Value} {t : TypeId} {fr : Nat × Nat}, w.heap[j]? = some (.cells cells t fr) → t ≠ 61 → w'.heap[j]? = some (.cells cells t fr) := fun hj ht => (hg.block _ (blk_ltn hj) (own_ne h.ho hj ht)).trans hj
  have hf1 := n1 h.hf (by decide)
  have hn1 := n1 h.hn (by decide)
  have hfn : n ≠ f := by rintro rfl; have h1 := h.hn; rw [h.hf] at h1; cases h1
  have tys : ∀ k, vo.ownBlock = some k → ∃ cells, w.heap[k]? = some (.cells cells 61 (0, 0)) := Kd.R_typed h.ho
  refine ⟨blk_set hf1 0 v', (Below.heap_setCell _ _ _ _ hfn).trans hn1, Kd.R_set ho hf1 (k61_not (by decide)) 0 _, Kd.R_set (Kd.R_over' h.hd tys (u8_not (by decide)) hg) hf1 (u8_not (by decide)) 0 _, Kd.R_set (Kd.R_grown2 h.hw k61_E hg h.ne1) hf1 (k61_not (by decide)) 0 _, Kd.R_set (Kd.R_over' h.hD tys (u8_not (by decide)) hg) hf1 (u8_not (by decide)) 0 _, ?_, h.ne2, h.lf, h.ln, hb.setCell (p := ⟨f, 0, none⟩) h.lf _⟩
  intro k hk e
  rcases hat with h1 | ⟨b, h1, h2⟩
  · exact h.ne1 k (h1.symm.trans hk) e
  · rw [h1] at hk
    cases hk
    have := own_lt h.hw e.symm
    omega
/-- The Next's row of wants grows. -/
theorem FN.wants {M : Nat → Prop} {w0 w : World} {f n : Nat} {F : Fs} {N : Nx} {vo vd vw vD : Value} {w' : World} {v' : Value} {out' : List S61} (h : FN M w0 w f n F N vo vd vw vD) (hg : w.grownBy w' vw.ownBlock) (hb : Below w0.heap.size w0 w') (ho : Kd.R k61 61 w' w0.heap.size M v' out') (hat : v'.ownBlock = vw.ownBlock ∨ ∃ b, v'.ownBlock = some b ∧ w.heap.size ≤ b) :
    FN M w0 (w'.setCell ⟨n, 1, none⟩ v') f n F { N with wants := out' } vo vd v' vD := by
  have n1 : ∀ {j : Nat} {cells : Array Value} {t : TypeId} {fr : Nat × Nat}, w.heap[j]? = some (.cells cells t fr) → t ≠ 61 → w'.heap[j]? = some (.cells cells t fr) := fun hj ht => (hg.block _ (blk_ltn hj) (own_ne h.hw hj ht)).trans hj
  have hf1 := n1 h.hf (by decide)
  have hn1 := n1 h.hn (by decide)
  have hfn : f ≠ n := by rintro rfl; have h1 := h.hn; rw [h.hf] at h1; cases h1
  have tys : ∀ k, vw.ownBlock = some k → ∃ cells, w.heap[k]? = some (.cells cells 61 (0, 0)) := Kd.R_typed h.hw
  refine ⟨(Below.heap_setCell _ _ _ _ hfn).trans hf1, blk_set hn1 1 v', Kd.R_set (Kd.R_grown2 h.ho k61_E hg (fun k hk e => h.ne1 k e.symm hk.symm)) hn1 (k61_not (by decide)) 1 _, Kd.R_set (Kd.R_over' h.hd tys (u8_not (by decide)) hg) hn1 (u8_not (by decide)) 1 _, Kd.R_set ho hn1 (k61_not (by decide)) 1 _, Kd.R_set (Kd.R_over' h.hD tys (u8_not (by decide)) hg) hn1 (u8_not (by decide)) 1 _, ?_, h.ne2, h.lf, h.ln, hb.setCell (p := ⟨n, 1, none⟩) h.ln _⟩
  intro k hk e
  rcases hat with h1 | ⟨b, h1, h2⟩
  · exact h.ne1 k hk (e.trans h1)
  · rw [h1] at e
    cases e
    have := own_lt h.ho hk
    omega
theorem FN.slotF {M : Nat → Prop} {w0 w : World} {f n : Nat} {F : Fs} {N : Nx} {vo vd vw vD : Value} {w' : World} (h : FN M w0 w f n F N vo vd vw vD) (hg : w.grownBy w' vo.ownBlock) : (∃ u, w'.cell? ⟨f, 0, none⟩ = some u) ∧ w'.frozen? ⟨f, 0, none⟩ = false := by
  have hf1 := (hg.block _ (blk_ltn h.hf) (own_ne h.ho h.hf (by decide))).trans h.hf
  exact ⟨⟨_, (blk_cell hf1 0).trans rfl⟩, blk_frozen hf1 0⟩
theorem FN.slotN {M : Nat → Prop} {w0 w : World} {f n : Nat} {F : Fs} {N : Nx} {vo vd vw vD : Value} {w' : World} (h : FN M w0 w f n F N vo vd vw vD) (hg : w.grownBy w' vw.ownBlock) : (∃ u, w'.cell? ⟨n, 1, none⟩ = some u) ∧ w'.frozen? ⟨n, 1, none⟩ = false := by
  have hn1 := (hg.block _ (blk_ltn h.hn) (own_ne h.hw h.hn (by decide))).trans h.hn
  exact ⟨⟨_, (blk_cell hn1 1).trans rfl⟩, blk_frozen hn1 1⟩
theorem info61b : (Try.prog.info? 61).map (fun i => (i.zero, i.size, i.bytes)) = some (some (.agg #[.int .i64 0, .int .i64 0]), 2, 16) := by kernel_rfl
/-- What a call leaves of a fetcher and a Next. -/
inductive FPost (M : Nat → Prop) (w0 w : World) (f n : Nat) (F : Fs) (N : Nx) (e : Ending) (v : Value) (w' : World) : Prop
  | mk (vo vd vw vD : Value) (he : e = .returned v) (h : FN M w0 w' f n F N vo vd vw vD) (hk : Kept w w' M)
def ask.T1 : Bool × List (List Nat × List Nat) := (true, [([], []), ([], []), ([1], [1]), ([2], [2]), ([3], [3]), ([], []), ([5], [5]), ([4, 6], [4, 6]), ([0, 0, 1, 2, 3, 4, 5, 6, 7], [0]), ([8, 0, 1, 2, 3, 4, 5, 6, 7], [8]), ([9, 7, 7, 0, 1, 2, 3, 4, 5, 6, 7], [7, 9])])
def ask.B1 : List Nat := [0, 0, 2, 6, 14, 0, 32, 126, 255, 511, 1023]
theorem ask.tab1 : rtab .any (opsOf Try.f90 1) = ask.T1 := by kernel_rfl
theorem ask.bits1 : waitsOk ask.T1.2 ask.B1 = true := by kernel_rfl
def ask.T2 : Bool × List (List Nat × List Nat) := (true, [([], []), ([], []), ([1], [1]), ([2], [2]), ([3], [3]), ([], []), ([5], [5]), ([4, 6], [4, 6]), ([0, 0, 1, 2, 3, 4, 5, 6, 7], [0]), ([8, 0, 1, 2, 3, 4, 5, 6, 7], [8]), ([9, 7, 7, 0, 1, 2, 3, 4, 5, 6, 7], [7, 9])])
def ask.B2 : List Nat := [0, 0, 2, 6, 14, 0, 32, 126, 255, 511, 1023]
theorem ask.tab2 : rtab .any (opsOf Try.f90 2) = ask.T2 := by kernel_rfl
theorem ask.bits2 : waitsOk ask.T2.2 ask.B2 = true := by kernel_rfl
set_option maxHeartbeats 8000000 in
set_option maxRecDepth 100000 in
theorem ask_calls (M : Nat → Prop) (w0 w : World) (f n : Nat) (F : Fs) (N : Nx) (vo vd vw vD : Value) (x : S61) (hM : ∀ k, w.heap.size ≤ k → M k) (hmf : M f) (hmn : M n) (hl1 : F.out.length ≤ 100000) (hl2 : N.wants.length ≤ 100000) (h : FN M w0 w f n F N vo vd vw vD) :
    Calls Try.prog 90 #[.pointer (some ⟨f, 0, none⟩), .pointer (some ⟨n, 0, none⟩), .agg #[.int .i64 x.f0, .int .i64 x.f1]] w fun e w' => FPost M w0 w f n { F with out := F.out ++ [x] } { N with wants := N.wants ++ [x] } e (.tuple #[]) w' := by
  have HM := Aside0.mk hM
  have HMB : Aside0 (M f ∧ M n) := ⟨hmf, hmn⟩
  have HLN := Aside0.mk (And.intro hl1 hl2)
  have hx := heap_alloc_new w (.cells #[.int .i64 x.f0, .int .i64 x.f1] 61)
  have HI5 := Aside0.mk (FN.below h ((Below.refl _ w).alloc (Nat.le_refl _) (.cells #[.int .i64 x.f0, .int .i64 x.f1] 61)))
  have HK5 := Aside0.mk ((Kept.refl w M).alloc (.cells #[.int .i64 x.f0, .int .i64 x.f1] 61))
  have HNR := Aside0.mk (show some w.heap.size ≠ vo.ownBlock ∧ some w.heap.size ≠ vw.ownBlock from ⟨fun e => Nat.lt_irrefl _ (own_lt h.ho e.symm), fun e => Nat.lt_irrefl _ (own_lt h.hw e.symm)⟩)
  have HNB := Aside0.mk (show w.heap.size ≠ f ∧ w.heap.size ≠ n from ⟨fun e => Nat.lt_irrefl _ (e ▸ blk_ltn h.hf : w.heap.size < w.heap.size), fun e => Nat.lt_irrefl _ (e ▸ blk_ltn h.hn : w.heap.size < w.heap.size)⟩)
  obtain ⟨W5, hW5⟩ : ∃ W, w.alloc (.cells #[.int .i64 x.f0, .int .i64 x.f1] 61) = W := ⟨_, rfl⟩
  obtain ⟨b5, hb5⟩ : ∃ b, w.heap.size = b := ⟨_, rfl⟩
  rw [hW5] at hx HI5 HK5
  rw [hb5] at hx HNR HNB
  have HX5 := Aside0.mk hx
  clear hx h hM hmf hmn hl1 hl2
  go_enter Try.func90, Try.ntmps90
  go_upto_region 1 with fail
  (try rw [hW5])
  (try rw [hb5])
  clear hW5 hb5
  refine start_ (n := 11) (S := fun w' => w'.cell? ⟨f, 0, none⟩ = some vo ∧ w'.cell? ⟨b5, 0, none⟩ = some (.int .i64 x.f0) ∧ w'.cell? ⟨b5, 1, none⟩ = some (.int .i64 x.f1)) (ds := [7, 10]) #[false, false, false, false, false, false, false, false, false, false, false] (by kernel_rfl) rfl rfl ⟨(blk_cell HI5.out.hf 0).trans rfl, (blk_cell HX5.out 0).trans rfl, (blk_cell HX5.out 1).trans rfl⟩ (fun hHeld => ?_)
  refine with_tabW ask.tab1 ask.bits1 (fun HT_ HW_ => ?_)
  have HI6 := Aside0.mk (FN.below HI5.out (below_drew1 (Below.refl _ _)))
  have HK6 := Aside0.mk (Kept.drew HK5.out)
  have HX6 : Aside0 (W5.drew.heap[b5]? = some (.cells #[.int .i64 x.f0, .int .i64 x.f1] 61 (0, 0))) := ⟨HX5.out⟩
  generalize W5.drew = w6 at HI6 HK6 HX6 hHeld ⊢
  refine pure_ (i := 0) (N := some 6) (v := ?_) (a' := ?_) #[true, false, false, false, false, false, false, false, false, false, false] rfl rfl (any_of HT_.out (by kernel_rfl)) (fun _ _ _ h => h) (Or.inl ⟨by rfl, ?_⟩) ?_ ?_
  rotate_left
  · intro w'
    go_simp
    with_reducible rfl
  rotate_left
  · simp only [Act.put, List.setIfInBounds_toArray, List.set_cons_zero, List.set_cons_succ, i64_w, i32_w]
    rfl
  refine pure_ (i := 1) (N := some 7) (v := ?_) (a' := ?_) #[true, true, false, false, false, false, false, false, false, false, false] rfl rfl (any_of HT_.out (by kernel_rfl)) (fun _ _ _ h => h) (Or.inl ⟨by rfl, ?_⟩) ?_ ?_
  rotate_left
  · intro w'
    go_simp
    with_reducible rfl
  rotate_left
  · simp only [Act.put, List.setIfInBounds_toArray, List.set_cons_zero, List.set_cons_succ, i64_w, i32_w]
    rfl
  refine pure_ (i := 2) (N := some 8) (v := ?_) (a' := ?_) #[true, true, true, false, false, false, false, false, false, false, false] rfl rfl (any_of HT_.out (by kernel_rfl)) (fun _ _ _ h => h) (Or.inl ⟨by rfl, ?_⟩) ?_ ?_
  rotate_left
  · intro w'
    go_simp
    with_reducible rfl
  rotate_left
  · simp only [Act.put, List.setIfInBounds_toArray, List.set_cons_zero, List.set_cons_succ, i64_w, i32_w]
    rfl
  refine pure_ (i := 3) (N := some 9) (v := ?_) (a' := ?_) #[true, true, true, true, false, false, false, false, false, false, false] rfl rfl (any_of HT_.out (by kernel_rfl)) (fun _ _ _ h => h) (Or.inl ⟨by rfl, ?_⟩) ?_ ?_
  rotate_left
  · intro w'
    go_simp
    with_reducible rfl
  rotate_left
  · simp only [Act.put, List.setIfInBounds_toArray, List.set_cons_zero, List.set_cons_succ, i64_w, i32_w]
    rfl
  refine take_ (i := 4) (N := some 10) (v := ?_) (a' := ?_) #[true, true, true, true, true, false, false, false, false, false, false] rfl rfl (take_ofW HT_.out HW_.out (by kernel_rfl)) (fun _ _ _ h => h) (Or.inl ⟨by rfl, ?_⟩) hHeld ?_ ?_
  rotate_left
  · rintro w' ⟨s0, s1, s2⟩
    go_simp
    with_reducible rfl
  rotate_left
  · simp only [Act.put, List.setIfInBounds_toArray, List.set_cons_zero, List.set_cons_succ, i64_w, i32_w]
    rfl
  refine take_ (i := 5) (N := some 11) (v := ?_) (a' := ?_) #[true, true, true, true, true, true, false, false, false, false, false] rfl rfl (take_ofW HT_.out HW_.out (by kernel_rfl)) (fun _ _ _ h => h) (Or.inl ⟨by rfl, ?_⟩) hHeld ?_ ?_
  rotate_left
  · rintro w' ⟨s0, s1, s2⟩
    go_simp
    with_reducible rfl
  rotate_left
  · simp only [Act.put, List.setIfInBounds_toArray, List.set_cons_zero, List.set_cons_succ, i64_w, i32_w]
    rfl
  refine one_ (i := 6) (N := some 12) #[true, true, true, true, true, true, true, false, false, false, false] rfl rfl (one_of HT_.out (by kernel_rfl)) (by decide) (fun K hK => ?_)
  refine Kd.R_lit_step k61 (w0 := w0) w0.heap.size 61 (by rfl) (N := 12) rfl (xs := [x]) (inner := [.int .i64 x.f0, .int .i64 x.f1]) (ok := M) (okp := fun _ => False) ?hr12 (Reps.c2 (show Kd.M k61 _ _ _ x [.int .i64 x.f0, .int .i64 x.f1] from k61_mkM _ _ _ _) (Reps.none _ _)) (fun _ h => h.elim) (HM.out _ (HK6.out.1)) HI6.out.hb HI6.out.hb.size (by simp) ?_
  (case hr12 => first | (go_simp; done) | (go_simp; rfl))
  intro v7 w7 ho hb hg hnew
  have HI7 := Aside0.mk (FN.grown HI6.out hg hb)
  have HK7 := Aside0.mk (Kept.of_grown hg HK6.out (fun k hk => by cases hk))
  have HX7 := Aside0.mk ((hg.block _ (blk_ltn HX6.out) (by simp)).trans HX6.out)
  obtain ⟨Ao7, co7, eo⟩ := Kd.R_slice ho
  subst eo
  have HL7 := Aside0.mk (Kd.R_reads' ho).2.2
  clear ho hb hg hnew
  refine hK.out _ _ ⟨(blk_cell HI7.out.hf 0).trans rfl, (blk_cell HX7.out 0).trans rfl, (blk_cell HX7.out 1).trans rfl⟩ (fun hHeld => ?_)
  clear hK K
  refine norm_ (a' := ?_) ?_ ?_
  rotate_left
  · show Act.put _ (some 12) _ = _
    simp only [Act.put, List.setIfInBounds_toArray, List.set_cons_zero, List.set_cons_succ, i64_w, i32_w]
    rfl
  refine last_ (i := 7) (N := some 13) #[true, true, true, true, true, true, true, true, false, false, false] rfl rfl (one_of HT_.out (by kernel_rfl)) (by decide) (fun K hK => ?_)
  refine Kd.R_append_rows_step k61 (w0 := w0) w0.heap.size (by rfl) (.tmp 10) (.tmp 12) 57 61 (.agg #[.int .i64 0, .int .i64 0]) 16 rfl Try.underlying57 info61b rfl (by decide) (by decide) vo F.out [x] _ _ _ M (fun _ => False) rfl rfl HI7.out.ho HL7.out (fun _ _ h => h) (fun _ hk => hk.elim) (fun k hk => HM.out k (Nat.le_trans HK7.out.1 hk)) HI7.out.hb HI7.out.hb.size (by have := HLN.out; show (F.out.length + 1) * 16 ≤ _; omega) ?_
  intro v8 w8 ho hb hg hat
  obtain ⟨A8, c8, e8⟩ := Kd.R_slice ho
  obtain ⟨L8, hL⟩ : ∃ L, (F.out ++ [x]).length = L := ⟨_, rfl⟩
  rw [hL] at e8
  subst e8
  clear hL
  have HI8 := Aside0.mk (FN.out HI7.out hg hb ho hat)
  obtain ⟨⟨u8_, hu8⟩, hfz8⟩ := FN.slotF HI7.out hg
  have HK8 := Aside0.mk (Kept.setCell (p := ⟨f, 0, none⟩) (Kept.of_grown hg HK7.out (fun k hk => .inl (HI7.out.ho.1 k hk))) (.inl HMB.out.1) (.slice A8 L8 c8))
  have HX8 := Aside0.mk ((Below.heap_setCell w8 ⟨f, 0, none⟩ (.slice A8 L8 c8) _ HNB.out.1).trans ((hg.block _ (blk_ltn HX7.out) HNR.out.1).trans HX7.out))
  clear ho hb hg hat
  refine hK.out _ _ ?_
  clear hK K
  refine norm_ (a' := ?_) ?_ ?_
  rotate_left
  · show Act.put _ (some 13) _ = _
    simp only [Act.put, List.setIfInBounds_toArray, List.set_cons_zero, List.set_cons_succ, i64_w, i32_w]
    rfl
  refine pure_ (i := 8) (N := some 14) (v := ?_) (a' := ?_) #[true, true, true, true, true, true, true, true, true, false, false] rfl rfl (any_of HT_.out (by kernel_rfl)) (fun _ _ _ h => h) (Or.inl ⟨by rfl, ?_⟩) ?_ ?_
  rotate_left
  · intro w'
    go_simp
    with_reducible rfl
  rotate_left
  · simp only [Act.put, List.setIfInBounds_toArray, List.set_cons_zero, List.set_cons_succ, i64_w, i32_w]
    rfl
  refine pure_ (i := 9) (N := some 15) (v := ?_) (a' := ?_) #[true, true, true, true, true, true, true, true, true, true, false] rfl rfl (any_of HT_.out (by kernel_rfl)) (fun _ _ _ h => h) (Or.inl ⟨by rfl, ?_⟩) ?_ ?_
  rotate_left
  · intro w'
    go_simp
    with_reducible rfl
  rotate_left
  · simp only [Act.put, List.setIfInBounds_toArray, List.set_cons_zero, List.set_cons_succ, i64_w, i32_w]
    rfl
  refine last_ (i := 10) (N := none) #[true, true, true, true, true, true, true, true, true, true, true] rfl rfl (one_of HT_.out (by kernel_rfl)) (by decide) (fun K hK => ?_)
  refine skip_ (w1 := ?_) (by rfl) rfl ?_ ?_
  rotate_left
  · go_simp
    rfl
  refine hK.out _ _ ?_
  clear hK K
  refine done_ (done_of HT_.out (by kernel_rfl)) ?_
  obtain ⟨W8, hW8⟩ : ∃ W, w8.setCell ⟨f, 0, none⟩ (.slice A8 L8 c8) = W := ⟨_, rfl⟩
  rw [hW8] at HI8 HK8 HX8 ⊢
  clear hW8 hu8 hfz8
  go_upto_region 2 with fail
  refine start_ (n := 11) (S := fun w' => w'.cell? ⟨n, 1, none⟩ = some vw ∧ w'.cell? ⟨b5, 0, none⟩ = some (.int .i64 x.f0) ∧ w'.cell? ⟨b5, 1, none⟩ = some (.int .i64 x.f1)) (ds := [7, 10]) #[false, false, false, false, false, false, false, false, false, false, false] (by kernel_rfl) rfl rfl ⟨(blk_cell HI8.out.hn 1).trans rfl, (blk_cell HX8.out 0).trans rfl, (blk_cell HX8.out 1).trans rfl⟩ (fun hHeld => ?_)
  refine with_tabW ask.tab2 ask.bits2 (fun HT_ HW_ => ?_)
  have HI9 := Aside0.mk (FN.below HI8.out (below_drew1 (Below.refl _ _)))
  have HK9 := Aside0.mk (Kept.drew HK8.out)
  have HX9 : Aside0 (W8.drew.heap[b5]? = some (.cells #[.int .i64 x.f0, .int .i64 x.f1] 61 (0, 0))) := ⟨HX8.out⟩
  generalize W8.drew = w9 at HI9 HK9 HX9 hHeld ⊢
  refine pure_ (i := 0) (N := some 16) (v := ?_) (a' := ?_) #[true, false, false, false, false, false, false, false, false, false, false] rfl rfl (any_of HT_.out (by kernel_rfl)) (fun _ _ _ h => h) (Or.inl ⟨by rfl, ?_⟩) ?_ ?_
  rotate_left
  · intro w'
    go_simp
    with_reducible rfl
  rotate_left
  · simp only [Act.put, List.setIfInBounds_toArray, List.set_cons_zero, List.set_cons_succ, i64_w, i32_w]
    rfl
  refine pure_ (i := 1) (N := some 17) (v := ?_) (a' := ?_) #[true, true, false, false, false, false, false, false, false, false, false] rfl rfl (any_of HT_.out (by kernel_rfl)) (fun _ _ _ h => h) (Or.inl ⟨by rfl, ?_⟩) ?_ ?_
  rotate_left
  · intro w'
    go_simp
    with_reducible rfl
  rotate_left
  · simp only [Act.put, List.setIfInBounds_toArray, List.set_cons_zero, List.set_cons_succ, i64_w, i32_w]
    rfl
  refine pure_ (i := 2) (N := some 18) (v := ?_) (a' := ?_) #[true, true, true, false, false, false, false, false, false, false, false] rfl rfl (any_of HT_.out (by kernel_rfl)) (fun _ _ _ h => h) (Or.inl ⟨by rfl, ?_⟩) ?_ ?_
  rotate_left
  · intro w'
    go_simp
    with_reducible rfl
  rotate_left
  · simp only [Act.put, List.setIfInBounds_toArray, List.set_cons_zero, List.set_cons_succ, i64_w, i32_w]
    rfl
  refine pure_ (i := 3) (N := some 19) (v := ?_) (a' := ?_) #[true, true, true, true, false, false, false, false, false, false, false] rfl rfl (any_of HT_.out (by kernel_rfl)) (fun _ _ _ h => h) (Or.inl ⟨by rfl, ?_⟩) ?_ ?_
  rotate_left
  · intro w'
    go_simp
    with_reducible rfl
  rotate_left
  · simp only [Act.put, List.setIfInBounds_toArray, List.set_cons_zero, List.set_cons_succ, i64_w, i32_w]
    rfl
  refine take_ (i := 4) (N := some 20) (v := ?_) (a' := ?_) #[true, true, true, true, true, false, false, false, false, false, false] rfl rfl (take_ofW HT_.out HW_.out (by kernel_rfl)) (fun _ _ _ h => h) (Or.inl ⟨by rfl, ?_⟩) hHeld ?_ ?_
  rotate_left
  · rintro w' ⟨s0, s1, s2⟩
    go_simp
    with_reducible rfl
  rotate_left
  · simp only [Act.put, List.setIfInBounds_toArray, List.set_cons_zero, List.set_cons_succ, i64_w, i32_w]
    rfl
  refine take_ (i := 5) (N := some 21) (v := ?_) (a' := ?_) #[true, true, true, true, true, true, false, false, false, false, false] rfl rfl (take_ofW HT_.out HW_.out (by kernel_rfl)) (fun _ _ _ h => h) (Or.inl ⟨by rfl, ?_⟩) hHeld ?_ ?_
  rotate_left
  · rintro w' ⟨s0, s1, s2⟩
    go_simp
    with_reducible rfl
  rotate_left
  · simp only [Act.put, List.setIfInBounds_toArray, List.set_cons_zero, List.set_cons_succ, i64_w, i32_w]
    rfl
  refine one_ (i := 6) (N := some 22) #[true, true, true, true, true, true, true, false, false, false, false] rfl rfl (one_of HT_.out (by kernel_rfl)) (by decide) (fun K hK => ?_)
  refine Kd.R_lit_step k61 (w0 := w0) w0.heap.size 61 (by rfl) (N := 22) rfl (xs := [x]) (inner := [.int .i64 x.f0, .int .i64 x.f1]) (ok := M) (okp := fun _ => False) ?hr22 (Reps.c2 (show Kd.M k61 _ _ _ x [.int .i64 x.f0, .int .i64 x.f1] from k61_mkM _ _ _ _) (Reps.none _ _)) (fun _ h => h.elim) (HM.out _ (HK9.out.1)) HI9.out.hb HI9.out.hb.size (by simp) ?_
  (case hr22 => first | (go_simp; done) | (go_simp; rfl))
  intro v10 w10 ho hb hg hnew
  have HI10 := Aside0.mk (FN.grown HI9.out hg hb)
  have HK10 := Aside0.mk (Kept.of_grown hg HK9.out (fun k hk => by cases hk))
  have HX10 := Aside0.mk ((hg.block _ (blk_ltn HX9.out) (by simp)).trans HX9.out)
  obtain ⟨Ao10, co10, eo⟩ := Kd.R_slice ho
  subst eo
  have HL10 := Aside0.mk (Kd.R_reads' ho).2.2
  clear ho hb hg hnew
  refine hK.out _ _ ⟨(blk_cell HI10.out.hn 1).trans rfl, (blk_cell HX10.out 0).trans rfl, (blk_cell HX10.out 1).trans rfl⟩ (fun hHeld => ?_)
  clear hK K
  refine norm_ (a' := ?_) ?_ ?_
  rotate_left
  · show Act.put _ (some 22) _ = _
    simp only [Act.put, List.setIfInBounds_toArray, List.set_cons_zero, List.set_cons_succ, i64_w, i32_w]
    rfl
  refine last_ (i := 7) (N := some 23) #[true, true, true, true, true, true, true, true, false, false, false] rfl rfl (one_of HT_.out (by kernel_rfl)) (by decide) (fun K hK => ?_)
  refine Kd.R_append_rows_step k61 (w0 := w0) w0.heap.size (by rfl) (.tmp 20) (.tmp 22) 57 61 (.agg #[.int .i64 0, .int .i64 0]) 16 rfl Try.underlying57 info61b rfl (by decide) (by decide) vw N.wants [x] _ _ _ M (fun _ => False) rfl rfl HI10.out.hw HL10.out (fun _ _ h => h) (fun _ hk => hk.elim) (fun k hk => HM.out k (Nat.le_trans HK10.out.1 hk)) HI10.out.hb HI10.out.hb.size (by have := HLN.out; show (N.wants.length + 1) * 16 ≤ _; omega) ?_
  intro v11 w11 ho hb hg hat
  obtain ⟨A11, c11, e11⟩ := Kd.R_slice ho
  obtain ⟨L11, hL⟩ : ∃ L, (N.wants ++ [x]).length = L := ⟨_, rfl⟩
  rw [hL] at e11
  subst e11
  clear hL
  have HI11 := Aside0.mk (FN.wants HI10.out hg hb ho hat)
  obtain ⟨⟨u11_, hu11⟩, hfz11⟩ := FN.slotN HI10.out hg
  have HK11 := Aside0.mk (Kept.setCell (p := ⟨n, 1, none⟩) (Kept.of_grown hg HK10.out (fun k hk => .inl (HI10.out.hw.1 k hk))) (.inl HMB.out.2) (.slice A11 L11 c11))
  have HX11 := Aside0.mk ((Below.heap_setCell w11 ⟨n, 1, none⟩ (.slice A11 L11 c11) _ HNB.out.2).trans ((hg.block _ (blk_ltn HX10.out) HNR.out.2).trans HX10.out))
  clear ho hb hg hat
  refine hK.out _ _ ?_
  clear hK K
  refine norm_ (a' := ?_) ?_ ?_
  rotate_left
  · show Act.put _ (some 23) _ = _
    simp only [Act.put, List.setIfInBounds_toArray, List.set_cons_zero, List.set_cons_succ, i64_w, i32_w]
    rfl
  refine pure_ (i := 8) (N := some 24) (v := ?_) (a' := ?_) #[true, true, true, true, true, true, true, true, true, false, false] rfl rfl (any_of HT_.out (by kernel_rfl)) (fun _ _ _ h => h) (Or.inl ⟨by rfl, ?_⟩) ?_ ?_
  rotate_left
  · intro w'
    go_simp
    with_reducible rfl
  rotate_left
  · simp only [Act.put, List.setIfInBounds_toArray, List.set_cons_zero, List.set_cons_succ, i64_w, i32_w]
    rfl
  refine pure_ (i := 9) (N := some 25) (v := ?_) (a' := ?_) #[true, true, true, true, true, true, true, true, true, true, false] rfl rfl (any_of HT_.out (by kernel_rfl)) (fun _ _ _ h => h) (Or.inl ⟨by rfl, ?_⟩) ?_ ?_
  rotate_left
  · intro w'
    go_simp
    with_reducible rfl
  rotate_left
  · simp only [Act.put, List.setIfInBounds_toArray, List.set_cons_zero, List.set_cons_succ, i64_w, i32_w]
    rfl
  refine last_ (i := 10) (N := none) #[true, true, true, true, true, true, true, true, true, true, true] rfl rfl (one_of HT_.out (by kernel_rfl)) (by decide) (fun K hK => ?_)
  refine skip_ (w1 := ?_) (by rfl) rfl ?_ ?_
  rotate_left
  · go_simp
    rfl
  refine hK.out _ _ ?_
  clear hK K
  refine done_ (done_of HT_.out (by kernel_rfl)) ?_
  go_wp2
  go_end0
  exact .mk _ _ _ _ rfl HI11.out HK11.out
end Go.Proofs.Ytkghoodhgihokaa.Fetch
