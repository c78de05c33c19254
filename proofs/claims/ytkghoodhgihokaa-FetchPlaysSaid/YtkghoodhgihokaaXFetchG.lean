/- Fetch: fetcher.got. -/
import Derived.Test.YtkghoodhgihokaaXFetchF
namespace Go.Proofs.Ytkghoodhgihokaa.Fetch
open Go.RowKit Go.Lib Go.Proofs.YtkghoodhgihokaaW.PrintWords Go.Proofs.YtkghoodhgihokaaW.PrintLast Go.Proofs.YtkghoodhgihokaaW.PrintMore Go.Proofs.Ytkghoodhgihokaa.HFetchPlays
attribute [local go_sem] max2_int min2_int max_two min_two
set_option linter.unusedVariables false
set_option linter.unusedSimpArgs false
/-- An index, as Go tells it. -/
def idxI : Option Nat → Int
  | none => -1
  | some j => (j : Int)
theorem idx_is2 (l : List S61) (a c : Int) (hl : l.length ≤ 100000) (k : Nat) (hk : l.length < k) : api_Want_93.f k l a c = some (idxI (idxW l a c 0)) := by
  rw [idx_is l a c hl k hk]
  cases idxW l a c 0 <;> rfl
/-- A fetcher whose data's row has just changed. -/
inductive DataI (M : Nat → Prop) (w0 wS : World) (f n b3 : Nat) (F : Fs) (vo : Value) (cs : Array Value) (d1 : List Int) (w : World) : Prop
  | mk (vd : Value) (h : FN M w0 w f n { F with data := d1 } zeroN vo vd (.slice none 0 0) (.slice none 0 0)) (hk : Kept wS w M) (hx : w.heap[b3]? = some (.cells cs 110 (0, 0)))
/-- What got leaves. -/
inductive GPost (M : Nat → Prop) (w0 w : World) (f : Nat) (F : Fs) (N : Nx) (e : Ending) (w' : World) : Prop
  | mk (n : Nat) (vo vd vw vD : Value) (he : e = .returned (.agg #[.int .i64 N.code, vw, .bool N.done, vD])) (h : FN M w0 w' f n F N vo vd vw vD) (hk : Kept w w' M)
theorem FN.self {M : Nat → Prop} {w0 w : World} {f n : Nat} {F : Fs} {N : Nx} {vo vd vw vD : Value} (h : FN M w0 w f n F N vo vd vw vD) (N' : Nx) (vw' vD' : Value) (hw : Kd.R k61 61 w w0.heap.size M vw' N'.wants) (hD : Kd.R (Kd.int .u8) 5 w w0.heap.size M vD' N'.data) (ne1 : ∀ k, vo.ownBlock = some k → some k ≠ vw'.ownBlock) (ne2 : ∀ k, vd.ownBlock = some k → some k ≠ vD'.ownBlock) :
    FN M w0 ((((w.setCell ⟨n, 0, none⟩ (.int .i64 N'.code)).setCell ⟨n, 1, none⟩ vw').setCell ⟨n, 2, none⟩ (.bool N'.done)).setCell ⟨n, 3, none⟩ vD') f n F N' vo vd vw' vD' := by
  have h1 := blk_set h.hn 0 (.int .i64 N'.code)
  have h2 := blk_set h1 1 vw'
  have h3 := blk_set h2 2 (.bool N'.done)
  have hfn : f ≠ n := by rintro rfl; have h2 := h.hn; rw [h.hf] at h2; cases h2
  have o1 : ∀ {v : Value} {xs : List S61}, Kd.R k61 61 w w0.heap.size M v xs → Kd.R k61 61 ((((w.setCell ⟨n, 0, none⟩ (.int .i64 N'.code)).setCell ⟨n, 1, none⟩ vw').setCell ⟨n, 2, none⟩ (.bool N'.done)).setCell ⟨n, 3, none⟩ vD') w0.heap.size M v xs := fun hr => Kd.R_set (Kd.R_set (Kd.R_set (Kd.R_set hr h.hn (k61_not (by decide)) 0 _) h1 (k61_not (by decide)) 1 _) h2 (k61_not (by decide)) 2 _) h3 (k61_not (by decide)) 3 _
  have o2 : ∀ {v : Value} {xs : List Int}, Kd.R (Kd.int .u8) 5 w w0.heap.size M v xs → Kd.R (Kd.int .u8) 5 ((((w.setCell ⟨n, 0, none⟩ (.int .i64 N'.code)).setCell ⟨n, 1, none⟩ vw').setCell ⟨n, 2, none⟩ (.bool N'.done)).setCell ⟨n, 3, none⟩ vD') w0.heap.size M v xs := fun hr => Kd.R_set (Kd.R_set (Kd.R_set (Kd.R_set hr h.hn (u8_not (by decide)) 0 _) h1 (u8_not (by decide)) 1 _) h2 (u8_not (by decide)) 2 _) h3 (u8_not (by decide)) 3 _
  exact ⟨(Below.heap_setCell _ _ _ _ hfn).trans ((Below.heap_setCell _ _ _ _ hfn).trans ((Below.heap_setCell _ _ _ _ hfn).trans ((Below.heap_setCell _ _ _ _ hfn).trans h.hf))), (blk_set h3 3 vD').trans rfl, o1 h.ho, o2 h.hd, o1 hw, o2 hD, ne1, ne2, h.lf, h.ln, (((h.hb.setCell (p := ⟨n, 0, none⟩) h.ln _).setCell (p := ⟨n, 1, none⟩) h.ln _).setCell (p := ⟨n, 2, none⟩) h.ln _).setCell (p := ⟨n, 3, none⟩) h.ln _⟩
theorem kept_four {M : Nat → Prop} {w W : World} {n : Nat} {c0 c1 c2 c3 : Value} (h : Kept w W M) (hn : M n) : Kept w ((((W.setCell ⟨n, 0, none⟩ c0).setCell ⟨n, 1, none⟩ c1).setCell ⟨n, 2, none⟩ c2).setCell ⟨n, 3, none⟩ c3) M :=
  (((h.setCell (p := ⟨n, 0, none⟩) (.inl hn) _).setCell (p := ⟨n, 1, none⟩) (.inl hn) _).setCell (p := ⟨n, 2, none⟩) (.inl hn) _).setCell (p := ⟨n, 3, none⟩) (.inl hn) _
def got.T2 : Bool × List (List Nat × List Nat) := (true, [([], []), ([0], [0]), ([1], [1]), ([2], [2]), ([], []), ([3, 4], [3, 4]), ([5, 5, 0, 1, 2, 3, 4, 5], [5])])
def got.B2 : List Nat := [0, 1, 3, 7, 0, 31, 63]
theorem got.tab2 : rtab .any (opsOf Try.f63 2) = got.T2 := by kernel_rfl
theorem got.bits2 : waitsOk got.T2.2 got.B2 = true := by kernel_rfl
theorem info5z : (Try.prog.info? 5).map (fun i => (i.zero, i.size, i.bytes)) = some (some (.int .u8 0), 1, 1) := by kernel_rfl
/-- The end, or the rest that is asked for. -/
def swF (F1 : Fs) (a c : Int) (k : Nat) : Fs × Nx :=
  if k = 0 ∧ (F1.fin < 0 ∨ a < F1.fin) then ({ F1 with fin := a }, zeroN)
  else if 0 < k ∧ (k : Int) < c then ({ F1 with out := F1.out ++ [⟨a + (k : Int), c - (k : Int)⟩] }, { zeroN with wants := [⟨a + (k : Int), c - (k : Int)⟩] })
  else (F1, zeroN)
/-- The data, long enough. -/
def growD (D : List Int) (mo : Int) : List Int := if 0 < mo then D ++ List.replicate mo.toNat 0 else D
theorem gotF_some {F : Fs} {a c : Int} {d : List Int} {i : Nat} (hi : idxW F.out a c 0 = some i) (h5 : ¬ c < (d.length : Int)) :
    gotF F a c d = onF (swF { F with out := F.out.eraseIdx i, data := lay (growD F.data (a + (d.length : Int) - (F.data.length : Int))) d (min a.toNat (growD F.data (a + (d.length : Int) - (F.data.length : Int))).length) } a c d.length).1 (swF { F with out := F.out.eraseIdx i, data := lay (growD F.data (a + (d.length : Int) - (F.data.length : Int))) d (min a.toNat (growD F.data (a + (d.length : Int) - (F.data.length : Int))).length) } a c d.length).2 := by
  unfold gotF
  rw [hi]
  simp only
  rw [if_neg h5]
  show (if d.length = 0 ∧ (F.fin < 0 ∨ a < F.fin) then _ else _) = _
  unfold swF
  by_cases h1 : d.length = 0 ∧ (F.fin < 0 ∨ a < F.fin)
  · rw [if_pos h1, if_pos h1]; rfl
  · rw [if_neg h1, if_neg h1]
    by_cases h2 : 0 < d.length ∧ (d.length : Int) < c
    · rw [if_pos h2, if_pos h2]; rfl
    · rw [if_neg h2, if_neg h2]; rfl
theorem growD_length {D : List Int} {a : Int} {k : Nat} (h0 : 0 ≤ a) : a + (k : Int) ≤ ((growD D (a + (k : Int) - (D.length : Int))).length : Int) ∧ (growD D (a + (k : Int) - (D.length : Int))).length ≤ D.length + (a.toNat + k) := by
  unfold growD
  by_cases h : 0 < a + (k : Int) - (D.length : Int)
  · rw [if_pos h, List.length_append, List.length_replicate]; omega
  · rw [if_neg h]; omega
/-- A fetcher and a Next behind the switch. -/
inductive SwI (M : Nat → Prop) (w0 wS : World) (f n : Nat) (F : Fs) (N : Nx) (w : World) : Prop
  | mk (vo vd vw vD : Value) (h : FN M w0 w f n F N vo vd vw vD) (hk : Kept wS w M)
def got.T12 : Bool × List (List Nat × List Nat) := (true, [([], []), ([0], [0]), ([1], [1]), ([2], [2]), ([], []), ([4], [4]), ([], []), ([6], [6]), ([7], [7]), ([8], [8]), ([9], [9]), ([5, 10], [5, 10]), ([3, 11], [3, 11]), ([], []), ([13], [13]), ([12, 14], [12, 14])])
def got.B12 : List Nat := [0, 1, 3, 7, 0, 16, 0, 64, 192, 448, 960, 2032, 4095, 0, 8192, 32767]
theorem got.tab12 : rtab .any (opsOf Try.f63 12) = got.T12 := by kernel_rfl
theorem got.bits12 : waitsOk got.T12.2 got.B12 = true := by kernel_rfl
set_option maxHeartbeats 8000000 in
set_option maxRecDepth 100000 in
theorem got_calls (M : Nat → Prop) (w0 w : World) (f : Nat) (F : Fs) (vo vd : Value) (a c : Int) (A : Option Addr) (cd : Nat) (d : List Int) (hM : ∀ k, w.heap.size ≤ k → M k) (hmf : M f) (hl1 : F.out.length ≤ 1000) (hl3 : F.data.length ≤ 50000) (hfr : 0 ≤ F.front) (hfi : -1 ≤ F.fin) (hdl : d.length ≤ 140737488351232) (hout : ∀ x ∈ F.out, (0 ≤ x.f0 ∧ x.f0 ≤ 10000) ∧ (0 ≤ x.f1 ∧ x.f1 ≤ 10000)) (hr : Kd.C (Kd.int .u8) w0 A d.length d) (hcd : d.length ≤ cd) (h : FM M w0 w f F vo vd) :
    Calls Try.prog 63 #[.pointer (some ⟨f, 0, none⟩), .agg #[.int .i64 a, .int .i64 c, .slice A d.length cd]] w fun e w' => GPost M w0 w f (gotF F a c d).1 (gotF F a c d).2 e w' := by
  obtain ⟨b3, hb3⟩ : ∃ b, w.heap.size = b := ⟨_, rfl⟩
  have hx3 := heap_alloc_new w (.cells #[.int .i64 a, .int .i64 c, .slice A d.length cd] 110)
  have hB3 := (Below.refl _ w).alloc (Nat.le_refl _) (.cells #[.int .i64 a, .int .i64 c, .slice A d.length cd] 110)
  obtain ⟨W3, hW3⟩ : ∃ W, w.alloc (.cells #[.int .i64 a, .int .i64 c, .slice A d.length cd] 110) = W := ⟨_, rfl⟩
  have hs3 : W3.heap.size = b3 + 1 := by rw [← hW3, ← hb3]; simp
  rw [hW3, hb3] at hx3
  rw [hW3] at hB3
  have hxn := heap_alloc_new W3 (.cells #[.int .i64 0, .slice none 0 0, .bool false, .slice none 0 0] 59)
  have hBn := (Below.refl _ W3).alloc (Nat.le_refl _) (.cells #[.int .i64 0, .slice none 0 0, .bool false, .slice none 0 0] 59)
  obtain ⟨W4, hW4⟩ : ∃ W, W3.alloc (.cells #[.int .i64 0, .slice none 0 0, .bool false, .slice none 0 0] 59) = W := ⟨_, rfl⟩
  have hs4 : W4.heap.size = b3 + 2 := by rw [← hW4]; simp [hs3]
  rw [hW4, hs3] at hxn
  rw [hW4] at hBn
  have hx5 := heap_alloc_new W4 (.cells #[.int .i64 a, .int .i64 c] 61)
  have hB5 := (Below.refl _ W4).alloc (Nat.le_refl _) (.cells #[.int .i64 a, .int .i64 c] 61)
  obtain ⟨W5, hW5⟩ : ∃ W, W4.alloc (.cells #[.int .i64 a, .int .i64 c] 61) = W := ⟨_, rfl⟩
  have hs5 : W5.heap.size = b3 + 3 := by rw [← hW5]; simp [hs4]
  rw [hW5, hs4] at hx5
  rw [hW5] at hB5
  have hx3' := (hB5.block b3 (by omega)).trans ((hBn.block b3 (by omega)).trans hx3)
  have hxn' := (hB5.block (b3 + 1) (by omega)).trans hxn
  have hBB : Below w.heap.size w W5 := (hB3.trans (hBn.mono hB3.size)).trans (hB5.mono (Nat.le_trans hB3.size hBn.size))
  have hfm := FM.below h hBB
  have hN0 := FN.types (FM.withN hfm hxn' (Nat.le_trans h.hb.size (by omega))) hx3' (by decide) (by decide)
  have HI5 := Aside0.mk hN0
  have HX5 := Aside0.mk hx3'
  have HB5 := Aside0.mk hBB
  have hx34 := (hBn.block b3 (by omega)).trans hx3
  have hq0 := (blk_cell hx34 0).trans rfl
  have hq1 := (blk_cell hx34 1).trans rfl
  have hk0 := (blk_cell hx5 0).trans rfl
  have hk1 := (blk_cell hx5 1).trans rfl
  have hf0 := (blk_cell hfm.hf 0).trans rfl
  have hg0 := (blk_cell hx3' 0).trans rfl
  have hg1 := (blk_cell hx3' 1).trans rfl
  have hg2 := (blk_cell hx3' 2).trans rfl
  obtain ⟨n, hn⟩ : ∃ n, b3 + 1 = n := ⟨_, rfl⟩
  rw [hn] at HI5
  have HL := Aside0.mk (And.intro hl1 (And.intro hl3 (And.intro hfr (And.intro hfi hdl))))
  have HOUT := Aside0.mk hout
  have HR := Aside0.mk (And.intro hr hcd)
  have HM : Aside0 (∀ W : World, W5.heap.size ≤ W.heap.size → ∀ k, W.heap.size ≤ k → M k ∧ k ≠ b3) := ⟨fun W hW k hk => ⟨hM k (by omega), by omega⟩⟩
  have HMF : Aside0 ((M f ∧ f ≠ b3) ∧ (M n ∧ n ≠ b3)) := ⟨⟨hmf, by have := blk_ltn h.hf; omega⟩, hM n (by omega), by omega⟩
  have HIX := Aside0.mk (fun W (hW : Below W5.heap.size W5 W) (vA : Option Addr) (vc : Nat) (hv : vo = .slice vA F.out.length vc) => api_Want_93.calls (F.out.length + 1) vA vc F.out a c _ W (by subst hv; exact Kd.C_below (Kd.R_reads' hN0.ho).2.2 hW) (by subst hv; exact (Kd.R_reads' hN0.ho).2.1) (idx_is2 F.out a c (by omega) _ (by omega)))
  obtain ⟨Ao, co, hvo⟩ := Kd.R_slice hN0.ho
  have HIX2 := Aside0.mk (fun W (hW : Below W5.heap.size W5 W) => HIX.out W hW Ao co hvo)
  subst hvo
  clear HIX hx34 hx3 hB3 hxn hBn hx5 hB5 hx3' hxn' hBB hfm hN0 hM hmf hl1 hl3 hfr hfi hdl hout hr hcd h
  go_enter Try.func63, Try.ntmps63
  go_upto_region 2 with fail
  clear hW3 hW4 hW5 hn
  obtain ⟨b5, hb5⟩ : ∃ b, b3 + 2 = b := ⟨_, rfl⟩
  rw [hb5] at hk0 hk1 ⊢
  clear hb5
  refine start_ (n := 7) (S := fun w' => w'.cell? ⟨f, 0, none⟩ = some (.slice Ao F.out.length co) ∧ w'.cell? ⟨b5, 0, none⟩ = some (.int .i64 a) ∧ w'.cell? ⟨b5, 1, none⟩ = some (.int .i64 c)) (ds := [5]) #[false, false, false, false, false, false, false] (by kernel_rfl) rfl rfl ⟨hf0, hk0, hk1⟩ (fun hHeld => ?_)
  refine with_tabW got.tab2 got.bits2 (fun HT_ HW_ => ?_)
  have HB6 : Aside0 (Below W5.heap.size W5 W5.drew) := ⟨below_drew1 (Below.refl _ _)⟩
  generalize W5.drew = w6 at HB6 hHeld ⊢
  refine pure_ (i := 0) (N := some 14) (v := ?_) (a' := ?_) #[true, false, false, false, false, false, false] rfl rfl (any_of HT_.out (by kernel_rfl)) (fun _ _ _ h => h) (Or.inl ⟨by rfl, ?_⟩) ?_ ?_
  rotate_left
  · intro w'
    go_simp
    with_reducible rfl
  rotate_left
  · simp only [Act.put, List.setIfInBounds_toArray, List.set_cons_zero, List.set_cons_succ, i64_w, i32_w]
    rfl
  refine pure_ (i := 1) (N := some 15) (v := ?_) (a' := ?_) #[true, true, false, false, false, false, false] rfl rfl (any_of HT_.out (by kernel_rfl)) (fun _ _ _ h => h) (Or.inl ⟨by rfl, ?_⟩) ?_ ?_
  rotate_left
  · intro w'
    go_simp
    with_reducible rfl
  rotate_left
  · simp only [Act.put, List.setIfInBounds_toArray, List.set_cons_zero, List.set_cons_succ, i64_w, i32_w]
    rfl
  refine pure_ (i := 2) (N := some 16) (v := ?_) (a' := ?_) #[true, true, true, false, false, false, false] rfl rfl (any_of HT_.out (by kernel_rfl)) (fun _ _ _ h => h) (Or.inl ⟨by rfl, ?_⟩) ?_ ?_
  rotate_left
  · intro w'
    go_simp
    with_reducible rfl
  rotate_left
  · simp only [Act.put, List.setIfInBounds_toArray, List.set_cons_zero, List.set_cons_succ, i64_w, i32_w]
    rfl
  refine take_ (i := 3) (N := some 17) (v := ?_) (a' := ?_) #[true, true, true, true, false, false, false] rfl rfl (take_ofW HT_.out HW_.out (by kernel_rfl)) (fun _ _ _ h => h) (Or.inl ⟨by rfl, ?_⟩) hHeld ?_ ?_
  rotate_left
  · rintro w' ⟨s0, s1, s2⟩
    go_simp
    with_reducible rfl
  rotate_left
  · simp only [Act.put, List.setIfInBounds_toArray, List.set_cons_zero, List.set_cons_succ, i64_w, i32_w]
    rfl
  refine take_ (i := 4) (N := some 18) (v := ?_) (a' := ?_) #[true, true, true, true, true, false, false] rfl rfl (take_ofW HT_.out HW_.out (by kernel_rfl)) (fun _ _ _ h => h) (Or.inl ⟨by rfl, ?_⟩) hHeld ?_ ?_
  rotate_left
  · rintro w' ⟨s0, s1, s2⟩
    go_simp
    with_reducible rfl
  rotate_left
  · simp only [Act.put, List.setIfInBounds_toArray, List.set_cons_zero, List.set_cons_succ, i64_w, i32_w]
    rfl
  refine last_ (i := 5) (N := some 19) #[true, true, true, true, true, true, false] rfl rfl (one_of HT_.out (by kernel_rfl)) (by decide) (fun K hK => ?_)
  refine call_ 93 #[.slice Ao F.out.length co, .agg #[.int .i64 a, .int .i64 c]] (by rfl) rfl ?hr ?_
  (case hr => first | rfl | (go_simp; done) | (go_simp; rfl))
  refine (HIX2.out _ HB6.out).mono ?_
  rintro e' w7 ⟨rfl, hb7⟩
  have HB7 := Aside0.mk (HB6.out.trans (hb7.mono HB6.out.size))
  obtain ⟨r, hrr⟩ : ∃ r : Int, idxI (idxW F.out a c 0) = r := ⟨_, rfl⟩
  have HRR := Aside0.mk hrr
  rw [hrr]
  clear hrr hb7
  refine ⟨_, rfl, ?_⟩
  refine hK.out _ _ ?_
  clear hK K
  refine norm_ (a' := ?_) ?_ ?_
  rotate_left
  · show Act.put _ (some 19) _ = _
    simp only [Act.put, List.setIfInBounds_toArray, List.set_cons_zero, List.set_cons_succ, i64_w, i32_w]
    rfl
  refine pure_ (i := 6) (N := some 6) (v := ?_) (a' := ?_) #[true, true, true, true, true, true, true] rfl rfl (any_of HT_.out (by kernel_rfl)) (fun _ _ _ h => h) (Or.inl ⟨by rfl, ?_⟩) ?_ ?_
  rotate_left
  · intro w'
    go_simp
    with_reducible rfl
  rotate_left
  · simp only [Act.put, List.setIfInBounds_toArray, List.set_cons_zero, List.set_cons_succ, i64_w, i32_w]
    rfl
  refine done_ (done_of HT_.out (by kernel_rfl)) ?_
  have HI7 := Aside0.mk (FN.below HI5.out HB7.out)
  have HX7 := Aside0.mk ((HB7.out.block _ (blk_ltn HX5.out)).trans HX5.out)
  obtain ⟨ix, hix⟩ : ∃ i, idxW F.out a c 0 = i := ⟨_, rfl⟩
  have HIX := Aside0.mk hix
  rw [hix] at HRR
  have HK7 := Aside0.mk (Kept.of_below HB7.out (fun k => M k ∧ k ≠ b3))
  have HKW := Aside0.mk (Kept.of_below HB5.out M)
  have hy0 := (blk_cell HI7.out.hn 0).trans rfl
  have hz0 := blk_frozen HI7.out.hn 0
  have hy1 := (blk_cell HI7.out.hn 1).trans rfl
  have hz1 := blk_frozen HI7.out.hn 1
  have hy2 := (blk_cell HI7.out.hn 2).trans rfl
  have hz2 := blk_frozen HI7.out.hn 2
  have hy3 := (blk_cell HI7.out.hn 3).trans rfl
  have hz3 := blk_frozen HI7.out.hn 3
  have hg0 := (blk_cell HX7.out 0).trans rfl
  have hg1 := (blk_cell HX7.out 1).trans rfl
  have hg2 := (blk_cell HX7.out 2).trans rfl
  clear hq0 hq1 hk0 hk1 hf0 hix
  cases ix with
  | none =>
    obtain rfl : r = -1 := HRR.out.symm
    have HG := Aside0.mk (show gotF F a c d = (F, { zeroN with code := 7 }) by unfold gotF; rw [HIX.out])
    have HIz := Aside0.mk (FN.self HI7.out { zeroN with code := 7 } (.slice none 0 0) (.slice none 0 0) (Kd.R_nil _ _ _ _ _) (Kd.R_nil _ _ _ _ _) HI7.out.ne1 HI7.out.ne2)
    go_wp2
    refine bodyPost_ret (results_cell_row rfl _ _ n 59 _ (0, 0) _ rfl HIz.out.hn Try.underlying59 rfl (by kernel_rfl)) rfl ?_
    rw [HG.out]
    exact .mk n _ _ _ _ rfl (FN.mono HIz.out (fun k hk => hk.1)) (kept_four (HKW.out.then_ HK7.out (fun k hk => .inl hk.1)) HMF.out.2.1)
  | some i =>
    obtain rfl : r = (i : Int) := HRR.out.symm
    obtain ⟨_, hi2, x, hx, ea, ec⟩ := idxW_lt F.out a c 0 i HIX.out
    have hil : i < F.out.length := by omega
    have hxo := HOUT.out x (List.mem_of_getElem? hx)
    rw [ea, ec] at hxo
    have HAC := Aside0.mk hxo
    have HIL := Aside0.mk hil
    have e1 : decide ((i : Int) < 0) = false := decide_eq_false (by omega)
    clear hi2 hx ea ec hxo
    by_cases h5 : c < (d.length : Int)
    · have d5 : decide (c < (d.length : Int)) = true := decide_eq_true h5
      have HG := Aside0.mk (show gotF F a c d = (F, { zeroN with code := 1 }) by unfold gotF; rw [HIX.out]; exact if_pos h5)
      have HIz := Aside0.mk (FN.self HI7.out { zeroN with code := 1 } (.slice none 0 0) (.slice none 0 0) (Kd.R_nil _ _ _ _ _) (Kd.R_nil _ _ _ _ _) HI7.out.ne1 HI7.out.ne2)
      clear h5 hil
      go_wp2
      refine bodyPost_ret (results_cell_row rfl _ _ n 59 _ (0, 0) _ rfl HIz.out.hn Try.underlying59 rfl (by kernel_rfl)) rfl ?_
      rw [HG.out]
      exact .mk n _ _ _ _ rfl (FN.mono HIz.out (fun k hk => hk.1)) (kept_four (HKW.out.then_ HK7.out (fun k hk => .inl hk.1)) HMF.out.2.1)
    have d5 : decide (c < (d.length : Int)) = false := decide_eq_false h5
    have HC5 := Aside0.mk h5
    have hcd : (d.length : Int) ≤ c := by omega
    have HCD := Aside0.mk hcd
    have hwi : wrap64 ((i : Int) + 1) = (i : Int) + 1 := by have := HL.out; unfold wrap64; omega
    obtain ⟨g, cg, hvo, _, _, _⟩ := Kd.R_form HI7.out.ho (by omega)
    injection hvo with h1 _ h2
    subst h1 h2
    have HDEL : Aside0 (Calls Try.prog 94 #[.slice (some ⟨g, 0, none⟩) F.out.length co, .int .i64 (i : Int), .int .i64 ((i : Int) + 1)] w7 fun e w' => e = .returned (.slice (some ⟨g, 0, none⟩) (F.out.eraseIdx i).length co) ∧ Kd.R k61 61 w' w0.heap.size (fun k => M k ∧ k ≠ b3) (.slice (some ⟨g, 0, none⟩) (F.out.eraseIdx i).length co) (F.out.eraseIdx i) ∧ w7.grownBy w' (some g)) := ⟨delete_calls (fun k => M k ∧ k ≠ b3) w0.heap.size g co F.out i (i + 1) w7 HI7.out.ho rfl hil⟩
    have hy := (blk_cell HI7.out.hf 0).trans rfl
    have hzf := blk_frozen HI7.out.hf 0
    clear hcd h5 hil
    obtain ⟨L1, hL1⟩ : ∃ L, (F.out.eraseIdx i).length = L := ⟨_, rfl⟩
    rw [hL1] at HDEL
    have HL1 := Aside0.mk hL1
    clear hL1
    go_upto_region 8 with (go_at_call 94; refine HDEL.out.mono ?_; rintro e w8 ⟨rfl, ho8, hg8⟩; have HO8 := Aside0.mk ho8; have HG8 := Aside0.mk hg8; have hys := (blk_cell ((hg8.block _ (blk_ltn HI7.out.hf) (own_ne HI7.out.ho HI7.out.hf (by decide))).trans HI7.out.hf) 0).trans rfl; have hzs := blk_frozen ((hg8.block _ (blk_ltn HI7.out.hf) (own_ne HI7.out.ho HI7.out.hf (by decide))).trans HI7.out.hf) 0; clear ho8 hg8)
    have hb8 : Below w0.heap.size w0 w8 := HI7.out.hb.trans ⟨HG8.out.os, HG8.out.tape, HG8.out.output, HG8.out.size, fun k hk => HG8.out.block k (Nat.lt_of_lt_of_le hk HI7.out.hb.size) (fun e => by have h2 := (row_open HI7.out.ho).2.1; injection e with e; omega)⟩
    have HI9 := Aside0.mk (FN.out HI7.out HG8.out hb8 HO8.out (.inl rfl))
    have HK9 := Aside0.mk (Kept.setCell (p := ⟨f, 0, none⟩) (Kept.of_grown HG8.out HK7.out (fun k hk => by injection hk with hk; subst hk; exact .inl (row_open HI7.out.ho).1)) (.inl HMF.out.1) (.slice (some ⟨g, 0, none⟩) L1 co))
    have HX9 := Aside0.mk ((Below.heap_setCell w8 ⟨f, 0, none⟩ (.slice (some ⟨g, 0, none⟩) L1 co) b3 (fun e => HMF.out.1.2 e.symm)).trans ((HG8.out.block _ (blk_ltn HX7.out) (own_ne HI7.out.ho HX7.out (by decide))).trans HX7.out))
    obtain ⟨W9, hW9⟩ : ∃ W, w8.setCell ⟨f, 0, none⟩ (.slice (some ⟨g, 0, none⟩) L1 co) = W := ⟨_, rfl⟩
    rw [hW9] at HI9 HK9 HX9 ⊢
    obtain ⟨Ad, cdd, hvd⟩ := Kd.R_slice HI9.out.hd
    subst hvd
    have hwa : wrap64 (a + (d.length : Int)) = a + (d.length : Int) := by have := HAC.out; have := HCD.out; unfold wrap64; omega
    have hwb : wrap64 (a + (d.length : Int) - (F.data.length : Int)) = a + (d.length : Int) - (F.data.length : Int) := by have := HAC.out; have := HCD.out; have := HL.out; unfold wrap64; omega
    have HWA := Aside0.mk hwa
    clear hW9 hb8 hy0 hz0 hy1 hz1 hy2 hz2 hy3 hz3 hg0 hg1 hg2 hy hzf hys hzs e1 d5 hwi
    have hg0 := (blk_cell HX9.out 0).trans rfl
    have hg1 := (blk_cell HX9.out 1).trans rfl
    have hg2 := (blk_cell HX9.out 2).trans rfl
    have hy3 := (blk_cell HI9.out.hf 3).trans rfl
    go_upto_region 9 with fail
    go_quiet (fail)
    have HI10 := Aside0.mk (FN.drewN HI9.out nq)
    have HK10 := Aside0.mk (Kept.drewN HK9.out nq)
    have HX10 : Aside0 ((W9.drewN nq).heap[b3]? = some (.cells #[.int .i64 a, .int .i64 c, .slice A d.length cd] 110 (0, 0))) := ⟨HX9.out⟩
    obtain ⟨W10, hW10⟩ : ∃ W, W9.drewN nq = W := ⟨_, rfl⟩
    rw [hW10] at HI10 HK10 HX10 ⊢
    clear hW10 hg0 hg1 hg2 hy3 hwa
    obtain ⟨mo, hmo⟩ : ∃ m, a + (d.length : Int) - (F.data.length : Int) = m := ⟨_, rfl⟩
    rw [hmo] at hwb ⊢
    rw [hwb]
    have HMO := Aside0.mk hmo
    clear hmo hwb
    go_upto_if 57 with (fail)
    obtain ⟨d1, hd1⟩ : ∃ l, growD F.data mo = l := ⟨_, rfl⟩
    have HD1 := Aside0.mk (show a + (d.length : Int) ≤ (d1.length : Int) ∧ d1.length ≤ F.data.length + (a.toNat + d.length) by rw [← hd1, ← HMO.out]; exact growD_length (by have := HAC.out; omega))
    have HD2 := Aside0.mk hd1
    go_cut [] (fun wc => DataI (fun k => M k ∧ k ≠ b3) w0 W5 f n b3 { F with out := F.out.eraseIdx i } (.slice (some ⟨g, 0, none⟩) L1 co) #[.int .i64 a, .int .i64 c, .slice A d.length cd] d1 wc)
    case first =>
      have hy3 := (blk_cell HI10.out.hf 3).trans rfl
      by_cases h6 : 0 < mo
      case neg =>
        have d6 : decide (0 < mo) = false := decide_eq_false h6
        have HZ := Aside0.mk (show DataI (fun k => M k ∧ k ≠ b3) w0 W5 f n b3 { F with out := F.out.eraseIdx i } (.slice (some ⟨g, 0, none⟩) L1 co) #[.int .i64 a, .int .i64 c, .slice A d.length cd] d1 W10 by rw [← hd1]; unfold growD; rw [if_neg h6]; exact .mk _ HI10.out HK10.out HX10.out)
        clear h6 hd1
        rw [d6]
        go_wp2
        go_meet
        exact HZ.out
      have d6 : decide (0 < mo) = true := decide_eq_true h6
      have H6 := Aside0.mk h6
      have HGW : Aside0 (∀ (v1 : Value) (w1 : World), Kd.R (Kd.int .u8) 5 w1 w0.heap.size (fun k => M k ∧ k ≠ b3) v1 (F.data ++ List.replicate mo.toNat 0) → Below w0.heap.size w0 w1 → W10.grownBy w1 (Value.slice Ad F.data.length cdd).ownBlock → (v1.ownBlock = (Value.slice Ad F.data.length cdd).ownBlock ∨ ∃ b, v1.ownBlock = some b ∧ W10.heap.size ≤ b) →
          DataI (fun k => M k ∧ k ≠ b3) w0 W5 f n b3 { F with out := F.out.eraseIdx i } (.slice (some ⟨g, 0, none⟩) L1 co) #[.int .i64 a, .int .i64 c, .slice A d.length cd] d1 (w1.setCell ⟨f, 3, none⟩ v1) ∧ w1.heap[f]? = some (.cells #[.slice (some ⟨g, 0, none⟩) L1 co, .int .i64 F.front, .int .i64 F.fin, .slice Ad F.data.length cdd] 106 (0, 0))) := ⟨fun v1 w1 hv hb hg hat => by
        refine ⟨?_, (hg.block _ (blk_ltn HI10.out.hf) (own_ne HI10.out.hd HI10.out.hf (by decide))).trans HI10.out.hf⟩
        rw [← hd1]
        unfold growD
        rw [if_pos h6]
        exact .mk _ (FN.grows HI10.out hg hb hv hat) (Kept.setCell (p := ⟨f, 3, none⟩) (Kept.of_grown hg HK10.out (fun k hk => .inl (HI10.out.hd.1 k hk))) (.inl HMF.out.1) v1) ((Below.heap_setCell w1 ⟨f, 3, none⟩ v1 b3 (fun e => HMF.out.1.2 e.symm)).trans ((hg.block _ (blk_ltn HX10.out) (own_ne HI10.out.hd HX10.out (by decide))).trans HX10.out))⟩
      clear h6 hd1
      rw [d6]
      go_wp2_with (first | ((with_reducible refine gate_builtin (b := .append) (xs := #[.tmp 62, .tmp 63]) rfl ?_); at_builtin; refine Kd.R_append_zeros (Kd.int .u8) (w0 := w0) w0.heap.size rfl (.tmp 62) (.tmp 63) 27 3 5 (.int .u8 0) 1 rfl Try.underlying27 Try.underlying3 info5z rfl (by decide) (by decide) (.slice Ad F.data.length cdd) F.data 0 mo (fun k => M k ∧ k ≠ b3) rfl rfl ?aZ ?aF ?aO ?aP ?aB ?aS ?aL ?_; (case aZ => rfl); (case aF => exact HM.out _ HK10.out.1); (case aO => exact HI10.out.hd); (case aP => exact Int.le_of_lt H6.out); (case aB => exact HI10.out.hb); (case aS => exact HI10.out.hb.size); (case aL => (have := HL.out; have := HMO.out; have := HAC.out; have := HCD.out; omega)); intro v1 w1 ho hb hg hat; obtain ⟨Av, cv, hvv⟩ := Kd.R_slice ho; subst hvv; have HD := Aside0.mk (HGW.out _ _ ho hb hg hat); obtain ⟨Lz, hLz⟩ : ∃ L, (F.data ++ List.replicate mo.toNat 0).length = L := ⟨_, rfl⟩; rw [hLz] at HD ⊢; clear hLz; have hyf := (blk_cell HD.out.2 3).trans rfl; have hzf := blk_frozen HD.out.2 3; clear ho hb hg hat))
      go_meet
      exact HD.out.1
    case rest =>
      clear hd1
      obtain ⟨vdc, hI, hK, hX⟩ := hcut
      have HI11 := Aside0.mk hI
      have HK11 := Aside0.mk hK
      have HX11 := Aside0.mk hX
      obtain ⟨Ae, ce, hve⟩ := Kd.R_slice hI.hd
      subst hve
      have hce : d1.length ≤ ce := (Kd.R_reads' (show Kd.R (Kd.int .u8) 5 wc w0.heap.size (fun k => M k ∧ k ≠ b3) (.slice Ae d1.length ce) d1 from hI.hd)).2.1
      clear hI hK hX
      obtain ⟨o, ho⟩ : ∃ o : Nat, a.toNat = o := ⟨_, rfl⟩
      have hao : a = (o : Int) := by have := HAC.out; omega
      have hol : o ≤ d1.length := by have := HD1.out; omega
      have HCE := Aside0.mk hce
      have hif : (if (d1.length : Int) < a then (d1.length : Int) else a) = (o : Int) := by rw [hao]; split <;> omega
      have hole : (o : Int) ≤ (d1.length : Int) := by omega
      have hol2 : o ≤ ce := by omega
      have hol3 : (o : Int) ≤ (ce : Int) := by omega
      have HO := Aside0.mk (And.intro hao hol)
      clear ho hao
      go_upto_region 12 with fail
      refine start_ (n := 16) (S := fun w' => w'.cell? ⟨f, 3, none⟩ = some (.slice Ae d1.length ce) ∧ w'.cell? ⟨b3, 0, none⟩ = some (.int .i64 a) ∧ w'.cell? ⟨b3, 2, none⟩ = some (.slice A d.length cd)) (ds := [15]) #[false, false, false, false, false, false, false, false, false, false, false, false, false, false, false, false] (by kernel_rfl) rfl rfl ⟨(blk_cell HI11.out.hf 3).trans rfl, (blk_cell HX11.out 0).trans rfl, (blk_cell HX11.out 2).trans rfl⟩ (fun hHeld => ?_)
      refine with_tabW got.tab12 got.bits12 (fun HT_ HW_ => ?_)
      have HI12 := Aside0.mk (FN.below HI11.out (below_drew1 (Below.refl _ _)))
      have HK12 := Aside0.mk (Kept.drew HK11.out)
      have HX12 : Aside0 (wc.drew.heap[b3]? = some (.cells #[.int .i64 a, .int .i64 c, .slice A d.length cd] 110 (0, 0))) := ⟨HX11.out⟩
      generalize wc.drew = w6 at HI12 HK12 HX12 hHeld ⊢
      refine pure_ (i := 0) (N := some 67) (v := ?_) (a' := ?_) #[true, false, false, false, false, false, false, false, false, false, false, false, false, false, false, false] rfl rfl (any_of HT_.out (by kernel_rfl)) (fun _ _ _ h => h) (Or.inl ⟨by rfl, ?_⟩) ?_ ?_
      rotate_left
      · intro w'
        go_simp
        with_reducible rfl
      rotate_left
      · simp only [Act.put, List.setIfInBounds_toArray, List.set_cons_zero, List.set_cons_succ, i64_w, i32_w]
        rfl
      refine pure_ (i := 1) (N := some 68) (v := ?_) (a' := ?_) #[true, true, false, false, false, false, false, false, false, false, false, false, false, false, false, false] rfl rfl (any_of HT_.out (by kernel_rfl)) (fun _ _ _ h => h) (Or.inl ⟨by rfl, ?_⟩) ?_ ?_
      rotate_left
      · intro w'
        go_simp
        with_reducible rfl
      rotate_left
      · simp only [Act.put, List.setIfInBounds_toArray, List.set_cons_zero, List.set_cons_succ, i64_w, i32_w]
        rfl
      refine pure_ (i := 2) (N := some 69) (v := ?_) (a' := ?_) #[true, true, true, false, false, false, false, false, false, false, false, false, false, false, false, false] rfl rfl (any_of HT_.out (by kernel_rfl)) (fun _ _ _ h => h) (Or.inl ⟨by rfl, ?_⟩) ?_ ?_
      rotate_left
      · intro w'
        go_simp
        with_reducible rfl
      rotate_left
      · simp only [Act.put, List.setIfInBounds_toArray, List.set_cons_zero, List.set_cons_succ, i64_w, i32_w]
        rfl
      refine pure_ (i := 4) (N := some 71) (v := ?_) (a' := ?_) #[true, true, true, false, true, false, false, false, false, false, false, false, false, false, false, false] rfl rfl (any_of HT_.out (by kernel_rfl)) (fun _ _ _ h => h) (Or.inl ⟨by rfl, ?_⟩) ?_ ?_
      rotate_left
      · intro w'
        go_simp
        with_reducible rfl
      rotate_left
      · simp only [Act.put, List.setIfInBounds_toArray, List.set_cons_zero, List.set_cons_succ, i64_w, i32_w]
        rfl
      refine pure_ (i := 6) (N := some 73) (v := ?_) (a' := ?_) #[true, true, true, false, true, false, true, false, false, false, false, false, false, false, false, false] rfl rfl (any_of HT_.out (by kernel_rfl)) (fun _ _ _ h => h) (Or.inl ⟨by rfl, ?_⟩) ?_ ?_
      rotate_left
      · intro w'
        go_simp
        with_reducible rfl
      rotate_left
      · simp only [Act.put, List.setIfInBounds_toArray, List.set_cons_zero, List.set_cons_succ, i64_w, i32_w]
        rfl
      refine pure_ (i := 7) (N := some 74) (v := ?_) (a' := ?_) #[true, true, true, false, true, false, true, true, false, false, false, false, false, false, false, false] rfl rfl (any_of HT_.out (by kernel_rfl)) (fun _ _ _ h => h) (Or.inl ⟨by rfl, ?_⟩) ?_ ?_
      rotate_left
      · intro w'
        go_simp
        with_reducible rfl
      rotate_left
      · simp only [Act.put, List.setIfInBounds_toArray, List.set_cons_zero, List.set_cons_succ, i64_w, i32_w]
        rfl
      refine pure_ (i := 8) (N := some 75) (v := ?_) (a' := ?_) #[true, true, true, false, true, false, true, true, true, false, false, false, false, false, false, false] rfl rfl (any_of HT_.out (by kernel_rfl)) (fun _ _ _ h => h) (Or.inl ⟨by rfl, ?_⟩) ?_ ?_
      rotate_left
      · intro w'
        go_simp
        with_reducible rfl
      rotate_left
      · simp only [Act.put, List.setIfInBounds_toArray, List.set_cons_zero, List.set_cons_succ, i64_w, i32_w]
        rfl
      refine pure_ (i := 13) (N := some 80) (v := ?_) (a' := ?_) #[true, true, true, false, true, false, true, true, true, false, false, false, false, true, false, false] rfl rfl (any_of HT_.out (by kernel_rfl)) (fun _ _ _ h => h) (Or.inl ⟨by rfl, ?_⟩) ?_ ?_
      rotate_left
      · intro w'
        go_simp
        with_reducible rfl
      rotate_left
      · simp only [Act.put, List.setIfInBounds_toArray, List.set_cons_zero, List.set_cons_succ, i64_w, i32_w]
        rfl
      refine take_ (i := 3) (N := some 70) (v := ?_) (a' := ?_) #[true, true, true, true, true, false, true, true, true, false, false, false, false, true, false, false] rfl rfl (take_ofW HT_.out HW_.out (by kernel_rfl)) (fun _ _ _ h => h) (Or.inl ⟨by rfl, ?_⟩) hHeld ?_ ?_
      rotate_left
      · rintro w' ⟨s0, s1, s2⟩
        go_simp
        with_reducible rfl
      rotate_left
      · simp only [Act.put, List.setIfInBounds_toArray, List.set_cons_zero, List.set_cons_succ, i64_w, i32_w]
        rfl
      refine take_ (i := 5) (N := some 72) (v := ?_) (a' := ?_) #[true, true, true, true, true, true, true, true, true, false, false, false, false, true, false, false] rfl rfl (take_ofW HT_.out HW_.out (by kernel_rfl)) (fun _ _ _ h => h) (Or.inl ⟨by rfl, ?_⟩) hHeld ?_ ?_
      rotate_left
      · rintro w' ⟨s0, s1, s2⟩
        go_simp
        with_reducible rfl
      rotate_left
      · simp only [Act.put, List.setIfInBounds_toArray, List.set_cons_zero, List.set_cons_succ, i64_w, i32_w]
        rfl
      refine take_ (i := 9) (N := some 76) (v := ?_) (a' := ?_) #[true, true, true, true, true, true, true, true, true, true, false, false, false, true, false, false] rfl rfl (take_ofW HT_.out HW_.out (by kernel_rfl)) (fun _ _ _ h => h) (Or.inl ⟨by rfl, ?_⟩) hHeld ?_ ?_
      rotate_left
      · rintro w' ⟨s0, s1, s2⟩
        go_simp
        with_reducible rfl
      rotate_left
      · simp only [Act.put, List.setIfInBounds_toArray, List.set_cons_zero, List.set_cons_succ, i64_w, i32_w]
        rfl
      refine pure_ (i := 10) (N := some 77) (v := ?_) (a' := ?_) #[true, true, true, true, true, true, true, true, true, true, true, false, false, true, false, false] rfl rfl (any_of HT_.out (by kernel_rfl)) (fun _ _ _ h => h) (Or.inl ⟨by rfl, ?_⟩) ?_ ?_
      rotate_left
      · intro w'
        go_simp
        with_reducible rfl
      rotate_left
      · simp only [Act.put, List.setIfInBounds_toArray, List.set_cons_zero, List.set_cons_succ, i64_w, i32_w]
        rfl
      refine pure_ (i := 11) (N := some 78) (v := ?_) (a' := ?_) #[true, true, true, true, true, true, true, true, true, true, true, true, false, true, false, false] rfl rfl (any_of HT_.out (by kernel_rfl)) (fun _ _ _ h => h) (Or.inl ⟨by rfl, ?_⟩) ?_ ?_
      rotate_left
      · intro w'
        go_simp
        with_reducible rfl
      rotate_left
      · simp only [Act.put, List.setIfInBounds_toArray, List.set_cons_zero, List.set_cons_succ, i64_w, i32_w, hif]
        rfl
      refine pure_ (i := 12) (N := some 79) (v := ?_) (a' := ?_) #[true, true, true, true, true, true, true, true, true, true, true, true, true, true, false, false] rfl rfl (any_of HT_.out (by kernel_rfl)) (fun _ _ _ h => h) (Or.inl ⟨by rfl, ?_⟩) ?_ ?_
      rotate_left
      · intro w'
        go_simp
        with_reducible rfl
      rotate_left
      · simp only [Act.put, List.setIfInBounds_toArray, List.set_cons_zero, List.set_cons_succ, i64_w, i32_w]
        rfl
      refine take_ (i := 14) (N := some 81) (v := ?_) (a' := ?_) #[true, true, true, true, true, true, true, true, true, true, true, true, true, true, true, false] rfl rfl (take_ofW HT_.out HW_.out (by kernel_rfl)) (fun _ _ _ h => h) (Or.inl ⟨by rfl, ?_⟩) hHeld ?_ ?_
      rotate_left
      · rintro w' ⟨s0, s1, s2⟩
        go_simp
        with_reducible rfl
      rotate_left
      · simp only [Act.put, List.setIfInBounds_toArray, List.set_cons_zero, List.set_cons_succ, i64_w, i32_w]
        rfl
      refine last_ (i := 15) (N := some 82) #[true, true, true, true, true, true, true, true, true, true, true, true, true, true, true, true] rfl rfl (one_of HT_.out (by kernel_rfl)) (by decide) (fun K hK => ?_)
      obtain ⟨w8, nn, hrun, hd8, hg8⟩ := copy_run (Av := if ce = o then Ae else Option.map (fun x => x.add o) Ae) (cd := cd) (show Kd.R (Kd.int .u8) 5 w6 w0.heap.size (fun k => M k ∧ k ≠ b3) (.slice Ae d1.length ce) d1 from HI12.out.hd) (Kd.C_below HR.out.1 HI12.out.hb) HO.out.2 (fun g ho hg => by subst hg; rw [if_neg (by have := HCE.out; omega)]; simp [Addr.add]; exact fun h => h.symm)
      refine event_step (by rfl) (w1 := w8) (v := goInt nn) ?hr ?_
      (case hr => simp [execOp, resolve, invoke, builtin, Act.eval, hrun, Result.andThen])
      have hb8 : Below w0.heap.size w0 w8 := HI12.out.hb.grown hg8 HI12.out.hb.size (Kd.R_base HI12.out.hd)
      have HI13 := Aside0.mk (FN.writes HI12.out hg8 hb8 hd8)
      have HK13 := Aside0.mk (Kept.of_grown hg8 HK12.out (fun k hk => .inl (HI12.out.hd.1 k hk)))
      have HX13 := Aside0.mk ((hg8.block _ (blk_ltn HX12.out) (own_ne HI12.out.hd HX12.out (by decide))).trans HX12.out)
      clear hrun hd8 hg8 hb8
      refine hK.out _ _ ?_
      clear hK K
      refine norm_ (a' := ?_) ?_ ?_
      rotate_left
      · show Act.put _ (some 82) _ = _
        simp only [Act.put, List.setIfInBounds_toArray, List.set_cons_zero, List.set_cons_succ, i64_w, i32_w]
        rfl
      refine done_ (done_of HT_.out (by kernel_rfl)) ?_
      have HLE := Aside0.mk (show (F.out.eraseIdx i).length + 1 = F.out.length by have := HIL.out; rw [List.length_eraseIdx_of_lt this]; omega)
      have HLD := Aside0.mk (show (lay d1 d o).length ≤ 100000 by have := HL.out; have := HD1.out; have := HAC.out; have := HCD.out; rw [lay_length _ _ _ HO.out.2]; omega)
      have HGF := Aside0.mk (gotF_some HIX.out (show ¬ c < (d.length : Int) by have := HCD.out; omega))
      rw [HMO.out, HD2.out, show min a.toNat d1.length = o by have := HO.out; omega] at HGF
      obtain ⟨F1, hF1⟩ : ∃ F1 : Fs, F1 = { F with out := F.out.eraseIdx i, data := lay d1 d o } := ⟨_, rfl⟩
      rw [← hF1] at HGF
      have HF1 := Aside0.mk hF1
      have HI13 : Aside0 (FN (fun k => M k ∧ k ≠ b3) w0 w8 f n F1 zeroN (.slice (some ⟨g, 0, none⟩) L1 co) (.slice Ae d1.length ce) (.slice none 0 0) (.slice none 0 0)) := ⟨by rw [hF1]; exact HI13.out⟩
      have HFF := Aside0.mk (show F1.fin = F.fin by rw [hF1])
      clear hF1 hif hole hol hol2 hol3 hce
      generalize (if ce = o then Ae else Option.map (fun x => x.add o) Ae) = A9
      have hg0 := (blk_cell HX13.out 0).trans rfl
      have hg1 := (blk_cell HX13.out 1).trans rfl
      have hf2 := (blk_cell HI13.out.hf 2).trans rfl
      have hz2 := blk_frozen HI13.out.hf 2
      by_cases h7 : d.length = 0
      · have e7 : ((d.length : Int) == 0) = true := beq_iff_eq.2 (by omega)
        by_cases h8 : F1.fin < 0
        · have e8 : decide (F1.fin < 0) = true := decide_eq_true h8
          have HCO := Aside0.mk (show d.length = 0 ∧ (F1.fin < 0 ∨ a < F1.fin) from ⟨h7, .inl h8⟩)
          clear h7 h8
          go_upto_region 13 with fail
          go_quiet (fail)
          have HI14 := Aside0.mk (FN.drewN HI13.out nq)
          have HK14 := Aside0.mk (Kept.drewN HK13.out nq)
          have HX14 : Aside0 ((w8.drewN nq).heap[b3]? = some (.cells #[.int .i64 a, .int .i64 c, .slice A d.length cd] 110 (0, 0))) := ⟨HX13.out⟩
          obtain ⟨w9, hw9⟩ : ∃ W, w8.drewN nq = W := ⟨_, rfl⟩
          rw [hw9] at HI14 HK14 HX14 ⊢
          clear hw9 hg0 hg1 hf2 hz2
          have hg0 := (blk_cell HX14.out 0).trans rfl
          have hg1 := (blk_cell HX14.out 1).trans rfl
          have hf2 := (blk_cell HI14.out.hf 2).trans rfl
          have hz2 := blk_frozen HI14.out.hf 2
          go_upto_region 17 with fail
          have HI16 := Aside0.mk (FN.setFin HI14.out a)
          have HK16 := Aside0.mk (Kept.setCell (p := ⟨f, 2, none⟩) HK14.out (.inl HMF.out.1) (.int .i64 a))
          obtain ⟨w11, hw11⟩ : ∃ W, w9.setCell ⟨f, 2, none⟩ (.int .i64 a) = W := ⟨_, rfl⟩
          rw [hw11] at HI16 HK16 ⊢
          clear hw11 hg0 hg1 hf2 hz2
          have HSW := Aside0.mk (show swF F1 a c d.length = ({ F1 with fin := a }, zeroN) from by unfold swF; exact if_pos HCO.out)
          obtain ⟨r9, hr9⟩ : ∃ r, onF ({ F1 with fin := a }) (zeroN) = r := ⟨_, rfl⟩
          have HG := Aside0.mk (show gotF F a c d = r9 by rw [HGF.out, HSW.out]; exact hr9)
          have HON := Aside0.mk (on_calls (fun k => M k ∧ k ≠ b3) w0 _ f n ({ F1 with fin := a }) (zeroN) _ _ _ _ (HM.out _ HK16.out.1) HMF.out.1 HMF.out.2 (by have := HL.out; have := HLE.out; simp only [HF1.out]; omega) (by exact Nat.zero_le _) (by have := HL.out; have := HLD.out; simp only [HF1.out]; omega) (by have := HL.out; simp only [HF1.out]; omega) (by have := HAC.out; show -1 ≤ a; omega) HI16.out)
          rw [hr9] at HON
          clear hr9
          go_wp2_with (go_at_call 62; refine HON.out.mono ?_; rintro e w10 hp10; obtain ⟨vo0, vd0, vw0, vD0, he0, h10, k10⟩ := hp10; subst he0; have HI15 := Aside0.mk h10; have HK15 := Aside0.mk k10; obtain ⟨Aw, cw, hvw⟩ := Kd.R_slice h10.hw; subst hvw; obtain ⟨AD, cD, hvD⟩ := Kd.R_slice h10.hD; subst hvD; have hy0 := (blk_cell HI15.out.hn 0).trans rfl; have hv0 := blk_frozen HI15.out.hn 0; have hy1 := (blk_cell HI15.out.hn 1).trans rfl; have hv1 := blk_frozen HI15.out.hn 1; have hy2 := (blk_cell HI15.out.hn 2).trans rfl; have hv2 := blk_frozen HI15.out.hn 2; have hy3 := (blk_cell HI15.out.hn 3).trans rfl; have hv3 := blk_frozen HI15.out.hn 3; clear h10 k10)
          have HIz := Aside0.mk (FN.self HI15.out r9.2 _ _ HI15.out.hw HI15.out.hD HI15.out.ne1 HI15.out.ne2)
          refine bodyPost_ret (results_cell_row rfl _ _ n 59 _ (0, 0) _ rfl HIz.out.hn Try.underlying59 rfl (by kernel_rfl)) rfl ?_
          rw [HG.out]
          exact .mk n _ _ _ _ rfl (FN.mono HIz.out (fun k hk => hk.1)) (kept_four ((HKW.out.then_ HK16.out (fun k hk => .inl hk.1)).then_ HK15.out (fun k hk => .inl hk.1)) HMF.out.2.1)
        have e8 : decide (F1.fin < 0) = false := decide_eq_false h8
        by_cases h9 : a < F1.fin
        · have e9 : decide (a < F1.fin) = true := decide_eq_true h9
          have HCO := Aside0.mk (show d.length = 0 ∧ (F1.fin < 0 ∨ a < F1.fin) from ⟨h7, .inr h9⟩)
          clear h7 h8 h9
          go_upto_region 13 with fail
          go_quiet (fail)
          have HI14 := Aside0.mk (FN.drewN HI13.out nq)
          have HK14 := Aside0.mk (Kept.drewN HK13.out nq)
          have HX14 : Aside0 ((w8.drewN nq).heap[b3]? = some (.cells #[.int .i64 a, .int .i64 c, .slice A d.length cd] 110 (0, 0))) := ⟨HX13.out⟩
          obtain ⟨w9, hw9⟩ : ∃ W, w8.drewN nq = W := ⟨_, rfl⟩
          rw [hw9] at HI14 HK14 HX14 ⊢
          clear hw9 hg0 hg1 hf2 hz2
          have hg0 := (blk_cell HX14.out 0).trans rfl
          have hg1 := (blk_cell HX14.out 1).trans rfl
          have hf2 := (blk_cell HI14.out.hf 2).trans rfl
          have hz2 := blk_frozen HI14.out.hf 2
          go_upto_region 17 with fail
          have HI16 := Aside0.mk (FN.setFin HI14.out a)
          have HK16 := Aside0.mk (Kept.setCell (p := ⟨f, 2, none⟩) HK14.out (.inl HMF.out.1) (.int .i64 a))
          obtain ⟨w11, hw11⟩ : ∃ W, w9.setCell ⟨f, 2, none⟩ (.int .i64 a) = W := ⟨_, rfl⟩
          rw [hw11] at HI16 HK16 ⊢
          clear hw11 hg0 hg1 hf2 hz2
          have HSW := Aside0.mk (show swF F1 a c d.length = ({ F1 with fin := a }, zeroN) from by unfold swF; exact if_pos HCO.out)
          obtain ⟨r9, hr9⟩ : ∃ r, onF ({ F1 with fin := a }) (zeroN) = r := ⟨_, rfl⟩
          have HG := Aside0.mk (show gotF F a c d = r9 by rw [HGF.out, HSW.out]; exact hr9)
          have HON := Aside0.mk (on_calls (fun k => M k ∧ k ≠ b3) w0 _ f n ({ F1 with fin := a }) (zeroN) _ _ _ _ (HM.out _ HK16.out.1) HMF.out.1 HMF.out.2 (by have := HL.out; have := HLE.out; simp only [HF1.out]; omega) (by exact Nat.zero_le _) (by have := HL.out; have := HLD.out; simp only [HF1.out]; omega) (by have := HL.out; simp only [HF1.out]; omega) (by have := HAC.out; show -1 ≤ a; omega) HI16.out)
          rw [hr9] at HON
          clear hr9
          go_wp2_with (go_at_call 62; refine HON.out.mono ?_; rintro e w10 hp10; obtain ⟨vo0, vd0, vw0, vD0, he0, h10, k10⟩ := hp10; subst he0; have HI15 := Aside0.mk h10; have HK15 := Aside0.mk k10; obtain ⟨Aw, cw, hvw⟩ := Kd.R_slice h10.hw; subst hvw; obtain ⟨AD, cD, hvD⟩ := Kd.R_slice h10.hD; subst hvD; have hy0 := (blk_cell HI15.out.hn 0).trans rfl; have hv0 := blk_frozen HI15.out.hn 0; have hy1 := (blk_cell HI15.out.hn 1).trans rfl; have hv1 := blk_frozen HI15.out.hn 1; have hy2 := (blk_cell HI15.out.hn 2).trans rfl; have hv2 := blk_frozen HI15.out.hn 2; have hy3 := (blk_cell HI15.out.hn 3).trans rfl; have hv3 := blk_frozen HI15.out.hn 3; clear h10 k10)
          have HIz := Aside0.mk (FN.self HI15.out r9.2 _ _ HI15.out.hw HI15.out.hD HI15.out.ne1 HI15.out.ne2)
          refine bodyPost_ret (results_cell_row rfl _ _ n 59 _ (0, 0) _ rfl HIz.out.hn Try.underlying59 rfl (by kernel_rfl)) rfl ?_
          rw [HG.out]
          exact .mk n _ _ _ _ rfl (FN.mono HIz.out (fun k hk => hk.1)) (kept_four ((HKW.out.then_ HK16.out (fun k hk => .inl hk.1)).then_ HK15.out (fun k hk => .inl hk.1)) HMF.out.2.1)
        · have e9 : decide (a < F1.fin) = false := decide_eq_false h9
          have e10 : decide ((0 : Int) < (d.length : Int)) = false := decide_eq_false (by omega)
          have e10b : decide (0 < d.length) = false := decide_eq_false (by omega)
          have HCO := Aside0.mk (show ¬ (d.length = 0 ∧ (F1.fin < 0 ∨ a < F1.fin)) ∧ ¬ (0 < d.length ∧ (d.length : Int) < c) from ⟨fun h => h.2.elim h8 h9, fun h => by omega⟩)
          clear h7 h8 h9
          go_upto_region 13 with fail
          go_quiet (fail)
          have HI14 := Aside0.mk (FN.drewN HI13.out nq)
          have HK14 := Aside0.mk (Kept.drewN HK13.out nq)
          have HX14 : Aside0 ((w8.drewN nq).heap[b3]? = some (.cells #[.int .i64 a, .int .i64 c, .slice A d.length cd] 110 (0, 0))) := ⟨HX13.out⟩
          obtain ⟨w9, hw9⟩ : ∃ W, w8.drewN nq = W := ⟨_, rfl⟩
          rw [hw9] at HI14 HK14 HX14 ⊢
          clear hw9 hg0 hg1 hf2 hz2
          have hg0 := (blk_cell HX14.out 0).trans rfl
          have hg1 := (blk_cell HX14.out 1).trans rfl
          have hf2 := (blk_cell HI14.out.hf 2).trans rfl
          have hz2 := blk_frozen HI14.out.hf 2
          go_upto_region 17 with fail
          clear hg0 hg1 hf2 hz2
          have HSW := Aside0.mk (show swF F1 a c d.length = (F1, zeroN) from by unfold swF; rw [if_neg HCO.out.1, if_neg HCO.out.2])
          obtain ⟨r9, hr9⟩ : ∃ r, onF (F1) (zeroN) = r := ⟨_, rfl⟩
          have HG := Aside0.mk (show gotF F a c d = r9 by rw [HGF.out, HSW.out]; exact hr9)
          have HON := Aside0.mk (on_calls (fun k => M k ∧ k ≠ b3) w0 _ f n (F1) (zeroN) _ _ _ _ (HM.out _ HK14.out.1) HMF.out.1 HMF.out.2 (by have := HL.out; have := HLE.out; simp only [HF1.out]; omega) (by exact Nat.zero_le _) (by have := HL.out; have := HLD.out; simp only [HF1.out]; omega) (by have := HL.out; simp only [HF1.out]; omega) (by have := HL.out; simp only [HF1.out]; omega) HI14.out)
          rw [hr9] at HON
          clear hr9
          go_wp2_with (go_at_call 62; refine HON.out.mono ?_; rintro e w10 hp10; obtain ⟨vo0, vd0, vw0, vD0, he0, h10, k10⟩ := hp10; subst he0; have HI15 := Aside0.mk h10; have HK15 := Aside0.mk k10; obtain ⟨Aw, cw, hvw⟩ := Kd.R_slice h10.hw; subst hvw; obtain ⟨AD, cD, hvD⟩ := Kd.R_slice h10.hD; subst hvD; have hy0 := (blk_cell HI15.out.hn 0).trans rfl; have hv0 := blk_frozen HI15.out.hn 0; have hy1 := (blk_cell HI15.out.hn 1).trans rfl; have hv1 := blk_frozen HI15.out.hn 1; have hy2 := (blk_cell HI15.out.hn 2).trans rfl; have hv2 := blk_frozen HI15.out.hn 2; have hy3 := (blk_cell HI15.out.hn 3).trans rfl; have hv3 := blk_frozen HI15.out.hn 3; clear h10 k10)
          have HIz := Aside0.mk (FN.self HI15.out r9.2 _ _ HI15.out.hw HI15.out.hD HI15.out.ne1 HI15.out.ne2)
          refine bodyPost_ret (results_cell_row rfl _ _ n 59 _ (0, 0) _ rfl HIz.out.hn Try.underlying59 rfl (by kernel_rfl)) rfl ?_
          rw [HG.out]
          exact .mk n _ _ _ _ rfl (FN.mono HIz.out (fun k hk => hk.1)) (kept_four ((HKW.out.then_ HK14.out (fun k hk => .inl hk.1)).then_ HK15.out (fun k hk => .inl hk.1)) HMF.out.2.1)
      · have e7 : ((d.length : Int) == 0) = false := beq_eq_false_iff_ne.2 (by omega)
        have e10 : decide ((0 : Int) < (d.length : Int)) = true := decide_eq_true (by omega)
        have e10b : decide (0 < d.length) = true := decide_eq_true (by omega)
        by_cases h8 : (d.length : Int) < c
        · have e8 : decide ((d.length : Int) < c) = true := decide_eq_true h8
          have HCO := Aside0.mk (show ¬ (d.length = 0 ∧ (F1.fin < 0 ∨ a < F1.fin)) ∧ (0 < d.length ∧ (d.length : Int) < c) from ⟨fun h => h7 h.1, by omega, h8⟩)
          clear h7 h8
          go_upto_region 13 with fail
          go_quiet (fail)
          have HI14 := Aside0.mk (FN.drewN HI13.out nq)
          have HK14 := Aside0.mk (Kept.drewN HK13.out nq)
          have HX14 : Aside0 ((w8.drewN nq).heap[b3]? = some (.cells #[.int .i64 a, .int .i64 c, .slice A d.length cd] 110 (0, 0))) := ⟨HX13.out⟩
          obtain ⟨w9, hw9⟩ : ∃ W, w8.drewN nq = W := ⟨_, rfl⟩
          rw [hw9] at HI14 HK14 HX14 ⊢
          clear hw9 hg0 hg1 hf2 hz2
          have hg0 := (blk_cell HX14.out 0).trans rfl
          have hg1 := (blk_cell HX14.out 1).trans rfl
          have hf2 := (blk_cell HI14.out.hf 2).trans rfl
          have hz2 := blk_frozen HI14.out.hf 2
          have hwa := HWA.out
          have hwc : wrap64 (c - (d.length : Int)) = c - (d.length : Int) := by have := HAC.out; have := HCD.out; unfold wrap64; omega
          have HASK := Aside0.mk (ask_calls (fun k => M k ∧ k ≠ b3) w0 _ f n F1 zeroN _ _ _ _ ⟨a + (d.length : Int), c - (d.length : Int)⟩ (HM.out _ HK14.out.1) HMF.out.1 HMF.out.2 (by have := HL.out; have := HLE.out; simp only [HF1.out]; omega) (Nat.zero_le _) HI14.out)
          go_upto_region 17 with (go_at_call 90; refine HASK.out.mono ?_; rintro e w11 hp11; obtain ⟨vo1, vd1, vw1, vD1, he1, h11, k11⟩ := hp11; subst he1; have HI16 := Aside0.mk h11; have HK16 := Aside0.mk (HK14.out.then_ k11 (fun k hk => .inl hk)); clear h11 k11)
          clear hg0 hg1 hf2 hz2 hwa hwc
          have HSW := Aside0.mk (show swF F1 a c d.length = ({ F1 with out := F1.out ++ [⟨a + (d.length : Int), c - (d.length : Int)⟩] }, { zeroN with wants := [⟨a + (d.length : Int), c - (d.length : Int)⟩] }) from by unfold swF; rw [if_neg HCO.out.1, if_pos HCO.out.2])
          obtain ⟨r9, hr9⟩ : ∃ r, onF ({ F1 with out := F1.out ++ [⟨a + (d.length : Int), c - (d.length : Int)⟩] }) ({ zeroN with wants := [⟨a + (d.length : Int), c - (d.length : Int)⟩] }) = r := ⟨_, rfl⟩
          have HG := Aside0.mk (show gotF F a c d = r9 by rw [HGF.out, HSW.out]; exact hr9)
          have HON := Aside0.mk (on_calls (fun k => M k ∧ k ≠ b3) w0 _ f n ({ F1 with out := F1.out ++ [⟨a + (d.length : Int), c - (d.length : Int)⟩] }) ({ zeroN with wants := [⟨a + (d.length : Int), c - (d.length : Int)⟩] }) _ _ _ _ (HM.out _ HK16.out.1) HMF.out.1 HMF.out.2 (by have := HL.out; have := HLE.out; simp only [HF1.out, List.length_append, List.length_singleton]; omega) (by show 1 ≤ 1000; omega) (by have := HL.out; have := HLD.out; simp only [HF1.out]; omega) (by have := HL.out; simp only [HF1.out]; omega) (by have := HL.out; simp only [HF1.out]; omega) HI16.out)
          rw [hr9] at HON
          clear hr9
          go_wp2_with (go_at_call 62; refine HON.out.mono ?_; rintro e w10 hp10; obtain ⟨vo0, vd0, vw0, vD0, he0, h10, k10⟩ := hp10; subst he0; have HI15 := Aside0.mk h10; have HK15 := Aside0.mk k10; obtain ⟨Aw, cw, hvw⟩ := Kd.R_slice h10.hw; subst hvw; obtain ⟨AD, cD, hvD⟩ := Kd.R_slice h10.hD; subst hvD; have hy0 := (blk_cell HI15.out.hn 0).trans rfl; have hv0 := blk_frozen HI15.out.hn 0; have hy1 := (blk_cell HI15.out.hn 1).trans rfl; have hv1 := blk_frozen HI15.out.hn 1; have hy2 := (blk_cell HI15.out.hn 2).trans rfl; have hv2 := blk_frozen HI15.out.hn 2; have hy3 := (blk_cell HI15.out.hn 3).trans rfl; have hv3 := blk_frozen HI15.out.hn 3; clear h10 k10)
          have HIz := Aside0.mk (FN.self HI15.out r9.2 _ _ HI15.out.hw HI15.out.hD HI15.out.ne1 HI15.out.ne2)
          refine bodyPost_ret (results_cell_row rfl _ _ n 59 _ (0, 0) _ rfl HIz.out.hn Try.underlying59 rfl (by kernel_rfl)) rfl ?_
          rw [HG.out]
          exact .mk n _ _ _ _ rfl (FN.mono HIz.out (fun k hk => hk.1)) (kept_four ((HKW.out.then_ HK16.out (fun k hk => .inl hk.1)).then_ HK15.out (fun k hk => .inl hk.1)) HMF.out.2.1)
        · have e8 : decide ((d.length : Int) < c) = false := decide_eq_false h8
          have HCO := Aside0.mk (show ¬ (d.length = 0 ∧ (F1.fin < 0 ∨ a < F1.fin)) ∧ ¬ (0 < d.length ∧ (d.length : Int) < c) from ⟨fun h => h7 h.1, fun h => h8 h.2⟩)
          clear h7 h8
          go_upto_region 13 with fail
          go_quiet (fail)
          have HI14 := Aside0.mk (FN.drewN HI13.out nq)
          have HK14 := Aside0.mk (Kept.drewN HK13.out nq)
          have HX14 : Aside0 ((w8.drewN nq).heap[b3]? = some (.cells #[.int .i64 a, .int .i64 c, .slice A d.length cd] 110 (0, 0))) := ⟨HX13.out⟩
          obtain ⟨w9, hw9⟩ : ∃ W, w8.drewN nq = W := ⟨_, rfl⟩
          rw [hw9] at HI14 HK14 HX14 ⊢
          clear hw9 hg0 hg1 hf2 hz2
          have hg0 := (blk_cell HX14.out 0).trans rfl
          have hg1 := (blk_cell HX14.out 1).trans rfl
          have hf2 := (blk_cell HI14.out.hf 2).trans rfl
          have hz2 := blk_frozen HI14.out.hf 2
          go_upto_region 17 with fail
          clear hg0 hg1 hf2 hz2
          have HSW := Aside0.mk (show swF F1 a c d.length = (F1, zeroN) from by unfold swF; rw [if_neg HCO.out.1, if_neg HCO.out.2])
          obtain ⟨r9, hr9⟩ : ∃ r, onF (F1) (zeroN) = r := ⟨_, rfl⟩
          have HG := Aside0.mk (show gotF F a c d = r9 by rw [HGF.out, HSW.out]; exact hr9)
          have HON := Aside0.mk (on_calls (fun k => M k ∧ k ≠ b3) w0 _ f n (F1) (zeroN) _ _ _ _ (HM.out _ HK14.out.1) HMF.out.1 HMF.out.2 (by have := HL.out; have := HLE.out; simp only [HF1.out]; omega) (by exact Nat.zero_le _) (by have := HL.out; have := HLD.out; simp only [HF1.out]; omega) (by have := HL.out; simp only [HF1.out]; omega) (by have := HL.out; simp only [HF1.out]; omega) HI14.out)
          rw [hr9] at HON
          clear hr9
          go_wp2_with (go_at_call 62; refine HON.out.mono ?_; rintro e w10 hp10; obtain ⟨vo0, vd0, vw0, vD0, he0, h10, k10⟩ := hp10; subst he0; have HI15 := Aside0.mk h10; have HK15 := Aside0.mk k10; obtain ⟨Aw, cw, hvw⟩ := Kd.R_slice h10.hw; subst hvw; obtain ⟨AD, cD, hvD⟩ := Kd.R_slice h10.hD; subst hvD; have hy0 := (blk_cell HI15.out.hn 0).trans rfl; have hv0 := blk_frozen HI15.out.hn 0; have hy1 := (blk_cell HI15.out.hn 1).trans rfl; have hv1 := blk_frozen HI15.out.hn 1; have hy2 := (blk_cell HI15.out.hn 2).trans rfl; have hv2 := blk_frozen HI15.out.hn 2; have hy3 := (blk_cell HI15.out.hn 3).trans rfl; have hv3 := blk_frozen HI15.out.hn 3; clear h10 k10)
          have HIz := Aside0.mk (FN.self HI15.out r9.2 _ _ HI15.out.hw HI15.out.hD HI15.out.ne1 HI15.out.ne2)
          refine bodyPost_ret (results_cell_row rfl _ _ n 59 _ (0, 0) _ rfl HIz.out.hn Try.underlying59 rfl (by kernel_rfl)) rfl ?_
          rw [HG.out]
          exact .mk n _ _ _ _ rfl (FN.mono HIz.out (fun k hk => hk.1)) (kept_four ((HKW.out.then_ HK14.out (fun k hk => .inl hk.1)).then_ HK15.out (fun k hk => .inl hk.1)) HMF.out.2.1)
end Go.Proofs.Ytkghoodhgihokaa.Fetch
