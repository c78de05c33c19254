/- Fetch: fetcher.on. -/
import Derived.Test.YtkghoodhgihokaaXFetchC
import Derived.Deep.CutRange
namespace Go.Proofs.Ytkghoodhgihokaa.Fetch
open Go.RowKit Go.Lib Go.Proofs.YtkghoodhgihokaaW.PrintWords Go.Proofs.YtkghoodhgihokaaW.PrintLast Go.Proofs.YtkghoodhgihokaaW.PrintMore Go.Proofs.Ytkghoodhgihokaa.HFetchPlays
set_option linter.unusedVariables false
set_option linter.unusedSimpArgs false
/-- It asks on. -/
def goOn (F : Fs) : Bool := decide (F.out.length < 6) && (decide (F.front ≤ 2048) && (decide (F.fin < 0) || decide (F.front < F.fin)))
def askF (F : Fs) (N : Nx) (x : S61) : Fs × Nx := ({ F with out := F.out ++ [x] }, { N with wants := N.wants ++ [x] })
def onL : Nat → Fs → Nx → Fs × Nx
  | 0, F, N => (F, N)
  | k + 1, F, N => if goOn F = true then onL k { F with out := F.out ++ [⟨F.front, 100⟩], front := F.front + 100 } { N with wants := N.wants ++ [⟨F.front, 100⟩] } else (F, N)
/-- What on does. -/
def onF (F : Fs) (N : Nx) : Fs × Nx := if 0 ≤ (onL 6 F N).1.fin ∧ (onL 6 F N).1.out.any (fun x => decide (x.f0 < (onL 6 F N).1.fin)) = false then ((onL 6 F N).1, { (onL 6 F N).2 with done := true, data := (onL 6 F N).1.data.take (min (onL 6 F N).1.fin ((onL 6 F N).1.data.length : Int)).toNat }) else onL 6 F N
theorem onL_stop {F : Fs} {N : Nx} (h : goOn F = false) (k : Nat) : onL k F N = (F, N) := by
  cases k with
  | zero => rfl
  | succ k => show (if goOn F = true then _ else _) = _; rw [if_neg (by rw [h]; decide)]
theorem FN.mono {M : Nat → Prop} {w0 w : World} {f n : Nat} {F : Fs} {N : Nx} {vo vd vw vD : Value} {M' : Nat → Prop} (h : FN M w0 w f n F N vo vd vw vD) (hm : ∀ k, M k → M' k) : FN M' w0 w f n F N vo vd vw vD :=
  ⟨h.hf, h.hn, Kd.R_mono h.ho hm, Kd.R_mono h.hd hm, Kd.R_mono h.hw hm, Kd.R_mono h.hD hm, h.ne1, h.ne2, h.lf, h.ln, h.hb⟩
theorem FN.types {M : Nat → Prop} {w0 w : World} {f n : Nat} {F : Fs} {N : Nx} {vo vd vw vD : Value} (h : FN M w0 w f n F N vo vd vw vD) {g t : Nat} {cells : Array Value} (hb : w.heap[g]? = some (.cells cells t (0, 0))) (h61 : t ≠ 61) (h5 : t ≠ 5) : FN (fun k => M k ∧ k ≠ g) w0 w f n F N vo vd vw vD :=
  ⟨h.hf, h.hn, Kd.R_types h.ho hb (k61_not h61), Kd.R_types h.hd hb (u8_not h5), Kd.R_types h.hw hb (k61_not h61), Kd.R_types h.hD hb (u8_not h5), h.ne1, h.ne2, h.lf, h.ln, h.hb⟩
/-- The front moves. -/
theorem FN.front {M : Nat → Prop} {w0 w : World} {f n : Nat} {F : Fs} {N : Nx} {vo vd vw vD : Value} (h : FN M w0 w f n F N vo vd vw vD) (i : Int) : FN M w0 (w.setCell ⟨f, 1, none⟩ (.int .i64 i)) f n { F with front := i } N vo vd vw vD := by
  have hfn : n ≠ f := by rintro rfl; have h1 := h.hn; rw [h.hf] at h1; cases h1
  exact ⟨blk_set h.hf 1 _, (Below.heap_setCell _ _ _ _ hfn).trans h.hn, Kd.R_set h.ho h.hf (k61_not (by decide)) 1 _, Kd.R_set h.hd h.hf (u8_not (by decide)) 1 _, Kd.R_set h.hw h.hf (k61_not (by decide)) 1 _, Kd.R_set h.hD h.hf (u8_not (by decide)) 1 _, h.ne1, h.ne2, h.lf, h.ln, h.hb.setCell (p := ⟨f, 1, none⟩) h.lf _⟩
theorem FN.drewN {M : Nat → Prop} {w0 w : World} {f n : Nat} {F : Fs} {N : Nx} {vo vd vw vD : Value} (h : FN M w0 w f n F N vo vd vw vD) (m : Nat) : FN M w0 (w.drewN m) f n F N vo vd vw vD := FN.below h ⟨rfl, rfl, rfl, Nat.le_refl _, fun _ _ => rfl⟩
theorem clone_take {w : World} {A : Option Addr} {c : Nat} {xs : List Int} {p : Nat} (h : Kd.C (Kd.int .u8) w A xs.length xs) (hp : p ≤ xs.length) (hc : p ≤ c) (hm : xs.length ≤ 100000) : Calls Try.prog 84 #[.slice A p c] w fun e w' => ∃ v0_ : Value, e = .returned (v0_) ∧ Kd.R (Kd.int .u8) 5 w' w.heap.size (fun _ => True) v0_ (xs.take p) ∧ Below w.heap.size w w' := by
  have hl : (xs.take p).length = p := by rw [List.length_take]; omega
  have h2 := slices_Clone_byte_byte.calls A c (xs.take p) (xs.take p) w (Kd.C_take h hp) (by rw [hl]; exact hc) (by unfold slices_Clone_byte_byte.f; rw [if_pos (by rw [hl]; omega)])
  rw [hl] at h2
  exact h2
/-- All is there: the data are told. -/
theorem FN.done {M : Nat → Prop} {w0 w : World} {f n : Nat} {F : Fs} {N : Nx} {vo vd vw vD : Value} {w' : World} {v' : Value} {d' : List Int} (h : FN M w0 w f n F N vo vd vw vD) (hb : Below w.heap.size w w') (hv : Kd.R (Kd.int .u8) 5 w' w.heap.size (fun _ => True) v' d') (hM : ∀ k, w.heap.size ≤ k → M k) :
    FN M w0 ((w'.setCell ⟨n, 2, none⟩ (.bool true)).setCell ⟨n, 3, none⟩ v') f n F { N with done := true, data := d' } vo vd vw v' := by
  have h1 := FN.below h hb
  have hn1 := blk_set h1.hn 2 (.bool true)
  have hfn : f ≠ n := by rintro rfl; have h2 := h.hn; rw [h.hf] at h2; cases h2
  have hv1 : Kd.R (Kd.int .u8) 5 w' w0.heap.size M v' d' := Kd.R_lower (Kd.R_mono (Kd.R_bound hv) (fun k hk => hM k hk.2.1)) h.hb.size
  refine ⟨(Below.heap_setCell _ _ _ _ hfn).trans ((Below.heap_setCell _ _ _ _ hfn).trans h1.hf), (blk_set hn1 3 v').trans rfl, Kd.R_set (Kd.R_set h1.ho h1.hn (k61_not (by decide)) 2 _) hn1 (k61_not (by decide)) 3 _, Kd.R_set (Kd.R_set h1.hd h1.hn (u8_not (by decide)) 2 _) hn1 (u8_not (by decide)) 3 _, Kd.R_set (Kd.R_set h1.hw h1.hn (k61_not (by decide)) 2 _) hn1 (k61_not (by decide)) 3 _, Kd.R_set (Kd.R_set hv1 h1.hn (u8_not (by decide)) 2 _) hn1 (u8_not (by decide)) 3 _, h1.ne1, ?_, h1.lf, h1.ln, (h1.hb.setCell (p := ⟨n, 2, none⟩) h1.ln _).setCell (p := ⟨n, 3, none⟩) h1.ln _⟩
  intro k hk e
  have l1 := own_lt h.hd hk
  have l2 := ((Kd.R_bound hv).1 k e.symm).2.1
  omega
/-- A fetcher in the loop of on. -/
inductive OnI (M : Nat → Prop) (w0 wS : World) (f n b2 : Nat) (F : Fs) (N : Nx) (w : World) : Prop
  | mk (vo vd vw vD : Value) (h : FN (fun k => M k ∧ k ≠ b2) w0 w f n F N vo vd vw vD) (hk : Kept wS w (fun k => M k ∧ k ≠ b2)) (hx : w.heap[b2]? = some (.cells #[.pointer (some ⟨f, 0, none⟩)] 104 (0, 0)))
def on.T2 : Bool × List (List Nat × List Nat) := (true, [([], []), ([], []), ([], []), ([2], [2]), ([3], [3]), ([4], [4]), ([5], [5]), ([0, 1, 6], [0, 1, 6])])
def on.B2 : List Nat := [0, 0, 0, 4, 12, 28, 60, 127]
theorem on.tab2 : rtab .any (opsOf Try.f62 2) = on.T2 := by kernel_rfl
theorem on.bits2 : waitsOk on.T2.2 on.B2 = true := by kernel_rfl
def on.T6 : Bool × List (List Nat × List Nat) := (true, [([], []), ([], []), ([], []), ([2], [2]), ([3], [3]), ([4], [4]), ([], []), ([6], [6]), ([7], [7]), ([8], [8]), ([], []), ([10], [10]), ([11], [11]), ([12], [12]), ([13], [13]), ([9, 14], [9, 14]), ([5, 15], [5, 15]), ([16], [16]), ([0, 0, 5, 9, 13, 17], [0]), ([18, 0, 5, 9, 13, 17], [18]), ([19, 17, 0, 5, 9, 13, 17], [19]), ([1, 0, 1, 2, 3, 4, 5, 6, 7, 8, 9, 10, 11, 12, 13, 14, 15, 16, 17, 18, 19, 20], [1]), ([21, 0, 1, 2, 3, 4, 5, 6, 7, 8, 9, 10, 11, 12, 13, 14, 15, 16, 17, 18, 19, 20], [21]), ([22, 17, 20, 0, 1, 2, 3, 4, 5, 6, 7, 8, 9, 10, 11, 12, 13, 14, 15, 16, 17, 18, 19, 20], [17, 22])])
def on.B6 : List Nat := [0, 0, 0, 4, 12, 28, 0, 64, 192, 448, 0, 1024, 3072, 7168, 15360, 32704, 65532, 131068, 262141, 524285, 1048573, 2097151, 4194303, 8388607]
theorem on.tab6 : rtab .any (opsOf Try.f62 6) = on.T6 := by kernel_rfl
theorem on.bits6 : waitsOk on.T6.2 on.B6 = true := by kernel_rfl
set_option maxHeartbeats 8000000 in
set_option maxRecDepth 100000 in
theorem on_calls (M : Nat → Prop) (w0 w : World) (f n : Nat) (F : Fs) (N : Nx) (vo vd vw vD : Value) (hM : ∀ k, w.heap.size ≤ k → M k) (hmf : M f) (hmn : M n) (hl1 : F.out.length ≤ 1000) (hl2 : N.wants.length ≤ 1000) (hl3 : F.data.length ≤ 100000) (hfr : 0 ≤ F.front) (hfi : -1 ≤ F.fin) (h : FN M w0 w f n F N vo vd vw vD) :
    Calls Try.prog 62 #[.pointer (some ⟨f, 0, none⟩), .pointer (some ⟨n, 0, none⟩)] w fun e w' => FPost M w0 w f n (onF F N).1 (onF F N).2 e (.tuple #[]) w' := by
  have hx := heap_alloc_new w (.cells #[.pointer (some ⟨f, 0, none⟩)] 104)
  have hB1 := (Below.refl _ w).alloc (Nat.le_refl _) (.cells #[.pointer (some ⟨f, 0, none⟩)] 104)
  have h1 := FN.types (FN.below h hB1) hx (by decide) (by decide)
  have hfb : f ≠ w.heap.size := Nat.ne_of_lt (blk_ltn h.hf)
  have hnb : n ≠ w.heap.size := Nat.ne_of_lt (blk_ltn h.hn)
  have hs1 : w.heap.size ≤ (w.alloc (.cells #[.pointer (some ⟨f, 0, none⟩)] 104)).heap.size := hB1.size
  have hs2 : w.heap.size < (w.alloc (.cells #[.pointer (some ⟨f, 0, none⟩)] 104)).heap.size := by simp
  obtain ⟨W1, hW1⟩ : ∃ W, w.alloc (.cells #[.pointer (some ⟨f, 0, none⟩)] 104) = W := ⟨_, rfl⟩
  obtain ⟨b2, hb2⟩ : ∃ b, w.heap.size = b := ⟨_, rfl⟩
  rw [hW1] at hx h1 hB1 hs1 hs2
  have HB1 := Aside0.mk hB1
  rw [hb2] at hx h1 hfb hnb hs2
  have HM : Aside0 (∀ W : World, W1.heap.size ≤ W.heap.size → ∀ k, W.heap.size ≤ k → M k ∧ k ≠ b2) := ⟨fun W hW k hk => ⟨hM k (by omega), by omega⟩⟩
  have HMF : Aside0 ((M f ∧ f ≠ b2) ∧ (M n ∧ n ≠ b2)) := ⟨⟨hmf, hfb⟩, hmn, hnb⟩
  have HO1 := Aside0.mk (show OnI M w0 W1 f n b2 F N W1 from .mk _ _ _ _ h1 (Kept.refl _ _) hx)
  have HH := Aside0.mk (And.intro hl1 (And.intro hl2 (And.intro hl3 (And.intro hfr hfi))))
  clear hx h1 hB1 hs1 hs2 hfb hnb hl1 hl2 hl3 hfr hfi h hM hmf hmn
  go_enter Try.func62, Try.ntmps62
  go_upto_region 1 with fail
  (try rw [hW1])
  (try rw [hb2])
  clear hW1 hb2
  go_loopg [] 6 (fun g wx => ∃ (F1 : Fs) (N1 : Nx), Aside0 (OnI M w0 W1 f n b2 F1 N1 wx) ∧ Aside0 (onL 6 F N = onL g F1 N1) ∧ Aside0 (6 ≤ F1.out.length + g) ∧ Aside0 (F1.out.length ≤ 1000) ∧ Aside0 (N1.wants.length + g ≤ 1006 ∧ 0 ≤ F1.front ∧ F1.fin = F.fin ∧ F1.data.length ≤ 100000))
  case atStart => exact ⟨F, N, HO1, ⟨rfl⟩, ⟨by omega⟩, ⟨by have := HH.out; omega⟩, ⟨by have := HH.out; omega, HH.out.2.2.2.1, rfl, HH.out.2.2.1⟩⟩
  case round =>
    obtain ⟨F1, N1, HO, HE, HG, HLo, HL⟩ := hrel
    obtain ⟨vo1, vd1, vw1, vD1, h1, hk1, hx1⟩ := HO.out
    have HI := Aside0.mk h1
    have HK := Aside0.mk hk1
    have HX := Aside0.mk hx1
    obtain ⟨A1, c1, hvo⟩ := Kd.R_slice h1.ho
    subst hvo
    have hc0 := (blk_cell h1.hf 0).trans rfl
    have hc1 := (blk_cell h1.hf 1).trans rfl
    have hc2 := (blk_cell h1.hf 2).trans rfl
    have hc3 := (blk_cell h1.hf 3).trans rfl
    have hcx := (blk_cell hx1 0).trans rfl
    clear h1 hk1 hx1
    by_cases h1 : F1.out.length < 6
    case neg =>
      have e1 : decide ((F1.out.length : Int) < 6) = false := decide_eq_false (by omega)
      have e1n : decide (F1.out.length < 6) = false := decide_eq_false h1
      have HON := Aside0.mk (show goOn F1 = false by simp [goOn, h1])
      clear h1
      go_upto_region 1 with fail
      go_quiet (fail)
      have HI2 := Aside0.mk (HI.out.drewN nq)
      have HK2 := Aside0.mk (Kept.drewN HK.out nq)
      have HX2 : Aside0 ((wr.drewN nq).heap[b2]? = some (.cells #[.pointer (some ⟨f, 0, none⟩)] 104 (0, 0))) := ⟨HX.out⟩
      obtain ⟨w2, hw2⟩ : ∃ W, wr.drewN nq = W := ⟨_, rfl⟩
      rw [hw2] at HI2 HK2 HX2 ⊢
      clear hw2 hc0 hc1 hc2 hc3 hcx
      have HE2 := Aside0.mk (show onL 6 F N = (F1, N1) from HE.out.trans (onL_stop HON.out _))
      obtain ⟨Av, cv, hvd⟩ := Kd.R_slice HI2.out.hd
      subst hvd
      have HBX := Aside0.mk (show BoxF w2 b2 f F1.fin from ⟨(blk_cell HX2.out 0).trans rfl, (blk_cell HI2.out.hf 2).trans rfl⟩)
      have hc2 := (blk_cell HI2.out.hf 2).trans rfl
      have hc0 := (blk_cell HI2.out.hf 0).trans rfl
      have hcx := (blk_cell HX2.out 0).trans rfl
      have HCC := Aside0.mk (contains_calls A1 c1 F1.out b2 f F1.fin w2 (Kd.R_reads' HI2.out.ho).2.2 (by have := HLo.out; omega) HBX.out)
      by_cases h5 : 0 ≤ F1.fin
      case neg =>
        have e5 : decide (0 ≤ F1.fin) = false := decide_eq_false h5
        have HR := Aside0.mk (show onF F N = (F1, N1) by unfold onF; rw [HE2.out]; exact if_neg (fun h => h5 h.1))
        clear h5
        go_wp2
        go_end0
        rw [HR.out]
        exact .mk _ _ _ _ rfl (FN.mono HI2.out (fun k hk => hk.1)) ((Kept.of_below HB1.out M).then_ HK2.out (fun k hk => .inl hk.1))
      have e5 : decide (0 ≤ F1.fin) = true := decide_eq_true h5
      obtain ⟨bo, hbo⟩ : ∃ bo, F1.out.any (fun x => decide (x.f0 < F1.fin)) = bo := ⟨_, rfl⟩
      rw [hbo] at HCC
      have HBO := Aside0.mk hbo
      cases bo with
      | true =>
        have HR := Aside0.mk (show onF F N = (F1, N1) by unfold onF; rw [HE2.out]; exact if_neg (fun h => by have h2 := h.2; rw [HBO.out] at h2; cases h2))
        clear h5 hbo
        go_wp2_with (go_at_call 92; (try (refine gate_guard (by rfl) ?_; dsimp only)); refine HCC.out.mono ?_; rintro e w3 ⟨rfl, hb3⟩; have HB3 := Aside0.mk hb3; clear hb3)
        go_end0
        rw [HR.out]
        exact .mk _ _ _ _ rfl (FN.below (FN.mono HI2.out (fun k hk => hk.1)) HB3.out) (((Kept.of_below HB1.out M).then_ HK2.out (fun k hk => .inl hk.1)).below HB3.out)
      | false =>
      have HR := Aside0.mk (show onF F N = (F1, { N1 with done := true, data := F1.data.take (min F1.fin (F1.data.length : Int)).toNat }) by unfold onF; rw [HE2.out]; exact if_pos ⟨h5, HBO.out⟩)
      have HF5 := Aside0.mk h5
      clear h5 hbo
      go_upto_region 6 with (go_at_call 92; (try (refine gate_guard (by rfl) ?_; dsimp only)); refine HCC.out.mono ?_; rintro e w3 ⟨rfl, hb3⟩; have HB3 := Aside0.mk hb3; clear hb3)
      obtain ⟨p, hp⟩ : ∃ p : Nat, min F1.fin (F1.data.length : Int) = (p : Int) := ⟨(min F1.fin (F1.data.length : Int)).toNat, by have := HF5.out; omega⟩
      have hif : (if (F1.data.length : Int) < F1.fin then (F1.data.length : Int) else F1.fin) = (p : Int) := by rw [← hp]; split <;> omega
      have hpl : p ≤ F1.data.length := by omega
      have hdc := (Kd.R_reads' HI2.out.hd).2.1
      have hpc : p ≤ cv := by omega
      have hpc2 : (p : Int) ≤ (cv : Int) := by omega
      have HPT := Aside0.mk (show (min F1.fin (F1.data.length : Int)).toNat = p by rw [hp, Int.toNat_natCast])
      have HPL := Aside0.mk hpl
      have HPC := Aside0.mk hpc
      have HI3 := Aside0.mk (FN.below HI2.out HB3.out)
      have HK3 := Aside0.mk (Kept.below HK2.out HB3.out)
      have HX3 : Aside0 (w3.heap[b2]? = some (.cells #[.pointer (some ⟨f, 0, none⟩)] 104 (0, 0))) := ⟨(HB3.out.block _ (blk_ltn HX2.out)).trans HX2.out⟩
      clear hpl hc0 hc2 hcx
      refine start_ (n := 24) (S := fun w' => w'.cell? ⟨b2, 0, none⟩ = some (.pointer (some ⟨f, 0, none⟩)) ∧ w'.cell? ⟨f, 3, none⟩ = some (.slice Av F1.data.length cv) ∧ w'.cell? ⟨f, 2, none⟩ = some (.int .i64 F1.fin)) (ds := [17, 20, 23]) #[false, false, false, false, false, false, false, false, false, false, false, false, false, false, false, false, false, false, false, false, false, false, false, false] (by kernel_rfl) rfl rfl ⟨(blk_cell HX3.out 0).trans rfl, (blk_cell HI3.out.hf 3).trans rfl, (blk_cell HI3.out.hf 2).trans rfl⟩ (fun hHeld => ?_)
      refine with_tabW on.tab6 on.bits6 (fun HT_ HW_ => ?_)
      have HI4 := Aside0.mk (FN.below HI3.out (below_drew1 (Below.refl _ _)))
      have HK4 := Aside0.mk (Kept.drew HK3.out)
      have HCL : Aside0 (∀ W : World, Below w3.drew.heap.size w3.drew W → Calls Try.prog 84 #[.slice Av p cv] W fun e w' => ∃ v0_ : Value, e = .returned (v0_) ∧ Kd.R (Kd.int .u8) 5 w' W.heap.size (fun _ => True) v0_ (F1.data.take p) ∧ Below W.heap.size W w') := ⟨fun W hW => clone_take (Kd.C_below (Kd.R_reads' HI4.out.hd).2.2 hW) HPL.out HPC.out (by have := HL.out; omega)⟩
      generalize w3.drew = w4 at HI4 HK4 HCL hHeld ⊢
      refine pure_ (i := 0) (N := some 66) (v := ?_) (a' := ?_) #[true, false, false, false, false, false, false, false, false, false, false, false, false, false, false, false, false, false, false, false, false, false, false, false] rfl rfl (any_of HT_.out (by kernel_rfl)) (fun _ _ _ h => h) (Or.inl ⟨by rfl, ?_⟩) ?_ ?_
      rotate_left
      · intro w'
        go_simp
        with_reducible rfl
      rotate_left
      · simp only [Act.put, List.setIfInBounds_toArray, List.set_cons_zero, List.set_cons_succ, i64_w, i32_w]
        rfl
      refine pure_ (i := 1) (N := some 67) (v := ?_) (a' := ?_) #[true, true, false, false, false, false, false, false, false, false, false, false, false, false, false, false, false, false, false, false, false, false, false, false] rfl rfl (any_of HT_.out (by kernel_rfl)) (fun _ _ _ h => h) (Or.inl ⟨by rfl, ?_⟩) ?_ ?_
      rotate_left
      · intro w'
        go_simp
        with_reducible rfl
      rotate_left
      · simp only [Act.put, List.setIfInBounds_toArray, List.set_cons_zero, List.set_cons_succ, i64_w, i32_w]
        rfl
      refine take_ (i := 2) (N := some 68) (v := ?_) (a' := ?_) #[true, true, true, false, false, false, false, false, false, false, false, false, false, false, false, false, false, false, false, false, false, false, false, false] rfl rfl (take_ofW HT_.out HW_.out (by kernel_rfl)) (fun _ _ _ h => h) (Or.inl ⟨by rfl, ?_⟩) hHeld ?_ ?_
      rotate_left
      · rintro w' ⟨s0, s1, s2⟩
        go_simp
        with_reducible rfl
      rotate_left
      · simp only [Act.put, List.setIfInBounds_toArray, List.set_cons_zero, List.set_cons_succ, i64_w, i32_w]
        rfl
      refine pure_ (i := 3) (N := some 69) (v := ?_) (a' := ?_) #[true, true, true, true, false, false, false, false, false, false, false, false, false, false, false, false, false, false, false, false, false, false, false, false] rfl rfl (any_of HT_.out (by kernel_rfl)) (fun _ _ _ h => h) (Or.inl ⟨by rfl, ?_⟩) ?_ ?_
      rotate_left
      · intro w'
        go_simp
        with_reducible rfl
      rotate_left
      · simp only [Act.put, List.setIfInBounds_toArray, List.set_cons_zero, List.set_cons_succ, i64_w, i32_w]
        rfl
      refine pure_ (i := 4) (N := some 70) (v := ?_) (a' := ?_) #[true, true, true, true, true, false, false, false, false, false, false, false, false, false, false, false, false, false, false, false, false, false, false, false] rfl rfl (any_of HT_.out (by kernel_rfl)) (fun _ _ _ h => h) (Or.inl ⟨by rfl, ?_⟩) ?_ ?_
      rotate_left
      · intro w'
        go_simp
        with_reducible rfl
      rotate_left
      · simp only [Act.put, List.setIfInBounds_toArray, List.set_cons_zero, List.set_cons_succ, i64_w, i32_w]
        rfl
      refine take_ (i := 5) (N := some 71) (v := ?_) (a' := ?_) #[true, true, true, true, true, true, false, false, false, false, false, false, false, false, false, false, false, false, false, false, false, false, false, false] rfl rfl (take_ofW HT_.out HW_.out (by kernel_rfl)) (fun _ _ _ h => h) (Or.inl ⟨by rfl, ?_⟩) hHeld ?_ ?_
      rotate_left
      · rintro w' ⟨s0, s1, s2⟩
        go_simp
        with_reducible rfl
      rotate_left
      · simp only [Act.put, List.setIfInBounds_toArray, List.set_cons_zero, List.set_cons_succ, i64_w, i32_w]
        rfl
      refine take_ (i := 6) (N := some 72) (v := ?_) (a' := ?_) #[true, true, true, true, true, true, true, false, false, false, false, false, false, false, false, false, false, false, false, false, false, false, false, false] rfl rfl (take_ofW HT_.out HW_.out (by kernel_rfl)) (fun _ _ _ h => h) (Or.inl ⟨by rfl, ?_⟩) hHeld ?_ ?_
      rotate_left
      · rintro w' ⟨s0, s1, s2⟩
        go_simp
        with_reducible rfl
      rotate_left
      · simp only [Act.put, List.setIfInBounds_toArray, List.set_cons_zero, List.set_cons_succ, i64_w, i32_w]
        rfl
      refine pure_ (i := 7) (N := some 73) (v := ?_) (a' := ?_) #[true, true, true, true, true, true, true, true, false, false, false, false, false, false, false, false, false, false, false, false, false, false, false, false] rfl rfl (any_of HT_.out (by kernel_rfl)) (fun _ _ _ h => h) (Or.inl ⟨by rfl, ?_⟩) ?_ ?_
      rotate_left
      · intro w'
        go_simp
        with_reducible rfl
      rotate_left
      · simp only [Act.put, List.setIfInBounds_toArray, List.set_cons_zero, List.set_cons_succ, i64_w, i32_w]
        rfl
      refine pure_ (i := 8) (N := some 74) (v := ?_) (a' := ?_) #[true, true, true, true, true, true, true, true, true, false, false, false, false, false, false, false, false, false, false, false, false, false, false, false] rfl rfl (any_of HT_.out (by kernel_rfl)) (fun _ _ _ h => h) (Or.inl ⟨by rfl, ?_⟩) ?_ ?_
      rotate_left
      · intro w'
        go_simp
        with_reducible rfl
      rotate_left
      · simp only [Act.put, List.setIfInBounds_toArray, List.set_cons_zero, List.set_cons_succ, i64_w, i32_w]
        rfl
      refine take_ (i := 9) (N := some 75) (v := ?_) (a' := ?_) #[true, true, true, true, true, true, true, true, true, true, false, false, false, false, false, false, false, false, false, false, false, false, false, false] rfl rfl (take_ofW HT_.out HW_.out (by kernel_rfl)) (fun _ _ _ h => h) (Or.inl ⟨by rfl, ?_⟩) hHeld ?_ ?_
      rotate_left
      · rintro w' ⟨s0, s1, s2⟩
        go_simp
        with_reducible rfl
      rotate_left
      · simp only [Act.put, List.setIfInBounds_toArray, List.set_cons_zero, List.set_cons_succ, i64_w, i32_w]
        rfl
      refine take_ (i := 10) (N := some 76) (v := ?_) (a' := ?_) #[true, true, true, true, true, true, true, true, true, true, true, false, false, false, false, false, false, false, false, false, false, false, false, false] rfl rfl (take_ofW HT_.out HW_.out (by kernel_rfl)) (fun _ _ _ h => h) (Or.inl ⟨by rfl, ?_⟩) hHeld ?_ ?_
      rotate_left
      · rintro w' ⟨s0, s1, s2⟩
        go_simp
        with_reducible rfl
      rotate_left
      · simp only [Act.put, List.setIfInBounds_toArray, List.set_cons_zero, List.set_cons_succ, i64_w, i32_w]
        rfl
      refine pure_ (i := 11) (N := some 77) (v := ?_) (a' := ?_) #[true, true, true, true, true, true, true, true, true, true, true, true, false, false, false, false, false, false, false, false, false, false, false, false] rfl rfl (any_of HT_.out (by kernel_rfl)) (fun _ _ _ h => h) (Or.inl ⟨by rfl, ?_⟩) ?_ ?_
      rotate_left
      · intro w'
        go_simp
        with_reducible rfl
      rotate_left
      · simp only [Act.put, List.setIfInBounds_toArray, List.set_cons_zero, List.set_cons_succ, i64_w, i32_w]
        rfl
      refine pure_ (i := 12) (N := some 78) (v := ?_) (a' := ?_) #[true, true, true, true, true, true, true, true, true, true, true, true, true, false, false, false, false, false, false, false, false, false, false, false] rfl rfl (any_of HT_.out (by kernel_rfl)) (fun _ _ _ h => h) (Or.inl ⟨by rfl, ?_⟩) ?_ ?_
      rotate_left
      · intro w'
        go_simp
        with_reducible rfl
      rotate_left
      · simp only [Act.put, List.setIfInBounds_toArray, List.set_cons_zero, List.set_cons_succ, i64_w, i32_w]
        rfl
      refine take_ (i := 13) (N := some 79) (v := ?_) (a' := ?_) #[true, true, true, true, true, true, true, true, true, true, true, true, true, true, false, false, false, false, false, false, false, false, false, false] rfl rfl (take_ofW HT_.out HW_.out (by kernel_rfl)) (fun _ _ _ h => h) (Or.inl ⟨by rfl, ?_⟩) hHeld ?_ ?_
      rotate_left
      · rintro w' ⟨s0, s1, s2⟩
        go_simp
        with_reducible rfl
      rotate_left
      · simp only [Act.put, List.setIfInBounds_toArray, List.set_cons_zero, List.set_cons_succ, i64_w, i32_w]
        rfl
      refine pure_ (i := 14) (N := some 80) (v := ?_) (a' := ?_) #[true, true, true, true, true, true, true, true, true, true, true, true, true, true, true, false, false, false, false, false, false, false, false, false] rfl rfl (any_of HT_.out (by kernel_rfl)) (fun _ _ _ h => h) (Or.inl ⟨by rfl, ?_⟩) ?_ ?_
      rotate_left
      · intro w'
        go_simp
        with_reducible rfl
      rotate_left
      · simp only [Act.put, List.setIfInBounds_toArray, List.set_cons_zero, List.set_cons_succ, i64_w, i32_w]
        rfl
      refine pure_ (i := 15) (N := some 81) (v := ?_) (a' := ?_) #[true, true, true, true, true, true, true, true, true, true, true, true, true, true, true, true, false, false, false, false, false, false, false, false] rfl rfl (any_of HT_.out (by kernel_rfl)) (fun _ _ _ h => h) (Or.inl ⟨by rfl, ?_⟩) ?_ ?_
      rotate_left
      · intro w'
        go_simp
        with_reducible rfl
      rotate_left
      · simp only [Act.put, List.setIfInBounds_toArray, List.set_cons_zero, List.set_cons_succ, i64_w, i32_w, hif]
        rfl
      refine pure_ (i := 16) (N := some 82) (v := ?_) (a' := ?_) #[true, true, true, true, true, true, true, true, true, true, true, true, true, true, true, true, true, false, false, false, false, false, false, false] rfl rfl (any_of HT_.out (by kernel_rfl)) (fun _ _ _ h => h) (Or.inl ⟨by rfl, ?_⟩) ?_ ?_
      rotate_left
      · intro w'
        go_simp
        with_reducible rfl
      rotate_left
      · simp only [Act.put, List.setIfInBounds_toArray, List.set_cons_zero, List.set_cons_succ, i64_w, i32_w]
        rfl
      refine last_ (i := 17) (N := some 83) #[true, true, true, true, true, true, true, true, true, true, true, true, true, true, true, true, true, true, false, false, false, false, false, false] rfl rfl (one_of HT_.out (by kernel_rfl)) (by decide) (fun K hK => ?_)
      refine call_ 84 #[.slice Av p cv] (by rfl) rfl ?hr ?_
      (case hr => first | rfl | (go_simp; done) | (go_simp; rfl))
      refine (HCL.out _ (Below.refl _ _)).mono ?_
      rintro e' w7 ⟨v7, rfl, ho7, hb7⟩
      obtain ⟨A7, c7, e7⟩ := Kd.R_slice ho7
      obtain ⟨L7, hL7⟩ : ∃ L, (F1.data.take p).length = L := ⟨_, rfl⟩
      rw [hL7] at e7
      subst e7
      clear hL7
      have HI7 := Aside0.mk (FN.done HI4.out hb7 ho7 (fun k hk => HM.out _ HK4.out.1 k hk))
      have HK7 := Aside0.mk (Kept.setCell (p := ⟨n, 3, none⟩) (Kept.setCell (p := ⟨n, 2, none⟩) (Kept.below HK4.out hb7) (.inl HMF.out.2) (.bool true)) (.inl HMF.out.2) (.slice A7 L7 c7))
      have hn7 := (hb7.block _ (blk_ltn HI4.out.hn)).trans HI4.out.hn
      have hu72 := (blk_cell hn7 2).trans rfl
      have hz72 := blk_frozen hn7 2
      have hu73 := (blk_cell hn7 3).trans rfl
      have hz73 := blk_frozen hn7 3
      clear hn7 ho7 hb7
      refine ⟨_, rfl, ?_⟩
      refine hK.out _ _ ?_
      clear hK K
      refine norm_ (a' := ?_) ?_ ?_
      rotate_left
      · show Act.put _ (some 83) _ = _
        simp only [Act.put, List.setIfInBounds_toArray, List.set_cons_zero, List.set_cons_succ, i64_w, i32_w]
        rfl
      refine pure_ (i := 18) (N := some 84) (v := ?_) (a' := ?_) #[true, true, true, true, true, true, true, true, true, true, true, true, true, true, true, true, true, true, true, false, false, false, false, false] rfl rfl (any_of HT_.out (by kernel_rfl)) (fun _ _ _ h => h) (Or.inl ⟨by rfl, ?_⟩) ?_ ?_
      rotate_left
      · intro w'
        go_simp
        with_reducible rfl
      rotate_left
      · simp only [Act.put, List.setIfInBounds_toArray, List.set_cons_zero, List.set_cons_succ, i64_w, i32_w]
        rfl
      refine pure_ (i := 19) (N := some 85) (v := ?_) (a' := ?_) #[true, true, true, true, true, true, true, true, true, true, true, true, true, true, true, true, true, true, true, true, false, false, false, false] rfl rfl (any_of HT_.out (by kernel_rfl)) (fun _ _ _ h => h) (Or.inl ⟨by rfl, ?_⟩) ?_ ?_
      rotate_left
      · intro w'
        go_simp
        with_reducible rfl
      rotate_left
      · simp only [Act.put, List.setIfInBounds_toArray, List.set_cons_zero, List.set_cons_succ, i64_w, i32_w]
        rfl
      refine last_ (i := 20) (N := none) #[true, true, true, true, true, true, true, true, true, true, true, true, true, true, true, true, true, true, true, true, true, false, false, false] rfl rfl (one_of HT_.out (by kernel_rfl)) (by decide) (fun K hK => ?_)
      refine skip_ (w1 := ?_) (by rfl) rfl ?_ ?_
      rotate_left
      · go_simp
        rfl
      refine hK.out _ _ ?_
      clear hK K
      refine pure_ (i := 21) (N := some 86) (v := ?_) (a' := ?_) #[true, true, true, true, true, true, true, true, true, true, true, true, true, true, true, true, true, true, true, true, true, true, false, false] rfl rfl (any_of HT_.out (by kernel_rfl)) (fun _ _ _ h => h) (Or.inl ⟨by rfl, ?_⟩) ?_ ?_
      rotate_left
      · intro w'
        go_simp
        with_reducible rfl
      rotate_left
      · simp only [Act.put, List.setIfInBounds_toArray, List.set_cons_zero, List.set_cons_succ, i64_w, i32_w]
        rfl
      refine pure_ (i := 22) (N := some 87) (v := ?_) (a' := ?_) #[true, true, true, true, true, true, true, true, true, true, true, true, true, true, true, true, true, true, true, true, true, true, true, false] rfl rfl (any_of HT_.out (by kernel_rfl)) (fun _ _ _ h => h) (Or.inl ⟨by rfl, ?_⟩) ?_ ?_
      rotate_left
      · intro w'
        go_simp
        with_reducible rfl
      rotate_left
      · simp only [Act.put, List.setIfInBounds_toArray, List.set_cons_zero, List.set_cons_succ, i64_w, i32_w]
        rfl
      refine last_ (i := 23) (N := none) #[true, true, true, true, true, true, true, true, true, true, true, true, true, true, true, true, true, true, true, true, true, true, true, true] rfl rfl (one_of HT_.out (by kernel_rfl)) (by decide) (fun K hK => ?_)
      refine skip_ (w1 := ?_) (by rfl) rfl ?_ ?_
      rotate_left
      · go_simp
        rfl
      refine hK.out _ _ ?_
      clear hK K
      refine done_ (done_of HT_.out (by kernel_rfl)) ?_
      go_wp2
      go_end0
      rw [HR.out, HPT.out]
      exact .mk _ _ _ _ rfl (FN.mono HI7.out (fun k hk => hk.1)) ((Kept.of_below HB1.out M).then_ HK7.out (fun k hk => .inl hk.1))
    have e1 : decide ((F1.out.length : Int) < 6) = true := decide_eq_true (by omega)
    have e1n : decide (F1.out.length < 6) = true := decide_eq_true h1
    by_cases h2 : F1.front ≤ 2048
    case neg =>
      have e2 : decide (F1.front ≤ 2048) = false := decide_eq_false h2
      have HON := Aside0.mk (show goOn F1 = false by simp [goOn, h2])
      clear h1
      go_upto_region 1 with fail
      go_quiet (fail)
      have HI2 := Aside0.mk (HI.out.drewN nq)
      have HK2 := Aside0.mk (Kept.drewN HK.out nq)
      have HX2 : Aside0 ((wr.drewN nq).heap[b2]? = some (.cells #[.pointer (some ⟨f, 0, none⟩)] 104 (0, 0))) := ⟨HX.out⟩
      obtain ⟨w2, hw2⟩ : ∃ W, wr.drewN nq = W := ⟨_, rfl⟩
      rw [hw2] at HI2 HK2 HX2 ⊢
      clear hw2 hc0 hc1 hc2 hc3 hcx
      have HE2 := Aside0.mk (show onL 6 F N = (F1, N1) from HE.out.trans (onL_stop HON.out _))
      obtain ⟨Av, cv, hvd⟩ := Kd.R_slice HI2.out.hd
      subst hvd
      have HBX := Aside0.mk (show BoxF w2 b2 f F1.fin from ⟨(blk_cell HX2.out 0).trans rfl, (blk_cell HI2.out.hf 2).trans rfl⟩)
      have hc2 := (blk_cell HI2.out.hf 2).trans rfl
      have hc0 := (blk_cell HI2.out.hf 0).trans rfl
      have hcx := (blk_cell HX2.out 0).trans rfl
      have HCC := Aside0.mk (contains_calls A1 c1 F1.out b2 f F1.fin w2 (Kd.R_reads' HI2.out.ho).2.2 (by have := HLo.out; omega) HBX.out)
      by_cases h5 : 0 ≤ F1.fin
      case neg =>
        have e5 : decide (0 ≤ F1.fin) = false := decide_eq_false h5
        have HR := Aside0.mk (show onF F N = (F1, N1) by unfold onF; rw [HE2.out]; exact if_neg (fun h => h5 h.1))
        clear h5
        go_wp2
        go_end0
        rw [HR.out]
        exact .mk _ _ _ _ rfl (FN.mono HI2.out (fun k hk => hk.1)) ((Kept.of_below HB1.out M).then_ HK2.out (fun k hk => .inl hk.1))
      have e5 : decide (0 ≤ F1.fin) = true := decide_eq_true h5
      obtain ⟨bo, hbo⟩ : ∃ bo, F1.out.any (fun x => decide (x.f0 < F1.fin)) = bo := ⟨_, rfl⟩
      rw [hbo] at HCC
      have HBO := Aside0.mk hbo
      cases bo with
      | true =>
        have HR := Aside0.mk (show onF F N = (F1, N1) by unfold onF; rw [HE2.out]; exact if_neg (fun h => by have h2 := h.2; rw [HBO.out] at h2; cases h2))
        clear h5 hbo
        go_wp2_with (go_at_call 92; (try (refine gate_guard (by rfl) ?_; dsimp only)); refine HCC.out.mono ?_; rintro e w3 ⟨rfl, hb3⟩; have HB3 := Aside0.mk hb3; clear hb3)
        go_end0
        rw [HR.out]
        exact .mk _ _ _ _ rfl (FN.below (FN.mono HI2.out (fun k hk => hk.1)) HB3.out) (((Kept.of_below HB1.out M).then_ HK2.out (fun k hk => .inl hk.1)).below HB3.out)
      | false =>
      have HR := Aside0.mk (show onF F N = (F1, { N1 with done := true, data := F1.data.take (min F1.fin (F1.data.length : Int)).toNat }) by unfold onF; rw [HE2.out]; exact if_pos ⟨h5, HBO.out⟩)
      have HF5 := Aside0.mk h5
      clear h5 hbo
      go_upto_region 6 with (go_at_call 92; (try (refine gate_guard (by rfl) ?_; dsimp only)); refine HCC.out.mono ?_; rintro e w3 ⟨rfl, hb3⟩; have HB3 := Aside0.mk hb3; clear hb3)
      obtain ⟨p, hp⟩ : ∃ p : Nat, min F1.fin (F1.data.length : Int) = (p : Int) := ⟨(min F1.fin (F1.data.length : Int)).toNat, by have := HF5.out; omega⟩
      have hif : (if (F1.data.length : Int) < F1.fin then (F1.data.length : Int) else F1.fin) = (p : Int) := by rw [← hp]; split <;> omega
      have hpl : p ≤ F1.data.length := by omega
      have hdc := (Kd.R_reads' HI2.out.hd).2.1
      have hpc : p ≤ cv := by omega
      have hpc2 : (p : Int) ≤ (cv : Int) := by omega
      have HPT := Aside0.mk (show (min F1.fin (F1.data.length : Int)).toNat = p by rw [hp, Int.toNat_natCast])
      have HPL := Aside0.mk hpl
      have HPC := Aside0.mk hpc
      have HI3 := Aside0.mk (FN.below HI2.out HB3.out)
      have HK3 := Aside0.mk (Kept.below HK2.out HB3.out)
      have HX3 : Aside0 (w3.heap[b2]? = some (.cells #[.pointer (some ⟨f, 0, none⟩)] 104 (0, 0))) := ⟨(HB3.out.block _ (blk_ltn HX2.out)).trans HX2.out⟩
      clear hpl hc0 hc2 hcx
      refine start_ (n := 24) (S := fun w' => w'.cell? ⟨b2, 0, none⟩ = some (.pointer (some ⟨f, 0, none⟩)) ∧ w'.cell? ⟨f, 3, none⟩ = some (.slice Av F1.data.length cv) ∧ w'.cell? ⟨f, 2, none⟩ = some (.int .i64 F1.fin)) (ds := [17, 20, 23]) #[false, false, false, false, false, false, false, false, false, false, false, false, false, false, false, false, false, false, false, false, false, false, false, false] (by kernel_rfl) rfl rfl ⟨(blk_cell HX3.out 0).trans rfl, (blk_cell HI3.out.hf 3).trans rfl, (blk_cell HI3.out.hf 2).trans rfl⟩ (fun hHeld => ?_)
      refine with_tabW on.tab6 on.bits6 (fun HT_ HW_ => ?_)
      have HI4 := Aside0.mk (FN.below HI3.out (below_drew1 (Below.refl _ _)))
      have HK4 := Aside0.mk (Kept.drew HK3.out)
      have HCL : Aside0 (∀ W : World, Below w3.drew.heap.size w3.drew W → Calls Try.prog 84 #[.slice Av p cv] W fun e w' => ∃ v0_ : Value, e = .returned (v0_) ∧ Kd.R (Kd.int .u8) 5 w' W.heap.size (fun _ => True) v0_ (F1.data.take p) ∧ Below W.heap.size W w') := ⟨fun W hW => clone_take (Kd.C_below (Kd.R_reads' HI4.out.hd).2.2 hW) HPL.out HPC.out (by have := HL.out; omega)⟩
      generalize w3.drew = w4 at HI4 HK4 HCL hHeld ⊢
      refine pure_ (i := 0) (N := some 66) (v := ?_) (a' := ?_) #[true, false, false, false, false, false, false, false, false, false, false, false, false, false, false, false, false, false, false, false, false, false, false, false] rfl rfl (any_of HT_.out (by kernel_rfl)) (fun _ _ _ h => h) (Or.inl ⟨by rfl, ?_⟩) ?_ ?_
      rotate_left
      · intro w'
        go_simp
        with_reducible rfl
      rotate_left
      · simp only [Act.put, List.setIfInBounds_toArray, List.set_cons_zero, List.set_cons_succ, i64_w, i32_w]
        rfl
      refine pure_ (i := 1) (N := some 67) (v := ?_) (a' := ?_) #[true, true, false, false, false, false, false, false, false, false, false, false, false, false, false, false, false, false, false, false, false, false, false, false] rfl rfl (any_of HT_.out (by kernel_rfl)) (fun _ _ _ h => h) (Or.inl ⟨by rfl, ?_⟩) ?_ ?_
      rotate_left
      · intro w'
        go_simp
        with_reducible rfl
      rotate_left
      · simp only [Act.put, List.setIfInBounds_toArray, List.set_cons_zero, List.set_cons_succ, i64_w, i32_w]
        rfl
      refine take_ (i := 2) (N := some 68) (v := ?_) (a' := ?_) #[true, true, true, false, false, false, false, false, false, false, false, false, false, false, false, false, false, false, false, false, false, false, false, false] rfl rfl (take_ofW HT_.out HW_.out (by kernel_rfl)) (fun _ _ _ h => h) (Or.inl ⟨by rfl, ?_⟩) hHeld ?_ ?_
      rotate_left
      · rintro w' ⟨s0, s1, s2⟩
        go_simp
        with_reducible rfl
      rotate_left
      · simp only [Act.put, List.setIfInBounds_toArray, List.set_cons_zero, List.set_cons_succ, i64_w, i32_w]
        rfl
      refine pure_ (i := 3) (N := some 69) (v := ?_) (a' := ?_) #[true, true, true, true, false, false, false, false, false, false, false, false, false, false, false, false, false, false, false, false, false, false, false, false] rfl rfl (any_of HT_.out (by kernel_rfl)) (fun _ _ _ h => h) (Or.inl ⟨by rfl, ?_⟩) ?_ ?_
      rotate_left
      · intro w'
        go_simp
        with_reducible rfl
      rotate_left
      · simp only [Act.put, List.setIfInBounds_toArray, List.set_cons_zero, List.set_cons_succ, i64_w, i32_w]
        rfl
      refine pure_ (i := 4) (N := some 70) (v := ?_) (a' := ?_) #[true, true, true, true, true, false, false, false, false, false, false, false, false, false, false, false, false, false, false, false, false, false, false, false] rfl rfl (any_of HT_.out (by kernel_rfl)) (fun _ _ _ h => h) (Or.inl ⟨by rfl, ?_⟩) ?_ ?_
      rotate_left
      · intro w'
        go_simp
        with_reducible rfl
      rotate_left
      · simp only [Act.put, List.setIfInBounds_toArray, List.set_cons_zero, List.set_cons_succ, i64_w, i32_w]
        rfl
      refine take_ (i := 5) (N := some 71) (v := ?_) (a' := ?_) #[true, true, true, true, true, true, false, false, false, false, false, false, false, false, false, false, false, false, false, false, false, false, false, false] rfl rfl (take_ofW HT_.out HW_.out (by kernel_rfl)) (fun _ _ _ h => h) (Or.inl ⟨by rfl, ?_⟩) hHeld ?_ ?_
      rotate_left
      · rintro w' ⟨s0, s1, s2⟩
        go_simp
        with_reducible rfl
      rotate_left
      · simp only [Act.put, List.setIfInBounds_toArray, List.set_cons_zero, List.set_cons_succ, i64_w, i32_w]
        rfl
      refine take_ (i := 6) (N := some 72) (v := ?_) (a' := ?_) #[true, true, true, true, true, true, true, false, false, false, false, false, false, false, false, false, false, false, false, false, false, false, false, false] rfl rfl (take_ofW HT_.out HW_.out (by kernel_rfl)) (fun _ _ _ h => h) (Or.inl ⟨by rfl, ?_⟩) hHeld ?_ ?_
      rotate_left
      · rintro w' ⟨s0, s1, s2⟩
        go_simp
        with_reducible rfl
      rotate_left
      · simp only [Act.put, List.setIfInBounds_toArray, List.set_cons_zero, List.set_cons_succ, i64_w, i32_w]
        rfl
      refine pure_ (i := 7) (N := some 73) (v := ?_) (a' := ?_) #[true, true, true, true, true, true, true, true, false, false, false, false, false, false, false, false, false, false, false, false, false, false, false, false] rfl rfl (any_of HT_.out (by kernel_rfl)) (fun _ _ _ h => h) (Or.inl ⟨by rfl, ?_⟩) ?_ ?_
      rotate_left
      · intro w'
        go_simp
        with_reducible rfl
      rotate_left
      · simp only [Act.put, List.setIfInBounds_toArray, List.set_cons_zero, List.set_cons_succ, i64_w, i32_w]
        rfl
      refine pure_ (i := 8) (N := some 74) (v := ?_) (a' := ?_) #[true, true, true, true, true, true, true, true, true, false, false, false, false, false, false, false, false, false, false, false, false, false, false, false] rfl rfl (any_of HT_.out (by kernel_rfl)) (fun _ _ _ h => h) (Or.inl ⟨by rfl, ?_⟩) ?_ ?_
      rotate_left
      · intro w'
        go_simp
        with_reducible rfl
      rotate_left
      · simp only [Act.put, List.setIfInBounds_toArray, List.set_cons_zero, List.set_cons_succ, i64_w, i32_w]
        rfl
      refine take_ (i := 9) (N := some 75) (v := ?_) (a' := ?_) #[true, true, true, true, true, true, true, true, true, true, false, false, false, false, false, false, false, false, false, false, false, false, false, false] rfl rfl (take_ofW HT_.out HW_.out (by kernel_rfl)) (fun _ _ _ h => h) (Or.inl ⟨by rfl, ?_⟩) hHeld ?_ ?_
      rotate_left
      · rintro w' ⟨s0, s1, s2⟩
        go_simp
        with_reducible rfl
      rotate_left
      · simp only [Act.put, List.setIfInBounds_toArray, List.set_cons_zero, List.set_cons_succ, i64_w, i32_w]
        rfl
      refine take_ (i := 10) (N := some 76) (v := ?_) (a' := ?_) #[true, true, true, true, true, true, true, true, true, true, true, false, false, false, false, false, false, false, false, false, false, false, false, false] rfl rfl (take_ofW HT_.out HW_.out (by kernel_rfl)) (fun _ _ _ h => h) (Or.inl ⟨by rfl, ?_⟩) hHeld ?_ ?_
      rotate_left
      · rintro w' ⟨s0, s1, s2⟩
        go_simp
        with_reducible rfl
      rotate_left
      · simp only [Act.put, List.setIfInBounds_toArray, List.set_cons_zero, List.set_cons_succ, i64_w, i32_w]
        rfl
      refine pure_ (i := 11) (N := some 77) (v := ?_) (a' := ?_) #[true, true, true, true, true, true, true, true, true, true, true, true, false, false, false, false, false, false, false, false, false, false, false, false] rfl rfl (any_of HT_.out (by kernel_rfl)) (fun _ _ _ h => h) (Or.inl ⟨by rfl, ?_⟩) ?_ ?_
      rotate_left
      · intro w'
        go_simp
        with_reducible rfl
      rotate_left
      · simp only [Act.put, List.setIfInBounds_toArray, List.set_cons_zero, List.set_cons_succ, i64_w, i32_w]
        rfl
      refine pure_ (i := 12) (N := some 78) (v := ?_) (a' := ?_) #[true, true, true, true, true, true, true, true, true, true, true, true, true, false, false, false, false, false, false, false, false, false, false, false] rfl rfl (any_of HT_.out (by kernel_rfl)) (fun _ _ _ h => h) (Or.inl ⟨by rfl, ?_⟩) ?_ ?_
      rotate_left
      · intro w'
        go_simp
        with_reducible rfl
      rotate_left
      · simp only [Act.put, List.setIfInBounds_toArray, List.set_cons_zero, List.set_cons_succ, i64_w, i32_w]
        rfl
      refine take_ (i := 13) (N := some 79) (v := ?_) (a' := ?_) #[true, true, true, true, true, true, true, true, true, true, true, true, true, true, false, false, false, false, false, false, false, false, false, false] rfl rfl (take_ofW HT_.out HW_.out (by kernel_rfl)) (fun _ _ _ h => h) (Or.inl ⟨by rfl, ?_⟩) hHeld ?_ ?_
      rotate_left
      · rintro w' ⟨s0, s1, s2⟩
        go_simp
        with_reducible rfl
      rotate_left
      · simp only [Act.put, List.setIfInBounds_toArray, List.set_cons_zero, List.set_cons_succ, i64_w, i32_w]
        rfl
      refine pure_ (i := 14) (N := some 80) (v := ?_) (a' := ?_) #[true, true, true, true, true, true, true, true, true, true, true, true, true, true, true, false, false, false, false, false, false, false, false, false] rfl rfl (any_of HT_.out (by kernel_rfl)) (fun _ _ _ h => h) (Or.inl ⟨by rfl, ?_⟩) ?_ ?_
      rotate_left
      · intro w'
        go_simp
        with_reducible rfl
      rotate_left
      · simp only [Act.put, List.setIfInBounds_toArray, List.set_cons_zero, List.set_cons_succ, i64_w, i32_w]
        rfl
      refine pure_ (i := 15) (N := some 81) (v := ?_) (a' := ?_) #[true, true, true, true, true, true, true, true, true, true, true, true, true, true, true, true, false, false, false, false, false, false, false, false] rfl rfl (any_of HT_.out (by kernel_rfl)) (fun _ _ _ h => h) (Or.inl ⟨by rfl, ?_⟩) ?_ ?_
      rotate_left
      · intro w'
        go_simp
        with_reducible rfl
      rotate_left
      · simp only [Act.put, List.setIfInBounds_toArray, List.set_cons_zero, List.set_cons_succ, i64_w, i32_w, hif]
        rfl
      refine pure_ (i := 16) (N := some 82) (v := ?_) (a' := ?_) #[true, true, true, true, true, true, true, true, true, true, true, true, true, true, true, true, true, false, false, false, false, false, false, false] rfl rfl (any_of HT_.out (by kernel_rfl)) (fun _ _ _ h => h) (Or.inl ⟨by rfl, ?_⟩) ?_ ?_
      rotate_left
      · intro w'
        go_simp
        with_reducible rfl
      rotate_left
      · simp only [Act.put, List.setIfInBounds_toArray, List.set_cons_zero, List.set_cons_succ, i64_w, i32_w]
        rfl
      refine last_ (i := 17) (N := some 83) #[true, true, true, true, true, true, true, true, true, true, true, true, true, true, true, true, true, true, false, false, false, false, false, false] rfl rfl (one_of HT_.out (by kernel_rfl)) (by decide) (fun K hK => ?_)
      refine call_ 84 #[.slice Av p cv] (by rfl) rfl ?hr ?_
      (case hr => first | rfl | (go_simp; done) | (go_simp; rfl))
      refine (HCL.out _ (Below.refl _ _)).mono ?_
      rintro e' w7 ⟨v7, rfl, ho7, hb7⟩
      obtain ⟨A7, c7, e7⟩ := Kd.R_slice ho7
      obtain ⟨L7, hL7⟩ : ∃ L, (F1.data.take p).length = L := ⟨_, rfl⟩
      rw [hL7] at e7
      subst e7
      clear hL7
      have HI7 := Aside0.mk (FN.done HI4.out hb7 ho7 (fun k hk => HM.out _ HK4.out.1 k hk))
      have HK7 := Aside0.mk (Kept.setCell (p := ⟨n, 3, none⟩) (Kept.setCell (p := ⟨n, 2, none⟩) (Kept.below HK4.out hb7) (.inl HMF.out.2) (.bool true)) (.inl HMF.out.2) (.slice A7 L7 c7))
      have hn7 := (hb7.block _ (blk_ltn HI4.out.hn)).trans HI4.out.hn
      have hu72 := (blk_cell hn7 2).trans rfl
      have hz72 := blk_frozen hn7 2
      have hu73 := (blk_cell hn7 3).trans rfl
      have hz73 := blk_frozen hn7 3
      clear hn7 ho7 hb7
      refine ⟨_, rfl, ?_⟩
      refine hK.out _ _ ?_
      clear hK K
      refine norm_ (a' := ?_) ?_ ?_
      rotate_left
      · show Act.put _ (some 83) _ = _
        simp only [Act.put, List.setIfInBounds_toArray, List.set_cons_zero, List.set_cons_succ, i64_w, i32_w]
        rfl
      refine pure_ (i := 18) (N := some 84) (v := ?_) (a' := ?_) #[true, true, true, true, true, true, true, true, true, true, true, true, true, true, true, true, true, true, true, false, false, false, false, false] rfl rfl (any_of HT_.out (by kernel_rfl)) (fun _ _ _ h => h) (Or.inl ⟨by rfl, ?_⟩) ?_ ?_
      rotate_left
      · intro w'
        go_simp
        with_reducible rfl
      rotate_left
      · simp only [Act.put, List.setIfInBounds_toArray, List.set_cons_zero, List.set_cons_succ, i64_w, i32_w]
        rfl
      refine pure_ (i := 19) (N := some 85) (v := ?_) (a' := ?_) #[true, true, true, true, true, true, true, true, true, true, true, true, true, true, true, true, true, true, true, true, false, false, false, false] rfl rfl (any_of HT_.out (by kernel_rfl)) (fun _ _ _ h => h) (Or.inl ⟨by rfl, ?_⟩) ?_ ?_
      rotate_left
      · intro w'
        go_simp
        with_reducible rfl
      rotate_left
      · simp only [Act.put, List.setIfInBounds_toArray, List.set_cons_zero, List.set_cons_succ, i64_w, i32_w]
        rfl
      refine last_ (i := 20) (N := none) #[true, true, true, true, true, true, true, true, true, true, true, true, true, true, true, true, true, true, true, true, true, false, false, false] rfl rfl (one_of HT_.out (by kernel_rfl)) (by decide) (fun K hK => ?_)
      refine skip_ (w1 := ?_) (by rfl) rfl ?_ ?_
      rotate_left
      · go_simp
        rfl
      refine hK.out _ _ ?_
      clear hK K
      refine pure_ (i := 21) (N := some 86) (v := ?_) (a' := ?_) #[true, true, true, true, true, true, true, true, true, true, true, true, true, true, true, true, true, true, true, true, true, true, false, false] rfl rfl (any_of HT_.out (by kernel_rfl)) (fun _ _ _ h => h) (Or.inl ⟨by rfl, ?_⟩) ?_ ?_
      rotate_left
      · intro w'
        go_simp
        with_reducible rfl
      rotate_left
      · simp only [Act.put, List.setIfInBounds_toArray, List.set_cons_zero, List.set_cons_succ, i64_w, i32_w]
        rfl
      refine pure_ (i := 22) (N := some 87) (v := ?_) (a' := ?_) #[true, true, true, true, true, true, true, true, true, true, true, true, true, true, true, true, true, true, true, true, true, true, true, false] rfl rfl (any_of HT_.out (by kernel_rfl)) (fun _ _ _ h => h) (Or.inl ⟨by rfl, ?_⟩) ?_ ?_
      rotate_left
      · intro w'
        go_simp
        with_reducible rfl
      rotate_left
      · simp only [Act.put, List.setIfInBounds_toArray, List.set_cons_zero, List.set_cons_succ, i64_w, i32_w]
        rfl
      refine last_ (i := 23) (N := none) #[true, true, true, true, true, true, true, true, true, true, true, true, true, true, true, true, true, true, true, true, true, true, true, true] rfl rfl (one_of HT_.out (by kernel_rfl)) (by decide) (fun K hK => ?_)
      refine skip_ (w1 := ?_) (by rfl) rfl ?_ ?_
      rotate_left
      · go_simp
        rfl
      refine hK.out _ _ ?_
      clear hK K
      refine done_ (done_of HT_.out (by kernel_rfl)) ?_
      go_wp2
      go_end0
      rw [HR.out, HPT.out]
      exact .mk _ _ _ _ rfl (FN.mono HI7.out (fun k hk => hk.1)) ((Kept.of_below HB1.out M).then_ HK7.out (fun k hk => .inl hk.1))
    have e2 : decide (F1.front ≤ 2048) = true := decide_eq_true h2
    by_cases h3 : F1.fin < 0
    case pos =>
      have e3 : decide (F1.fin < 0) = true := decide_eq_true h3
      have HON := Aside0.mk (show goOn F1 = true by simp [goOn, h1, h2, h3])
      cases gk with
      | zero => exact absurd HG.out (by omega)
      | succ gk =>
      have HO2 := Aside0.mk (And.intro h1 h2)
      have hwk : wrap64 (F1.front + 100) = F1.front + 100 := by have := HL.out; unfold wrap64; omega
      have HWK := Aside0.mk hwk
      clear hwk h1 h2
      go_upto_region 1 with fail
      go_quiet (fail)
      have HI2 := Aside0.mk (HI.out.drewN nq)
      have HK2 := Aside0.mk (Kept.drewN HK.out nq)
      have HX2 : Aside0 ((wr.drewN nq).heap[b2]? = some (.cells #[.pointer (some ⟨f, 0, none⟩)] 104 (0, 0))) := ⟨HX.out⟩
      obtain ⟨w2, hw2⟩ : ∃ W, wr.drewN nq = W := ⟨_, rfl⟩
      rw [hw2] at HI2 HK2 HX2 ⊢
      clear hw2 hc0 hc1 hc2 hc3 hcx
      go_upto_region 2 with fail
      refine start_ (n := 8) (S := fun w' => w'.cell? ⟨b2, 0, none⟩ = some (.pointer (some ⟨f, 0, none⟩)) ∧ w'.cell? ⟨f, 1, none⟩ = some (.int .i64 F1.front)) (ds := [7]) #[false, false, false, false, false, false, false, false] (by kernel_rfl) rfl rfl ⟨(blk_cell HX2.out 0).trans rfl, (blk_cell HI2.out.hf 1).trans rfl⟩ (fun hHeld => ?_)
      refine with_tabW on.tab2 on.bits2 (fun HT_ HW_ => ?_)
      have HI3 := Aside0.mk (FN.below HI2.out (below_drew1 (Below.refl _ _)))
      have HK3 := Aside0.mk (Kept.drew HK2.out)
      have HX3 : Aside0 (w2.drew.heap[b2]? = some (.cells #[.pointer (some ⟨f, 0, none⟩)] 104 (0, 0))) := ⟨HX2.out⟩
      generalize w2.drew = w3 at HI3 HK3 HX3 hHeld ⊢
      refine pure_ (i := 1) (N := some 37) (v := ?_) (a' := ?_) #[false, true, false, false, false, false, false, false] rfl rfl (any_of HT_.out (by kernel_rfl)) (fun _ _ _ h => h) (Or.inl ⟨by rfl, ?_⟩) ?_ ?_
      rotate_left
      · intro w'
        go_simp
        with_reducible rfl
      rotate_left
      · simp only [Act.put, List.setIfInBounds_toArray, List.set_cons_zero, List.set_cons_succ, i64_w, i32_w]
        rfl
      refine take_ (i := 0) (N := some 36) (v := ?_) (a' := ?_) #[true, true, false, false, false, false, false, false] rfl rfl (take_ofW HT_.out HW_.out (by kernel_rfl)) (fun _ _ _ h => h) (Or.inl ⟨by rfl, ?_⟩) hHeld ?_ ?_
      rotate_left
      · rintro w' ⟨s0, s1⟩
        go_simp
        with_reducible rfl
      rotate_left
      · simp only [Act.put, List.setIfInBounds_toArray, List.set_cons_zero, List.set_cons_succ, i64_w, i32_w]
        rfl
      refine take_ (i := 2) (N := some 38) (v := ?_) (a' := ?_) #[true, true, true, false, false, false, false, false] rfl rfl (take_ofW HT_.out HW_.out (by kernel_rfl)) (fun _ _ _ h => h) (Or.inl ⟨by rfl, ?_⟩) hHeld ?_ ?_
      rotate_left
      · rintro w' ⟨s0, s1⟩
        go_simp
        with_reducible rfl
      rotate_left
      · simp only [Act.put, List.setIfInBounds_toArray, List.set_cons_zero, List.set_cons_succ, i64_w, i32_w]
        rfl
      refine pure_ (i := 3) (N := some 39) (v := ?_) (a' := ?_) #[true, true, true, true, false, false, false, false] rfl rfl (any_of HT_.out (by kernel_rfl)) (fun _ _ _ h => h) (Or.inl ⟨by rfl, ?_⟩) ?_ ?_
      rotate_left
      · intro w'
        go_simp
        with_reducible rfl
      rotate_left
      · simp only [Act.put, List.setIfInBounds_toArray, List.set_cons_zero, List.set_cons_succ, i64_w, i32_w]
        rfl
      refine pure_ (i := 4) (N := some 40) (v := ?_) (a' := ?_) #[true, true, true, true, true, false, false, false] rfl rfl (any_of HT_.out (by kernel_rfl)) (fun _ _ _ h => h) (Or.inl ⟨by rfl, ?_⟩) ?_ ?_
      rotate_left
      · intro w'
        go_simp
        with_reducible rfl
      rotate_left
      · simp only [Act.put, List.setIfInBounds_toArray, List.set_cons_zero, List.set_cons_succ, i64_w, i32_w]
        rfl
      refine take_ (i := 5) (N := some 41) (v := ?_) (a' := ?_) #[true, true, true, true, true, true, false, false] rfl rfl (take_ofW HT_.out HW_.out (by kernel_rfl)) (fun _ _ _ h => h) (Or.inl ⟨by rfl, ?_⟩) hHeld ?_ ?_
      rotate_left
      · rintro w' ⟨s0, s1⟩
        go_simp
        with_reducible rfl
      rotate_left
      · simp only [Act.put, List.setIfInBounds_toArray, List.set_cons_zero, List.set_cons_succ, i64_w, i32_w]
        rfl
      refine pure_ (i := 6) (N := some 42) (v := ?_) (a' := ?_) #[true, true, true, true, true, true, true, false] rfl rfl (any_of HT_.out (by kernel_rfl)) (fun _ _ _ h => h) (Or.inl ⟨by rfl, ?_⟩) ?_ ?_
      rotate_left
      · intro w'
        go_simp
        with_reducible rfl
      rotate_left
      · simp only [Act.put, List.setIfInBounds_toArray, List.set_cons_zero, List.set_cons_succ, i64_w, i32_w]
        rfl
      refine last_ (i := 7) (N := some 43) #[true, true, true, true, true, true, true, true] rfl rfl (one_of HT_.out (by kernel_rfl)) (by decide) (fun K hK => ?_)
      refine call_ 90 #[.pointer (some ⟨f, 0, none⟩), .pointer (some ⟨n, 0, none⟩), .agg #[.int .i64 F1.front, .int .i64 100]] (by rfl) rfl ?hr ?_
      (case hr => first | rfl | (go_simp; done) | (go_simp; rfl))
      refine (ask_calls (fun k => M k ∧ k ≠ b2) w0 _ f n F1 N1 _ _ _ _ ⟨F1.front, 100⟩ (HM.out _ HK3.out.1) HMF.out.1 HMF.out.2 (by have := HO2.out; omega) (by have := HL.out; omega) HI3.out).mono ?_
      rintro e' w7 ⟨vo7, vd7, vw7, vD7, rfl, h7, k7⟩
      have HX7 := Aside0.mk ((k7.2 b2 (blk_ltn HX3.out) (fun h => h.2 rfl)).trans HX3.out)
      have HK7 := Aside0.mk (HK3.out.then_ k7 (fun k hk => .inl hk))
      have HF7 := Aside0.mk (show ∃ vo vd vw vD, FN (fun k => M k ∧ k ≠ b2) w0 w7 f n { F1 with out := F1.out ++ [⟨F1.front, 100⟩] } { N1 with wants := N1.wants ++ [⟨F1.front, 100⟩] } vo vd vw vD from ⟨_, _, _, _, h7⟩)
      clear h7 k7
      refine ⟨_, rfl, ?_⟩
      refine hK.out _ _ ?_
      clear hK K
      refine norm_ (a' := ?_) ?_ ?_
      rotate_left
      · show Act.put _ (some 43) _ = _
        simp only [Act.put, List.setIfInBounds_toArray, List.set_cons_zero, List.set_cons_succ, i64_w, i32_w]
        rfl
      refine done_ (done_of HT_.out (by kernel_rfl)) ?_
      obtain ⟨vo7, vd7, vw7, vD7, h7⟩ := HF7.out
      have HI7 := Aside0.mk h7
      have hcx7 := (blk_cell HX7.out 0).trans rfl
      have hc17 := (blk_cell h7.hf 1).trans rfl
      have hz17 := blk_frozen h7.hf 1
      have hwk := HWK.out
      have hne := HMF.out.1.2
      clear h7
      go_wp2
      go_roundg gk
      case measure => omega
      case rel => exact ⟨{ F1 with out := F1.out ++ [⟨F1.front, 100⟩], front := F1.front + 100 }, { N1 with wants := N1.wants ++ [⟨F1.front, 100⟩] }, ⟨.mk _ _ _ _ (FN.front HI7.out (F1.front + 100)) (Kept.setCell (p := ⟨f, 1, none⟩) HK7.out (.inl HMF.out.1) _) ((Below.heap_setCell _ _ _ _ (fun e => HMF.out.1.2 e.symm)).trans HX7.out)⟩, ⟨by rw [HE.out]; show (if goOn F1 = true then _ else _) = _; rw [if_pos HON.out]⟩, ⟨by rw [List.length_append]; have := HG.out; simp only [List.length_singleton]; omega⟩, ⟨by have := HO2.out; show (F1.out ++ _).length ≤ _; rw [List.length_append]; simp only [List.length_singleton]; omega⟩, ⟨by have := HL.out; have := HO2.out; rw [List.length_append]; simp only [List.length_singleton]; omega⟩⟩
    have e3 : decide (F1.fin < 0) = false := decide_eq_false h3
    by_cases h4 : F1.front < F1.fin
    · have e4 : decide (F1.front < F1.fin) = true := decide_eq_true h4
      have HON := Aside0.mk (show goOn F1 = true by simp [goOn, h1, h2, h4])
      cases gk with
      | zero => exact absurd HG.out (by omega)
      | succ gk =>
      have HO2 := Aside0.mk (And.intro h1 h2)
      have hwk : wrap64 (F1.front + 100) = F1.front + 100 := by have := HL.out; unfold wrap64; omega
      have HWK := Aside0.mk hwk
      clear hwk h1 h2
      go_upto_region 1 with fail
      go_quiet (fail)
      have HI2 := Aside0.mk (HI.out.drewN nq)
      have HK2 := Aside0.mk (Kept.drewN HK.out nq)
      have HX2 : Aside0 ((wr.drewN nq).heap[b2]? = some (.cells #[.pointer (some ⟨f, 0, none⟩)] 104 (0, 0))) := ⟨HX.out⟩
      obtain ⟨w2, hw2⟩ : ∃ W, wr.drewN nq = W := ⟨_, rfl⟩
      rw [hw2] at HI2 HK2 HX2 ⊢
      clear hw2 hc0 hc1 hc2 hc3 hcx
      go_upto_region 2 with fail
      refine start_ (n := 8) (S := fun w' => w'.cell? ⟨b2, 0, none⟩ = some (.pointer (some ⟨f, 0, none⟩)) ∧ w'.cell? ⟨f, 1, none⟩ = some (.int .i64 F1.front)) (ds := [7]) #[false, false, false, false, false, false, false, false] (by kernel_rfl) rfl rfl ⟨(blk_cell HX2.out 0).trans rfl, (blk_cell HI2.out.hf 1).trans rfl⟩ (fun hHeld => ?_)
      refine with_tabW on.tab2 on.bits2 (fun HT_ HW_ => ?_)
      have HI3 := Aside0.mk (FN.below HI2.out (below_drew1 (Below.refl _ _)))
      have HK3 := Aside0.mk (Kept.drew HK2.out)
      have HX3 : Aside0 (w2.drew.heap[b2]? = some (.cells #[.pointer (some ⟨f, 0, none⟩)] 104 (0, 0))) := ⟨HX2.out⟩
      generalize w2.drew = w3 at HI3 HK3 HX3 hHeld ⊢
      refine pure_ (i := 1) (N := some 37) (v := ?_) (a' := ?_) #[false, true, false, false, false, false, false, false] rfl rfl (any_of HT_.out (by kernel_rfl)) (fun _ _ _ h => h) (Or.inl ⟨by rfl, ?_⟩) ?_ ?_
      rotate_left
      · intro w'
        go_simp
        with_reducible rfl
      rotate_left
      · simp only [Act.put, List.setIfInBounds_toArray, List.set_cons_zero, List.set_cons_succ, i64_w, i32_w]
        rfl
      refine take_ (i := 0) (N := some 36) (v := ?_) (a' := ?_) #[true, true, false, false, false, false, false, false] rfl rfl (take_ofW HT_.out HW_.out (by kernel_rfl)) (fun _ _ _ h => h) (Or.inl ⟨by rfl, ?_⟩) hHeld ?_ ?_
      rotate_left
      · rintro w' ⟨s0, s1⟩
        go_simp
        with_reducible rfl
      rotate_left
      · simp only [Act.put, List.setIfInBounds_toArray, List.set_cons_zero, List.set_cons_succ, i64_w, i32_w]
        rfl
      refine take_ (i := 2) (N := some 38) (v := ?_) (a' := ?_) #[true, true, true, false, false, false, false, false] rfl rfl (take_ofW HT_.out HW_.out (by kernel_rfl)) (fun _ _ _ h => h) (Or.inl ⟨by rfl, ?_⟩) hHeld ?_ ?_
      rotate_left
      · rintro w' ⟨s0, s1⟩
        go_simp
        with_reducible rfl
      rotate_left
      · simp only [Act.put, List.setIfInBounds_toArray, List.set_cons_zero, List.set_cons_succ, i64_w, i32_w]
        rfl
      refine pure_ (i := 3) (N := some 39) (v := ?_) (a' := ?_) #[true, true, true, true, false, false, false, false] rfl rfl (any_of HT_.out (by kernel_rfl)) (fun _ _ _ h => h) (Or.inl ⟨by rfl, ?_⟩) ?_ ?_
      rotate_left
      · intro w'
        go_simp
        with_reducible rfl
      rotate_left
      · simp only [Act.put, List.setIfInBounds_toArray, List.set_cons_zero, List.set_cons_succ, i64_w, i32_w]
        rfl
      refine pure_ (i := 4) (N := some 40) (v := ?_) (a' := ?_) #[true, true, true, true, true, false, false, false] rfl rfl (any_of HT_.out (by kernel_rfl)) (fun _ _ _ h => h) (Or.inl ⟨by rfl, ?_⟩) ?_ ?_
      rotate_left
      · intro w'
        go_simp
        with_reducible rfl
      rotate_left
      · simp only [Act.put, List.setIfInBounds_toArray, List.set_cons_zero, List.set_cons_succ, i64_w, i32_w]
        rfl
      refine take_ (i := 5) (N := some 41) (v := ?_) (a' := ?_) #[true, true, true, true, true, true, false, false] rfl rfl (take_ofW HT_.out HW_.out (by kernel_rfl)) (fun _ _ _ h => h) (Or.inl ⟨by rfl, ?_⟩) hHeld ?_ ?_
      rotate_left
      · rintro w' ⟨s0, s1⟩
        go_simp
        with_reducible rfl
      rotate_left
      · simp only [Act.put, List.setIfInBounds_toArray, List.set_cons_zero, List.set_cons_succ, i64_w, i32_w]
        rfl
      refine pure_ (i := 6) (N := some 42) (v := ?_) (a' := ?_) #[true, true, true, true, true, true, true, false] rfl rfl (any_of HT_.out (by kernel_rfl)) (fun _ _ _ h => h) (Or.inl ⟨by rfl, ?_⟩) ?_ ?_
      rotate_left
      · intro w'
        go_simp
        with_reducible rfl
      rotate_left
      · simp only [Act.put, List.setIfInBounds_toArray, List.set_cons_zero, List.set_cons_succ, i64_w, i32_w]
        rfl
      refine last_ (i := 7) (N := some 43) #[true, true, true, true, true, true, true, true] rfl rfl (one_of HT_.out (by kernel_rfl)) (by decide) (fun K hK => ?_)
      refine call_ 90 #[.pointer (some ⟨f, 0, none⟩), .pointer (some ⟨n, 0, none⟩), .agg #[.int .i64 F1.front, .int .i64 100]] (by rfl) rfl ?hr ?_
      (case hr => first | rfl | (go_simp; done) | (go_simp; rfl))
      refine (ask_calls (fun k => M k ∧ k ≠ b2) w0 _ f n F1 N1 _ _ _ _ ⟨F1.front, 100⟩ (HM.out _ HK3.out.1) HMF.out.1 HMF.out.2 (by have := HO2.out; omega) (by have := HL.out; omega) HI3.out).mono ?_
      rintro e' w7 ⟨vo7, vd7, vw7, vD7, rfl, h7, k7⟩
      have HX7 := Aside0.mk ((k7.2 b2 (blk_ltn HX3.out) (fun h => h.2 rfl)).trans HX3.out)
      have HK7 := Aside0.mk (HK3.out.then_ k7 (fun k hk => .inl hk))
      have HF7 := Aside0.mk (show ∃ vo vd vw vD, FN (fun k => M k ∧ k ≠ b2) w0 w7 f n { F1 with out := F1.out ++ [⟨F1.front, 100⟩] } { N1 with wants := N1.wants ++ [⟨F1.front, 100⟩] } vo vd vw vD from ⟨_, _, _, _, h7⟩)
      clear h7 k7
      refine ⟨_, rfl, ?_⟩
      refine hK.out _ _ ?_
      clear hK K
      refine norm_ (a' := ?_) ?_ ?_
      rotate_left
      · show Act.put _ (some 43) _ = _
        simp only [Act.put, List.setIfInBounds_toArray, List.set_cons_zero, List.set_cons_succ, i64_w, i32_w]
        rfl
      refine done_ (done_of HT_.out (by kernel_rfl)) ?_
      obtain ⟨vo7, vd7, vw7, vD7, h7⟩ := HF7.out
      have HI7 := Aside0.mk h7
      have hcx7 := (blk_cell HX7.out 0).trans rfl
      have hc17 := (blk_cell h7.hf 1).trans rfl
      have hz17 := blk_frozen h7.hf 1
      have hwk := HWK.out
      have hne := HMF.out.1.2
      clear h7
      go_wp2
      go_roundg gk
      case measure => omega
      case rel => exact ⟨{ F1 with out := F1.out ++ [⟨F1.front, 100⟩], front := F1.front + 100 }, { N1 with wants := N1.wants ++ [⟨F1.front, 100⟩] }, ⟨.mk _ _ _ _ (FN.front HI7.out (F1.front + 100)) (Kept.setCell (p := ⟨f, 1, none⟩) HK7.out (.inl HMF.out.1) _) ((Below.heap_setCell _ _ _ _ (fun e => HMF.out.1.2 e.symm)).trans HX7.out)⟩, ⟨by rw [HE.out]; show (if goOn F1 = true then _ else _) = _; rw [if_pos HON.out]⟩, ⟨by rw [List.length_append]; have := HG.out; simp only [List.length_singleton]; omega⟩, ⟨by have := HO2.out; show (F1.out ++ _).length ≤ _; rw [List.length_append]; simp only [List.length_singleton]; omega⟩, ⟨by have := HL.out; have := HO2.out; rw [List.length_append]; simp only [List.length_singleton]; omega⟩⟩
    · have e4 : decide (F1.front < F1.fin) = false := decide_eq_false h4
      have HON := Aside0.mk (show goOn F1 = false by simp [goOn, h3, h4])
      clear h1
      go_upto_region 1 with fail
      go_quiet (fail)
      have HI2 := Aside0.mk (HI.out.drewN nq)
      have HK2 := Aside0.mk (Kept.drewN HK.out nq)
      have HX2 : Aside0 ((wr.drewN nq).heap[b2]? = some (.cells #[.pointer (some ⟨f, 0, none⟩)] 104 (0, 0))) := ⟨HX.out⟩
      obtain ⟨w2, hw2⟩ : ∃ W, wr.drewN nq = W := ⟨_, rfl⟩
      rw [hw2] at HI2 HK2 HX2 ⊢
      clear hw2 hc0 hc1 hc2 hc3 hcx
      have HE2 := Aside0.mk (show onL 6 F N = (F1, N1) from HE.out.trans (onL_stop HON.out _))
      obtain ⟨Av, cv, hvd⟩ := Kd.R_slice HI2.out.hd
      subst hvd
      have HBX := Aside0.mk (show BoxF w2 b2 f F1.fin from ⟨(blk_cell HX2.out 0).trans rfl, (blk_cell HI2.out.hf 2).trans rfl⟩)
      have hc2 := (blk_cell HI2.out.hf 2).trans rfl
      have hc0 := (blk_cell HI2.out.hf 0).trans rfl
      have hcx := (blk_cell HX2.out 0).trans rfl
      have HCC := Aside0.mk (contains_calls A1 c1 F1.out b2 f F1.fin w2 (Kd.R_reads' HI2.out.ho).2.2 (by have := HLo.out; omega) HBX.out)
      by_cases h5 : 0 ≤ F1.fin
      case neg =>
        have e5 : decide (0 ≤ F1.fin) = false := decide_eq_false h5
        have HR := Aside0.mk (show onF F N = (F1, N1) by unfold onF; rw [HE2.out]; exact if_neg (fun h => h5 h.1))
        clear h5
        go_wp2
        go_end0
        rw [HR.out]
        exact .mk _ _ _ _ rfl (FN.mono HI2.out (fun k hk => hk.1)) ((Kept.of_below HB1.out M).then_ HK2.out (fun k hk => .inl hk.1))
      have e5 : decide (0 ≤ F1.fin) = true := decide_eq_true h5
      obtain ⟨bo, hbo⟩ : ∃ bo, F1.out.any (fun x => decide (x.f0 < F1.fin)) = bo := ⟨_, rfl⟩
      rw [hbo] at HCC
      have HBO := Aside0.mk hbo
      cases bo with
      | true =>
        have HR := Aside0.mk (show onF F N = (F1, N1) by unfold onF; rw [HE2.out]; exact if_neg (fun h => by have h2 := h.2; rw [HBO.out] at h2; cases h2))
        clear h5 hbo
        go_wp2_with (go_at_call 92; (try (refine gate_guard (by rfl) ?_; dsimp only)); refine HCC.out.mono ?_; rintro e w3 ⟨rfl, hb3⟩; have HB3 := Aside0.mk hb3; clear hb3)
        go_end0
        rw [HR.out]
        exact .mk _ _ _ _ rfl (FN.below (FN.mono HI2.out (fun k hk => hk.1)) HB3.out) (((Kept.of_below HB1.out M).then_ HK2.out (fun k hk => .inl hk.1)).below HB3.out)
      | false =>
      have HR := Aside0.mk (show onF F N = (F1, { N1 with done := true, data := F1.data.take (min F1.fin (F1.data.length : Int)).toNat }) by unfold onF; rw [HE2.out]; exact if_pos ⟨h5, HBO.out⟩)
      have HF5 := Aside0.mk h5
      clear h5 hbo
      go_upto_region 6 with (go_at_call 92; (try (refine gate_guard (by rfl) ?_; dsimp only)); refine HCC.out.mono ?_; rintro e w3 ⟨rfl, hb3⟩; have HB3 := Aside0.mk hb3; clear hb3)
      obtain ⟨p, hp⟩ : ∃ p : Nat, min F1.fin (F1.data.length : Int) = (p : Int) := ⟨(min F1.fin (F1.data.length : Int)).toNat, by have := HF5.out; omega⟩
      have hif : (if (F1.data.length : Int) < F1.fin then (F1.data.length : Int) else F1.fin) = (p : Int) := by rw [← hp]; split <;> omega
      have hpl : p ≤ F1.data.length := by omega
      have hdc := (Kd.R_reads' HI2.out.hd).2.1
      have hpc : p ≤ cv := by omega
      have hpc2 : (p : Int) ≤ (cv : Int) := by omega
      have HPT := Aside0.mk (show (min F1.fin (F1.data.length : Int)).toNat = p by rw [hp, Int.toNat_natCast])
      have HPL := Aside0.mk hpl
      have HPC := Aside0.mk hpc
      have HI3 := Aside0.mk (FN.below HI2.out HB3.out)
      have HK3 := Aside0.mk (Kept.below HK2.out HB3.out)
      have HX3 : Aside0 (w3.heap[b2]? = some (.cells #[.pointer (some ⟨f, 0, none⟩)] 104 (0, 0))) := ⟨(HB3.out.block _ (blk_ltn HX2.out)).trans HX2.out⟩
      clear hpl hc0 hc2 hcx
      refine start_ (n := 24) (S := fun w' => w'.cell? ⟨b2, 0, none⟩ = some (.pointer (some ⟨f, 0, none⟩)) ∧ w'.cell? ⟨f, 3, none⟩ = some (.slice Av F1.data.length cv) ∧ w'.cell? ⟨f, 2, none⟩ = some (.int .i64 F1.fin)) (ds := [17, 20, 23]) #[false, false, false, false, false, false, false, false, false, false, false, false, false, false, false, false, false, false, false, false, false, false, false, false] (by kernel_rfl) rfl rfl ⟨(blk_cell HX3.out 0).trans rfl, (blk_cell HI3.out.hf 3).trans rfl, (blk_cell HI3.out.hf 2).trans rfl⟩ (fun hHeld => ?_)
      refine with_tabW on.tab6 on.bits6 (fun HT_ HW_ => ?_)
      have HI4 := Aside0.mk (FN.below HI3.out (below_drew1 (Below.refl _ _)))
      have HK4 := Aside0.mk (Kept.drew HK3.out)
      have HCL : Aside0 (∀ W : World, Below w3.drew.heap.size w3.drew W → Calls Try.prog 84 #[.slice Av p cv] W fun e w' => ∃ v0_ : Value, e = .returned (v0_) ∧ Kd.R (Kd.int .u8) 5 w' W.heap.size (fun _ => True) v0_ (F1.data.take p) ∧ Below W.heap.size W w') := ⟨fun W hW => clone_take (Kd.C_below (Kd.R_reads' HI4.out.hd).2.2 hW) HPL.out HPC.out (by have := HL.out; omega)⟩
      generalize w3.drew = w4 at HI4 HK4 HCL hHeld ⊢
      refine pure_ (i := 0) (N := some 66) (v := ?_) (a' := ?_) #[true, false, false, false, false, false, false, false, false, false, false, false, false, false, false, false, false, false, false, false, false, false, false, false] rfl rfl (any_of HT_.out (by kernel_rfl)) (fun _ _ _ h => h) (Or.inl ⟨by rfl, ?_⟩) ?_ ?_
      rotate_left
      · intro w'
        go_simp
        with_reducible rfl
      rotate_left
      · simp only [Act.put, List.setIfInBounds_toArray, List.set_cons_zero, List.set_cons_succ, i64_w, i32_w]
        rfl
      refine pure_ (i := 1) (N := some 67) (v := ?_) (a' := ?_) #[true, true, false, false, false, false, false, false, false, false, false, false, false, false, false, false, false, false, false, false, false, false, false, false] rfl rfl (any_of HT_.out (by kernel_rfl)) (fun _ _ _ h => h) (Or.inl ⟨by rfl, ?_⟩) ?_ ?_
      rotate_left
      · intro w'
        go_simp
        with_reducible rfl
      rotate_left
      · simp only [Act.put, List.setIfInBounds_toArray, List.set_cons_zero, List.set_cons_succ, i64_w, i32_w]
        rfl
      refine take_ (i := 2) (N := some 68) (v := ?_) (a' := ?_) #[true, true, true, false, false, false, false, false, false, false, false, false, false, false, false, false, false, false, false, false, false, false, false, false] rfl rfl (take_ofW HT_.out HW_.out (by kernel_rfl)) (fun _ _ _ h => h) (Or.inl ⟨by rfl, ?_⟩) hHeld ?_ ?_
      rotate_left
      · rintro w' ⟨s0, s1, s2⟩
        go_simp
        with_reducible rfl
      rotate_left
      · simp only [Act.put, List.setIfInBounds_toArray, List.set_cons_zero, List.set_cons_succ, i64_w, i32_w]
        rfl
      refine pure_ (i := 3) (N := some 69) (v := ?_) (a' := ?_) #[true, true, true, true, false, false, false, false, false, false, false, false, false, false, false, false, false, false, false, false, false, false, false, false] rfl rfl (any_of HT_.out (by kernel_rfl)) (fun _ _ _ h => h) (Or.inl ⟨by rfl, ?_⟩) ?_ ?_
      rotate_left
      · intro w'
        go_simp
        with_reducible rfl
      rotate_left
      · simp only [Act.put, List.setIfInBounds_toArray, List.set_cons_zero, List.set_cons_succ, i64_w, i32_w]
        rfl
      refine pure_ (i := 4) (N := some 70) (v := ?_) (a' := ?_) #[true, true, true, true, true, false, false, false, false, false, false, false, false, false, false, false, false, false, false, false, false, false, false, false] rfl rfl (any_of HT_.out (by kernel_rfl)) (fun _ _ _ h => h) (Or.inl ⟨by rfl, ?_⟩) ?_ ?_
      rotate_left
      · intro w'
        go_simp
        with_reducible rfl
      rotate_left
      · simp only [Act.put, List.setIfInBounds_toArray, List.set_cons_zero, List.set_cons_succ, i64_w, i32_w]
        rfl
      refine take_ (i := 5) (N := some 71) (v := ?_) (a' := ?_) #[true, true, true, true, true, true, false, false, false, false, false, false, false, false, false, false, false, false, false, false, false, false, false, false] rfl rfl (take_ofW HT_.out HW_.out (by kernel_rfl)) (fun _ _ _ h => h) (Or.inl ⟨by rfl, ?_⟩) hHeld ?_ ?_
      rotate_left
      · rintro w' ⟨s0, s1, s2⟩
        go_simp
        with_reducible rfl
      rotate_left
      · simp only [Act.put, List.setIfInBounds_toArray, List.set_cons_zero, List.set_cons_succ, i64_w, i32_w]
        rfl
      refine take_ (i := 6) (N := some 72) (v := ?_) (a' := ?_) #[true, true, true, true, true, true, true, false, false, false, false, false, false, false, false, false, false, false, false, false, false, false, false, false] rfl rfl (take_ofW HT_.out HW_.out (by kernel_rfl)) (fun _ _ _ h => h) (Or.inl ⟨by rfl, ?_⟩) hHeld ?_ ?_
      rotate_left
      · rintro w' ⟨s0, s1, s2⟩
        go_simp
        with_reducible rfl
      rotate_left
      · simp only [Act.put, List.setIfInBounds_toArray, List.set_cons_zero, List.set_cons_succ, i64_w, i32_w]
        rfl
      refine pure_ (i := 7) (N := some 73) (v := ?_) (a' := ?_) #[true, true, true, true, true, true, true, true, false, false, false, false, false, false, false, false, false, false, false, false, false, false, false, false] rfl rfl (any_of HT_.out (by kernel_rfl)) (fun _ _ _ h => h) (Or.inl ⟨by rfl, ?_⟩) ?_ ?_
      rotate_left
      · intro w'
        go_simp
        with_reducible rfl
      rotate_left
      · simp only [Act.put, List.setIfInBounds_toArray, List.set_cons_zero, List.set_cons_succ, i64_w, i32_w]
        rfl
      refine pure_ (i := 8) (N := some 74) (v := ?_) (a' := ?_) #[true, true, true, true, true, true, true, true, true, false, false, false, false, false, false, false, false, false, false, false, false, false, false, false] rfl rfl (any_of HT_.out (by kernel_rfl)) (fun _ _ _ h => h) (Or.inl ⟨by rfl, ?_⟩) ?_ ?_
      rotate_left
      · intro w'
        go_simp
        with_reducible rfl
      rotate_left
      · simp only [Act.put, List.setIfInBounds_toArray, List.set_cons_zero, List.set_cons_succ, i64_w, i32_w]
        rfl
      refine take_ (i := 9) (N := some 75) (v := ?_) (a' := ?_) #[true, true, true, true, true, true, true, true, true, true, false, false, false, false, false, false, false, false, false, false, false, false, false, false] rfl rfl (take_ofW HT_.out HW_.out (by kernel_rfl)) (fun _ _ _ h => h) (Or.inl ⟨by rfl, ?_⟩) hHeld ?_ ?_
      rotate_left
      · rintro w' ⟨s0, s1, s2⟩
        go_simp
        with_reducible rfl
      rotate_left
      · simp only [Act.put, List.setIfInBounds_toArray, List.set_cons_zero, List.set_cons_succ, i64_w, i32_w]
        rfl
      refine take_ (i := 10) (N := some 76) (v := ?_) (a' := ?_) #[true, true, true, true, true, true, true, true, true, true, true, false, false, false, false, false, false, false, false, false, false, false, false, false] rfl rfl (take_ofW HT_.out HW_.out (by kernel_rfl)) (fun _ _ _ h => h) (Or.inl ⟨by rfl, ?_⟩) hHeld ?_ ?_
      rotate_left
      · rintro w' ⟨s0, s1, s2⟩
        go_simp
        with_reducible rfl
      rotate_left
      · simp only [Act.put, List.setIfInBounds_toArray, List.set_cons_zero, List.set_cons_succ, i64_w, i32_w]
        rfl
      refine pure_ (i := 11) (N := some 77) (v := ?_) (a' := ?_) #[true, true, true, true, true, true, true, true, true, true, true, true, false, false, false, false, false, false, false, false, false, false, false, false] rfl rfl (any_of HT_.out (by kernel_rfl)) (fun _ _ _ h => h) (Or.inl ⟨by rfl, ?_⟩) ?_ ?_
      rotate_left
      · intro w'
        go_simp
        with_reducible rfl
      rotate_left
      · simp only [Act.put, List.setIfInBounds_toArray, List.set_cons_zero, List.set_cons_succ, i64_w, i32_w]
        rfl
      refine pure_ (i := 12) (N := some 78) (v := ?_) (a' := ?_) #[true, true, true, true, true, true, true, true, true, true, true, true, true, false, false, false, false, false, false, false, false, false, false, false] rfl rfl (any_of HT_.out (by kernel_rfl)) (fun _ _ _ h => h) (Or.inl ⟨by rfl, ?_⟩) ?_ ?_
      rotate_left
      · intro w'
        go_simp
        with_reducible rfl
      rotate_left
      · simp only [Act.put, List.setIfInBounds_toArray, List.set_cons_zero, List.set_cons_succ, i64_w, i32_w]
        rfl
      refine take_ (i := 13) (N := some 79) (v := ?_) (a' := ?_) #[true, true, true, true, true, true, true, true, true, true, true, true, true, true, false, false, false, false, false, false, false, false, false, false] rfl rfl (take_ofW HT_.out HW_.out (by kernel_rfl)) (fun _ _ _ h => h) (Or.inl ⟨by rfl, ?_⟩) hHeld ?_ ?_
      rotate_left
      · rintro w' ⟨s0, s1, s2⟩
        go_simp
        with_reducible rfl
      rotate_left
      · simp only [Act.put, List.setIfInBounds_toArray, List.set_cons_zero, List.set_cons_succ, i64_w, i32_w]
        rfl
      refine pure_ (i := 14) (N := some 80) (v := ?_) (a' := ?_) #[true, true, true, true, true, true, true, true, true, true, true, true, true, true, true, false, false, false, false, false, false, false, false, false] rfl rfl (any_of HT_.out (by kernel_rfl)) (fun _ _ _ h => h) (Or.inl ⟨by rfl, ?_⟩) ?_ ?_
      rotate_left
      · intro w'
        go_simp
        with_reducible rfl
      rotate_left
      · simp only [Act.put, List.setIfInBounds_toArray, List.set_cons_zero, List.set_cons_succ, i64_w, i32_w]
        rfl
      refine pure_ (i := 15) (N := some 81) (v := ?_) (a' := ?_) #[true, true, true, true, true, true, true, true, true, true, true, true, true, true, true, true, false, false, false, false, false, false, false, false] rfl rfl (any_of HT_.out (by kernel_rfl)) (fun _ _ _ h => h) (Or.inl ⟨by rfl, ?_⟩) ?_ ?_
      rotate_left
      · intro w'
        go_simp
        with_reducible rfl
      rotate_left
      · simp only [Act.put, List.setIfInBounds_toArray, List.set_cons_zero, List.set_cons_succ, i64_w, i32_w, hif]
        rfl
      refine pure_ (i := 16) (N := some 82) (v := ?_) (a' := ?_) #[true, true, true, true, true, true, true, true, true, true, true, true, true, true, true, true, true, false, false, false, false, false, false, false] rfl rfl (any_of HT_.out (by kernel_rfl)) (fun _ _ _ h => h) (Or.inl ⟨by rfl, ?_⟩) ?_ ?_
      rotate_left
      · intro w'
        go_simp
        with_reducible rfl
      rotate_left
      · simp only [Act.put, List.setIfInBounds_toArray, List.set_cons_zero, List.set_cons_succ, i64_w, i32_w]
        rfl
      refine last_ (i := 17) (N := some 83) #[true, true, true, true, true, true, true, true, true, true, true, true, true, true, true, true, true, true, false, false, false, false, false, false] rfl rfl (one_of HT_.out (by kernel_rfl)) (by decide) (fun K hK => ?_)
      refine call_ 84 #[.slice Av p cv] (by rfl) rfl ?hr ?_
      (case hr => first | rfl | (go_simp; done) | (go_simp; rfl))
      refine (HCL.out _ (Below.refl _ _)).mono ?_
      rintro e' w7 ⟨v7, rfl, ho7, hb7⟩
      obtain ⟨A7, c7, e7⟩ := Kd.R_slice ho7
      obtain ⟨L7, hL7⟩ : ∃ L, (F1.data.take p).length = L := ⟨_, rfl⟩
      rw [hL7] at e7
      subst e7
      clear hL7
      have HI7 := Aside0.mk (FN.done HI4.out hb7 ho7 (fun k hk => HM.out _ HK4.out.1 k hk))
      have HK7 := Aside0.mk (Kept.setCell (p := ⟨n, 3, none⟩) (Kept.setCell (p := ⟨n, 2, none⟩) (Kept.below HK4.out hb7) (.inl HMF.out.2) (.bool true)) (.inl HMF.out.2) (.slice A7 L7 c7))
      have hn7 := (hb7.block _ (blk_ltn HI4.out.hn)).trans HI4.out.hn
      have hu72 := (blk_cell hn7 2).trans rfl
      have hz72 := blk_frozen hn7 2
      have hu73 := (blk_cell hn7 3).trans rfl
      have hz73 := blk_frozen hn7 3
      clear hn7 ho7 hb7
      refine ⟨_, rfl, ?_⟩
      refine hK.out _ _ ?_
      clear hK K
      refine norm_ (a' := ?_) ?_ ?_
      rotate_left
      · show Act.put _ (some 83) _ = _
        simp only [Act.put, List.setIfInBounds_toArray, List.set_cons_zero, List.set_cons_succ, i64_w, i32_w]
        rfl
      refine pure_ (i := 18) (N := some 84) (v := ?_) (a' := ?_) #[true, true, true, true, true, true, true, true, true, true, true, true, true, true, true, true, true, true, true, false, false, false, false, false] rfl rfl (any_of HT_.out (by kernel_rfl)) (fun _ _ _ h => h) (Or.inl ⟨by rfl, ?_⟩) ?_ ?_
      rotate_left
      · intro w'
        go_simp
        with_reducible rfl
      rotate_left
      · simp only [Act.put, List.setIfInBounds_toArray, List.set_cons_zero, List.set_cons_succ, i64_w, i32_w]
        rfl
      refine pure_ (i := 19) (N := some 85) (v := ?_) (a' := ?_) #[true, true, true, true, true, true, true, true, true, true, true, true, true, true, true, true, true, true, true, true, false, false, false, false] rfl rfl (any_of HT_.out (by kernel_rfl)) (fun _ _ _ h => h) (Or.inl ⟨by rfl, ?_⟩) ?_ ?_
      rotate_left
      · intro w'
        go_simp
        with_reducible rfl
      rotate_left
      · simp only [Act.put, List.setIfInBounds_toArray, List.set_cons_zero, List.set_cons_succ, i64_w, i32_w]
        rfl
      refine last_ (i := 20) (N := none) #[true, true, true, true, true, true, true, true, true, true, true, true, true, true, true, true, true, true, true, true, true, false, false, false] rfl rfl (one_of HT_.out (by kernel_rfl)) (by decide) (fun K hK => ?_)
      refine skip_ (w1 := ?_) (by rfl) rfl ?_ ?_
      rotate_left
      · go_simp
        rfl
      refine hK.out _ _ ?_
      clear hK K
      refine pure_ (i := 21) (N := some 86) (v := ?_) (a' := ?_) #[true, true, true, true, true, true, true, true, true, true, true, true, true, true, true, true, true, true, true, true, true, true, false, false] rfl rfl (any_of HT_.out (by kernel_rfl)) (fun _ _ _ h => h) (Or.inl ⟨by rfl, ?_⟩) ?_ ?_
      rotate_left
      · intro w'
        go_simp
        with_reducible rfl
      rotate_left
      · simp only [Act.put, List.setIfInBounds_toArray, List.set_cons_zero, List.set_cons_succ, i64_w, i32_w]
        rfl
      refine pure_ (i := 22) (N := some 87) (v := ?_) (a' := ?_) #[true, true, true, true, true, true, true, true, true, true, true, true, true, true, true, true, true, true, true, true, true, true, true, false] rfl rfl (any_of HT_.out (by kernel_rfl)) (fun _ _ _ h => h) (Or.inl ⟨by rfl, ?_⟩) ?_ ?_
      rotate_left
      · intro w'
        go_simp
        with_reducible rfl
      rotate_left
      · simp only [Act.put, List.setIfInBounds_toArray, List.set_cons_zero, List.set_cons_succ, i64_w, i32_w]
        rfl
      refine last_ (i := 23) (N := none) #[true, true, true, true, true, true, true, true, true, true, true, true, true, true, true, true, true, true, true, true, true, true, true, true] rfl rfl (one_of HT_.out (by kernel_rfl)) (by decide) (fun K hK => ?_)
      refine skip_ (w1 := ?_) (by rfl) rfl ?_ ?_
      rotate_left
      · go_simp
        rfl
      refine hK.out _ _ ?_
      clear hK K
      refine done_ (done_of HT_.out (by kernel_rfl)) ?_
      go_wp2
      go_end0
      rw [HR.out, HPT.out]
      exact .mk _ _ _ _ rfl (FN.mono HI7.out (fun k hk => hk.1)) ((Kept.of_below HB1.out M).then_ HK7.out (fun k hk => .inl hk.1))
end Go.Proofs.Ytkghoodhgihokaa.Fetch
