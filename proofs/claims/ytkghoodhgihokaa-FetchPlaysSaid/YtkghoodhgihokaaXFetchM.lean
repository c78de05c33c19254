/- Fetch: the reference. -/
import Derived.Test.YtkghoodhgihokaaXFetchL
namespace Go.Proofs.Ytkghoodhgihokaa.Fetch
open Go.RowKit Go.Lib Go.Maps Go.Proofs.YtkghoodhgihokaaW.PrintWords Go.Proofs.YtkghoodhgihokaaW.PrintLast Go.Proofs.YtkghoodhgihokaaW.PrintMore Go.Proofs.Ytkghoodhgihokaa.HFetchPlays
attribute [local go_sem] max2_int min2_int max_two min_two
set_option linter.unusedVariables false
set_option linter.unusedSimpArgs false
theorem PInv.mid {F : Fs} {a c : Int} {d : List Int} {i : Nat} (h : PInv F) (hi : idxW F.out a c 0 = some i) (h5 : ¬ c < (d.length : Int)) : PInv (Fetch.swF { F with out := F.out.eraseIdx i, data := lay (growD F.data (a + (d.length : Int) - (F.data.length : Int))) d (min a.toNat (growD F.data (a + (d.length : Int) - (F.data.length : Int))).length) } a c d.length).1 := by
  obtain ⟨_, hi2, x, hx, ea, ec⟩ := idxW_lt F.out a c 0 i hi
  have hw := h.wants x (List.mem_of_getElem? hx)
  rw [ea, ec] at hw
  have hil : i < F.out.length := by omega
  have hle : (F.out.eraseIdx i).length + 1 = F.out.length := by rw [List.length_eraseIdx_of_lt hil]; omega
  have hg := growD_length (D := F.data) (a := a) (k := d.length) hw.1
  have hg2 := growD_le (D := F.data) (m := a + (d.length : Int) - (F.data.length : Int)) (by omega) h.data
  obtain ⟨d1, hd1⟩ : ∃ d1, growD F.data (a + (d.length : Int) - (F.data.length : Int)) = d1 := ⟨_, rfl⟩
  rw [hd1] at hg hg2 ⊢
  have hl := lay_length d1 d (min a.toNat d1.length) (Nat.min_le_right _ _)
  have h6 := h.out
  have h7 := h.fin
  refine PInv.swF ⟨?_, h.front, ?_, ?_, ?_⟩ ?_ ?_ ?_
  · show (F.out.eraseIdx i).length ≤ 6
    omega
  · show -1 ≤ F.fin ∧ F.fin ≤ ((lay d1 d (min a.toNat d1.length)).length : Int)
    rw [hl]; omega
  · show (lay d1 d (min a.toNat d1.length)).length ≤ 2148
    rw [hl]; omega
  · intro y hy
    exact h.wants y (List.mem_of_mem_eraseIdx hy)
  · show (F.out.eraseIdx i).length ≤ 5
    omega
  · show 0 ≤ a ∧ a + (d.length : Int) ≤ ((lay d1 d (min a.toNat d1.length)).length : Int)
    rw [hl]; omega
  · omega
theorem RN.fin {M : Nat → Prop} {w0 w : World} {o f e m b n k : Nat} {F : Fs} {N : Nx} {By : Int → Int} {vo vw vD : Value} (h : RN M w0 w o f e m b n F By k N vo vw vD) (i : Int) : RN M w0 (w.setCell ⟨e, 0, none⟩ (.int .i64 (endI i))) o f e m b n { F with fin := i } By k N vo vw vD :=
  ⟨h.r.fin i, h.g.move (fun j hj => Below.heap_setCell _ _ _ _ (fun e1 => h.apart (j := j) (.inl (.inr (.inr (.inl e1)))) hj)), h.ne⟩
def finR (fin a : Int) : Int := if fin < 0 ∨ a < fin then a else fin
theorem minEnd {fin a : Int} (h : fin ≤ 2148) (ha : 0 ≤ a ∧ a ≤ 2148) : (if a < endI fin then a else endI fin) = endI (finR fin a) := by
  by_cases h1 : fin < 0
  · rw [show finR fin a = a from if_pos (Or.inl h1)]
    unfold endI
    rw [if_pos h1, if_pos (by omega), if_neg (by omega)]
  · by_cases h2 : a < fin
    · rw [show finR fin a = a from if_pos (Or.inr h2)]
      unfold endI
      rw [if_neg h1, if_pos h2, if_neg (by omega)]
    · rw [show finR fin a = fin from if_neg (fun h => h.elim h1 h2)]
      unfold endI
      rw [if_neg h1, if_neg h2]
theorem start_RM (w : World) : RM (fun j => w.heap.size ≤ j) w (((((w.alloc (.cells #[.slice none 0 0] 57)).alloc (.map #[] 0)).alloc (.cells #[.map (some (w.heap.size + 1))] 112)).alloc (.cells #[.int .i64 0] 3)).alloc (.cells #[.int .i64 1099511627776] 3)) w.heap.size (w.heap.size + 1 + 1 + 1) (w.heap.size + 1 + 1 + 1 + 1) (w.heap.size + 1 + 1) (w.heap.size + 1) F00 (fun _ => 0) 0 (.slice none 0 0) := by
  obtain ⟨s, hs⟩ : ∃ s, w.heap.size = s := ⟨_, rfl⟩
  have h1 := heap_alloc_new w (.cells #[.slice none 0 0] 57)
  have b1 := (Below.refl w.heap.size w).alloc (Nat.le_refl _) (.cells #[.slice none 0 0] 57)
  obtain ⟨W1, hW1⟩ : ∃ W, w.alloc (.cells #[.slice none 0 0] 57) = W := ⟨_, rfl⟩
  have s1 : W1.heap.size = s + 1 := by rw [← hW1, ← hs]; simp
  rw [hW1] at h1 b1 ⊢
  have h2 := World.ownsMap_made (H := Unit) W1 Try.prog 3 (plainElem Try.prog 5)
  have b2 := b1.alloc b1.size (.map #[] 0)
  have k1 := heap_alloc_old W1 (.map #[] 0) (r := w.heap.size) (by omega)
  obtain ⟨W2, hW2⟩ : ∃ W, W1.alloc (.map #[] 0) = W := ⟨_, rfl⟩
  have s2 : W2.heap.size = s + 1 + 1 := by rw [← hW2]; simp [s1]
  rw [hW2] at h2 b2 k1 ⊢
  have h3 := heap_alloc_new W2 (.cells #[.map (some (w.heap.size + 1))] 112)
  have b3 := b2.alloc b2.size (.cells #[.map (some (w.heap.size + 1))] 112)
  have k2 := fun k (hk : k < W2.heap.size) => heap_alloc_old W2 (.cells #[.map (some (w.heap.size + 1))] 112) hk
  obtain ⟨W3, hW3⟩ : ∃ W, W2.alloc (.cells #[.map (some (w.heap.size + 1))] 112) = W := ⟨_, rfl⟩
  have s3 : W3.heap.size = s + 1 + 1 + 1 := by rw [← hW3]; simp [s2]
  rw [hW3] at h3 b3 k2 ⊢
  have h4 := heap_alloc_new W3 (.cells #[.int .i64 0] 3)
  have b4 := b3.alloc b3.size (.cells #[.int .i64 0] 3)
  have k3 := fun k (hk : k < W3.heap.size) => heap_alloc_old W3 (.cells #[.int .i64 0] 3) hk
  obtain ⟨W4, hW4⟩ : ∃ W, W3.alloc (.cells #[.int .i64 0] 3) = W := ⟨_, rfl⟩
  have s4 : W4.heap.size = s + 1 + 1 + 1 + 1 := by rw [← hW4]; simp [s3]
  rw [hW4] at h4 b4 k3 ⊢
  have h5 := heap_alloc_new W4 (.cells #[.int .i64 1099511627776] 3)
  have b5 := b4.alloc b4.size (.cells #[.int .i64 1099511627776] 3)
  have k4 := fun k (hk : k < W4.heap.size) => heap_alloc_old W4 (.cells #[.int .i64 1099511627776] 3) hk
  obtain ⟨W5, hW5⟩ : ∃ W, W4.alloc (.cells #[.int .i64 1099511627776] 3) = W := ⟨_, rfl⟩
  rw [hW5] at h5 b5 k4 ⊢
  rw [s1] at h2
  rw [s2] at h3 k2
  rw [s3] at h4 k3
  rw [s4] at h5 k4
  rw [hs] at h1 k1 h3
  have hm : MapIs W2 (s + 1) (fun _ => 0) 0 := ⟨.map [], isMap_empty, h2, fun i _ => rfl⟩
  rw [hs]
  exact ⟨(k4 _ (by omega)).trans ((k3 _ (by omega)).trans ((k2 _ (by omega)).trans (k1.trans h1))), (k4 _ (by omega)).trans h4, h5, (k4 _ (by omega)).trans ((k3 _ (by omega)).trans h3), hm.move ((k4 _ (by omega)).trans ((k3 _ (by omega)).trans (k2 _ (by omega)))), Kd.R_nil _ _ _ _ _, by omega, by omega, by show s ≤ s ∧ s ≤ _ ∧ s ≤ _ ∧ s ≤ _; omega, b5⟩
def ref.T23 : Bool × List (List Nat × List Nat) := (true, [([], []), ([], []), ([0, 1], [0, 1]), ([2], [2]), ([], []), ([], []), ([5], [5]), ([4, 6], [4, 6]), ([3, 7, 3], [3, 7]), ([8, 8, 0, 1, 2, 3, 4, 5, 6, 7, 8], [8])])
def ref.B23 : List Nat := [0, 0, 3, 7, 0, 0, 32, 112, 255, 511]
theorem ref.tab23 : rtab .any (opsOf Try.f34 23) = ref.T23 := by kernel_rfl
theorem ref.bits23 : waitsOk ref.T23.2 ref.B23 = true := by kernel_rfl
set_option maxHeartbeats 16000000 in
set_option maxRecDepth 100000 in
theorem ref_calls (A : Option Addr) (c : Nat) (l : List S110) (w : World) (hr : Kd.C k110 w A l.length l) (hd : ∀ x ∈ l, x.f2.length ≤ 140737488351232 ∧ ∀ y ∈ x.f2, 0 ≤ y ∧ y ≤ 255) :
    Calls Try.prog 34 #[.slice A l.length c] w fun e w' => ∃ v0_ : Value, e = .returned (.tuple #[v0_, .int .i64 (playF l).2]) ∧ Kd.R k59 59 w' w.heap.size (fun _ => True) v0_ (playF l).1 ∧ Below w.heap.size w w' := by
  by_cases hl : l.length ≤ 300
  case neg =>
    have e0 : decide ((300 : Int) < (l.length : Int)) = true := decide_eq_true (by omega)
    have e0b : decide (300 < l.length) = true := decide_eq_true (by omega)
    have HP := Aside0.mk (show playF l = ([], 1) by unfold playF; exact if_pos (by omega))
    clear hl hr hd
    go_enter Try.func34, Try.ntmps34
    go_wp2
    go_ret2
    rw [HP.out]
    exact ⟨_, rfl, Kd.R_nil _ _ _ _ _, Below.refl _ _⟩
  have e0 : decide ((300 : Int) < (l.length : Int)) = false := decide_eq_false (by omega)
  have e0b : decide (300 < l.length) = false := decide_eq_false (by omega)
  obtain ⟨r1, hr1⟩ : ∃ r, onF F00 zeroN = r := ⟨_, rfl⟩
  have HP := Aside0.mk (show playF l = (playL l r1.1 [toS r1.2], 0) by unfold playF; rw [← hr1]; exact if_neg (by omega))
  have HV1 := Aside0.mk (show PInv r1.1 by rw [← hr1]; exact PInv.onF _ PInv00)
  have HL := Aside0.mk hl
  have HR := Aside0.mk hr
  have HD := Aside0.mk hd
  have HRR := Aside0.mk hr1
  clear hl hr hd hr1
  have hmm := @run_makeMap Try.prog
  go_enter Try.func34, Try.ntmps34
  go_upto_region 8 with fail
  have HI5 := Aside0.mk (start_RM w)
  obtain ⟨W5, hW5⟩ : ∃ W, (((((w.alloc (.cells #[.slice none 0 0] 57)).alloc (.map #[] 0)).alloc (.cells #[.map (some (w.heap.size + 1))] 112)).alloc (.cells #[.int .i64 0] 3)).alloc (.cells #[.int .i64 1099511627776] 3)) = W := ⟨_, rfl⟩
  rw [hW5] at HI5 ⊢
  obtain ⟨e, he⟩ : ∃ e, w.heap.size + 1 + 1 + 1 + 1 = e := ⟨_, rfl⟩
  rw [he] at HI5 ⊢
  obtain ⟨f, hf⟩ : ∃ f, w.heap.size + 1 + 1 + 1 = f := ⟨_, rfl⟩
  rw [hf] at HI5 ⊢
  obtain ⟨m, hm⟩ : ∃ m, w.heap.size + 1 + 1 = m := ⟨_, rfl⟩
  rw [hm] at HI5 ⊢
  obtain ⟨b, hb⟩ : ∃ b, w.heap.size + 1 = b := ⟨_, rfl⟩
  rw [hb] at HI5 ⊢
  obtain ⟨o, ho⟩ : ∃ o, w.heap.size = o := ⟨_, rfl⟩
  have HI6 : Aside0 (RM (fun j => w.heap.size ≤ j) w W5 o f e m b F00 (fun _ => 0) 0 (.slice none 0 0)) := ⟨by have h := HI5.out; rw [← ho]; exact h⟩
  rw [ho]
  have HON := Aside0.mk (refon_calls (fun j => w.heap.size ≤ j) w W5 o f e m b F00 (fun _ => 0) 0 0 [] (.slice none 0 0) (.slice none 0 0) (fun j hj => Nat.le_trans HI6.out.hb.size hj) PInv00 (fun i => rfl) (by decide) HI6.out (Kd.R_nil _ _ _ _ _) (fun j hj => by simp [Value.ownBlock] at hj))
  rw [show onF F00 ⟨0, [], false, []⟩ = r1 from HRR.out] at HON
  have HCP := Aside0.mk (show Cpl (fun _ => 0) r1.1.data by rw [← HRR.out, onF_data]; intro i; rfl)
  clear hW5 he hf hm hb ho HI5 hmm
  go_upto_region 9 with (go_at_call 64; refine HON.out.mono ?_; rintro er w6 hp6; obtain ⟨n6, vo6, vw6, vD6, he6, h6, k6⟩ := hp6; subst he6; have HN6 := Aside0.mk h6; have HK6 := Aside0.mk k6; obtain ⟨Aw, cw, hvw⟩ := Kd.R_slice h6.g.hw; subst hvw; obtain ⟨AD, cD, hvD⟩ := Kd.R_slice h6.g.hD; subst hvD; clear h6 k6)
  have HPI := Aside0.mk (QI.grow HN6.out.shed (fun j hj => ⟨Nat.le_trans HI6.out.hb.size (Nat.le_trans HK6.out.1 hj), fun e1 => by have := own_lt HN6.out.g.hw e1.symm; omega, fun e1 => by have := own_lt HN6.out.g.hD e1.symm; omega⟩) (vr := .slice none 0 0) (fun k hk => by simp [Value.ownBlock] at hk) (World.grownBy_alloc w6 (.cells [.int .i64 r1.2.code, .slice Aw r1.2.wants.length cw, .bool r1.2.done, .slice AD r1.2.data.length cD].toArray 59) none) (HN6.out.r.hb.alloc HN6.out.r.hb.size _) (Kd.R_mono (lit59 (NN.cells HN6.out.g) HN6.out.r.hb.size) (fun k hk => by
    rcases hk with hk | hk
    · exact .inl (fun h => hk.elim h.2.1 h.2.2)
    · exact .inr hk)))
  obtain ⟨W7, hW7⟩ : ∃ W, w6.alloc (.cells #[.int .i64 r1.2.code, .slice Aw r1.2.wants.length cw, .bool r1.2.done, .slice AD r1.2.data.length cD] 59) = W := ⟨_, rfl⟩
  have HPI7 : Aside0 (QI w W7 o f e m b r1.1 (fun _ => 0) 0 (.slice (some ⟨w6.heap.size, 0, none⟩) 1 1) [toS r1.2]) := ⟨by rw [← hW7]; exact HPI.out⟩
  rw [hW7]
  obtain ⟨b3, hb3⟩ : ∃ b, w6.heap.size = b := ⟨_, rfl⟩
  rw [hb3] at HPI7 ⊢
  obtain ⟨x1, hx1⟩ : ∃ x, toS r1.2 = x := ⟨_, rfl⟩
  rw [hx1] at HPI7 HP
  clear hW7 hb3 HPI hx1 HN6 HON
  go_wp2
  go_loopw [9, 30] (fun v9 v30 wr => ∃ (j : Nat) (F : Fs) (acc : List S59) (A6 : Option Addr) (c6 : Nat) (By : Int → Int) (k : Nat), v30 = .int .i64 (j : Int) ∧ v9 = .slice A6 acc.length c6 ∧ Aside0 (j ≤ l.length ∧ acc.length = j + 1 ∧ k ≤ 3000 * j) ∧ Aside0 (PInv F) ∧ Aside0 (Cpl By F.data) ∧ Aside0 (QI w wr o f e m b F By k v9 acc) ∧ Aside0 (playL (l.drop j) F acc = playL l r1.1 [x1])) (fun _ v30 _ => l.length - (intOf v30).toNat)
  case atStart => exact ⟨0, r1.1, [x1], _, _, _, 0, rfl, rfl, ⟨Nat.zero_le _, rfl, Nat.zero_le _⟩, HV1, HCP, HPI7, ⟨rfl⟩⟩
  case round =>
    obtain ⟨j, F, acc, A6, c6, By, k, rfl, rfl, HJ, HV, HC, HPI, HE⟩ := hrel
    obtain ⟨M, vo, h, hM, hrw⟩ := HPI.out
    have HB := Aside0.mk h.hb
    by_cases hj : j < l.length
    · have e1_ : decide ((j : Int) < (l.length : Int)) = true := decide_eq_true (by omega)
      have e1n : decide (j < l.length) = true := decide_eq_true hj
      have p1 : (0 : Int) ≤ (j : Int) := by omega
      have q1 : (j : Int) < (l.length : Int) := by omega
      have hdj := HD.out l[j] (List.getElem_mem hj)
      have hm : rd_T110 l (j : Int) = l[j] := by unfold rd_T110; rw [Int.toNat_natCast, List.getD_eq_getElem?_getD, List.getElem?_eq_getElem hj]; rfl
      have hpl : playL (l.drop j) F acc = playL (l.drop (j + 1)) (gotF F l[j].f0 l[j].f1 l[j].f2).1 (acc ++ [toS (gotF F l[j].f0 l[j].f1 l[j].f2).2]) := by rw [List.drop_eq_getElem_cons hj]; rfl
      rw [← hm] at hdj hpl
      obtain ⟨ad, A2, c2, rfl, h0, h1, h2, hlc, hC⟩ := at_T110 HR.out (j : Int) p1 q1
      rw [Int.toNat_natCast] at h0 h1 h2
      obtain ⟨y, hy⟩ : ∃ y, rd_T110 l (j : Int) = y := ⟨_, rfl⟩
      rw [hy] at h0 h1 h2 hdj hpl hlc hC
      replace h0 := below_cell h.hb h0
      replace h1 := below_cell h.hb h1
      replace h2 := below_cell h.hb h2
      replace p1 := eq_true p1
      replace q1 := eq_true q1
      obtain ⟨a, c1, d⟩ := y
      dsimp only at h0 h1 h2 hdj hpl hlc hC
      have HPL := Aside0.mk (hpl.symm.trans HE.out)
      have HDJ := Aside0.mk hdj
      have HDC := Aside0.mk hC
      have HLC := Aside0.mk hlc
      have HVR := Aside0.mk (PInv.gotF (a := a) (c := c1) (d := d) HV.out)
      have HRW := Aside0.mk hrw
      have HMM := Aside0.mk hM
      have HI := Aside0.mk h
      have HWJ := Aside0.mk (wj1 (j := j) (by have := HL.out; omega))
      have HJL := Aside0.mk hj
      clear hm hy h hM hrw hdj hpl hlc hC HE hj HPI
      go_upto_region 13 with fail
      have HB9 := Aside0.mk ((Below.refl wr.heap.size wr).alloc (Nat.le_refl _) (.cells #[.int .i64 a, .int .i64 c1, .slice A2 d.length c2] 110))
      have hx9 := heap_alloc_new wr (.cells #[.int .i64 a, .int .i64 c1, .slice A2 d.length c2] 110)
      obtain ⟨w9, hw9⟩ : ∃ W, wr.alloc (.cells #[.int .i64 a, .int .i64 c1, .slice A2 d.length c2] 110) = W := ⟨_, rfl⟩
      rw [hw9] at hx9 HB9 ⊢
      have HI9 := Aside0.mk (HI.out.below HB9.out)
      have HR9 := Aside0.mk (Kd.R_below HRW.out HB9.out)
      have HM9 := Aside0.mk (show ∀ k, w9.heap.size ≤ k → M k from fun k hk => HMM.out k (Nat.le_trans HB9.out.size hk))
      obtain ⟨b11, hb11⟩ : ∃ b, wr.heap.size = b := ⟨_, rfl⟩
      rw [hb11] at hx9 ⊢
      have HX9 := Aside0.mk hx9
      clear hw9 h0 h1 h2 hb11 hx9
      obtain ⟨Ao, co, hvo⟩ := Kd.R_slice HI9.out.row
      subst hvo
      have hc0 := (blk_cell HI9.out.ho 0).trans rfl
      go_wp2
      clear hc0
      have HV6 := Aside0.mk HV.out.out
      go_loopw [12, 36] (fun v12 v36 wx => ∃ i : Nat, v36 = .int .i64 (i : Int) ∧ v12 = .int .i64 (idxI (idxW (F.out.take i) a c1 0)) ∧ Aside0 (i ≤ F.out.length) ∧ Aside0 (Below w9.heap.size w9 wx)) (fun _ v36 _ => F.out.length - (intOf v36).toNat)
      case atStart => exact ⟨0, rfl, rfl, ⟨Nat.zero_le _⟩, ⟨Below.refl _ _⟩⟩
      case round =>
        obtain ⟨i, rfl, rfl, HIi, HBi⟩ := hrel
        by_cases hi : i < F.out.length
        · have e2_ : decide ((i : Int) < (F.out.length : Int)) = true := decide_eq_true (by omega)
          have e2n : decide (i < F.out.length) = true := decide_eq_true hi
          have p2 : (0 : Int) ≤ (i : Int) := by omega
          have q2 : (i : Int) < (F.out.length : Int) := by omega
          obtain ⟨ad2, hA, h0, h1⟩ := at_T61 (Kd.C_below (Kd.R_reads' HI9.out.row).2.2 HBi.out) (i : Int) p2 q2
          subst hA
          rw [Int.toNat_natCast] at h0 h1
          have hm : rd_T61 F.out (i : Int) = F.out[i] := by unfold rd_T61; rw [Int.toNat_natCast, List.getD_eq_getElem?_getD, List.getElem?_eq_getElem hi]; rfl
          have hix := idxW_succ hi a c1
          rw [← hm] at hix
          obtain ⟨x, hx⟩ : ∃ x, rd_T61 F.out (i : Int) = x := ⟨_, rfl⟩
          simp only [hx] at h0 h1 hix
          obtain ⟨t1, ht1⟩ : ∃ t, (a == x.f0) = t := ⟨_, rfl⟩
          obtain ⟨t2, ht2⟩ : ∃ t, (c1 == x.f1) = t := ⟨_, rfl⟩
          have k1 : (x.f0 == a) = t1 := by rw [← ht1]; exact Bool.beq_comm
          have k2 : (x.f1 == c1) = t2 := by rw [← ht2]; exact Bool.beq_comm
          simp only [ht1, ht2] at hix
          obtain ⟨ix, hixe⟩ : ∃ ix, idxW (F.out.take i) a c1 0 = ix := ⟨_, rfl⟩
          rw [hixe] at hix
          have HIX := Aside0.mk hix
          rw [hixe]
          replace p2 := eq_true p2
          replace q2 := eq_true q2
          have HWI := Aside0.mk (wj1 (j := i) (by have := HV6.out; omega))
          clear hm hx hix hixe ht1 ht2
          go_upto_region 16 with fail
          have HB12 := Aside0.mk (HBi.out.alloc HBi.out.size (.cells #[.int .i64 x.f0, .int .i64 x.f1] 61))
          have hx12 := heap_alloc_new wr (.cells #[.int .i64 x.f0, .int .i64 x.f1] 61)
          obtain ⟨w12, hw12⟩ : ∃ W, wr.alloc (.cells #[.int .i64 x.f0, .int .i64 x.f1] 61) = W := ⟨_, rfl⟩
          rw [hw12] at HB12 hx12 ⊢
          have hm0 := (blk_cell hx12 0).trans rfl
          have hm1 := (blk_cell hx12 1).trans rfl
          have hx11 := (HB12.out.block b11 (blk_ltn HX9.out)).trans HX9.out
          have hg0 := (blk_cell hx11 0).trans rfl
          have hg1 := (blk_cell hx11 1).trans rfl
          clear hw12 hx12 hx11 h0 h1
          cases t1 with
          | false =>
            have HNX := Aside0.mk (show idxW (F.out.take (i + 1)) a c1 0 = ix by rw [HIX.out]; cases ix <;> simp)
            go_wp2
            go_roundw
            case measure => rw [HWI.out]; simp only [intOf]; omega
            case rel => exact ⟨i + 1, by rw [HWI.out]; rfl, by rw [HNX.out], ⟨hi⟩, HB12⟩
          | true =>
          cases t2 with
          | false =>
            have HNX := Aside0.mk (show idxW (F.out.take (i + 1)) a c1 0 = ix by rw [HIX.out]; cases ix <;> simp)
            go_wp2
            go_roundw
            case measure => rw [HWI.out]; simp only [intOf]; omega
            case rel => exact ⟨i + 1, by rw [HWI.out]; rfl, by rw [HNX.out], ⟨hi⟩, HB12⟩
          | true =>
          cases ix with
          | none =>
            have HNX := Aside0.mk (show idxW (F.out.take (i + 1)) a c1 0 = some i by rw [HIX.out]; rfl)
            rw [show idxI none = -1 from rfl]
            go_wp2
            go_roundw
            case measure => rw [HWI.out]; simp only [intOf]; omega
            case rel => exact ⟨i + 1, by rw [HWI.out]; rfl, by rw [HNX.out]; rfl, ⟨hi⟩, HB12⟩
          | some r =>
            have HNX := Aside0.mk (show idxW (F.out.take (i + 1)) a c1 0 = some r by rw [HIX.out])
            rw [show idxI (some r) = (r : Int) from rfl]
            have e3 : decide ((r : Int) < 0) = false := decide_eq_false (by omega)
            go_wp2
            go_roundw
            case measure => rw [HWI.out]; simp only [intOf]; omega
            case rel => exact ⟨i + 1, by rw [HWI.out]; rfl, by rw [HNX.out]; rfl, ⟨hi⟩, HB12⟩
        · have e2_ : decide ((i : Int) < (F.out.length : Int)) = false := decide_eq_false (by omega)
          have e2n : decide (i < F.out.length) = false := decide_eq_false hi
          obtain rfl : i = F.out.length := by have := HIi.out; omega
          rw [List.take_length]
          have HI10 := Aside0.mk (HI9.out.below HBi.out)
          have HR10 := Aside0.mk (Kd.R_below HR9.out HBi.out)
          have HM10 := Aside0.mk (show ∀ k, wr.heap.size ≤ k → M k from fun k hk => HM9.out k (Nat.le_trans HBi.out.size hk))
          have HX10 := Aside0.mk ((HBi.out.block b11 (blk_ltn HX9.out)).trans HX9.out)
          have HAL := Aside0.mk (show (acc.length + 1) * 64 ≤ 140737488355328 by have := HJ.out; have := HL.out; omega)
          clear hi HI9 HR9 HM9 HX9 HIi HBi HI HRW HMM HB9
          obtain ⟨ix, hix⟩ : ∃ i, idxW F.out a c1 0 = i := ⟨_, rfl⟩
          have HIX := Aside0.mk hix
          rw [hix]
          clear hix
          have hg0 := (blk_cell HX10.out 0).trans rfl
          have hg1 := (blk_cell HX10.out 1).trans rfl
          have hg2 := (blk_cell HX10.out 2).trans rfl
          cases ix with
          | none =>
            rw [show idxI none = -1 from rfl]
            have HGF := Aside0.mk (show gotF F a c1 d = (F, { zeroN with code := 7 }) by unfold gotF; rw [HIX.out])
            clear hg0 hg1 hg2
            rw [HGF.out] at HPL
            go_upto_region 37 with ((with_reducible refine gate_builtin (b := .append) (xs := #[.tmp 61, .tmp 63]) rfl ?_); at_builtin; refine Kd.R_append k59 (w0 := w) w.heap.size rfl (.tmp 61) (.tmp 63) 54 59 (.agg #[.int .i64 0, .slice none 0 0, .bool false, .slice none 0 0]) 64 rfl Try.underlying54 info59 rfl (by decide) (by decide) (.slice A6 acc.length c6) acc (toS { zeroN with code := 7 }) [.int .i64 7, .slice none 0 0, .bool false, .slice none 0 0] (fun k => ¬ M k ∨ wr.heap.size ≤ k) (fun _ => False) rfl rfl (k59_mkM _ _ _ (toS { zeroN with code := 7 }) (Kd.R_nil _ _ _ _ _) (Kd.R_nil _ _ _ _ _)) (fun _ hk => hk.elim) (fun k hk => .inr hk) (Kd.R_mono HR10.out (fun k hk => .inl hk)) HI10.out.hb HI10.out.hb.size HAL.out ?_; intro v1 w13 ho hb hg hat; obtain ⟨A7, c7, hv7⟩ := Kd.R_slice ho; subst hv7; have HPI1 := Aside0.mk (QI.grow HI10.out HM10.out (Kd.R_typed HR10.out) hg hb ho); clear ho hb hg hat)
            go_wp2
            go_roundw
            case measure => rw [HWJ.out]; have := HJL.out; simp only [intOf]; omega
            case rel => exact ⟨j + 1, F, acc ++ [toS { zeroN with code := 7 }], A7, c7, By, k, by rw [HWJ.out]; rfl, by rw [List.length_append, List.length_singleton], ⟨by have := HJL.out; omega, by have := HJ.out; rw [List.length_append, List.length_singleton]; omega, by have := HJ.out; omega⟩, HV, HC, ⟨by have h := HPI1.out; rw [List.length_append, List.length_singleton] at h; exact h⟩, HPL⟩
          | some i =>
            rw [show idxI (some i) = (i : Int) from rfl]
            have e4 : decide ((i : Int) < 0) = false := decide_eq_false (by omega)
            by_cases h5 : c1 < (d.length : Int)
            · have d5 : decide (c1 < (d.length : Int)) = true := decide_eq_true h5
              have HGF := Aside0.mk (show gotF F a c1 d = (F, { zeroN with code := 1 }) by unfold gotF; rw [HIX.out]; exact if_pos h5)
              clear h5
              rw [HGF.out] at HPL
              go_upto_region 37 with ((with_reducible refine gate_builtin (b := .append) (xs := #[.tmp 71, .tmp 73]) rfl ?_); at_builtin; refine Kd.R_append k59 (w0 := w) w.heap.size rfl (.tmp 71) (.tmp 73) 54 59 (.agg #[.int .i64 0, .slice none 0 0, .bool false, .slice none 0 0]) 64 rfl Try.underlying54 info59 rfl (by decide) (by decide) (.slice A6 acc.length c6) acc (toS { zeroN with code := 1 }) [.int .i64 1, .slice none 0 0, .bool false, .slice none 0 0] (fun k => ¬ M k ∨ wr.heap.size ≤ k) (fun _ => False) rfl rfl (k59_mkM _ _ _ (toS { zeroN with code := 1 }) (Kd.R_nil _ _ _ _ _) (Kd.R_nil _ _ _ _ _)) (fun _ hk => hk.elim) (fun k hk => .inr hk) (Kd.R_mono HR10.out (fun k hk => .inl hk)) HI10.out.hb HI10.out.hb.size HAL.out ?_; intro v1 w13 ho hb hg hat; obtain ⟨A7, c7, hv7⟩ := Kd.R_slice ho; subst hv7; have HPI1 := Aside0.mk (QI.grow HI10.out HM10.out (Kd.R_typed HR10.out) hg hb ho); clear ho hb hg hat)
              go_wp2
              go_roundw
              case measure => rw [HWJ.out]; have := HJL.out; simp only [intOf]; omega
              case rel => exact ⟨j + 1, F, acc ++ [toS { zeroN with code := 1 }], A7, c7, By, k, by rw [HWJ.out]; rfl, by rw [List.length_append, List.length_singleton], ⟨by have := HJL.out; omega, by have := HJ.out; rw [List.length_append, List.length_singleton]; omega, by have := HJ.out; omega⟩, HV, HC, ⟨by have h := HPI1.out; rw [List.length_append, List.length_singleton] at h; exact h⟩, HPL⟩
            have d5 : decide (c1 < (d.length : Int)) = false := decide_eq_false h5
            have HC5 := Aside0.mk (show (d.length : Int) ≤ c1 by omega)
            have HMD := Aside0.mk (PInv.mid HV.out HIX.out h5)
            have HGF := Aside0.mk (gotF_some HIX.out h5)
            have HCG := fun (na : Nat) (h : a = (na : Int)) => Cpl.got (By := By) (D := F.data) (d := d) (a := na) HC.out
            obtain ⟨_, hi2, x, hx, ea, ec⟩ := idxW_lt F.out a c1 0 i HIX.out
            have hil : i < F.out.length := by omega
            have hxw := HV.out.wants x (List.mem_of_getElem? hx)
            rw [ea, ec] at hxw
            have HAC := Aside0.mk hxw
            have HIL := Aside0.mk hil
            obtain ⟨na, hna⟩ : ∃ n : Nat, a = (n : Int) := ⟨a.toNat, by omega⟩
            have HCG := Aside0.mk (HCG na hna)
            have HNA := Aside0.mk hna
            obtain ⟨M2, hM2⟩ : ∃ M2 : Nat → Prop, M2 = fun k => M k ∧ k ≠ b11 := ⟨_, rfl⟩
            have hb11 : b11 < wr.heap.size := blk_ltn HX10.out
            have HI11 : Aside0 (RM M2 w wr o f e m b F By k (.slice Ao F.out.length co)) := ⟨HI10.out.sub (fun k hk hm => by
              rw [hM2]
              refine ⟨hm, ?_⟩
              have hc := HX10.out
              rintro rfl
              rcases hk with hk | hk
              · rcases hk with hk | hk | hk | hk | hk
                · have h2 := HI10.out.ho; rw [← hk, hc] at h2; simp at h2
                · have h2 := HI10.out.hf; rw [← hk, hc] at h2; simp at h2
                · have h2 := HI10.out.he; rw [← hk, hc] at h2; simp at h2
                · have h2 := HI10.out.hm; rw [← hk, hc] at h2; simp at h2
                · obtain ⟨_, _, h2⟩ := HI10.out.hB.obj; rw [← hk, hc] at h2; cases h2
              · obtain ⟨_, h2⟩ := Kd.R_typed HI10.out.row _ hk
                rw [hc] at h2
                simp at h2)⟩
            have HR11 := Aside0.mk (show Kd.R k59 59 wr w.heap.size (fun k => ¬ M2 k) (.slice A6 acc.length c6) acc from Kd.R_mono HR10.out (fun k hk h2 => by rw [hM2] at h2; exact hk h2.1))
            have HM11 := Aside0.mk (show ∀ W : World, wr.heap.size ≤ W.heap.size → ∀ k, W.heap.size ≤ k → M2 k from fun W hW k hk => by rw [hM2]; exact ⟨HM10.out k (Nat.le_trans hW hk), by omega⟩)
            have HX11 := Aside0.mk (show ∀ W : World, Kept wr W M2 → W.heap[b11]? = some (.cells #[.int .i64 a, .int .i64 c1, .slice A2 d.length c2] 110 (0, 0)) from fun W hW => (hW.2 b11 hb11 (fun h => by rw [hM2] at h; exact h.2 rfl)).trans HX10.out)
            have HXM := Aside0.mk (show ¬ M2 b11 from fun h => by rw [hM2] at h; exact h.2 rfl)
            have hil1 : i ≤ F.out.length := by omega
            have hil2 : (i : Int) ≤ (F.out.length : Int) := by omega
            have hil3 : i + 1 ≤ F.out.length := by omega
            have hoc := (Kd.R_reads' HI11.out.row).2.1
            have hil4 : (i : Int) ≤ (co : Int) := by omega
            have hil5 : i ≤ co := by omega
            have hil6 : (i : Int) + 1 ≤ (F.out.length : Int) := by omega
            have hil7 : (i : Int) + 1 ≤ (co : Int) := by omega
            have hil8 : i + 1 ≤ co := by omega
            have hil9 : (0 : Int) ≤ (i : Int) + 1 := by omega
            have HOC := Aside0.mk hoc
            have hwi : wrap64 ((i : Int) + 1) = ((i + 1 : Nat) : Int) := by have := HV6.out; unfold wrap64; omega
            clear hi2 hx ea ec hil hxw hna hM2 hb11 hoc h5 HI10 HR10 HM10 HX10
            go_upto_region 23 with fail
            clear hg0 hg1 hg2
            refine start_ (n := 10) (S := fun w' => w'.cell? ⟨o, 0, none⟩ = some (.slice Ao F.out.length co)) (ds := [8, 9]) #[false, false, false, false, false, false, false, false, false, false] (by kernel_rfl) rfl rfl ((blk_cell HI11.out.ho 0).trans rfl) (fun hHeld => ?_)
            refine with_tabW ref.tab23 ref.bits23 (fun HT_ HW_ => ?_)
            have HI12 := Aside0.mk (HI11.out.below (below_drew1 (Below.refl _ _)))
            have HK12 := Aside0.mk (Kept.drew (Kept.refl wr M2))
            generalize wr.drew = w12 at HI12 HK12 hHeld ⊢
            have hct := Kd.C_take (m := i) (Kd.R_reads' HI12.out.row).2.2 (by have := HIL.out; omega)
            rw [List.length_take, Nat.min_eq_left (by have := HIL.out; omega)] at hct
            have HCT := Aside0.mk hct
            clear hct
            refine pure_ (i := 1) (N := some 76) (v := ?_) (a' := ?_) #[false, true, false, false, false, false, false, false, false, false] rfl rfl (any_of HT_.out (by kernel_rfl)) (fun _ _ _ h => h) (Or.inl ⟨by rfl, ?_⟩) ?_ ?_
            rotate_left
            · intro w'
              go_simp
              with_reducible rfl
            rotate_left
            · simp only [Act.put, List.setIfInBounds_toArray, List.set_cons_zero, List.set_cons_succ, i64_w, i32_w]
              rfl
            refine pure_ (i := 5) (N := some 80) (v := ?_) (a' := ?_) #[false, true, false, false, false, true, false, false, false, false] rfl rfl (any_of HT_.out (by kernel_rfl)) (fun _ _ _ h => h) (Or.inl ⟨by rfl, ?_⟩) ?_ ?_
            rotate_left
            · intro w'
              go_simp
              with_reducible rfl
            rotate_left
            · simp only [Act.put, List.setIfInBounds_toArray, List.set_cons_zero, List.set_cons_succ, i64_w, i32_w]
              rfl
            refine pure_ (i := 6) (N := some 81) (v := ?_) (a' := ?_) #[false, true, false, false, false, true, true, false, false, false] rfl rfl (any_of HT_.out (by kernel_rfl)) (fun _ _ _ h => h) (Or.inl ⟨by rfl, ?_⟩) ?_ ?_
            rotate_left
            · intro w'
              go_simp
              with_reducible rfl
            rotate_left
            · simp only [Act.put, List.setIfInBounds_toArray, List.set_cons_zero, List.set_cons_succ, i64_w, i32_w]
              rfl
            refine take_ (i := 0) (N := some 75) (v := ?_) (a' := ?_) #[true, true, false, false, false, true, true, false, false, false] rfl rfl (take_ofW HT_.out HW_.out (by kernel_rfl)) (fun _ _ _ h => h) (Or.inl ⟨by rfl, ?_⟩) hHeld ?_ ?_
            rotate_left
            · intro w' s0
              go_simp
              with_reducible rfl
            rotate_left
            · simp only [Act.put, List.setIfInBounds_toArray, List.set_cons_zero, List.set_cons_succ, i64_w, i32_w]
              rfl
            refine pure_ (i := 2) (N := some 77) (v := ?_) (a' := ?_) #[true, true, true, false, false, true, true, false, false, false] rfl rfl (any_of HT_.out (by kernel_rfl)) (fun _ _ _ h => h) (Or.inl ⟨by rfl, ?_⟩) ?_ ?_
            rotate_left
            · intro w'
              go_simp
              with_reducible rfl
            rotate_left
            · simp only [Act.put, List.setIfInBounds_toArray, List.set_cons_zero, List.set_cons_succ, i64_w, i32_w]
              rfl
            refine take_ (i := 4) (N := some 79) (v := ?_) (a' := ?_) #[true, true, true, false, true, true, true, false, false, false] rfl rfl (take_ofW HT_.out HW_.out (by kernel_rfl)) (fun _ _ _ h => h) (Or.inl ⟨by rfl, ?_⟩) hHeld ?_ ?_
            rotate_left
            · intro w' s0
              go_simp
              with_reducible rfl
            rotate_left
            · simp only [Act.put, List.setIfInBounds_toArray, List.set_cons_zero, List.set_cons_succ, i64_w, i32_w]
              rfl
            refine pure_ (i := 7) (N := some 82) (v := ?_) (a' := ?_) #[true, true, true, false, true, true, true, true, false, false] rfl rfl (any_of HT_.out (by kernel_rfl)) (fun _ _ _ h => h) (Or.inl ⟨by rfl, ?_⟩) ?_ ?_
            rotate_left
            · intro w'
              go_simp
              with_reducible rfl
            rotate_left
            · simp only [Act.put, List.setIfInBounds_toArray, List.set_cons_zero, List.set_cons_succ, i64_w, i32_w]
              rfl
            refine one_ (i := 3) (N := some 78) #[true, true, true, true, true, true, true, true, false, false] rfl rfl (one_of HT_.out (by kernel_rfl)) (by decide) (fun K hK => ?_)
            refine Kd.R_append_rows_step k61 (w0 := w) w.heap.size (by rfl) (.const (.slice none 0 0)) (.tmp 77) 57 61 (.agg #[.int .i64 0, .int .i64 0]) 16 rfl Try.underlying57 info61b rfl (by decide) (by decide) (.slice none 0 0) [] (F.out.take i) _ _ _ M2 (fun _ => False) rfl rfl (Kd.R_nil _ _ _ _ _) HCT.out (fun _ _ h => h) (fun _ hk => hk.elim) (fun k hk => HM11.out _ HK12.out.1 k hk) HI12.out.hb HI12.out.hb.size (by have := HIL.out; have := HV6.out; show (0 + i) * 16 ≤ _; omega) ?_
            intro v13 w13 ho hb hg hat
            rw [List.nil_append] at ho
            obtain ⟨A13, c13, hv13⟩ := Kd.R_slice ho
            obtain ⟨L13, hL13⟩ : ∃ L, (F.out.take i).length = L := ⟨_, rfl⟩
            rw [hL13] at hv13
            subst hv13
            clear hL13
            have HI13 := Aside0.mk (HI12.out.move hb (fun j hj => hg.block j (HI12.out.lt hj) (by simp [Value.ownBlock])))
            have HO13 := Aside0.mk ho
            have HG13 := Aside0.mk hg
            have HA13 := Aside0.mk hat
            have HB13 := Aside0.mk hb
            have hcd := Kd.C_drop (m := i + 1) (c := co) (Kd.R_reads' HI13.out.row).2.2 (by have := HIL.out; omega) HOC.out
            rw [List.length_drop] at hcd
            have HCD := Aside0.mk hcd
            clear ho hb hg hat hcd
            refine hK.out _ _ ((blk_cell HI13.out.ho 0).trans rfl) (fun hHeld => ?_)
            clear hK K
            refine norm_ (a' := ?_) ?_ ?_
            rotate_left
            · show Act.put _ (some 78) _ = _
              simp only [Act.put, List.setIfInBounds_toArray, List.set_cons_zero, List.set_cons_succ, i64_w, i32_w]
              rfl
            refine last_ (i := 8) (N := some 83) #[true, true, true, true, true, true, true, true, true, false] rfl rfl (one_of HT_.out (by kernel_rfl)) (by decide) (fun K hK => ?_)
            refine Kd.R_append_rows_step k61 (w0 := w) w.heap.size (by rfl) (.tmp 78) (.tmp 82) 57 61 (.agg #[.int .i64 0, .int .i64 0]) 16 rfl Try.underlying57 info61b rfl (by decide) (by decide) (.slice (A13) L13 c13) (F.out.take i) (F.out.drop (i + 1)) _ _ _ M2 (fun _ => False) rfl rfl HO13.out HCD.out (fun _ _ h => h) (fun _ hk => hk.elim) (fun k hk => HM11.out _ (Nat.le_trans HK12.out.1 HG13.out.size) k hk) HI13.out.hb HI13.out.hb.size (by have := HIL.out; have := HV6.out; rw [List.length_take]; omega) ?_
            intro v14 w14 ho hb hg hat
            rw [← List.eraseIdx_eq_take_drop_succ] at ho
            obtain ⟨A14, c14, hv14⟩ := Kd.R_slice ho
            obtain ⟨L14, hL14⟩ : ∃ L, (F.out.eraseIdx i).length = L := ⟨_, rfl⟩
            rw [hL14] at hv14
            subst hv14
            have HL14 := Aside0.mk hL14
            clear hL14
            have HG14 : Aside0 (w12.grownBy w14 none) := ⟨by have g1 := HG13.out; exact ⟨hg.os.trans g1.os, hg.tape.trans g1.tape, hg.output.trans g1.output, Nat.le_trans g1.size hg.size, fun j hj _ => (hg.block j (Nat.lt_of_lt_of_le hj g1.size) (fun e1 => HA13.out.elim (fun h2 => by rw [← e1] at h2; simp [Value.ownBlock] at h2) (fun ⟨cc, h2, h3⟩ => by rw [← e1] at h2; injection h2 with h2; omega))).trans (g1.block j hj (by simp [Value.ownBlock]))⟩⟩
            have HI15 := Aside0.mk (HI12.out.out2 HG14.out hb ho)
            have HK15 := Aside0.mk (Kept.setCell (p := ⟨o, 0, none⟩) (Kept.of_grown HG14.out HK12.out (fun k hk => by cases hk)) (.inl HI12.out.mo.1) (.slice A14 L14 c14))
            have hyo := (blk_cell ((HG14.out.block o (blk_ltn HI12.out.ho) (by simp)).trans HI12.out.ho) 0).trans rfl
            have hzo := blk_frozen ((HG14.out.block o (blk_ltn HI12.out.ho) (by simp)).trans HI12.out.ho) 0
            clear ho hb hg hat
            refine hK.out _ _ ?_
            clear hK K
            refine norm_ (a' := ?_) ?_ ?_
            rotate_left
            · show Act.put _ (some 83) _ = _
              simp only [Act.put, List.setIfInBounds_toArray, List.set_cons_zero, List.set_cons_succ, i64_w, i32_w]
              rfl
            refine last_ (i := 9) (N := none) #[true, true, true, true, true, true, true, true, true, true] rfl rfl (one_of HT_.out (by kernel_rfl)) (by decide) (fun K hK => ?_)
            refine skip_ (w1 := ?_) (by rfl) rfl ?_ ?_
            rotate_left
            · go_simp
              rfl
            refine hK.out _ _ ?_
            clear hK K
            refine done_ (done_of HT_.out (by kernel_rfl)) ?_
            generalize (if co = i + 1 then Ao else Option.map (fun x => x.add ((i + 1) * 2)) Ao) = A82
            obtain ⟨w15, hw15⟩ : ∃ W, w14.setCell ⟨o, 0, none⟩ (.slice A14 L14 c14) = W := ⟨_, rfl⟩
            rw [hw15] at HI15 HK15 ⊢
            clear hw15 hil9 hil1 hil2 hil3 hil4 hil5 hil6 hil7 hil8 hwi
            go_upto_region 25 with fail
            have HB16 := Aside0.mk ((Below.refl w15.heap.size w15).alloc (Nat.le_refl _) (.cells #[.int .i64 0, .slice none 0 0, .bool false, .slice none 0 0] 59))
            have hn16 := heap_alloc_new w15 (.cells #[.int .i64 0, .slice none 0 0, .bool false, .slice none 0 0] 59)
            obtain ⟨w16, hw16⟩ : ∃ W, w15.alloc (.cells #[.int .i64 0, .slice none 0 0, .bool false, .slice none 0 0] 59) = W := ⟨_, rfl⟩
            rw [hw16] at HB16 hn16 ⊢
            obtain ⟨n, hn⟩ : ∃ n, w15.heap.size = n := ⟨_, rfl⟩
            have HMN := Aside0.mk (show M2 n ∧ w.heap.size ≤ n from ⟨HM11.out w15 HK15.out.1 n (Nat.le_of_eq hn), hn ▸ HI15.out.hb.size⟩)
            have HI16 := Aside0.mk (HI15.out.below HB16.out)
            have HK16 := Aside0.mk (HK15.out.below HB16.out)
            rw [hn] at hn16 ⊢
            have HN16 := Aside0.mk hn16
            clear hw16 hn hn16 HB16
            obtain ⟨Fe, hFe⟩ : ∃ Fe : Fs, Fe = { F with out := F.out.eraseIdx i, data := lay (growD F.data (a + (d.length : Int) - (F.data.length : Int))) d (min a.toNat (growD F.data (a + (d.length : Int) - (F.data.length : Int))).length) } := ⟨_, rfl⟩
            have HIe : Aside0 (RM M2 w w16 o f e m b Fe By k (.slice A14 L14 c14)) := ⟨by rw [hFe]; exact HI16.out.data _⟩
            have HCE : Aside0 (Cpl (byJ By na d d.length) Fe.data) := ⟨by
              rw [hFe]
              show Cpl _ (lay (growD F.data (a + (d.length : Int) - (F.data.length : Int))) d (min a.toNat (growD F.data (a + (d.length : Int) - (F.data.length : Int))).length))
              have h := HCG.out
              rw [← HNA.out] at h
              rw [show a.toNat = na by have := HNA.out; omega]
              exact h⟩
            have HGE : Aside0 (gotF F a c1 d = onF (swF Fe a c1 d.length).1 (swF Fe a c1 d.length).2) := ⟨by rw [hFe]; exact HGF.out⟩
            have HME : Aside0 (PInv (swF Fe a c1 d.length).1) := ⟨by rw [hFe]; exact HMD.out⟩
            have HFO := Aside0.mk (show Fe.out.length = L14 ∧ Fe.fin = F.fin by rw [hFe]; exact ⟨HL14.out, rfl⟩)
            clear hFe
            have hx11 := HX11.out w16 HK16.out
            have hg2 := (blk_cell hx11 2).trans rfl
            clear hx11
            go_wp2
            clear hg2
            go_loopw [87] (fun v87 wx => ∃ i2 : Nat, v87 = .int .i64 (i2 : Int) ∧ Aside0 (i2 ≤ d.length) ∧ Aside0 (RM M2 w wx o f e m b Fe (byJ By na d i2) (k + i2) (.slice A14 L14 c14)) ∧ Aside0 (Kept wr wx M2) ∧ Aside0 (wx.heap[n]? = some (.cells #[.int .i64 0, .slice none 0 0, .bool false, .slice none 0 0] 59 (0, 0)))) (fun v87 _ => d.length - (intOf v87).toNat)
            case atStart => exact ⟨0, rfl, ⟨Nat.zero_le _⟩, ⟨by rw [byJ_zero]; exact HIe.out⟩, HK16, HN16⟩
            case round =>
              clear HI16 HK16 HN16 HIe HI15 HK15
              obtain ⟨i2, rfl, HJ2, HI, HK, HN⟩ := hrel
              by_cases hi2 : i2 < d.length
              · have e8 : decide ((i2 : Int) < (d.length : Int)) = true := decide_eq_true (by omega)
                have e8n : decide (i2 < d.length) = true := decide_eq_true hi2
                have p3 : (0 : Int) ≤ (i2 : Int) := by omega
                have q3 : (i2 : Int) < (d.length : Int) := by omega
                obtain ⟨ad3, hA3, h0⟩ := Kd.at_int (Kd.C_below HDC.out HI.out.hb) (i2 : Int) p3 q3
                subst hA3
                rw [Int.toNat_natCast, show rd d (i2 : Int) = d.getD i2 0 by unfold rd; rw [Int.toNat_natCast]] at h0
                have hvb : 0 ≤ d.getD i2 0 ∧ d.getD i2 0 ≤ 255 := HDJ.out.2 _ (by rw [List.getD_eq_getElem?_getD, List.getElem?_eq_getElem hi2]; exact List.getElem_mem hi2)
                obtain ⟨D, hD1, hD2, hD3⟩ := HI.out.hB
                have HPUT := Aside0.mk (fun (w' : World) (hown : w'.ownsMap Try.prog 3 (plainElem Try.prog 5) b (k + i2 + 1) (D.put (.int .i64 (a + (i2 : Int))) (.lit (.int .u8 (d.getD i2 0))))) => MapIs.put (a := na) hD1 hD3 (by rw [← HNA.out]; exact hown))
                have HD2 := Aside0.mk hD2
                obtain ⟨v, hv⟩ : ∃ v, d.getD i2 0 = v := ⟨_, rfl⟩
                rw [hv] at h0 hvb HPUT
                have HPE := Aside0.mk (plainElem_int (H := Unit) (P := Try.prog) Try.underlying5 (WalkArith.wf_u8 hvb))
                have hkw : (Lit.int .i64 (a + (i2 : Int))).wf = true := WalkArith.wf_i64 (by have := HAC.out; have := HC5.out; omega)
                have HKM := Aside0.mk (show k + i2 < maxLen by have := HJ.out; have := HL.out; have := HAC.out; have := HC5.out; simp only [maxLen]; omega)
                have hwa : wrap64 (a + (i2 : Int)) = a + (i2 : Int) := by have := HAC.out; have := HC5.out; unfold wrap64; omega
                have HKY := Aside0.mk (show keyOf Try.prog 3 (.int .i64 (wrap64 (a + (i2 : Int)))) = some (.int .i64 (a + (i2 : Int))) by rw [hwa]; exact keyOf_int_mk Try.underlying3 hkw)
                clear hwa
                have HWI := Aside0.mk (wj1 (j := i2) (by have := HAC.out; have := HC5.out; omega))
                have hcm := (blk_cell HI.out.hm 0).trans rfl
                have hx11 := HX11.out wr HK.out
                have hg0 := (blk_cell hx11 0).trans rfl
                replace p3 := eq_true p3
                replace q3 := eq_true q3
                clear hx11 hvb hv hkw hD1 hD2 hD3
                go_upto_region 29 with (at_mapUpdate; refine wpList_mapUpdate_own _ rfl _ _ _ 112 rfl 3 5 (int_keyed Try.underlying3) Try.underlying112 (plainElem Try.prog 5) b (k + i2) D rfl HD2.out HKM.out _ _ _ rfl rfl HKY.out _ [] HPE.out ?_; intro w18 hown hg; have HM18 := Aside0.mk (HPUT.out _ hown); have HG18 := Aside0.mk hg; clear hown hg)
                go_wp2
                go_roundw
                case measure => rw [HWI.out]; simp only [intOf]; omega
                case rel => exact ⟨i2 + 1, by rw [HWI.out]; rfl, ⟨hi2⟩, ⟨HI.out.put HG18.out HM18.out⟩, ⟨Kept.of_grown HG18.out HK.out (fun j hj => by injection hj with hj; subst hj; exact .inl HI.out.mo.2.2.2)⟩, ⟨(HG18.out.block n (blk_ltn HN.out) (fun e1 => by injection e1 with e1; obtain ⟨_, _, h3⟩ := HI.out.hB.obj; have h2 := HN.out; rw [e1, h3] at h2; cases h2)).trans HN.out⟩⟩
              · have e8 : decide ((i2 : Int) < (d.length : Int)) = false := decide_eq_false (by omega)
                have e8n : decide (i2 < d.length) = false := decide_eq_false hi2
                obtain rfl : i2 = d.length := by have := HJ2.out; omega
                clear hi2
                obtain ⟨B2, hB2⟩ : ∃ B2, byJ By na d d.length = B2 := ⟨_, rfl⟩
                obtain ⟨k2, hk2⟩ : ∃ k2, k + d.length = k2 := ⟨_, rfl⟩
                rw [hB2] at HI HCE
                rw [hk2] at HI
                have HK2 := Aside0.mk (show k2 ≤ 3000 * (j + 1) by have := HJ.out; have := HAC.out; have := HC5.out; omega)
                clear hB2 hk2
                have HRN := Aside0.mk (show RN M2 w wr o f e m b n Fe B2 k2 zeroN (.slice A14 L14 c14) (.slice none 0 0) (.slice none 0 0) from ⟨HI.out, ⟨HN.out, Kd.R_nil _ _ _ _ _, Kd.R_nil _ _ _ _ _, HMN.out.2, HMN.out.1⟩, fun j hj e1 => by simp [Value.ownBlock] at e1⟩)
                have hx11 := HX11.out wr HK.out
                have hg0 := (blk_cell hx11 0).trans rfl
                have hg1 := (blk_cell hx11 1).trans rfl
                have hg2 := (blk_cell hx11 2).trans rfl
                clear hx11 HI HN
                by_cases h7 : d.length = 0
                · have e7 : ((d.length : Int) == 0) = true := beq_iff_eq.2 (by omega)
                  have hce := (blk_cell HRN.out.r.he 0).trans rfl
                  have hze := blk_frozen HRN.out.r.he 0
                  have hmin := minEnd (fin := Fe.fin) (a := a) (by have := HFO.out; have := HV.out.fin; have := HV.out.data; omega) (by have := HAC.out; omega)
                  obtain ⟨en, hen⟩ : ∃ x, endI Fe.fin = x := ⟨_, rfl⟩
                  obtain ⟨en2, hen2⟩ : ∃ x, endI (finR Fe.fin a) = x := ⟨_, rfl⟩
                  rw [hen, hen2] at hmin
                  rw [hen] at hce
                  have HE2 := Aside0.mk hen2
                  have HSW := Aside0.mk (show swF Fe a c1 d.length = ({ Fe with fin := finR Fe.fin a }, ⟨0, [], false, []⟩) by
                    unfold swF finR
                    by_cases h8 : Fe.fin < 0 ∨ a < Fe.fin
                    · rw [if_pos ⟨h7, h8⟩, if_pos h8]; rfl
                    · rw [if_neg (fun h => h8 h.2), if_neg (fun h => by omega), if_neg h8]; rfl)
                  clear h7 hen hen2
                  go_upto_region 36 with fail
                  have HI21 := Aside0.mk (HRN.out.fin (finR Fe.fin a))
                  rw [HE2.out] at HI21
                  have HK21 := Aside0.mk (Kept.setCell (p := ⟨e, 0, none⟩) HK.out (.inl HRN.out.r.mo.2.2.1) (.int .i64 en2))
                  obtain ⟨w21, hw21⟩ : ∃ W, wr.setCell ⟨e, 0, none⟩ (.int .i64 en2) = W := ⟨_, rfl⟩
                  rw [hw21] at HI21 HK21 ⊢
                  clear hw21 hg0 hg1 hg2 hce hze hmin
                  have hy0 : _ = some (Value.int .i64 0) := (blk_cell HI21.out.g.hn 0).trans rfl
                  have hy1 : _ = some (Value.slice none 0 0) := (blk_cell HI21.out.g.hn 1).trans rfl
                  have hy2 : _ = some (Value.bool false) := (blk_cell HI21.out.g.hn 2).trans rfl
                  have hy3 : _ = some (Value.slice none 0 0) := (blk_cell HI21.out.g.hn 3).trans rfl
                  obtain ⟨r9, hr9⟩ : ∃ r, onF ({ Fe with fin := finR Fe.fin a }) ⟨0, [], false, []⟩ = r := ⟨_, rfl⟩
                  have HG := Aside0.mk (show gotF F a c1 d = r9 by rw [HGE.out, HSW.out]; exact hr9)
                  rw [HSW.out] at HME
                  have HON := Aside0.mk (refon_calls M2 w _ o f e m b ({ Fe with fin := finR Fe.fin a }) B2 k2 0 [] _ (.slice none 0 0) (fun j hj => HM11.out _ HK21.out.1 j hj) HME.out HCE.out (Nat.le_of_ble_eq_true rfl) HI21.out.r HI21.out.g.hw HI21.out.ne)
                  have HC9 := Aside0.mk (show Cpl B2 r9.1.data by rw [← hr9, onF_data]; exact HCE.out)
                  rw [hr9] at HON
                  rw [HG.out] at HPL HVR
                  clear hr9
                  go_upto_region 37 with (first
                    | (go_at_call 64; refine HON.out.mono ?_; rintro er w30 hp30; obtain ⟨n30, vo30, vw30, vD30, he30, h30, k30⟩ := hp30; subst he30; have HN30 := Aside0.mk h30; obtain ⟨Aw1, cw1, hvw⟩ := Kd.R_slice h30.g.hw; subst hvw; obtain ⟨AD1, cD1, hvD⟩ := Kd.R_slice h30.g.hD; subst hvD; have HK30 := Aside0.mk (HK21.out.then_ k30 (fun j hj => .inl hj)); have HR30 := Aside0.mk (Kd.R_kept HR11.out HK30.out (fun j hj => hj)); clear h30 k30)
                    | ((with_reducible refine gate_builtin (b := .append) (xs := #[.tmp 136, .tmp 140]) rfl ?_); at_builtin; refine Kd.R_append k59 (w0 := w) w.heap.size rfl (.tmp 136) (.tmp 140) 54 59 (.agg #[.int .i64 0, .slice none 0 0, .bool false, .slice none 0 0]) 64 rfl Try.underlying54 info59 rfl (by decide) (by decide) (.slice A6 acc.length c6) acc (toS r9.2) [.int .i64 r9.2.code, .slice Aw1 r9.2.wants.length cw1, .bool r9.2.done, .slice AD1 r9.2.data.length cD1] (fun j => ¬ (M2 j ∧ some j ≠ (Value.slice Aw1 r9.2.wants.length cw1).ownBlock ∧ some j ≠ (Value.slice AD1 r9.2.data.length cD1).ownBlock) ∨ w30.heap.size ≤ j) (fun j => some j = (Value.slice Aw1 r9.2.wants.length cw1).ownBlock ∨ some j = (Value.slice AD1 r9.2.data.length cD1).ownBlock) rfl rfl (NN.cells HN30.out.g) ?aK (fun j hj => .inr hj) ?aO HN30.out.r.hb HN30.out.r.hb.size HAL.out ?_; (case aK => exact fun j hj => ⟨.inl (fun h => hj.elim h.2.1 h.2.2), fun e1 => HR30.out.1 j e1.symm (hj.elim (fun h => HN30.out.g.hw.1 j h.symm) (fun h => HN30.out.g.hD.1 j h.symm))⟩); (case aO => exact Kd.R_mono HR30.out (fun j hj => .inl (fun h => hj h.1))); intro v1 w31 ho hb hg hat; obtain ⟨A7, c7, hv7⟩ := Kd.R_slice ho; subst hv7; have HPI1 := Aside0.mk (QI.grow HN30.out.shed (fun j hj => ⟨HM11.out _ HK30.out.1 j hj, fun e1 => by have := own_lt HN30.out.g.hw e1.symm; omega, fun e1 => by have := own_lt HN30.out.g.hD e1.symm; omega⟩) (Kd.R_typed HR30.out) hg hb ho); clear ho hb hg hat))
                  go_wp2
                  go_roundw
                  case measure => rw [HWJ.out]; have := HJL.out; simp only [intOf]; omega
                  case rel => exact ⟨j + 1, r9.1, acc ++ [toS r9.2], A7, c7, B2, k2, by rw [HWJ.out]; rfl, by rw [List.length_append, List.length_singleton], ⟨by have := HJL.out; omega, by have := HJ.out; rw [List.length_append, List.length_singleton]; omega, HK2.out⟩, HVR, HC9, ⟨by have h := HPI1.out; rw [List.length_append, List.length_singleton] at h; exact h⟩, HPL⟩
                · have e7 : ((d.length : Int) == 0) = false := beq_eq_false_iff_ne.2 (by omega)
                  by_cases h8 : (d.length : Int) < c1
                  · have e9 : decide ((d.length : Int) < c1) = true := decide_eq_true h8
                    have HSW := Aside0.mk (show swF Fe a c1 d.length = ({ Fe with out := Fe.out ++ [⟨a + (d.length : Int), c1 - (d.length : Int)⟩] }, ⟨0, [⟨a + (d.length : Int), c1 - (d.length : Int)⟩], false, []⟩) by
                      unfold swF
                      rw [if_neg (fun h => h7 h.1), if_pos ⟨by omega, h8⟩]; rfl)
                    have hwa : wrap64 (a + (d.length : Int)) = a + (d.length : Int) := by have := HAC.out; have := HC5.out; unfold wrap64; omega
                    have hwc : wrap64 (c1 - (d.length : Int)) = c1 - (d.length : Int) := by have := HAC.out; have := HC5.out; unfold wrap64; omega
                    clear h7 h8
                    go_upto_region 34 with fail
                    clear hwa hwc
                    obtain ⟨x0, hx0⟩ : ∃ x, a + (d.length : Int) = x := ⟨_, rfl⟩
                    obtain ⟨x1_, hx1⟩ : ∃ x, c1 - (d.length : Int) = x := ⟨_, rfl⟩
                    rw [hx0, hx1] at HSW ⊢
                    clear hx0 hx1
                    have HNB := Aside0.mk (show some wr.heap.size ≠ (Value.slice A14 L14 c14).ownBlock ∧ wr.heap.size ≠ o ∧ wr.heap.size ≠ n from ⟨fun e1 => Nat.lt_irrefl _ (own_lt HRN.out.r.row e1.symm), fun e1 => Nat.lt_irrefl _ (e1 ▸ blk_ltn HRN.out.r.ho : wr.heap.size < wr.heap.size), fun e1 => Nat.lt_irrefl _ (e1 ▸ blk_ltn HRN.out.g.hn : wr.heap.size < wr.heap.size)⟩)
                    have HB17 := Aside0.mk ((Below.refl wr.heap.size wr).alloc (Nat.le_refl _) (.cells #[.int .i64 x0, .int .i64 x1_] 61))
                    have hx17 := heap_alloc_new wr (.cells #[.int .i64 x0, .int .i64 x1_] 61)
                    have HI17 := Aside0.mk (HRN.out.below HB17.out)
                    have HK17 := Aside0.mk (HK.out.below HB17.out)
                    obtain ⟨w17, hw17⟩ : ∃ W, wr.alloc (.cells #[.int .i64 x0, .int .i64 x1_] 61) = W := ⟨_, rfl⟩
                    obtain ⟨b18, hb18⟩ : ∃ j, wr.heap.size = j := ⟨_, rfl⟩
                    rw [hw17] at hx17 HI17 HK17 ⊢
                    rw [hb18] at hx17 HNB ⊢
                    have HX17 := Aside0.mk hx17
                    have hm0 := (blk_cell hx17 0).trans rfl
                    have hm1 := (blk_cell hx17 1).trans rfl
                    clear HB17 hw17 hb18 hg0 hg1 hg2 hx17
                    have hc0 := (blk_cell HI17.out.r.ho 0).trans rfl
                    have HMW := Aside0.mk (fun k hk => HM11.out w17 HK17.out.1 k hk)
                    go_upto_region 35 with ((with_reducible refine gate_builtin (b := .append) (xs := #[.tmp 126, .tmp 128]) rfl ?_); at_builtin; refine Kd.R_append k61 (w0 := w) w.heap.size rfl (.tmp 126) (.tmp 128) 57 61 (.agg #[.int .i64 0, .int .i64 0]) 16 rfl Try.underlying57 info61b rfl (by decide) (by decide) (.slice A14 L14 c14) Fe.out ⟨x0, x1_⟩ [.int .i64 x0, .int .i64 x1_] M2 (fun _ => False) rfl rfl (k61_mkM _ _ _ _) (fun _ hk => hk.elim) HMW.out HI17.out.r.row HI17.out.r.hb HI17.out.r.hb.size (by have := HFO.out; have := HL14.out; have := HV6.out; have := HIL.out; rw [List.length_eraseIdx_of_lt HIL.out] at *; omega) ?_; intro v1 w18 ho hb hg hat; obtain ⟨A18, c18, hv18⟩ := Kd.R_slice ho; subst hv18; obtain ⟨L18, hL18⟩ : ∃ L, (Fe.out ++ [(⟨x0, x1_⟩ : S61)]).length = L := ⟨_, rfl⟩; rw [hL18] at ho hat ⊢; have HO18 := Aside0.mk ho; have HG18 := Aside0.mk hg; have HB18 := Aside0.mk hb; have HAT18 := Aside0.mk hat; have hyo := (blk_cell (HI17.out.r.slotO hg) 0).trans rfl; have hzo := blk_frozen (HI17.out.r.slotO hg) 0; clear ho hb hg hat hL18)
                    have HI19 := Aside0.mk (HI17.out.out HG18.out HB18.out HO18.out HAT18.out)
                    have HK19 := Aside0.mk (Kept.setCell (p := ⟨o, 0, none⟩) (Kept.of_grown HG18.out HK17.out (fun k hk => .inl (HI17.out.r.row.1 k hk))) (.inl HI17.out.r.mo.1) (.slice A18 L18 c18))
                    have HX19 := Aside0.mk ((Below.heap_setCell w18 ⟨o, 0, none⟩ (.slice A18 L18 c18) b18 (fun e1 => HNB.out.2.1 e1)).trans ((HG18.out.block b18 (blk_ltn HX17.out) HNB.out.1).trans HX17.out))
                    obtain ⟨w19, hw19⟩ : ∃ W, w18.setCell ⟨o, 0, none⟩ (.slice A18 L18 c18) = W := ⟨_, rfl⟩
                    rw [hw19] at HI19 HK19 HX19 ⊢
                    clear hw19 hyo hzo hm0 hm1 hc0
                    have hm0 := (blk_cell HX19.out 0).trans rfl
                    have hm1 := (blk_cell HX19.out 1).trans rfl
                    have hy1 := (blk_cell HI19.out.g.hn 1).trans rfl
                    have HMW9 := Aside0.mk (fun k hk => HM11.out w19 HK19.out.1 k hk)
                    go_upto_region 36 with ((with_reducible refine gate_builtin (b := .append) (xs := #[.tmp 131, .tmp 133]) rfl ?_); at_builtin; refine Kd.R_append k61 (w0 := w) w.heap.size rfl (.tmp 131) (.tmp 133) 57 61 (.agg #[.int .i64 0, .int .i64 0]) 16 rfl Try.underlying57 info61b rfl (by decide) (by decide) (.slice none 0 0) [] ⟨x0, x1_⟩ [.int .i64 x0, .int .i64 x1_] M2 (fun _ => False) rfl rfl (k61_mkM _ _ _ _) (fun _ hk => hk.elim) HMW9.out (Kd.R_nil _ _ _ _ _) HI19.out.r.hb HI19.out.r.hb.size (by decide) ?_; intro v1 w20 ho hb hg hat; rw [List.nil_append] at ho; obtain ⟨A20, c20, hv20⟩ := Kd.R_slice ho; subst hv20; have HO20 := Aside0.mk ho; have HG20 := Aside0.mk hg; have HB20 := Aside0.mk hb; have HAT20 := Aside0.mk hat; have hyn := (blk_cell (HI19.out.g.slotW hg) 1).trans rfl; have hzn := blk_frozen (HI19.out.g.slotW hg) 1; clear ho hb hg hat)
                    have HI21 := Aside0.mk (HI19.out.wants HG20.out HB20.out HO20.out HAT20.out)
                    have HK21 := Aside0.mk (Kept.setCell (p := ⟨n, 1, none⟩) (Kept.of_grown HG20.out HK19.out (fun k hk => by simp [Value.ownBlock] at hk)) (.inl HI19.out.g.mn) (.slice A20 1 c20))
                    obtain ⟨w21, hw21⟩ : ∃ W, w20.setCell ⟨n, 1, none⟩ (.slice A20 1 c20) = W := ⟨_, rfl⟩
                    have HI21 : Aside0 (RN M2 w w21 o f e m b n { Fe with out := Fe.out ++ [⟨x0, x1_⟩] } B2 k2 { zeroN with wants := [⟨x0, x1_⟩] } (.slice A18 L18 c18) (.slice A20 1 c20) (.slice none 0 0)) := ⟨by rw [← hw21]; exact HI21.out⟩
                    rw [hw21] at HK21
                    first | rw [hw21] | (rw [show w20.setCell ⟨n, 1, none⟩ (.slice A20 [(⟨x0, x1_⟩ : S61)].length c20) = w21 from hw21])
                    clear hw21 hyn hzn hm0 hm1 hy1
                    have hy0 : _ = some (Value.int .i64 0) := (blk_cell HI21.out.g.hn 0).trans rfl
                    have hy1 : _ = some (Value.slice A20 1 c20) := (blk_cell HI21.out.g.hn 1).trans rfl
                    have hy2 : _ = some (Value.bool false) := (blk_cell HI21.out.g.hn 2).trans rfl
                    have hy3 : _ = some (Value.slice none 0 0) := (blk_cell HI21.out.g.hn 3).trans rfl
                    obtain ⟨r9, hr9⟩ : ∃ r, onF ({ Fe with out := Fe.out ++ [⟨x0, x1_⟩] }) ⟨0, [⟨x0, x1_⟩], false, []⟩ = r := ⟨_, rfl⟩
                    have HG := Aside0.mk (show gotF F a c1 d = r9 by rw [HGE.out, HSW.out]; exact hr9)
                    rw [HSW.out] at HME
                    have HON := Aside0.mk (refon_calls M2 w _ o f e m b ({ Fe with out := Fe.out ++ [⟨x0, x1_⟩] }) B2 k2 0 [⟨x0, x1_⟩] _ (.slice A20 1 c20) (fun j hj => HM11.out _ HK21.out.1 j hj) HME.out HCE.out (Nat.le_of_ble_eq_true rfl) HI21.out.r HI21.out.g.hw HI21.out.ne)
                    have HC9 := Aside0.mk (show Cpl B2 r9.1.data by rw [← hr9, onF_data]; exact HCE.out)
                    rw [hr9] at HON
                    rw [HG.out] at HPL HVR
                    clear hr9
                    go_upto_region 37 with (first
                      | (go_at_call 64; refine HON.out.mono ?_; rintro er w30 hp30; obtain ⟨n30, vo30, vw30, vD30, he30, h30, k30⟩ := hp30; subst he30; have HN30 := Aside0.mk h30; obtain ⟨Aw1, cw1, hvw⟩ := Kd.R_slice h30.g.hw; subst hvw; obtain ⟨AD1, cD1, hvD⟩ := Kd.R_slice h30.g.hD; subst hvD; have HK30 := Aside0.mk (HK21.out.then_ k30 (fun j hj => .inl hj)); have HR30 := Aside0.mk (Kd.R_kept HR11.out HK30.out (fun j hj => hj)); clear h30 k30)
                      | ((with_reducible refine gate_builtin (b := .append) (xs := #[.tmp 136, .tmp 140]) rfl ?_); at_builtin; refine Kd.R_append k59 (w0 := w) w.heap.size rfl (.tmp 136) (.tmp 140) 54 59 (.agg #[.int .i64 0, .slice none 0 0, .bool false, .slice none 0 0]) 64 rfl Try.underlying54 info59 rfl (by decide) (by decide) (.slice A6 acc.length c6) acc (toS r9.2) [.int .i64 r9.2.code, .slice Aw1 r9.2.wants.length cw1, .bool r9.2.done, .slice AD1 r9.2.data.length cD1] (fun j => ¬ (M2 j ∧ some j ≠ (Value.slice Aw1 r9.2.wants.length cw1).ownBlock ∧ some j ≠ (Value.slice AD1 r9.2.data.length cD1).ownBlock) ∨ w30.heap.size ≤ j) (fun j => some j = (Value.slice Aw1 r9.2.wants.length cw1).ownBlock ∨ some j = (Value.slice AD1 r9.2.data.length cD1).ownBlock) rfl rfl (NN.cells HN30.out.g) ?aK (fun j hj => .inr hj) ?aO HN30.out.r.hb HN30.out.r.hb.size HAL.out ?_; (case aK => exact fun j hj => ⟨.inl (fun h => hj.elim h.2.1 h.2.2), fun e1 => HR30.out.1 j e1.symm (hj.elim (fun h => HN30.out.g.hw.1 j h.symm) (fun h => HN30.out.g.hD.1 j h.symm))⟩); (case aO => exact Kd.R_mono HR30.out (fun j hj => .inl (fun h => hj h.1))); intro v1 w31 ho hb hg hat; obtain ⟨A7, c7, hv7⟩ := Kd.R_slice ho; subst hv7; have HPI1 := Aside0.mk (QI.grow HN30.out.shed (fun j hj => ⟨HM11.out _ HK30.out.1 j hj, fun e1 => by have := own_lt HN30.out.g.hw e1.symm; omega, fun e1 => by have := own_lt HN30.out.g.hD e1.symm; omega⟩) (Kd.R_typed HR30.out) hg hb ho); clear ho hb hg hat))
                    go_wp2
                    go_roundw
                    case measure => rw [HWJ.out]; have := HJL.out; simp only [intOf]; omega
                    case rel => exact ⟨j + 1, r9.1, acc ++ [toS r9.2], A7, c7, B2, k2, by rw [HWJ.out]; rfl, by rw [List.length_append, List.length_singleton], ⟨by have := HJL.out; omega, by have := HJ.out; rw [List.length_append, List.length_singleton]; omega, HK2.out⟩, HVR, HC9, ⟨by have h := HPI1.out; rw [List.length_append, List.length_singleton] at h; exact h⟩, HPL⟩
                  · have e9 : decide ((d.length : Int) < c1) = false := decide_eq_false h8
                    have HSW := Aside0.mk (show swF Fe a c1 d.length = (Fe, ⟨0, [], false, []⟩) by
                      unfold swF
                      rw [if_neg (fun h => h7 h.1), if_neg (fun h => h8 h.2)]; rfl)
                    clear h7 h8
                    go_upto_region 36 with fail
                    clear hg0 hg1 hg2
                    have hy0 : _ = some (Value.int .i64 0) := (blk_cell HRN.out.g.hn 0).trans rfl
                    have hy1 : _ = some (Value.slice none 0 0) := (blk_cell HRN.out.g.hn 1).trans rfl
                    have hy2 : _ = some (Value.bool false) := (blk_cell HRN.out.g.hn 2).trans rfl
                    have hy3 : _ = some (Value.slice none 0 0) := (blk_cell HRN.out.g.hn 3).trans rfl
                    obtain ⟨r9, hr9⟩ : ∃ r, onF (Fe) ⟨0, [], false, []⟩ = r := ⟨_, rfl⟩
                    have HG := Aside0.mk (show gotF F a c1 d = r9 by rw [HGE.out, HSW.out]; exact hr9)
                    rw [HSW.out] at HME
                    have HON := Aside0.mk (refon_calls M2 w _ o f e m b (Fe) B2 k2 0 [] _ (.slice none 0 0) (fun j hj => HM11.out _ HK.out.1 j hj) HME.out HCE.out (Nat.le_of_ble_eq_true rfl) HRN.out.r HRN.out.g.hw HRN.out.ne)
                    have HC9 := Aside0.mk (show Cpl B2 r9.1.data by rw [← hr9, onF_data]; exact HCE.out)
                    rw [hr9] at HON
                    rw [HG.out] at HPL HVR
                    clear hr9
                    go_upto_region 37 with (first
                      | (go_at_call 64; refine HON.out.mono ?_; rintro er w30 hp30; obtain ⟨n30, vo30, vw30, vD30, he30, h30, k30⟩ := hp30; subst he30; have HN30 := Aside0.mk h30; obtain ⟨Aw1, cw1, hvw⟩ := Kd.R_slice h30.g.hw; subst hvw; obtain ⟨AD1, cD1, hvD⟩ := Kd.R_slice h30.g.hD; subst hvD; have HK30 := Aside0.mk (HK.out.then_ k30 (fun j hj => .inl hj)); have HR30 := Aside0.mk (Kd.R_kept HR11.out HK30.out (fun j hj => hj)); clear h30 k30)
                      | ((with_reducible refine gate_builtin (b := .append) (xs := #[.tmp 136, .tmp 140]) rfl ?_); at_builtin; refine Kd.R_append k59 (w0 := w) w.heap.size rfl (.tmp 136) (.tmp 140) 54 59 (.agg #[.int .i64 0, .slice none 0 0, .bool false, .slice none 0 0]) 64 rfl Try.underlying54 info59 rfl (by decide) (by decide) (.slice A6 acc.length c6) acc (toS r9.2) [.int .i64 r9.2.code, .slice Aw1 r9.2.wants.length cw1, .bool r9.2.done, .slice AD1 r9.2.data.length cD1] (fun j => ¬ (M2 j ∧ some j ≠ (Value.slice Aw1 r9.2.wants.length cw1).ownBlock ∧ some j ≠ (Value.slice AD1 r9.2.data.length cD1).ownBlock) ∨ w30.heap.size ≤ j) (fun j => some j = (Value.slice Aw1 r9.2.wants.length cw1).ownBlock ∨ some j = (Value.slice AD1 r9.2.data.length cD1).ownBlock) rfl rfl (NN.cells HN30.out.g) ?aK (fun j hj => .inr hj) ?aO HN30.out.r.hb HN30.out.r.hb.size HAL.out ?_; (case aK => exact fun j hj => ⟨.inl (fun h => hj.elim h.2.1 h.2.2), fun e1 => HR30.out.1 j e1.symm (hj.elim (fun h => HN30.out.g.hw.1 j h.symm) (fun h => HN30.out.g.hD.1 j h.symm))⟩); (case aO => exact Kd.R_mono HR30.out (fun j hj => .inl (fun h => hj h.1))); intro v1 w31 ho hb hg hat; obtain ⟨A7, c7, hv7⟩ := Kd.R_slice ho; subst hv7; have HPI1 := Aside0.mk (QI.grow HN30.out.shed (fun j hj => ⟨HM11.out _ HK30.out.1 j hj, fun e1 => by have := own_lt HN30.out.g.hw e1.symm; omega, fun e1 => by have := own_lt HN30.out.g.hD e1.symm; omega⟩) (Kd.R_typed HR30.out) hg hb ho); clear ho hb hg hat))
                    go_wp2
                    go_roundw
                    case measure => rw [HWJ.out]; have := HJL.out; simp only [intOf]; omega
                    case rel => exact ⟨j + 1, r9.1, acc ++ [toS r9.2], A7, c7, B2, k2, by rw [HWJ.out]; rfl, by rw [List.length_append, List.length_singleton], ⟨by have := HJL.out; omega, by have := HJ.out; rw [List.length_append, List.length_singleton]; omega, HK2.out⟩, HVR, HC9, ⟨by have h := HPI1.out; rw [List.length_append, List.length_singleton] at h; exact h⟩, HPL⟩
    · have e1_ : decide ((j : Int) < (l.length : Int)) = false := decide_eq_false (by omega)
      have e1n : decide (j < l.length) = false := decide_eq_false hj
      have HRE := Aside0.mk (show playF l = (acc, 0) by
        have h2 := HE.out
        rw [List.drop_eq_nil_of_le (by omega)] at h2
        rw [HP.out, ← h2]
        rfl)
      have HRW := Aside0.mk hrw
      clear h hM hrw hj
      go_wp2
      go_ret2
      rw [HRE.out]
      exact ⟨_, rfl, Kd.R_mono HRW.out (fun _ _ => trivial), HB.out⟩
end Go.Proofs.Ytkghoodhgihokaa.Fetch
