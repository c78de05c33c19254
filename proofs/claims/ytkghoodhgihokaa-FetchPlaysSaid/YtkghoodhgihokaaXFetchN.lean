/- Fetch: the law. -/
import Derived.Test.YtkghoodhgihokaaXFetchM
namespace Go.Proofs.Ytkghoodhgihokaa.Fetch
open Go.RowKit Go.Lib Go.Maps Go.Proofs.YtkghoodhgihokaaW.PrintWords Go.Proofs.YtkghoodhgihokaaW.PrintLast Go.Proofs.YtkghoodhgihokaaW.PrintMore Go.Proofs.Ytkghoodhgihokaa.HFetchPlays
set_option linter.unusedVariables false
set_option linter.unusedSimpArgs false
theorem same_l0 (l : List Int) (hl : l.length ≤ 100000) : ∀ (d k i : Nat), l.length - i = d → i ≤ l.length → d < k → packthreadlaw_sameBytes.l0 k l l (i : Int) = some true := by
  intro d
  induction d with
  | zero =>
    intro k i hd hi hk
    obtain ⟨k, rfl⟩ : ∃ m, k = m + 1 := ⟨k - 1, by omega⟩
    rw [packthreadlaw_sameBytes.l0, if_neg (by omega)]
  | succ d ih =>
    intro k i hd hi hk
    obtain ⟨k, rfl⟩ : ∃ m, k = m + 1 := ⟨k - 1, by omega⟩
    rw [packthreadlaw_sameBytes.l0, if_pos (by omega), if_pos (by omega), if_pos (by omega), if_pos rfl, show wrap64 ((i : Int) + 1) = ((i + 1 : Nat) : Int) by unfold wrap64; omega]
    exact ih k (i + 1) (by omega) (by omega) (by omega)
theorem same_is (l : List Int) (hl : l.length ≤ 100000) : packthreadlaw_sameBytes.f (l.length + 1) l l = some true := by
  unfold packthreadlaw_sameBytes.f
  rw [if_pos rfl]
  exact same_l0 l hl l.length (l.length + 1) 0 (by omega) (by omega) (by omega)
/-! ### The rows are short -/
theorem onF_short (F : Fs) (N : Nx) (h : PInv F) (hN : N.wants.length ≤ 1 ∧ N.data.length ≤ 2148) : (onF F N).2.wants.length ≤ 10000 ∧ (onF F N).2.data.length ≤ 10000 := by
  have h1 : ∀ (k : Nat) (F : Fs) (N : Nx), (onL k F N).2.wants.length ≤ N.wants.length + k := by
    intro k
    induction k with
    | zero => intro F N; exact Nat.le_refl _
    | succ k ih =>
      intro F N
      show (if goOn F = true then Fetch.onL k _ _ else (F, N)).2.wants.length ≤ _
      by_cases hg : goOn F = true
      · rw [if_pos hg]
        refine Nat.le_trans (ih _ _) ?_
        show (N.wants ++ [_]).length + k ≤ _
        rw [List.length_append, List.length_singleton]
        omega
      · rw [if_neg hg]
        show N.wants.length ≤ _
        omega
  have h2 := h1 6 F N
  have h3 := onL_data 6 F N
  have h4 := PInv.onL 6 N h
  unfold onF
  split
  · refine ⟨by show (onL 6 F N).2.wants.length ≤ _; omega, ?_⟩
    show ((onL 6 F N).1.data.take _).length ≤ _
    rw [List.length_take]
    have := h4.data
    omega
  · refine ⟨by omega, ?_⟩
    rw [h3.2.2.1]
    omega
def Short (l : List S59) : Prop := ∀ x ∈ l, x.f1.length ≤ 10000 ∧ x.f3.length ≤ 10000
theorem Short.snoc {l : List S59} {x : S59} (h : Short l) (hx : x.f1.length ≤ 10000 ∧ x.f3.length ≤ 10000) : Short (l ++ [x]) := by
  intro y hy
  rcases List.mem_append.1 hy with hy | hy
  · exact h y hy
  · rw [List.mem_singleton.1 hy]; exact hx
theorem gotF_short (F : Fs) (a c : Int) (d : List Int) (h : PInv F) : (gotF F a c d).2.wants.length ≤ 10000 ∧ (gotF F a c d).2.data.length ≤ 10000 := by
  cases hi : idxW F.out a c 0 with
  | none => unfold gotF; rw [hi]; exact ⟨Nat.zero_le _, Nat.zero_le _⟩
  | some i =>
    by_cases h5 : c < (d.length : Int)
    · have : gotF F a c d = (F, { zeroN with code := 1 }) := by unfold gotF; rw [hi]; exact if_pos h5
      rw [this]; exact ⟨Nat.zero_le _, Nat.zero_le _⟩
    · rw [gotF_some hi h5]
      refine onF_short _ _ (PInv.mid h hi h5) ?_
      unfold swF
      split
      · exact ⟨Nat.zero_le _, Nat.zero_le _⟩
      · split
        · exact ⟨Nat.le_refl _, Nat.zero_le _⟩
        · exact ⟨Nat.zero_le _, Nat.zero_le _⟩
theorem playL_short : ∀ (l : List S110) (F : Fs) (acc : List S59), PInv F → Short acc → Short (playL l F acc) ∧ (playL l F acc).length = acc.length + l.length
  | [], F, acc, h, hs => ⟨hs, by show acc.length = acc.length + 0; omega⟩
  | g :: t, F, acc, h, hs => by
    obtain ⟨h1, h2⟩ := playL_short t (gotF F g.f0 g.f1 g.f2).1 (acc ++ [toS (gotF F g.f0 g.f1 g.f2).2]) (PInv.gotF h) (hs.snoc (gotF_short F g.f0 g.f1 g.f2 h))
    refine ⟨h1, h2.trans ?_⟩
    rw [List.length_append, List.length_singleton, List.length_cons]
    omega
theorem playF_short (l : List S110) : Short (playF l).1 ∧ (playF l).1.length ≤ 301 := by
  unfold playF
  by_cases h : l.length > 300
  · rw [if_pos h]; exact ⟨fun x hx => (by cases hx), Nat.zero_le _⟩
  · rw [if_neg h]
    obtain ⟨h1, h2⟩ := playL_short l (onF F00 zeroN).1 [toS (onF F00 zeroN).2] (PInv.onF _ PInv00) (fun x hx => by rw [List.mem_singleton.1 hx]; exact onF_short F00 zeroN PInv00 ⟨Nat.zero_le _, Nat.zero_le _⟩)
    exact ⟨h1, by rw [h2]; simp; omega⟩
attribute [local go_sem high] eqA61
set_option maxHeartbeats 8000000 in
set_option maxRecDepth 100000 in
theorem law_calls (A : Option Addr) (c : Nat) (l : List S110) (w : World) (hr : Kd.C k110 w A l.length l) (hd : ∀ x ∈ l, x.f2.length ≤ 140737488351232 ∧ ∀ y ∈ x.f2, 0 ≤ y ∧ y ≤ 255) :
    Calls Try.prog 11 #[.slice A l.length c] w fun e w' => e = .returned (.bool true) ∧ Below w.heap.size w w' := by
  have HP := Aside0.mk (play_calls A c l w hr (fun x hx => (hd x hx).1))
  have HQ := Aside0.mk (fun W (hW : Below w.heap.size w W) => ref_calls A c l W (Kd.C_below hr hW) hd)
  have HS := Aside0.mk (playF_short l)
  obtain ⟨X, hX⟩ : ∃ X, (playF l).1 = X := ⟨_, rfl⟩
  obtain ⟨cd, hcd⟩ : ∃ X, (playF l).2 = X := ⟨_, rfl⟩
  rw [hX] at HP HS
  rw [hcd] at HP
  simp only [hX, hcd] at HQ
  clear hr hd hX hcd
  go_enter Try.func11, Try.ntmps11
  go_upto_region 2 with (go_at_call 33; refine HP.out.mono ?_; rintro er w1 ⟨v1, rfl, ho1, hb1⟩; obtain ⟨A1, c1, hv1⟩ := Kd.R_slice ho1; subst hv1; have HO1 := Aside0.mk ho1; have HB1 := Aside0.mk hb1; clear ho1 hb1)
  have HQ1 := Aside0.mk (HQ.out w1 HB1.out)
  go_upto_region 3 with (go_at_call 34; refine HQ1.out.mono ?_; rintro er w2 ⟨v2, rfl, ho2, hb2⟩; obtain ⟨A2, c2, hv2⟩ := Kd.R_slice ho2; subst hv2; have HO2 := Aside0.mk ho2; have HB2 := Aside0.mk hb2; clear ho2 hb2)
  have HX1 := Aside0.mk (Kd.R_reads' (Kd.R_below HO1.out HB2.out)).2.2
  have HX2 := Aside0.mk (Kd.R_reads' HO2.out).2.2
  have HB3 := Aside0.mk (HB1.out.trans (HB2.out.mono HB1.out.size))
  go_wp2
  go_loopw [7] (fun v7 wr => ∃ i : Nat, v7 = .int .i64 (i : Int) ∧ Aside0 (i ≤ X.length) ∧ Aside0 (Below w2.heap.size w2 wr)) (fun v7 _ => X.length - (intOf v7).toNat)
  case atStart => exact ⟨0, rfl, ⟨Nat.zero_le _⟩, ⟨Below.refl _ _⟩⟩
  case round =>
    obtain ⟨i, rfl, HIi, HB⟩ := hrel
    by_cases hi : i < X.length
    · have e1_ : decide ((i : Int) < (X.length : Int)) = true := decide_eq_true (by omega)
      have e1n : decide (i < X.length) = true := decide_eq_true hi
      have p1 : (0 : Int) ≤ (i : Int) := by omega
      have q1 : (i : Int) < (X.length : Int) := by omega
      have hsh : (rd_T59 X (i : Int)).f1.length ≤ 10000 ∧ (rd_T59 X (i : Int)).f3.length ≤ 10000 := by
        have hm : rd_T59 X (i : Int) = X[i] := by unfold rd_T59; rw [Int.toNat_natCast, List.getD_eq_getElem?_getD, List.getElem?_eq_getElem hi]; rfl
        rw [hm]
        exact HS.out.1 _ (List.getElem_mem hi)
      obtain ⟨ad1, B1, d1, B3, d3, hA1, h0, h1, h2, h3, l1, g1, l3, g3⟩ := at_T59 (Kd.C_below HX1.out HB.out) (i : Int) p1 q1
      obtain ⟨ad2, E1, f1, E3, f3, hA2, m0, m1, m2, m3, n1, j1, n3, j3⟩ := at_T59 (Kd.C_below HX2.out HB.out) (i : Int) p1 q1
      subst hA1 hA2
      obtain ⟨y, hy⟩ : ∃ y, rd_T59 X (i : Int) = y := ⟨_, rfl⟩
      simp only [hy, Int.toNat_natCast] at h0 h1 h2 h3 l1 g1 l3 g3 m0 m1 m2 m3 n1 j1 n3 j3 hsh
      obtain ⟨y0, y1, y2, y3⟩ := y
      dsimp only at h0 h1 h2 h3 l1 g1 l3 g3 m0 m1 m2 m3 n1 j1 n3 j3 hsh
      have HG1 := Aside0.mk g1
      have HJ1 := Aside0.mk j1
      have HSB := Aside0.mk (fun W (hW : Below wr.heap.size wr W) => packthreadlaw_sameBytes.calls (y3.length + 1) B3 d3 y3 E3 f3 y3 true W (Kd.C_below g3 hW) l3 (Kd.C_below j3 hW) n3 (same_is y3 (by omega)))
      have HSH := Aside0.mk hsh
      have HWI := Aside0.mk (wj1 (j := i) (by have := HS.out.2; omega))
      replace p1 := eq_true p1
      replace q1 := eq_true q1
      have HII := Aside0.mk hi
      clear hy g1 j1 g3 j3 l1 l3 n1 n3 hsh hi
      go_upto_region 9 with fail
      have hb3 := (Below.refl wr.heap.size wr).alloc (Nat.le_refl _) (.cells #[.int .i64 y0, .slice B1 y1.length d1, .bool y2, .slice B3 y3.length d3] 59)
      have HX8 := Aside0.mk (heap_alloc_new wr (.cells #[.int .i64 y0, .slice B1 y1.length d1, .bool y2, .slice B3 y3.length d3] 59))
      obtain ⟨w3, hw3⟩ : ∃ W, wr.alloc (.cells #[.int .i64 y0, .slice B1 y1.length d1, .bool y2, .slice B3 y3.length d3] 59) = W := ⟨_, rfl⟩
      rw [hw3] at hb3 HX8 ⊢
      replace m0 := below_cell hb3 m0
      replace m1 := below_cell hb3 m1
      replace m2 := below_cell hb3 m2
      replace m3 := below_cell hb3 m3
      obtain ⟨b8, hb8⟩ : ∃ b, wr.heap.size = b := ⟨_, rfl⟩
      rw [hb8] at HX8 ⊢
      have HB3' := Aside0.mk hb3
      clear hw3 h0 h1 h2 h3 hb3 hb8
      go_upto_region 10 with fail
      have hb4 := (Below.refl w3.heap.size w3).alloc (Nat.le_refl _) (.cells #[.int .i64 y0, .slice E1 y1.length f1, .bool y2, .slice E3 y3.length f3] 59)
      have HX9 := Aside0.mk (heap_alloc_new w3 (.cells #[.int .i64 y0, .slice E1 y1.length f1, .bool y2, .slice E3 y3.length f3] 59))
      obtain ⟨w4, hw4⟩ : ∃ W, w3.alloc (.cells #[.int .i64 y0, .slice E1 y1.length f1, .bool y2, .slice E3 y3.length f3] 59) = W := ⟨_, rfl⟩
      rw [hw4] at hb4 HX9 ⊢
      have HX8' := Aside0.mk ((hb4.block b8 (blk_ltn HX8.out)).trans HX8.out)
      obtain ⟨b9, hb9⟩ : ∃ b, w3.heap.size = b := ⟨_, rfl⟩
      rw [hb9] at HX9 ⊢
      have HB4 := Aside0.mk (HB3'.out.trans (hb4.mono HB3'.out.size))
      clear hw4 hb4 hb9 m0 m1 m2 m3
      have HSB4 := Aside0.mk (HSB.out w4 HB4.out)
      have h0 := (blk_cell HX8'.out 0).trans rfl
      have h1 := (blk_cell HX8'.out 1).trans rfl
      have h2 := (blk_cell HX8'.out 2).trans rfl
      have h3 := (blk_cell HX8'.out 3).trans rfl
      have m0 := (blk_cell HX9.out 0).trans rfl
      have m1 := (blk_cell HX9.out 1).trans rfl
      have m2 := (blk_cell HX9.out 2).trans rfl
      have m3 := (blk_cell HX9.out 3).trans rfl
      go_upto_region 12 with (go_at_call 17; (try (refine gate_guard (by rfl) ?_; dsimp only)); refine HSB4.out.mono ?_; rintro er w5 ⟨rfl, hdr⟩; have HB5 := Aside0.mk (Drawn0.below hdr); have h1 := below_cell HB5.out h1; have m1 := below_cell HB5.out m1; clear hdr)
      clear h0 h1 h2 h3 m0 m1 m2 m3
      have HB45 := Aside0.mk (HB4.out.trans (HB5.out.mono HB4.out.size))
      have HX85 := Aside0.mk ((HB5.out.block b8 (blk_ltn HX8'.out)).trans HX8'.out)
      have HX95 := Aside0.mk ((HB5.out.block b9 (blk_ltn HX9.out)).trans HX9.out)
      obtain ⟨lw, hlw⟩ : ∃ k, y1.length = k := ⟨_, rfl⟩
      have HLW := Aside0.mk (show lw ≤ 10000 by rw [← hlw]; exact HSH.out.1)
      rw [hlw] at HX85 HX95 HG1 HJ1
      simp only [hlw]
      clear hlw
      go_wp2
      go_loopw [10] (fun v10 wx => ∃ k : Nat, v10 = .int .i64 (k : Int) ∧ Aside0 (k ≤ lw) ∧ Aside0 (Below w5.heap.size w5 wx)) (fun v10 _ => lw - (intOf v10).toNat)
      case atStart => exact ⟨0, rfl, ⟨Nat.zero_le _⟩, ⟨Below.refl _ _⟩⟩
      case round =>
        obtain ⟨k, rfl, HKk, HBk⟩ := hrel
        have hx8 := (HBk.out.block b8 (blk_ltn HX85.out)).trans HX85.out
        have hx9 := (HBk.out.block b9 (blk_ltn HX95.out)).trans HX95.out
        have h1 := (blk_cell hx8 1).trans rfl
        have m1 := (blk_cell hx9 1).trans rfl
        clear hx8 hx9
        by_cases hk : k < lw
        · have e2_ : decide ((k : Int) < (lw : Int)) = true := decide_eq_true (by omega)
          have e2n : decide (k < lw) = true := decide_eq_true hk
          have p2 : (0 : Int) ≤ (k : Int) := by omega
          have q2 : (k : Int) < (lw : Int) := by omega
          have HB6 := Aside0.mk (HB45.out.trans (HBk.out.mono HB45.out.size))
          obtain ⟨ad3, hA3, r0, r1⟩ := at_T61 (Kd.C_below HG1.out HB6.out) (k : Int) p2 q2
          obtain ⟨ad4, hA4, s0, s1⟩ := at_T61 (Kd.C_below HJ1.out HB6.out) (k : Int) p2 q2
          subst hA3 hA4
          rw [Int.toNat_natCast] at r0 r1 s0 s1
          obtain ⟨z, hz⟩ : ∃ z, rd_T61 y1 (k : Int) = z := ⟨_, rfl⟩
          rw [hz] at r0 r1 s0 s1
          replace p2 := eq_true p2
          replace q2 := eq_true q2
          have HWK := Aside0.mk (wj1 (j := k) (by have := HLW.out; omega))
          clear hz
          go_upto_region 15 with fail
          go_quiet (fail)
          go_wp2
          go_roundw
          case measure => rw [HWK.out]; simp only [intOf]; omega
          case rel => exact ⟨k + 1, by rw [HWK.out]; rfl, ⟨hk⟩, ⟨HBk.out.trans ⟨rfl, rfl, rfl, Nat.le_refl _, fun _ _ => rfl⟩⟩⟩
        · have e2_ : decide ((k : Int) < (lw : Int)) = false := decide_eq_false (by omega)
          have e2n : decide (k < lw) = false := decide_eq_false hk
          clear hk
          go_wp2
          go_roundw
          case measure => rw [HWI.out]; have := HII.out; simp only [intOf]; omega
          case rel => exact ⟨i + 1, by rw [HWI.out]; rfl, ⟨HII.out⟩, ⟨HB.out.trans ((HB45.out.trans (HBk.out.mono HB45.out.size)).mono HB.out.size)⟩⟩
    · have e1_ : decide ((i : Int) < (X.length : Int)) = false := decide_eq_false (by omega)
      have e1n : decide (i < X.length) = false := decide_eq_false hi
      go_wp2
      go_ret
      exact ⟨rfl, HB3.out.trans (HB.out.mono HB3.out.size)⟩
/-- Arguments that a machine can hold. -/
def okB (l : List S110) : Bool := l.all (fun x => decide (x.f2.length ≤ 140737488351232) && x.f2.all (fun y => decide (0 ≤ y) && decide (y ≤ 255)))
theorem okB_iff {l : List S110} : okB l = true ↔ ∀ x ∈ l, x.f2.length ≤ 140737488351232 ∧ ∀ y ∈ x.f2, 0 ≤ y ∧ y ≤ 255 := by
  unfold okB
  simp only [List.all_eq_true, Bool.and_eq_true, decide_eq_true_eq]
end Go.Proofs.Ytkghoodhgihokaa.Fetch
