/- Fetch: fetch.Play. -/
import Derived.Test.YtkghoodhgihokaaXFetchH
namespace Go.Proofs.Ytkghoodhgihokaa.Fetch
open Go.RowKit Go.Lib Go.Proofs.YtkghoodhgihokaaW.PrintWords Go.Proofs.YtkghoodhgihokaaW.PrintLast Go.Proofs.YtkghoodhgihokaaW.PrintMore Go.Proofs.Ytkghoodhgihokaa.HFetchPlays
set_option linter.unusedVariables false
set_option linter.unusedSimpArgs false
theorem lit59 {w : World} {B : Nat} {okp : Nat → Prop} {x : S59} {cs : List Value} (h : k59.M w B okp x cs) (hB : B ≤ w.heap.size) : Kd.R k59 59 (w.alloc (.cells cs.toArray 59)) B (fun k => okp k ∨ w.heap.size ≤ k) (.slice (some ⟨w.heap.size, 0, none⟩) 1 1) [x] := by
  have hl : cs.length = k59.sz := Kd.K_len k59 (Kd.K_of_M k59 h)
  refine ⟨fun k hk => ?_, cs, ?_, ?_⟩
  · have : w.heap.size = k := by simpa [Value.ownBlock] using hk
    exact .inr (Nat.le_of_eq this)
  · have h2 := World.ownsRow_lit (base := B) (e := 59) (size := k59.sz) w cs.toArray 1 hB (by simp [maxLen]) (by simpa using hl)
    simpa using h2
  · have h3 : k59.M (w.alloc (.cells cs.toArray 59)) B (fun k => (okp k ∨ w.heap.size ≤ k) ∧ some k ≠ (Value.slice (some ⟨w.heap.size, 0, none⟩) 1 1).ownBlock) x cs := by
      refine k59.M_mono (fun k hk => ⟨.inl hk.1, fun he => ?_⟩) (Kd.M_below (k59.M_bound h) (below_alloc (Below.refl _ _) _))
      have h3 : k = w.heap.size := by simpa [Value.ownBlock] using he
      have := hk.2.2.1
      omega
    exact ⟨by simpa using hl, fun j p hp => by
      cases j with
      | zero =>
        simp at hp
        subst hp
        rw [Nat.zero_mul, List.drop_zero, List.take_of_length_le (Nat.le_of_eq hl)]
        exact h3
      | succ j => simp at hp⟩
theorem info59 : (Try.prog.info? 59).map (fun i => (i.zero, i.size, i.bytes)) = some (some (.agg #[.int .i64 0, .slice none 0 0, .bool false, .slice none 0 0]), 4, 64) := by kernel_rfl
theorem below_cell {w w' : World} (hb : Below w.heap.size w w') {a : Addr} {v : Value} (h : w.cell? a = some v) : w'.cell? a = some v := by
  have := hb.block a.block (World.block_lt_of_cell? w a h)
  simpa [World.cell?, this] using h
theorem wj1 {j : Nat} (h : j ≤ 100000) : wrap64 ((j : Int) + 1) = (j : Int) + 1 := by unfold wrap64; omega
set_option maxHeartbeats 8000000 in
set_option maxRecDepth 100000 in
theorem play_calls (A : Option Addr) (c : Nat) (l : List S110) (w : World) (hr : Kd.C k110 w A l.length l) (hd : ∀ x ∈ l, x.f2.length ≤ 140737488351232) :
    Calls Try.prog 33 #[.slice A l.length c] w fun e w' => ∃ v0_ : Value, e = .returned (.tuple #[v0_, .int .i64 (playF l).2]) ∧ Kd.R k59 59 w' w.heap.size (fun _ => True) v0_ (playF l).1 ∧ Below w.heap.size w w' := by
  by_cases hl : l.length ≤ 300
  case neg =>
    have e0 : decide ((300 : Int) < (l.length : Int)) = true := decide_eq_true (by omega)
    have e0b : decide (300 < l.length) = true := decide_eq_true (by omega)
    have HP := Aside0.mk (show playF l = ([], 1) by unfold playF; exact if_pos (by omega))
    clear hl hr hd
    go_enter Try.func33, Try.ntmps33
    go_wp2
    go_ret2
    rw [HP.out]
    exact ⟨_, rfl, Kd.R_nil _ _ _ _ _, Below.refl _ _⟩
  have e0 : decide ((300 : Int) < (l.length : Int)) = false := decide_eq_false (by omega)
  have e0b : decide (300 < l.length) = false := decide_eq_false (by omega)
  obtain ⟨r1, hr1⟩ : ∃ r, onF F00 zeroN = r := ⟨_, rfl⟩
  have HP := Aside0.mk (show playF l = (playL l r1.1 [toS r1.2], 0) by unfold playF; rw [← hr1]; exact if_neg (by omega))
  have HV1 := Aside0.mk (show PInv r1.1 by rw [← hr1]; exact PInv.onF _ PInv00)
  have HL := Aside0.mk hl
  have HR := Aside0.mk hr
  have HD := Aside0.mk hd
  obtain ⟨f, hf⟩ : ∃ f, w.heap.size = f := ⟨_, rfl⟩
  have hx1 := heap_alloc_new w (.cells #[.slice none 0 0, .int .i64 0, .int .i64 (-1), .slice none 0 0] 106)
  have hB1 := (Below.refl w.heap.size w).alloc (Nat.le_refl _) (.cells #[.slice none 0 0, .int .i64 0, .int .i64 (-1), .slice none 0 0] 106)
  obtain ⟨W1, hW1⟩ : ∃ W, w.alloc (.cells #[.slice none 0 0, .int .i64 0, .int .i64 (-1), .slice none 0 0] 106) = W := ⟨_, rfl⟩
  have hs1 : W1.heap.size = f + 1 := by rw [← hW1, ← hf]; simp
  rw [hW1] at hx1 hB1
  rw [hf] at hx1
  have hxn := heap_alloc_new W1 (.cells #[.int .i64 0, .slice none 0 0, .bool false, .slice none 0 0] 59)
  have hBn := (Below.refl W1.heap.size W1).alloc (Nat.le_refl _) (.cells #[.int .i64 0, .slice none 0 0, .bool false, .slice none 0 0] 59)
  obtain ⟨W2, hW2⟩ : ∃ W, W1.alloc (.cells #[.int .i64 0, .slice none 0 0, .bool false, .slice none 0 0] 59) = W := ⟨_, rfl⟩
  have hs2 : W2.heap.size = f + 2 := by rw [← hW2]; simp [hs1]
  rw [hW2] at hxn hBn
  rw [hs1] at hxn
  have hfm : FM (fun k => w.heap.size ≤ k) w W2 f F00 (.slice none 0 0) (.slice none 0 0) := ⟨(hBn.block f (by omega)).trans hx1, Kd.R_nil _ _ _ _ _, Kd.R_nil _ _ _ _ _, by omega, hB1.trans (hBn.mono (by omega))⟩
  obtain ⟨n, hn⟩ : ∃ n, f + 1 = n := ⟨_, rfl⟩
  rw [hn] at hxn
  have HON := Aside0.mk (on_calls (fun k => w.heap.size ≤ k) w W2 f n F00 zeroN _ _ _ _ (fun k hk => by omega) (by omega) (by omega) (by decide) (by decide) (by decide) (by decide) (by decide) (FM.withN hfm hxn (by omega)))
  rw [hr1] at HON
  have HMF : Aside0 (w.heap.size ≤ f) := ⟨by omega⟩
  have HM : Aside0 (w.heap.size ≤ W2.heap.size) := ⟨by omega⟩
  clear hx1 hB1 hxn hBn hfm hr1 hl hr hd
  go_enter Try.func33, Try.ntmps33
  go_upto_region 5 with fail
  (try rw [hs1, hf, hn, hW2])
  clear hW1 hs1 hf hn hW2 hs2
  go_upto_region 6 with (go_at_call 62; refine HON.out.mono ?_; rintro e w3 hp3; obtain ⟨vo3, vd3, vw3, vD3, he3, h3, k3⟩ := hp3; subst he3; have HI3 := Aside0.mk h3; have HK3 := Aside0.mk k3; obtain ⟨Aw, cw, hvw⟩ := Kd.R_slice h3.hw; subst hvw; obtain ⟨AD, cD, hvD⟩ := Kd.R_slice h3.hD; subst hvD; clear h3 k3)
  have hy0 := (blk_cell HI3.out.hn 0).trans rfl
  have hy1 := (blk_cell HI3.out.hn 1).trans rfl
  have hy2 := (blk_cell HI3.out.hn 2).trans rfl
  have hy3 := (blk_cell HI3.out.hn 3).trans rfl
  go_upto_region 7 with fail
  have HPI := Aside0.mk (PI.put HI3.out HMF.out (fun k hk => Nat.le_trans HM.out (Nat.le_trans HK3.out.1 hk)) (vr := .slice none 0 0) (fun k hk => by simp [Value.ownBlock] at hk) (World.grownBy_alloc w3 (.cells [.int .i64 r1.2.code, .slice Aw r1.2.wants.length cw, .bool r1.2.done, .slice AD r1.2.data.length cD].toArray 59) none) (HI3.out.hb.alloc HI3.out.hb.size _) (Kd.R_mono (lit59 (FN.cells HI3.out) HI3.out.hb.size) (fun k hk => by
    rcases hk with hk | hk
    · exact .inl (fun h => hk.elim h.2.1 h.2.2)
    · exact .inr hk)))
  obtain ⟨W4, hW4⟩ : ∃ W, w3.alloc (.cells #[.int .i64 r1.2.code, .slice Aw r1.2.wants.length cw, .bool r1.2.done, .slice AD r1.2.data.length cD] 59) = W := ⟨_, rfl⟩
  have HPI4 : Aside0 (PI w W4 f r1.1 (.slice (some ⟨w3.heap.size, 0, none⟩) 1 1) [toS r1.2]) := ⟨by rw [← hW4]; exact HPI.out⟩
  rw [hW4]
  obtain ⟨b3, hb3⟩ : ∃ b, w3.heap.size = b := ⟨_, rfl⟩
  rw [hb3] at HPI4 ⊢
  obtain ⟨x1, hx1⟩ : ∃ x, toS r1.2 = x := ⟨_, rfl⟩
  rw [hx1] at HPI4 HP
  clear hW4 hb3 HPI hy0 hy1 hy2 hy3 hx1
  go_wp2
  go_loopw [6, 20] (fun v6 v20 wr => ∃ (j : Nat) (F : Fs) (acc : List S59) (A6 : Option Addr) (c6 : Nat), v20 = .int .i64 (j : Int) ∧ v6 = .slice A6 acc.length c6 ∧ Aside0 (j ≤ l.length ∧ acc.length = j + 1) ∧ Aside0 (PInv F) ∧ Aside0 (PI w wr f F v6 acc) ∧ Aside0 (playL (l.drop j) F acc = playL l r1.1 [x1])) (fun _ v20 _ => l.length - (intOf v20).toNat)
  case atStart => exact ⟨0, r1.1, [x1], _, _, rfl, rfl, ⟨Nat.zero_le _, rfl⟩, HV1, HPI4, ⟨rfl⟩⟩
  case round =>
    obtain ⟨j, F, acc, A6, c6, rfl, rfl, HJ, HV, HPI, HE⟩ := hrel
    obtain ⟨M, vo, vd, h, mf, hM, hrw⟩ := HPI.out
    have HB := Aside0.mk h.hb
    by_cases hj : j < l.length
    · have e1_ : decide ((j : Int) < (l.length : Int)) = true := decide_eq_true (by omega)
      have e1n : decide (j < l.length) = true := decide_eq_true hj
      have p1 : (0 : Int) ≤ (j : Int) := by omega
      have q1 : (j : Int) < (l.length : Int) := by omega
      have hdj := HD.out l[j] (List.getElem_mem hj)
      have hm : rd_T110 l (j : Int) = l[j] := by unfold rd_T110; rw [Int.toNat_natCast, List.getD_eq_getElem?_getD, List.getElem?_eq_getElem hj]; rfl
      have hpl : playL (l.drop j) F acc = playL (l.drop (j + 1)) (gotF F l[j].f0 l[j].f1 l[j].f2).1 (acc ++ [toS (gotF F l[j].f0 l[j].f1 l[j].f2).2]) := by rw [List.drop_eq_getElem_cons hj]; rfl
      rw [← hm] at hdj hpl
      obtain ⟨ad, A2, c2, rfl, h0, h1, h2, hlc, hC⟩ := at_T110 HR.out (j : Int) p1 q1
      rw [Int.toNat_natCast] at h0 h1 h2
      obtain ⟨y, hy⟩ : ∃ y, rd_T110 l (j : Int) = y := ⟨_, rfl⟩
      rw [hy] at h0 h1 h2 hdj hpl hlc hC
      replace h0 := below_cell h.hb h0
      replace h1 := below_cell h.hb h1
      replace h2 := below_cell h.hb h2
      replace p1 := eq_true p1
      replace q1 := eq_true q1
      have HPL := Aside0.mk (hpl.symm.trans HE.out)
      obtain ⟨r, hr⟩ : ∃ r, gotF F y.f0 y.f1 y.f2 = r := ⟨_, rfl⟩
      rw [hr] at HPL
      have HVR := Aside0.mk (show PInv r.1 by rw [← hr]; exact PInv.gotF HV.out)
      have HGOT := Aside0.mk (fun W (hW : Below wr.heap.size wr W) => got_calls M w W f F vo vd y.f0 y.f1 A2 c2 y.f2 (fun k hk => hM k (Nat.le_trans hW.size hk)) mf (by have := HV.out.out; omega) (by have := HV.out.data; omega) HV.out.front.1 HV.out.fin.1 hdj (fun x hx => by have := HV.out.wants x hx; omega) hC hlc (FM.below h hW))
      rw [hr] at HGOT
      have HRW := Aside0.mk hrw
      have HMM := Aside0.mk (And.intro mf hM)
      clear hm hy hr h mf hM hrw hdj hpl hlc hC HE
      go_upto_region 10 with fail
      have hx9 := heap_alloc_new wr (.cells #[.int .i64 y.f0, .int .i64 y.f1, .slice A2 y.f2.length c2] 110)
      have HB9 := Aside0.mk ((Below.refl wr.heap.size wr).alloc (Nat.le_refl _) (.cells #[.int .i64 y.f0, .int .i64 y.f1, .slice A2 y.f2.length c2] 110))
      obtain ⟨w9, hw9⟩ : ∃ W, wr.alloc (.cells #[.int .i64 y.f0, .int .i64 y.f1, .slice A2 y.f2.length c2] 110) = W := ⟨_, rfl⟩
      rw [hw9] at hx9 HB9 ⊢
      obtain ⟨b8, hb8⟩ : ∃ b, wr.heap.size = b := ⟨_, rfl⟩
      rw [hb8] at hx9 ⊢
      clear hw9 h0 h1 h2
      have hz0 := (blk_cell hx9 0).trans rfl
      have hz1 := (blk_cell hx9 1).trans rfl
      have hz2 := (blk_cell hx9 2).trans rfl

      have HG9 := Aside0.mk (HGOT.out w9 HB9.out)
      have HR9 := Aside0.mk (Kd.R_below HRW.out HB9.out)
      have HM9 := Aside0.mk (show ∀ k, w9.heap.size ≤ k → M k from fun k hk => HMM.out.2 k (Nat.le_trans HB9.out.size hk))
      clear hx9 hb8
      go_upto_region 11 with (first
        | (go_at_call 63; refine HG9.out.mono ?_; rintro e w10 hp10; obtain ⟨n1, vo1, vd1, vw1, vD1, he1, h10, k10⟩ := hp10; subst he1; have HI10 := Aside0.mk h10; have HK10 := Aside0.mk k10; obtain ⟨Aw1, cw1, hvw⟩ := Kd.R_slice h10.hw; subst hvw; obtain ⟨AD1, cD1, hvD⟩ := Kd.R_slice h10.hD; subst hvD; have HR10 := Aside0.mk (Kd.R_kept HR9.out k10 (fun k hk => hk)); clear h10 k10)
        | ((with_reducible refine gate_builtin (b := .append) (xs := #[.tmp 24, .tmp 28]) rfl ?_); at_builtin; refine Kd.R_append k59 (w0 := w) w.heap.size rfl (.tmp 24) (.tmp 28) 54 59 (.agg #[.int .i64 0, .slice none 0 0, .bool false, .slice none 0 0]) 64 rfl Try.underlying54 info59 rfl (by decide) (by decide) (.slice A6 acc.length c6) acc (toS r.2) [.int .i64 r.2.code, .slice Aw1 r.2.wants.length cw1, .bool r.2.done, .slice AD1 r.2.data.length cD1] (fun k => ¬ (M k ∧ some k ≠ (Value.slice Aw1 r.2.wants.length cw1).ownBlock ∧ some k ≠ (Value.slice AD1 r.2.data.length cD1).ownBlock) ∨ w10.heap.size ≤ k) (fun k => some k = (Value.slice Aw1 r.2.wants.length cw1).ownBlock ∨ some k = (Value.slice AD1 r.2.data.length cD1).ownBlock) rfl rfl HI10.out.cells ?aK (fun k hk => .inr hk) ?aO HI10.out.hb HI10.out.hb.size ?aL ?_; (case aK => exact fun k hk => ⟨.inl (fun h => hk.elim h.2.1 h.2.2), fun e => HR10.out.1 k e.symm (hk.elim (fun h => HI10.out.hw.1 k h.symm) (fun h => HI10.out.hD.1 k h.symm))⟩); (case aO => exact Kd.R_mono HR10.out (fun k hk => .inl (fun h => hk h.1))); (case aL => (have := HJ.out; have := HL.out; omega)); intro v1 w11 ho hb hg hat; obtain ⟨A7, c7, hv7⟩ := Kd.R_slice ho; subst hv7; have HPI1 := Aside0.mk (PI.put HI10.out HMM.out.1 (fun k hk => HM9.out k (Nat.le_trans HK10.out.1 hk)) (Kd.R_typed HR10.out) hg hb ho); clear ho hb hg hat))
      have HWJ := Aside0.mk (wj1 (j := j) (by have := HL.out; omega))
      go_wp2
      go_roundw
      case measure => rw [HWJ.out]; simp only [intOf]; omega
      case rel => exact ⟨j + 1, r.1, acc ++ [toS r.2], A7, c7, by rw [HWJ.out]; rfl, by rw [List.length_append, List.length_singleton], ⟨by have := HJ.out; omega, by have := HJ.out; rw [List.length_append, List.length_singleton]; omega⟩, HVR, ⟨by have h := HPI1.out; rw [List.length_append, List.length_singleton] at h; exact h⟩, HPL⟩
    · have e1_ : decide ((j : Int) < (l.length : Int)) = false := decide_eq_false (by omega)
      have e1n : decide (j < l.length) = false := decide_eq_false hj
      have HRE := Aside0.mk (show playF l = (acc, 0) by
        have h2 := HE.out
        rw [List.drop_eq_nil_of_le (by omega)] at h2
        rw [HP.out, ← h2]
        rfl)
      have HRW := Aside0.mk hrw
      clear h mf hM hrw hj
      go_wp2
      go_ret2
      rw [HRE.out]
      exact ⟨_, rfl, Kd.R_mono HRW.out (fun _ _ => trivial), HB.out⟩
end Go.Proofs.Ytkghoodhgihokaa.Fetch
