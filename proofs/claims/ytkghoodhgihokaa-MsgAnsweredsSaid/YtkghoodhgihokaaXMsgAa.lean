/- Messages: more. -/
import Derived.Test.YtkghoodhgihokaaXMsgZ
import Derived.Lib.Strings
namespace Go.Proofs.Ytkghoodhgihokaa.Msg
open Go.RowKit Go.Lib Go.Proofs.YtkghoodhgihokaaW.PrintWords Go.Proofs.YtkghoodhgihokaaW.PrintLast Go.Proofs.YtkghoodhgihokaaW.PrintMore
set_option linter.unusedVariables false
set_option linter.unusedSimpArgs false
set_option maxHeartbeats 4000000 in
set_option maxRecDepth 100000 in
theorem put_textw (a : Addr) (s : ByteArray) (w0 w : World) (v : Value) (l : List Int) (hB : Below w0.heap.size w0 w) (ho : Kd.R (Kd.int .u8) 5 w w0.heap.size (fun _ => True) v l) (hl : l.length ≤ 100000) (h : w.cell? a = some (.string s)) (hsm : s.size ≤ 70000) :
    Calls Try.prog 45 #[.agg #[.int .i64 0, .pointer none, .pointer (some a), .pointer none], v] w fun e w' => ∃ v', e = .returned v' ∧ Kd.R (Kd.int .u8) 5 w' w0.heap.size (fun _ => True) v' (l ++ (bytesF 2 (s.size : Int) ++ bytesOf s)) ∧ Below w0.heap.size w0 w' := by
  obtain ⟨W1, hW1⟩ : ∃ W, w.alloc (.cells #[.int .i64 0, .pointer none, .pointer (some a), .pointer none] 78) = W := ⟨_, rfl⟩
  obtain ⟨b2, hb2⟩ : ∃ x, w.heap.size = x := ⟨_, rfl⟩
  have hn := heap_alloc_new w (.cells #[.int .i64 0, .pointer none, .pointer (some a), .pointer none] 78)
  have HB := Aside0.mk (hB.alloc hB.size (.cells #[.int .i64 0, .pointer none, .pointer (some a), .pointer none] 78))
  have HO := Aside0.mk (Kd.R_alloc ho (.cells #[.int .i64 0, .pointer none, .pointer (some a), .pointer none] 78))
  rw [hW1] at hn HB HO
  rw [hb2] at hn
  have hc1 : W1.cell? ⟨b2, 1, none⟩ = some (.pointer none) := (blk_cell hn 1).trans rfl
  have hc2 : W1.cell? ⟨b2, 2, none⟩ = some (.pointer (some a)) := (blk_cell hn 2).trans rfl
  have hc3 : W1.cell? ⟨b2, 3, none⟩ = some (.pointer none) := (blk_cell hn 3).trans rfl
  have hBw : Below w.heap.size w W1 := by rw [← hW1]; exact (Below.refl _ w).alloc (Nat.le_refl _) _
  have hca : W1.cell? a = some (.string s) := (hBw.cell (World.block_lt_of_cell? w _ h)).trans h
  clear hBw
  clear hn hB ho h
  have kb := fun W => print_bytes (P := Try.prog) 9 27 5 Try.underlying9 Try.underlying27 Try.underlying5 s W
  go_enter Try.func45, Try.ntmps45
  go_upto_region 4 with fail
  (try rw [hW1])
  (try rw [hb2])
  clear hW1 hb2
  go_upto_region 7 with fail
  obtain ⟨g, hg⟩ : ∃ g, W1.heap.size = g := ⟨_, rfl⟩
  have HB2 := Aside0.mk (bytes_below HB.out HB.out.size 5 s)
  have HO2 := Aside0.mk (Kd.R_below (Kd.R_mono (ok' := fun k => k < g) (Kd.R_bound HO.out) (fun k hk => by rw [← hg]; exact hk.2.2.1)) (bytes_below (Below.refl _ W1) (Nat.le_refl _) 5 s))
  have HRD := Aside0.mk (bytes_reads W1 5 s (by omega))
  obtain ⟨W2, hW2⟩ : ∃ W, bytesWorld W1 5 s = W := ⟨_, rfl⟩
  obtain ⟨cp, hcp⟩ : ∃ c, grownCap W1 s.size 0 5 = c := ⟨_, rfl⟩
  rw [hW2] at HB2 HO2 HRD
  rw [hg] at HRD
  rw [hW2, hg, hcp]
  clear hW2 hcp hc1 hc2 hc3 hca kb hg
  go_wp2_with (first
    | (go_at_call 78; refine (frame_Put.calls 10 (fun k => k < g) v l (2 : Nat) (s.size : Int) _ w0 _ HB2.out HO2.out (put_is 2 _ l (by omega) hl)).mono ?_; rintro e' w3 ⟨v3, rfl, ho3, hb3, hk3⟩; have HO3 := Aside0.mk (Kd.R_mono ho3 (fun _ _ => trivial)); have HB3 := Aside0.mk hb3; have HC3 := Aside0.mk (Kd.C_of_reads (h1 := fun _ => rfl) (reads_kept HRD.out hk3 (fun ad e => by cases e; exact Nat.lt_irrefl _))); clear ho3 hb3 hk3)
    | ((with_reducible refine gate_builtin (b := .append) (xs := #[.tmp 32, .tmp 33]) rfl ?_); at_builtin; refine Kd.R_append_rows (Kd.int .u8) (w0 := w0) w0.heap.size rfl (.tmp 32) (.tmp 33) 27 5 (.int .u8 0) 1 rfl Try.underlying27 info5m rfl (by decide) (by decide) v3 (l ++ bytesF 2 _) (bytesOf s) _ _ _ (fun _ => True) (fun _ => False) rfl rfl HO3.out HC3.out (fun _ _ h => h) (fun _ hk => hk.elim) (fun _ _ => trivial) HB3.out HB3.out.size (by have := bytesF_len 2 (s.size : Int); simp only [List.length_append]; omega) ?_; intro v4 w4 ho hb hg hat; have HO4 := Aside0.mk ho; have HB4 := Aside0.mk hb; clear ho hb hg hat))
  go_ret
  exact ⟨_, rfl, by rw [← List.append_assoc]; exact HO4.out, HB4.out⟩
/-- A text's bytes, its length ahead of them. -/
def txtF (s : ByteArray) : List Int := bytesF 2 (s.size : Int) ++ bytesOf s
/-- What msg.Answer answers. -/
def answerF (q : Rp) : List Int × Int :=
  if pfaultF q ≠ 0 then ([], pfaultF q) else ((repV 0 0 0 q (q.names.length : Int)).flatMap putF ++ q.names.flatMap txtF, 0)
theorem name_size {s : ByteArray} (h : nameB s = true) : s.size ≤ 16 := by
  unfold nameB at h
  simp only [Bool.and_eq_true, decide_eq_true_eq] at h
  exact h.2.1
/-- What a reply that is not refused is within. -/
theorem pfault_zero {q : Rp} (h : pfaultF q = 0) : q.data.length ≤ 100 ∧ q.names.length ≤ 40 ∧ ∀ s ∈ q.names, s.size ≤ 16 := by
  unfold pfaultF at h
  by_cases h1 : allG 0 (repV 0 0 0 q (min (q.names.length : Int) 40)) = 0
  case neg => rw [if_pos h1] at h; exact absurd h h1
  rw [if_neg (not_not_intro h1)] at h
  by_cases h2 : 40 < q.names.length
  · rw [if_pos h2] at h; cases h
  rw [if_neg h2] at h
  by_cases h3 : q.names.any (fun s => !nameB s) = true
  · rw [if_pos h3] at h; cases h
  have hz := (allG_zero _ _ h1).2 (.data ⟨0, 5, none⟩ q.dA q.data q.dc) (by simp [repV])
  have hz' : (if 100 < q.data.length then (1 : Int) else 0) = 0 := hz
  refine ⟨?_, by omega, fun s hs => ?_⟩
  · by_cases h4 : 100 < q.data.length
    · rw [if_pos h4] at hz'; cases hz'
    · omega
  · have : nameB s = true := by
      cases hn : nameB s with
      | true => rfl
      | false => exact absurd (List.any_eq_true.2 ⟨s, hs, by rw [hn]; rfl⟩) h3
    exact name_size this
theorem rep_small {b cc kc : Nat} {q : Rp} {n : Int} (h : q.data.length ≤ 100) : ∀ p ∈ repV b cc kc q n, p.small ∧ (putF p).length ≤ 104 := by
  intro p hp
  simp only [repV, List.mem_cons, List.not_mem_nil, or_false] at hp
  have k1 := fun n => bytesF_len 1 n
  have k4 := fun n => bytesF_len 4 n
  have k2 := bytesF_len 2 (q.data.length : Int)
  rcases hp with rfl | rfl | rfl | rfl | rfl | rfl | rfl
  · exact ⟨.inr (.inr rfl), by have := k4 q.mark; show (bytesF 4 q.mark).length ≤ _; omega⟩
  · exact ⟨.inl rfl, by have := k1 q.code; show (bytesF 1 q.code).length ≤ _; omega⟩
  · exact ⟨.inr (.inr rfl), by have := k4 q.handle; show (bytesF 4 q.handle).length ≤ _; omega⟩
  · exact ⟨.inl rfl, by have := k1 q.kind; show (bytesF 1 q.kind).length ≤ _; omega⟩
  · exact ⟨.inr (.inr rfl), by have := k4 q.size; show (bytesF 4 q.size).length ≤ _; omega⟩
  · exact ⟨by show q.data.length ≤ 70000; omega, by show (bytesF 2 (q.data.length : Int) ++ q.data).length ≤ _; rw [List.length_append]; omega⟩
  · exact ⟨.inl rfl, by have := k1 n; show (bytesF 1 n).length ≤ _; omega⟩
theorem rep_puts (b cc kc : Nat) (q : Rp) (n : Int) : (repV b cc kc q n).flatMap putF = (repV 0 0 0 q n).flatMap putF := rfl
set_option maxHeartbeats 8000000 in
set_option maxRecDepth 100000 in
theorem answer_calls (q : Rp) (w : World) (hdl : q.data.length ≤ 140737488351232) (hdc : q.data.length ≤ q.dc) (hd : Kd.C (Kd.int .u8) w q.dA q.data.length q.data) (hnl : q.names.length ≤ 140737488351232) (hnc : q.names.length ≤ q.nc) (hn : Kd.C Kd.string w q.nA q.names.length q.names) :
    Calls Try.prog 21 #[.agg q.cells] w fun e w' => ∃ v, e = .returned (.tuple #[v, .int .i64 (answerF q).2]) ∧ Kd.R (Kd.int .u8) 5 w' w.heap.size (fun _ => True) v (answerF q).1 ∧ Below w.heap.size w w' := by
  have hq0 := heap_alloc_new w (.cells q.cells 39)
  have HB := Aside0.mk ((Below.refl _ w).alloc (Nat.le_refl _) (.cells q.cells 39))
  obtain ⟨W1, hW1⟩ : ∃ W, w.alloc (.cells q.cells 39) = W := ⟨_, rfl⟩
  obtain ⟨b1, hb1⟩ : ∃ b, w.heap.size = b := ⟨_, rfl⟩
  have hW1' : w.alloc (.cells #[.int .i64 q.mark, .int .i64 q.code, .int .i64 q.handle, .int .i64 q.kind, .int .i64 q.size, .slice q.dA q.data.length q.dc, .slice q.nA q.names.length q.nc] 39) = W1 := hW1
  rw [hW1] at hq0 HB
  rw [hb1] at hq0
  have HQ := Aside0.mk hq0
  obtain ⟨hy0, hy1, hy2, hy3, hy4, hy5, hy6⟩ := seven_cells hq0
  have HD := Aside0.mk (Kd.C_below hd HB.out)
  have HN := Aside0.mk (Kd.C_below hn HB.out)
  have HFC := Aside0.mk (fun (W : World) (hB : Below W1.heap.size W1 W) => pfault_calls q W hdl hdc (Kd.C_below HD.out hB) hnl hnc (Kd.C_below HN.out hB))
  clear hq0 hW1 hd hn
  obtain ⟨r1, r2, hr⟩ : ∃ r1 r2, answerF q = (r1, r2) := ⟨_, _, rfl⟩
  rw [hr]
  have hr' := hr
  unfold answerF at hr'
  show Calls Try.prog 21 #[.agg #[.int .i64 q.mark, .int .i64 q.code, .int .i64 q.handle, .int .i64 q.kind, .int .i64 q.size, .slice q.dA q.data.length q.dc, .slice q.nA q.names.length q.nc]] w _
  by_cases h0 : pfaultF q = 0
  case neg =>
    rw [if_pos h0] at hr'
    obtain ⟨rfl, rfl⟩ := Prod.mk.inj hr'
    clear hr hr'
    obtain ⟨fl, hfl⟩ : ∃ f, pfaultF q = f := ⟨_, rfl⟩
    rw [hfl] at h0 ⊢
    have e1 : (fl != 0) = true := bne_iff_ne.2 h0
    have e2 : (fl == 0) = false := beq_eq_false_iff_ne.2 h0
    go_enter Try.func21, Try.ntmps21
    go_upto_region 1 with fail
    (try rw [hW1'])
    (try rw [hb1])
    go_wp2_with (go_at_call 53; refine (HFC.out _ (Below.refl _ _)).mono ?_; rintro e w2 ⟨rfl, hb2⟩; have HB2 := Aside0.mk (HB.out.trans (hb2.mono HB.out.size)); rw [hfl]; clear hb2)
    go_ret2
    exact ⟨_, rfl, Kd.R_nil _ _ _ _ _, HB2.out⟩
  rw [if_neg (not_not_intro h0)] at hr'
  obtain ⟨hr1, rfl⟩ := Prod.mk.inj hr'
  have HR1 := Aside0.mk hr1
  obtain ⟨hz1, hz2, hz3⟩ := pfault_zero h0
  have HZ1 := Aside0.mk hz1
  have HZ2 := Aside0.mk hz2
  have HZ3 := Aside0.mk hz3
  have HH0 := Aside0.mk h0
  clear hr hr' hr1 hz1 hz2 hz3 h0
  go_enter Try.func21, Try.ntmps21
  go_upto_region 1 with fail
  (try rw [hW1'])
  (try rw [hb1])
  clear hW1' hb1
  go_upto_region 4 with (go_at_call 53; refine (HFC.out _ (Below.refl _ _)).mono ?_; rintro e w2 ⟨rfl, hb2⟩; have HB2 := Aside0.mk hb2; rw [HH0.out]; clear hb2)
  clear hy0 hy1 hy2 hy3 hy4 hy5 hy6 HFC
  have HQ2 := Aside0.mk ((HB2.out.block _ (blk_ltn HQ.out)).trans HQ.out)
  obtain ⟨hy0, hy1, hy2, hy3, hy4, hy5, hy6⟩ := seven_cells HQ2.out
  go_upto_region 6 with fail
  have hB3 : Below w2.heap.size w2 ((w2.alloc (.cells #[.int .i64 q.code] 3)).alloc (.cells #[.int .i64 (q.names.length : Int)] 3)) := ((Below.refl _ w2).alloc (Nat.le_refl _) (.cells #[.int .i64 q.code] 3)).alloc (by simp) (.cells #[.int .i64 (q.names.length : Int)] 3)
  have hcc : ((w2.alloc (.cells #[.int .i64 q.code] 3)).alloc (.cells #[.int .i64 (q.names.length : Int)] 3)).heap[w2.heap.size]? = some (.cells #[.int .i64 q.code] 3 (0, 0)) := ((Below.refl _ (w2.alloc (.cells #[.int .i64 q.code] 3))).alloc (Nat.le_refl _) (.cells #[.int .i64 (q.names.length : Int)] 3)).block _ (by simp) |>.trans (heap_alloc_new w2 _)
  have hkc : ((w2.alloc (.cells #[.int .i64 q.code] 3)).alloc (.cells #[.int .i64 (q.names.length : Int)] 3)).heap[w2.heap.size + 1]? = some (.cells #[.int .i64 (q.names.length : Int)] 3 (0, 0)) := by
    have := heap_alloc_new (w2.alloc (.cells #[.int .i64 q.code] 3)) (.cells #[.int .i64 (q.names.length : Int)] 3)
    rw [show (w2.alloc (.cells #[.int .i64 q.code] 3)).heap.size = w2.heap.size + 1 by simp] at this
    exact this
  obtain ⟨W3, hW3⟩ : ∃ W, (w2.alloc (.cells #[.int .i64 q.code] 3)).alloc (.cells #[.int .i64 (q.names.length : Int)] 3) = W := ⟨_, rfl⟩
  obtain ⟨kc, hk⟩ : ∃ k, w2.heap.size + 1 = k := ⟨_, rfl⟩
  obtain ⟨cc, hc⟩ : ∃ k, w2.heap.size = k := ⟨_, rfl⟩
  rw [hW3] at hB3 hcc hkc ⊢
  rw [hk] at hkc ⊢
  rw [hc] at hcc ⊢
  have HB3 := Aside0.mk (HB2.out.trans (hB3.mono HB2.out.size))
  have HQ3 := Aside0.mk ((hB3.block _ (blk_ltn HQ2.out)).trans HQ2.out)
  have HD3 := Aside0.mk (Kd.C_below HD.out HB3.out)
  have HCC := Aside0.mk hcc
  have HKC := Aside0.mk hkc
  clear hB3 hcc hkc hW3 hk hc hy0 hy1 hy2 hy3 hy4 hy5 hy6
  obtain ⟨n, hn⟩ : ∃ n : Int, (q.names.length : Int) = n := ⟨_, rfl⟩
  rw [hn] at HKC HR1
  have HNN := Aside0.mk hn
  clear hn
  obtain ⟨l, hl⟩ : ∃ l, repV b1 cc kc q n = l := ⟨_, rfl⟩
  have hlen : l.length ≤ 7 := by rw [← hl]; show 7 ≤ 7; omega
  have HLP := Aside0.mk (show l.flatMap putF = (repV 0 0 0 q n).flatMap putF by rw [← hl, rep_puts])
  have HP7 := Aside0.mk (fun (W : World) (hb : Below W3.heap.size W3 W) p (hp : p ∈ l) => rep_has (q := q) (n := n) ((hb.block _ (blk_ltn HQ3.out)).trans HQ3.out) ((hb.block _ (blk_ltn HCC.out)).trans HCC.out) ((hb.block _ (blk_ltn HKC.out)).trans HKC.out) hdc (Kd.C_below HD3.out hb) p (by rw [hl]; exact hp))
  have HPL := Aside0.mk (fun p (hp : p ∈ l) => rep_small (b := b1) (cc := cc) (kc := kc) (n := n) HZ1.out p (by rw [hl]; exact hp))
  have HHL := Aside0.mk hl
  clear hl
  rw [← HLP.out] at HR1
  go_wp2_with (go_at_call 54; refine (replied_calls b1 cc kc q n _).mono ?_; rintro e w6 ⟨v6, rfl, ho6, hb6⟩; rw [HHL.out] at ho6; have HO6 := Aside0.mk ho6; have HB6 := Aside0.mk hb6; obtain ⟨A6, c6, hv6⟩ := Kd.R_slice ho6; subst hv6; clear ho6 hb6)
  have hbw6 : Aside0 (Below w.heap.size w w6) := ⟨HB.out.trans ((HB3.out.trans (HB6.out.mono HB3.out.size)).mono HB.out.size)⟩
  go_loopg [7, 24] l.length (fun g s7 s24 wx => ∃ (i : Nat) (o : List Int), i + g = l.length ∧ s24 = .int .i64 (i : Int) ∧ Aside0 ((l.take i).flatMap putF = o ∧ o.length ≤ 104 * i) ∧ Aside0 (Kd.R (Kd.int .u8) 5 wx w6.heap.size (fun _ => True) s7 o) ∧ Aside0 (Below w6.heap.size w6 wx))
  case atStart => exact ⟨0, [], by omega, rfl, ⟨rfl, by simp⟩, ⟨Kd.R_nil _ _ _ _ _⟩, ⟨Below.refl _ _⟩⟩
  case round =>
    obtain ⟨i, o, hig, rfl, HO, HRo, HBx⟩ := hrel
    have HIG := Aside0.mk hig
    cases gk with
    | zero =>
      obtain rfl : i = l.length := by omega
      have d1 : decide (((l.length : Nat) : Int) < ((l.length : Nat) : Int)) = false := decide_eq_false (by omega)
      have ho := HO.out.1
      rw [List.take_length] at ho
      have HHO := Aside0.mk (show l.flatMap putF = o ∧ o.length ≤ 728 from ⟨ho, by have := HO.out.2; omega⟩)
      clear ho
      have HB8 := Aside0.mk (HB6.out.trans (HBx.out.mono HB6.out.size))
      obtain ⟨hy0, hy1, hy2, hy3, hy4, hy5, hy6⟩ := seven_cells ((HB8.out.block _ (blk_ltn HQ3.out)).trans HQ3.out)
      have HN8 := Aside0.mk (Kd.C_below HN.out (HB3.out.trans (HB8.out.mono HB3.out.size)))
      clear hy0 hy1 hy2 hy3 hy4 hy5 HO
      go_wp2
      go_loopg [7, 35] q.names.length (fun g s7 s35 wx => ∃ (i : Nat) (o' : List Int), i + g = q.names.length ∧ s35 = .int .i64 (i : Int) ∧ Aside0 (o ++ (q.names.take i).flatMap txtF = o' ∧ o'.length ≤ 728 + 20 * i) ∧ Aside0 (Kd.R (Kd.int .u8) 5 wx w6.heap.size (fun _ => True) s7 o') ∧ Aside0 (Below w6.heap.size w6 wx))
      case atStart => exact ⟨0, o, by omega, rfl, ⟨by simp, by have := HHO.out.2; omega⟩, HRo, HBx⟩
      case round =>
        obtain ⟨i, o', hig, rfl, HO, HRo', HBy⟩ := hrel
        have HIG := Aside0.mk hig
        cases gk with
        | zero =>
          obtain rfl : i = q.names.length := by omega
          have d1 : decide (((q.names.length : Nat) : Int) < ((q.names.length : Nat) : Int)) = false := decide_eq_false (by omega)
          have ho := HO.out.1
          rw [List.take_length, ← HHO.out.1, HR1.out] at ho
          subst ho
          go_wp2
          go_ret2
          exact ⟨_, rfl, Kd.R_lower HRo'.out hbw6.out.size, hbw6.out.trans (HBy.out.mono hbw6.out.size)⟩
        | succ g =>
          have hi : i < q.names.length := by omega
          have d1 : decide ((i : Int) < (q.names.length : Int)) = true := decide_eq_true (by omega)
          have d1n : decide (i < q.names.length) = true := decide_eq_true hi
          have p1 : (0 : Int) ≤ (i : Int) := by omega
          have q1 : (i : Int) < (q.names.length : Int) := by omega
          obtain ⟨ad, had, h0⟩ := Kd.at_string (Kd.C_below HN.out (HB3.out.trans ((HB6.out.trans (HBy.out.mono HB6.out.size)).mono HB3.out.size))) (i : Int) p1 q1
          rw [Int.toNat_natCast] at h0
          replace p1 := eq_true p1
          replace q1 := eq_true q1
          have hm0 : rdOf ByteArray.empty q.names (i : Int) = q.names[i] := by simp [rdOf, List.getD_eq_getElem?_getD, List.getElem?_eq_getElem hi]
          have hmem := List.getElem_mem hi
          have hstep : o ++ (q.names.take (i + 1)).flatMap txtF = o' ++ txtF q.names[i] := by
            rw [List.take_succ_eq_append_getElem hi, List.flatMap_append, ← List.append_assoc, HO.out.1]; simp
          obtain ⟨s, hs⟩ : ∃ s, q.names[i] = s := ⟨_, rfl⟩
          rw [hm0, hs] at h0
          rw [hs] at hmem hstep
          have hsz := HZ3.out s hmem
          have hil : i < 40 := by have := HZ2.out; omega
          have hlo := HO.out.2
          have hw4 : wrap64 ((i : Int) + 1) = ((i + 1 : Nat) : Int) := by unfold wrap64; omega
          have htl : (txtF s).length ≤ 20 := by unfold txtF; rw [List.length_append, bytesOf_length]; have := bytesF_len 2 (s.size : Int); omega
          have HST := Aside0.mk (show o ++ (q.names.take (i + 1)).flatMap txtF = o' ++ txtF s ∧ (o' ++ txtF s).length ≤ 728 + 20 * (i + 1) from ⟨hstep, by rw [List.length_append]; omega⟩)
          have HPUT := Aside0.mk (fun (a : Addr) (W : World) (v : Value) (hB : Below w6.heap.size w6 W) (ho : Kd.R (Kd.int .u8) 5 W w6.heap.size (fun _ => True) v o') (h : W.cell? a = some (.string s)) => put_textw a s w6 W v o' hB ho (by omega) h (by omega))
          clear hm0 hmem hstep hs hsz hil hlo htl hi hig
          go_upto_region 14 with fail
          clear had
          have hbx := heap_alloc_new wr (.cells #[.string s] 9)
          have HB9 := Aside0.mk (HBy.out.alloc HBy.out.size (.cells #[.string s] 9))
          have HO9 := Aside0.mk (Kd.R_alloc HRo'.out (.cells #[.string s] 9))
          obtain ⟨W9, hW9⟩ : ∃ W, wr.alloc (.cells #[.string s] 9) = W := ⟨_, rfl⟩
          obtain ⟨bs, hbs⟩ : ∃ b, wr.heap.size = b := ⟨_, rfl⟩
          rw [hW9] at hbx HB9 HO9 ⊢
          rw [hbs] at hbx ⊢
          have HX9 := Aside0.mk hbx
          clear hbx hW9 hbs h0
          go_wp2_with (first
            | (go_at_call 55; refine (text_calls bs 0 s _).mono ?_; rintro e w10 ⟨rfl, hb10⟩; have HB10 := Aside0.mk (HB9.out.trans (hb10.mono HB9.out.size)); have HO10 := Aside0.mk (Kd.R_below HO9.out hb10); have HX10 := Aside0.mk (show w10.cell? ⟨bs, 0, none⟩ = some (.string s) from (blk_cell ((hb10.block _ (blk_ltn HX9.out)).trans HX9.out) 0).trans rfl); clear hb10)
            | (go_at_call 45; refine (HPUT.out ⟨bs, 0, none⟩ _ _ HB10.out HO10.out HX10.out).mono ?_; rintro e w11 ⟨v11, rfl, ho11, hb11⟩; have HO11 := Aside0.mk ho11; have HB11 := Aside0.mk hb11; clear ho11 hb11))
          go_roundg g
          case measure => omega
          case rel => exact ⟨i + 1, _, by have := HIG.out; omega, by rw [hw4], HST, HO11, HB11⟩
    | succ g =>
      have hi : i < l.length := by omega
      have d1 : decide ((i : Int) < (l.length : Int)) = true := decide_eq_true (by omega)
      have d1n : decide (i < l.length) = true := decide_eq_true hi
      have i0 : (0 : Int) ≤ (i : Int) := by omega
      have i1 : (i : Int) < (l.length : Int) := by omega
      have HRx := Aside0.mk (Kd.R_below HO6.out HBx.out)
      obtain ⟨g0, cap, hv, _, _, _⟩ := Kd.R_form HRx.out (by omega)
      injection hv with hv1 hv2 hv3
      subst hv1
      subst hv3
      have hrg := kpv_at HRx.out hi
      have hp := HP7.out _ HB6.out _ (List.getElem_mem hi)
      have hpl := HPL.out _ (List.getElem_mem hi)
      have hstep : (l.take (i + 1)).flatMap putF = o ++ putF l[i] := by
        rw [List.take_succ_eq_append_getElem hi, List.flatMap_append, HO.out.1]; simp
      obtain ⟨p, hpp⟩ : ∃ p, l[i] = p := ⟨_, rfl⟩
      rw [hpp] at hrg hp hpl hstep
      clear hpp
      have HPH := Aside0.mk hp
      have HPS := Aside0.mk hpl
      have HST := Aside0.mk (show (l.take (i + 1)).flatMap putF = o ++ putF p ∧ (o ++ putF p).length ≤ 104 * (i + 1) from ⟨hstep, by have := HO.out.2; have := hpl.2; rw [List.length_append]; omega⟩)
      have HO5' := Aside0.mk HO.out.2
      obtain ⟨x0, x1, x2, x3, hx⟩ : ∃ x0 x1 x2 x3, p.cells = [x0, x1, x2, x3] ∧ (∃ z, x0 = .int .i64 z) ∧ (∃ y, x1 = .pointer y) ∧ (∃ y, x2 = .pointer y) ∧ (∃ y, x3 = .pointer y) := by
        cases p <;> exact ⟨_, _, _, _, rfl, ⟨_, rfl⟩, ⟨_, rfl⟩, ⟨_, rfl⟩, ⟨_, rfl⟩⟩
      obtain ⟨hx, ⟨z0, rfl⟩, ⟨z1, rfl⟩, ⟨z2, rfl⟩, ⟨z3, rfl⟩⟩ := hx
      have hval : p.val = .agg #[.int .i64 z0, .pointer z1, .pointer z2, .pointer z3] := by unfold Pv.val; rw [hx]
      rw [hx] at hrg
      have HC := Aside0.mk fun (wx : World) (v : Value) (hB : Below w6.heap.size w6 wx) (ho : Kd.R (Kd.int .u8) 5 wx w6.heap.size (fun _ => True) v o) (hl : o.length ≤ 100000) => put_calls p w6 wx v o hB ho hl HPH.out.1 HPS.out.1
      rw [hval] at HC
      clear hp hpl hx hval hstep
      go_upto_region 9 with (first | (refine wpList_load_mid rfl 78 (.tmp 26) rfl g0 (i * 4) ?hx78 _ _ hrg Try.underlying78 rfl (by kernel_rfl) ?_))
      go_wp2_with (go_at_call 45; refine (HC.out _ _ (HBx.out.alloc HBx.out.size _) (Kd.R_alloc HRo.out _) (by have := HO5'.out; omega)).mono ?_; rintro e w8 ⟨v8, rfl, ho8, hb8⟩; have HO8 := Aside0.mk ho8; have HB8 := Aside0.mk hb8; clear ho8 hb8)
      go_roundg g
      case measure => omega
      case rel => exact ⟨i + 1, o ++ putF p, by have := HIG.out; omega, by rfl, HST, HO8, HB8⟩
end Go.Proofs.Ytkghoodhgihokaa.Msg
